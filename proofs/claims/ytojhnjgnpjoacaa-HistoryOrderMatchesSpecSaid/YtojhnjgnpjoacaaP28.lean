/- What the Go functions of this seat compute, and that they do: printed by a program over the kit's print. -/
import Derived.Test.YtojhnjgnpjoacaaP0
import Derived.Test.YtojhnjgnpjoacaaP1
import Derived.Test.YtojhnjgnpjoacaaP2
namespace Go.Proofs.Ytojhnjgnpjoacaa.P
open Go.RowKit Go.Proofs.YtojhnjgnpjoacaaW.PrintWords Go.Proofs.YtojhnjgnpjoacaaW.PrintLast Go.Proofs.YtojhnjgnpjoacaaW.PrintMore
attribute [local go_sem] max2_int min2_int max_two min_two max_three min_three max_four min_four   -- for this text's walks alone
set_option linter.unusedVariables false
set_option linter.unusedSimpArgs false

attribute [local go_sem high] eqA26
/-! ### history_Generations: function 29 -/
mutual
def history_Generations.l0 : Nat → List Int → List (S49) → Int → Int → Option (List Int × Int × Int)
  | 0, _, _, _, _ => none
  | k + 1, x5, x19, x20, x21 => if x21 < x20 then (if 0 ≤ x21 then (if x21 < (x19.length : Int) then (if x21 < (x5.length : Int) then (history_Generations.l1 k (x5.set (x21 : Int).toNat 1) x21 x19 x20 x21 ((rd_T49 x19 x21).f0) (((rd_T49 x19 x21).f0).length : Int) 0) else (none)) else (none)) else (none)) else (some (x5, 0, 0))
def history_Generations.l1 : Nat → List Int → Int → List (S49) → Int → Int → List Int → Int → Int → Option (List Int × Int × Int)
  | 0, _, _, _, _, _, _, _, _ => none
  | k + 1, x5, x6, x19, x20, x21, x30, x31, x32 => if x32 < x31 then (if 0 ≤ x32 then (if x32 < (x30.length : Int) then (if 0 ≤ x6 then (if x6 < (x5.length : Int) then (if 0 ≤ (rd x30 x32) then (if (rd x30 x32) < (x5.length : Int) then (history_Generations.l1 k (x5.set (x6 : Int).toNat (mx (rd x5 x6) (wrap64 ((rd x5 (rd x30 x32)) + 1)))) x6 x19 x20 x21 x30 x31 (wrap64 (x32 + 1))) else (none)) else (none)) else (none)) else (none)) else (none)) else (none)) else (history_Generations.l0 k x5 x19 x20 (wrap64 (x21 + 1)))
end
def history_Generations.f (k : Nat) (l0 : List (S49)) : Option (List Int × Int × Int) := (history_Validate.f k l0).bind fun bt551 => (if (!(bt551.1 == 0) || (!(bt551.2 == 0))) = true then (some (([] : List Int), bt551.1, bt551.2)) else (if 0 ≤ (l0.length : Int) then (if ((l0.length : Int) : Int).toNat ≤ 35184372088832 then (history_Generations.l0 k (List.replicate ((l0.length : Int) : Int).toNat 0) l0 (l0.length : Int) 0) else (none)) else (none)))
theorem history_Generations.mono_l : ∀ k, (∀ y0 y1 y2 y3, LeO (history_Generations.l0 k y0 y1 y2 y3) (history_Generations.l0 (k + 1) y0 y1 y2 y3)) ∧ (∀ y0 y1 y2 y3 y4 y5 y6 y7, LeO (history_Generations.l1 k y0 y1 y2 y3 y4 y5 y6 y7) (history_Generations.l1 (k + 1) y0 y1 y2 y3 y4 y5 y6 y7))
  | 0 => ⟨fun _ _ _ _ r h => by simp [history_Generations.l0] at h, fun _ _ _ _ _ _ _ _ r h => by simp [history_Generations.l1] at h⟩
  | k + 1 => by
    obtain ⟨ih0, ih1⟩ := history_Generations.mono_l k
    refine ⟨?_, ?_⟩
    · intro y0 y1 y2 y3
      unfold history_Generations.l0
      repeat' first
      | (with_reducible exact ih0 _ _ _ _)
      | (with_reducible exact ih1 _ _ _ _ _ _ _ _)
      | (with_reducible exact history_Validate.mono _ _)
      | (with_reducible exact LeO.refl _)
      | (with_reducible exact LeO.none _)
      | (with_reducible refine LeO.ite ?_ ?_)
      | (with_reducible refine LeO.bind ?_ (fun _ => ?_))
      | exact ih0 _ _ _ _
      | exact ih1 _ _ _ _ _ _ _ _
      | exact history_Validate.mono _ _
      | exact LeO.none _
      | refine LeO.ite ?_ ?_
      | refine LeO.bind ?_ (fun _ => ?_)
    · intro y0 y1 y2 y3 y4 y5 y6 y7
      unfold history_Generations.l1
      repeat' first
      | (with_reducible exact ih0 _ _ _ _)
      | (with_reducible exact ih1 _ _ _ _ _ _ _ _)
      | (with_reducible exact history_Validate.mono _ _)
      | (with_reducible exact LeO.refl _)
      | (with_reducible exact LeO.none _)
      | (with_reducible refine LeO.ite ?_ ?_)
      | (with_reducible refine LeO.bind ?_ (fun _ => ?_))
      | exact ih0 _ _ _ _
      | exact ih1 _ _ _ _ _ _ _ _
      | exact history_Validate.mono _ _
      | exact LeO.none _
      | refine LeO.ite ?_ ?_
      | refine LeO.bind ?_ (fun _ => ?_)
theorem history_Generations.mono : ∀ a0 k, LeO (history_Generations.f k a0) (history_Generations.f (k + 1) a0) := by
  intro a0 k
  obtain ⟨ih0, ih1⟩ := history_Generations.mono_l k
  unfold history_Generations.f
  repeat' first
      | (with_reducible exact ih0 _ _ _ _)
      | (with_reducible exact ih1 _ _ _ _ _ _ _ _)
      | (with_reducible exact history_Validate.mono _ _)
      | (with_reducible exact LeO.refl _)
      | (with_reducible exact LeO.none _)
      | (with_reducible refine LeO.ite ?_ ?_)
      | (with_reducible refine LeO.bind ?_ (fun _ => ?_))
      | exact ih0 _ _ _ _
      | exact ih1 _ _ _ _ _ _ _ _
      | exact history_Validate.mono _ _
      | exact LeO.none _
      | refine LeO.ite ?_ ?_
      | refine LeO.bind ?_ (fun _ => ?_)
def history_Generations.T12 : Bool × List (List Nat × List Nat) := (true, [([], []), ([], []), ([], []), ([], []), ([2, 3], [2, 3]), ([4], [4]), ([], []), ([], []), ([6, 7], [6, 7]), ([8], [8]), ([9], [9]), ([5, 10], [5, 10]), ([0, 1, 0, 1, 2, 3, 4, 5, 6, 7, 8, 9, 10, 11], [0, 1]), ([12, 11, 0, 1, 2, 3, 4, 5, 6, 7, 8, 9, 10, 11], [11, 12])])
def history_Generations.B12 : List Nat := [0, 0, 0, 0, 12, 28, 0, 0, 192, 448, 960, 2044, 4095, 8191]
theorem history_Generations.tab12 : rtab .any (opsOf Try.f29 12) = history_Generations.T12 := by kernel_rfl
theorem history_Generations.bits12 : waitsOk history_Generations.T12.2 history_Generations.B12 = true := by kernel_rfl
abbrev history_Generations.Z1 : Array Bool := #[false, false, false, false, false, false, false, false, false, false, false, false, false, false]
abbrev history_Generations.Z2 : Array Bool := #[true, false, false, false, false, false, false, false, false, false, false, false, false, false]
abbrev history_Generations.Z3 : Array Bool := #[true, true, false, false, false, false, false, false, false, false, false, false, false, false]
abbrev history_Generations.Z4 : Array Bool := #[true, true, true, false, false, false, false, false, false, false, false, false, false, false]
abbrev history_Generations.Z5 : Array Bool := #[true, true, true, true, false, false, false, false, false, false, false, false, false, false]
abbrev history_Generations.Z6 : Array Bool := #[true, true, true, true, true, false, false, false, false, false, false, false, false, false]
abbrev history_Generations.Z7 : Array Bool := #[true, true, true, true, true, false, true, false, false, false, false, false, false, false]
abbrev history_Generations.Z8 : Array Bool := #[true, true, true, true, true, false, true, true, false, false, false, false, false, false]
abbrev history_Generations.Z9 : Array Bool := #[true, true, true, true, true, false, true, true, true, false, false, false, false, false]
abbrev history_Generations.Z10 : Array Bool := #[true, true, true, true, true, true, true, true, true, false, false, false, false, false]
abbrev history_Generations.Z11 : Array Bool := #[true, true, true, true, true, true, true, true, true, true, false, false, false, false]
abbrev history_Generations.Z12 : Array Bool := #[true, true, true, true, true, true, true, true, true, true, true, false, false, false]
abbrev history_Generations.Z13 : Array Bool := #[true, true, true, true, true, true, true, true, true, true, true, true, false, false]
abbrev history_Generations.Z14 : Array Bool := #[true, true, true, true, true, true, true, true, true, true, true, true, true, false]
abbrev history_Generations.Z15 : Array Bool := #[true, true, true, true, true, true, true, true, true, true, true, true, true, true]
set_option maxHeartbeats 8000000 in
set_option maxRecDepth 100000 in
theorem history_Generations.calls (k : Nat) (A0 : Option Addr) (c0 : Nat) (l0 : List (S49)) (r1 : List Int) (r2 : Int) (r3 : Int) (w : World) (hr0 : Kd.C k49 w A0 l0.length l0) (hc0 : l0.length ≤ c0) (h : history_Generations.f k l0 = some (r1, r2, r3)) :
  Calls Try.prog 29 #[.slice A0 l0.length c0] w fun e w' => ∃ v0_ : Value, e = .returned (.tuple #[v0_, .agg #[.int .i64 r2, .int .i64 r3]]) ∧ Kd.R (Kd.int .i64) 3 w' w.heap.size (fun _ => True) v0_ r1 ∧ Below w.heap.size w w' := by
  have hu26 := Try.underlying26
  have hu49 := Try.underlying49
  have HR0 := aZ hr0
  have HC0 := aZ hc0
  clear hr0 hc0
  have HB := aZ (Below.refl w.heap.size w)
  have H : ((history_Validate.f k l0).bind fun bt551 => (if (!(bt551.1 == 0) || (!(bt551.2 == 0))) = true then (some (([] : List Int), bt551.1, bt551.2)) else (if 0 ≤ (l0.length : Int) then (if ((l0.length : Int) : Int).toNat ≤ 35184372088832 then (history_Generations.l0 k (List.replicate ((l0.length : Int) : Int).toNat 0) l0 (l0.length : Int) 0) else (none)) else (none)))) = some (r1, r2, r3) := h
  clear h
  replace H := Option.bind_eq_some_iff.mp H
  obtain ⟨⟨t551, t552⟩, A20, H⟩ := H
  replace H : (if (!(t551 == 0) || (!(t552 == 0))) = true then (some (([] : List Int), t551, t552)) else (if 0 ≤ (l0.length : Int) then (if ((l0.length : Int) : Int).toNat ≤ 35184372088832 then (history_Generations.l0 k (List.replicate ((l0.length : Int) : Int).toNat 0) l0 (l0.length : Int) 0) else (none)) else (none))) = some (r1, r2, r3) := H
  have A2 := aZ A20
  clear A20
  by_cases c3 : (!(t551 == 0) || (!(t552 == 0))) = true
  · rw [if_pos c3] at H
    have c3b0 : (!(t551 == 0) || (!(t552 == 0))) = true := c3
    clear c3
    simp only [Option.some.injEq, Prod.mk.injEq] at H
    obtain ⟨rfl, rfl, rfl⟩ := H
    go_enter Try.func29, Try.ntmps29
    try go_wp2_with (first | ((with_reducible refine gate_dst (N := 3) rfl ?_); refine box_event ?hg (N := 3) ?hd (cs := #[.int .i64 0, .int .i64 0]) (t := 26) ?hr ?_; (case hd => rfl); (case hg => rfl); (case hr => first | (go_simp; done) | (go_simp; rfl)); intro gb550 hg w4 hbox hb; have n0_ := aZ (lT (by repeat (first | (with_reducible first | exact HB.out | apply lA | apply lN | apply lD) | exact HB.out)) hb); have n1_ := aZ (hbox); have n2_ := aZ ((by rw [hg]; exact (lZ (by repeat (first | (with_reducible first | exact HB.out | apply lA | apply lN | apply lD) | exact HB.out))) : w.heap.size ≤ gb550)); have n3_ := aZ ((by rw [hg]; exact (lZ (by repeat (first | (with_reducible first | exact HB.out | apply lA | apply lN | apply lD) | exact HB.out))) : w.heap.size ≤ gb550)); clear HB; have HB := n0_; have BK550 := n1_; have GW550 := n2_; have GE550 := n3_; clear n0_ n1_ n2_ n3_; clear hb hbox hg) | ((with_reducible refine gate_callee (f := 25) rfl ?_); refine goesL_ (some 11) rfl rfl Try.func25 (by kernel_rfl) rfl #[.slice A0 l0.length c0] rfl (by (try simp only [List.map_toArray, List.map_cons, List.map_nil]); first | done | rfl | (simp only [List.length_drop, List.length_take]; rfl)) ?_; (with_reducible refine (history_Validate.calls k _ _ l0 t551 t552 _ ?side1 ?side2 A2.out).mono ?_); (case side1 => repeat (first | exact (Kd.C_below HR0.out HB.out) | (with_reducible refine Kd.C_alloc ?_ _) | (with_reducible refine Kd.C_drewN ?_ _) | (with_reducible refine Kd.C_drew ?_))); (case side2 => exact HC0.out); rintro e w5 ⟨rfl, hb⟩; refine ⟨_, rfl, ?_⟩; have n0_ := aZ (blk_below (g := gb550) (o := .cells #[.int .i64 0, .int .i64 0] 26 (0, 0)) (by (with_reducible repeat (first | refine bN ?_ _ | refine bD ?_ | refine bA ?_ _)); exact BK550.out) hb); have n1_ := aZ (lT (by repeat (first | (with_reducible first | exact HB.out | apply lA | apply lN | apply lD | refine lS ?_ GE550.out) | exact HB.out)) hb); clear BK550; clear HB; have BK550 := n0_; have HB := n1_; clear n0_ n1_; (try clear hb); (try clear hb2); (try clear hk); (try clear hi)) | ((with_reducible refine gate_dst (N := 4) rfl ?_); refine box_event ?hg (N := 4) ?hd (cs := #[.int .i64 0, .int .i64 0]) (t := 26) ?hr ?_; (case hd => rfl); (case hg => rfl); (case hr => first | (go_simp; done) | (go_simp; rfl)); intro gb553 hg w6 hbox hb; have n0_ := aZ (blk_below (g := gb550) (o := .cells #[.int .i64 0, .int .i64 0] 26 (0, 0)) (by (with_reducible repeat (first | refine bN ?_ _ | refine bD ?_ | refine bA ?_ _)); exact BK550.out) hb); have n1_ := aZ (lT (by repeat (first | (with_reducible first | exact HB.out | apply lA | apply lN | apply lD | refine lS ?_ GE550.out) | exact HB.out)) hb); have n2_ := aZ (hbox); have n3_ := aZ ((by rw [hg]; exact (lZ (by repeat (first | (with_reducible first | exact HB.out | apply lA | apply lN | apply lD | refine lS ?_ GE550.out) | exact HB.out))) : w.heap.size ≤ gb553)); have n4_ := aZ ((by rw [hg]; exact (lZ (by repeat (first | (with_reducible first | exact HB.out | apply lA | apply lN | apply lD | refine lS ?_ GE550.out) | exact HB.out))) : w.heap.size ≤ gb553)); have n5_ := aZ ((by rw [hg]; exact Nat.ne_of_lt (blk_lt (g := gb550) (o := .cells #[.int .i64 0, .int .i64 0] 26 (0, 0)) (by (with_reducible repeat (first | refine bN ?_ _ | refine bD ?_ | refine bA ?_ _)); exact BK550.out)) : gb550 ≠ gb553)); have n6_ := aZ ((by rw [hg]; exact Nat.ne_of_gt (blk_lt (g := gb550) (o := .cells #[.int .i64 0, .int .i64 0] 26 (0, 0)) (by (with_reducible repeat (first | refine bN ?_ _ | refine bD ?_ | refine bA ?_ _)); exact BK550.out)) : gb553 ≠ gb550)); clear BK550; clear HB; have BK550 := n0_; have HB := n1_; have BK553 := n2_; have GW553 := n3_; have GE553 := n4_; have NB550_553 := n5_; have NB553_550 := n6_; clear n0_ n1_ n2_ n3_ n4_ n5_ n6_; clear hb hbox hg; have hnb7 := NB553_550.out; have hnc7 := NB550_553.out; have hcz8_0 : w6.cell? ⟨gb553, 0, none⟩ = some (.int .i64 0) := (blk_cell BK553.out 0).trans rfl; have hcz8_1 : w6.cell? ⟨gb553, 1, none⟩ = some (.int .i64 0) := (blk_cell BK553.out 1).trans rfl; have hfz8_0 := blk_frozen BK553.out 0; have hfz8_1 := blk_frozen BK553.out 1))
    have n0_ : Aside0 (((w6.setCell ⟨gb553, 0, none⟩ (.int .i64 t551)).setCell ⟨gb553, 1, none⟩ (.int .i64 t552)).heap[gb550]? = some (.cells #[.int .i64 0, .int .i64 0] 26 (0, 0))) := ⟨by (with_reducible repeat (first | refine bN ?_ _ | refine bD ?_ | refine bA ?_ _)); refine blk_far ?_ NB550_553.out _; (with_reducible repeat (first | refine bN ?_ _ | refine bD ?_ | refine bA ?_ _)); refine blk_far ?_ NB550_553.out _; (with_reducible repeat (first | refine bN ?_ _ | refine bD ?_ | refine bA ?_ _)); exact BK550.out⟩
    have n1_ : Aside0 (((w6.setCell ⟨gb553, 0, none⟩ (.int .i64 t551)).setCell ⟨gb553, 1, none⟩ (.int .i64 t552)).heap[gb553]? = some (.cells #[.int .i64 t551, .int .i64 t552] 26 (0, 0))) := ⟨by (with_reducible repeat (first | refine bN ?_ _ | refine bD ?_ | refine bA ?_ _)); refine blk_put (cs := #[.int .i64 t551, .int .i64 0]) ?_ 1 _ rfl; (with_reducible repeat (first | refine bN ?_ _ | refine bD ?_ | refine bA ?_ _)); refine blk_put (cs := #[.int .i64 0, .int .i64 0]) ?_ 0 _ rfl; (with_reducible repeat (first | refine bN ?_ _ | refine bD ?_ | refine bA ?_ _)); exact BK553.out⟩
    have n2_ : Aside0 (Below w.heap.size w ((w6.setCell ⟨gb553, 0, none⟩ (.int .i64 t551)).setCell ⟨gb553, 1, none⟩ (.int .i64 t552))) := ⟨by repeat (first | (with_reducible first | exact HB.out | apply lA | apply lN | apply lD | refine lS ?_ GE550.out | refine lS ?_ GE553.out) | exact HB.out)⟩
    (try clear BK550)
    (try clear BK553)
    (try clear HB)
    generalize ((w6.setCell ⟨gb553, 0, none⟩ (.int .i64 t551)).setCell ⟨gb553, 1, none⟩ (.int .i64 t552)) = w9 at n0_ n1_ n2_ ⊢
    have BK550 := n0_
    have BK553 := n1_
    have HB := n2_
    clear n0_ n1_ n2_
    have n0_ := aZ (bD BK550.out)
    have n1_ := aZ (bD BK553.out)
    have n2_ := aZ (lD HB.out)
    clear BK550
    clear BK553
    clear HB
    have BK550 := n0_
    have BK553 := n1_
    have HB := n2_
    clear n0_ n1_ n2_
    refine start_ (n := 3) (S := fun w' => w'.cell? ⟨gb553, 0, none⟩ = some (.int .i64 t551) ∧ w'.cell? ⟨gb553, 1, none⟩ = some (.int .i64 t552)) (ds := []) #[false, false, false] (by kernel_rfl) rfl rfl ⟨(blk_cell BK553.out 0).trans rfl, (blk_cell BK553.out 1).trans rfl⟩ (fun hHeld => ?_)
    generalize w9.drew = w10 at BK550 BK553 HB hHeld ⊢
    refine pure_ (i := 1) (N := some 2) (v := ?_) (a' := ?_) #[false, true, false] rfl rfl (by kernel_rfl) (fun _ _ _ h => h) (Or.inl ⟨by rfl, ?_⟩) ?_ ?_
    rotate_left
    · intro w'
      go_simp
      with_reducible rfl
    rotate_left
    · simp only [Act.put, List.setIfInBounds_toArray, List.set_cons_zero, List.set_cons_succ, i64_w, i32_w]
      rfl
    refine take_ (i := 0) (N := some 15) (v := ?_) (a' := ?_) #[true, true, false] rfl rfl (by kernel_rfl) (fun _ _ _ h => h) (Or.inl ⟨by rfl, ?_⟩) hHeld ?_ ?_
    rotate_left
    · rintro w' ⟨s0, s1⟩
      go_simp
      with_reducible rfl
    rotate_left
    · simp only [Act.put, List.setIfInBounds_toArray, List.set_cons_zero, List.set_cons_succ, i64_w, i32_w]
      rfl
    refine one_ (i := 2) (N := none) #[true, true, true] rfl rfl (by kernel_rfl) (by decide) (fun K hK => ?_)
    have hs11 : w10.cell? ⟨gb550, 0, none⟩ = some (.int .i64 0) := (blk_cell BK550.out 0).trans rfl
    have hfs11 := blk_frozen BK550.out 0
    have hns11_1 := NB553_550.out
    have hms11_1 := NB550_553.out
    have hs12 : w10.cell? ⟨gb550, 1, none⟩ = some (.int .i64 0) := (blk_cell BK550.out 1).trans rfl
    have hfs12 := blk_frozen BK550.out 1
    have hns12_1 := NB553_550.out
    have hms12_1 := NB550_553.out
    refine skip_ (w1 := ?_) (by rfl) rfl ?_ ?_
    rotate_left
    · go_simp
      rfl
    refine hK.out _ _ ⟨((cell_far (p := ⟨gb550, _, none⟩) NB553_550.out _).trans (((cell_far (p := ⟨gb550, _, none⟩) NB553_550.out _).trans (hHeld.1)))), ((cell_far (p := ⟨gb550, _, none⟩) NB553_550.out _).trans (((cell_far (p := ⟨gb550, _, none⟩) NB553_550.out _).trans (hHeld.2))))⟩ (fun hHeld => ?_)
    clear hK K
    refine done_ (by kernel_rfl) ?_
    try go_wp2
    refine bodyPost_ret (results_tc rfl _ _ gb550 26 #[.int .i64 t551, .int .i64 t552] (0, 0) _ rfl (by (with_reducible repeat (first | refine bN ?_ _ | refine bD ?_ | refine bA ?_ _)); refine blk_put (cs := #[.int .i64 t551, .int .i64 0]) ?_ 1 _ rfl; (with_reducible repeat (first | refine bN ?_ _ | refine bD ?_ | refine bA ?_ _)); refine blk_put (cs := #[.int .i64 0, .int .i64 0]) ?_ 0 _ rfl; (with_reducible repeat (first | refine bN ?_ _ | refine bD ?_ | refine bA ?_ _)); exact BK550.out) Try.underlying26 rfl (by kernel_rfl)) rfl ?_
    exact ⟨_, by first | rfl | (simp [errW_none, errW_some] <;> rfl) | (simp [*, errW_none, errW_some] <;> rfl), by first | exact Kd.R_nil _ _ _ _ _ | exact Kd.N_nil _ _ _ _ _ | exact Kd.V_nil _ _ _ _ _ | exact Kd.Q_nil _ _ _ _ _ | exact Kd.S_nil _ _ _ _ _, by repeat (first | (with_reducible first | exact HB.out | apply lA | apply lN | apply lD | refine lS ?_ GE550.out | refine lS ?_ GE553.out) | exact HB.out)⟩
  rw [if_neg c3] at H
  have c3b0 : (!(t551 == 0) || (!(t552 == 0))) = false := by simpa using c3
  clear c3
  by_cases c13 : 0 ≤ (l0.length : Int)
  rotate_left
  · rw [if_neg c13] at H
    exact absurd H (by simp)

  rw [if_pos c13] at H
  have c13b0 := eq_true c13
  have c13b1 : decide (0 ≤ (l0.length : Int)) = true := decide_eq_true c13
  clear c13
  by_cases c14 : ((l0.length : Int) : Int).toNat ≤ 35184372088832
  rotate_left
  · rw [if_neg c14] at H
    exact absurd H (by simp)
  rw [if_pos c14] at H
  have c14b0 := eq_true c14
  have c14b1 : decide (((l0.length : Int) : Int).toNat ≤ 35184372088832) = true := decide_eq_true c14
  clear c14
  obtain ⟨y554, hy554⟩ : ∃ y_ : List Int, y_ = (List.replicate ((l0.length : Int) : Int).toNat 0) := ⟨_, rfl⟩
  replace H : (history_Generations.l0 k y554 l0 (l0.length : Int) 0) = some (r1, r2, r3) := by first | (rw [hy554]; with_reducible exact H) | (have H2_ := (Option.bind_some _ _).symm.trans H; rw [hy554]; with_reducible exact H2_) | (have H2_ := (Option.bind_some _ _).symm.trans H; with_reducible exact H2_) | with_reducible exact H | (rw [hy554]; exact H) | exact H
  have Ny554 := aZ hy554
  clear hy554
  have H' := aZ H
  clear H
  go_enter Try.func29, Try.ntmps29
  go_wp2_with (first | ((with_reducible refine gate_dst (N := 3) rfl ?_); refine box_event ?hg (N := 3) ?hd (cs := #[.int .i64 0, .int .i64 0]) (t := 26) ?hr ?_; (case hd => rfl); (case hg => rfl); (case hr => first | (go_simp; done) | (go_simp; rfl)); intro gb550 hg w15 hbox hb; have n0_ := aZ (lT (by repeat (first | (with_reducible first | exact HB.out | apply lA | apply lN | apply lD) | exact HB.out)) hb); have n1_ := aZ (hbox); have n2_ := aZ ((by rw [hg]; exact (lZ (by repeat (first | (with_reducible first | exact HB.out | apply lA | apply lN | apply lD) | exact HB.out))) : w.heap.size ≤ gb550)); have n3_ := aZ ((by rw [hg]; exact (lZ (by repeat (first | (with_reducible first | exact HB.out | apply lA | apply lN | apply lD) | exact HB.out))) : w.heap.size ≤ gb550)); clear HB; have HB := n0_; have BK550 := n1_; have GW550 := n2_; have GE550 := n3_; clear n0_ n1_ n2_ n3_; clear hb hbox hg) | ((with_reducible refine gate_callee (f := 25) rfl ?_); refine goesL_ (some 11) rfl rfl Try.func25 (by kernel_rfl) rfl #[.slice A0 l0.length c0] rfl (by (try simp only [List.map_toArray, List.map_cons, List.map_nil]); first | done | rfl | (simp only [List.length_drop, List.length_take]; rfl)) ?_; (with_reducible refine (history_Validate.calls k _ _ l0 t551 t552 _ ?side1 ?side2 A2.out).mono ?_); (case side1 => repeat (first | exact (Kd.C_below HR0.out HB.out) | (with_reducible refine Kd.C_alloc ?_ _) | (with_reducible refine Kd.C_drewN ?_ _) | (with_reducible refine Kd.C_drew ?_))); (case side2 => exact HC0.out); rintro e w16 ⟨rfl, hb⟩; refine ⟨_, rfl, ?_⟩; have n0_ := aZ (blk_below (g := gb550) (o := .cells #[.int .i64 0, .int .i64 0] 26 (0, 0)) (by (with_reducible repeat (first | refine bN ?_ _ | refine bD ?_ | refine bA ?_ _)); exact BK550.out) hb); have n1_ := aZ (lT (by repeat (first | (with_reducible first | exact HB.out | apply lA | apply lN | apply lD | refine lS ?_ GE550.out) | exact HB.out)) hb); clear BK550; clear HB; have BK550 := n0_; have HB := n1_; clear n0_ n1_; (try clear hb); (try clear hb2); (try clear hk); (try clear hi)) | ((with_reducible refine gate_dst (N := 4) rfl ?_); refine box_event ?hg (N := 4) ?hd (cs := #[.int .i64 0, .int .i64 0]) (t := 26) ?hr ?_; (case hd => rfl); (case hg => rfl); (case hr => first | (go_simp; done) | (go_simp; rfl)); intro gb553 hg w17 hbox hb; have n0_ := aZ (blk_below (g := gb550) (o := .cells #[.int .i64 0, .int .i64 0] 26 (0, 0)) (by (with_reducible repeat (first | refine bN ?_ _ | refine bD ?_ | refine bA ?_ _)); exact BK550.out) hb); have n1_ := aZ (lT (by repeat (first | (with_reducible first | exact HB.out | apply lA | apply lN | apply lD | refine lS ?_ GE550.out) | exact HB.out)) hb); have n2_ := aZ (hbox); have n3_ := aZ ((by rw [hg]; exact (lZ (by repeat (first | (with_reducible first | exact HB.out | apply lA | apply lN | apply lD | refine lS ?_ GE550.out) | exact HB.out))) : w.heap.size ≤ gb553)); have n4_ := aZ ((by rw [hg]; exact (lZ (by repeat (first | (with_reducible first | exact HB.out | apply lA | apply lN | apply lD | refine lS ?_ GE550.out) | exact HB.out))) : w.heap.size ≤ gb553)); have n5_ := aZ ((by rw [hg]; exact Nat.ne_of_lt (blk_lt (g := gb550) (o := .cells #[.int .i64 0, .int .i64 0] 26 (0, 0)) (by (with_reducible repeat (first | refine bN ?_ _ | refine bD ?_ | refine bA ?_ _)); exact BK550.out)) : gb550 ≠ gb553)); have n6_ := aZ ((by rw [hg]; exact Nat.ne_of_gt (blk_lt (g := gb550) (o := .cells #[.int .i64 0, .int .i64 0] 26 (0, 0)) (by (with_reducible repeat (first | refine bN ?_ _ | refine bD ?_ | refine bA ?_ _)); exact BK550.out)) : gb553 ≠ gb550)); clear BK550; clear HB; have BK550 := n0_; have HB := n1_; have BK553 := n2_; have GW553 := n3_; have GE553 := n4_; have NB550_553 := n5_; have NB553_550 := n6_; clear n0_ n1_ n2_ n3_ n4_ n5_ n6_; clear hb hbox hg; have hnb18 := NB553_550.out; have hnc18 := NB550_553.out; have hcz19_0 : w17.cell? ⟨gb553, 0, none⟩ = some (.int .i64 0) := (blk_cell BK553.out 0).trans rfl; have hcz19_1 : w17.cell? ⟨gb553, 1, none⟩ = some (.int .i64 0) := (blk_cell BK553.out 1).trans rfl; have hfz19_0 := blk_frozen BK553.out 0; have hfz19_1 := blk_frozen BK553.out 1) | ((with_reducible refine gate_dst (N := 18) rfl ?_); refine Kd.R_make (Kd.int .i64) _ 3 rfl (N := 18) rfl 23 _ _ rfl (l0.length : Int) rfl rfl Try.underlying23 (.int .i64 0) 8 info3 rfl (by decide) (by omega) 0 (ok := fun _ => True) (okp := fun _ => True) rfl (fun _ hk => hk) trivial (of_decide_eq_true (by first | (with_reducible assumption) | assumption)) (Nat.le_trans (Nat.mul_le_mul_right _ (of_decide_eq_true (by first | (with_reducible assumption) | assumption) : (l0.length : Int).toNat ≤ 35184372088832)) (by omega)) (Below.refl _ _) (Nat.le_refl _) ?_; intro v555 w20 ho21 hb hg_ hnew_; clear hg_ hnew_; (first | rw [← Ny554.out] at ho21 | (simp only [Int.reduceToNat] at ho21; rw [← Ny554.out] at ho21)); have n0_ := aZ (Kd.R_lower ho21 (lZ (by repeat (first | (with_reducible first | exact HB.out | apply lA | apply lN | apply lD | refine lS ?_ GE550.out | refine lS ?_ GE553.out) | exact HB.out)))); have n1_ := aZ (blk_below (g := gb550) (o := .cells #[.int .i64 0, .int .i64 0] 26 (0, 0)) (by (with_reducible repeat (first | refine bN ?_ _ | refine bD ?_ | refine bA ?_ _)); refine blk_far ?_ NB550_553.out _; (with_reducible repeat (first | refine bN ?_ _ | refine bD ?_ | refine bA ?_ _)); refine blk_far ?_ NB550_553.out _; (with_reducible repeat (first | refine bN ?_ _ | refine bD ?_ | refine bA ?_ _)); exact BK550.out) hb); have n2_ := aZ (blk_below (g := gb553) (o := .cells #[.int .i64 t551, .int .i64 t552] 26 (0, 0)) (by (with_reducible repeat (first | refine bN ?_ _ | refine bD ?_ | refine bA ?_ _)); refine blk_put (cs := #[.int .i64 t551, .int .i64 0]) ?_ 1 _ rfl; (with_reducible repeat (first | refine bN ?_ _ | refine bD ?_ | refine bA ?_ _)); refine blk_put (cs := #[.int .i64 0, .int .i64 0]) ?_ 0 _ rfl; (with_reducible repeat (first | refine bN ?_ _ | refine bD ?_ | refine bA ?_ _)); exact BK553.out) hb); have n3_ := aZ (lT (by repeat (first | (with_reducible first | exact HB.out | apply lA | apply lN | apply lD | refine lS ?_ GE550.out | refine lS ?_ GE553.out) | exact HB.out)) hb); clear BK550; clear BK553; clear HB; have HO556 := n0_; have BK550 := n1_; have BK553 := n2_; have HB := n3_; clear n0_ n1_ n2_ n3_; clear hb ho21))
  go_loopg [21] k (fun kq v21 w' => ∃ (x5_1 : List Int) (x21_1 : Int), v21 = .int .i64 x21_1 ∧ Aside0 (history_Generations.l0 kq x5_1 l0 (l0.length : Int) x21_1 = some (r1, r2, r3)) ∧ Aside0 (kq ≤ k) ∧ Aside0 (Kd.R (Kd.int .i64) 3 w' w.heap.size (fun _ => True) v555 x5_1) ∧ Aside0 (w'.heap[gb550]? = some (.cells #[.int .i64 0, .int .i64 0] 26 (0, 0))) ∧ Aside0 (w'.heap[gb553]? = some (.cells #[.int .i64 t551, .int .i64 t552] 26 (0, 0))) ∧ Aside0 (Below w.heap.size w w'))
  case atStart => exact ⟨(y554), (0), (by first | rfl | (simp; done) | (simp [*]; done)), H', ⟨Nat.le_refl _⟩, ⟨by (with_reducible repeat (first | apply Kd.rA | apply Kd.rN | apply Kd.rD)); exact HO556.out⟩, ⟨by (with_reducible repeat (first | refine bN ?_ _ | refine bD ?_ | refine bA ?_ _)); exact BK550.out⟩, ⟨by (with_reducible repeat (first | refine bN ?_ _ | refine bD ?_ | refine bA ?_ _)); exact BK553.out⟩, ⟨by repeat (first | (with_reducible first | exact HB.out | apply lA | apply lN | apply lD | refine lS ?_ GE550.out | refine lS ?_ GE553.out) | exact HB.out)⟩⟩
  case round =>
   clear H'
   (try clear c3); (try clear c3b0); (try clear c13); (try clear c13b0); (try clear c13b1); (try clear c14); (try clear c14b0); (try clear c14b1); (try clear hcz19_0); (try clear hcz19_1); (try clear hfz19_0); (try clear hfz19_1)
   obtain ⟨x5_1, x21_1, rfl, HA, HK1, HO_5, BK550, BK553, HB⟩ := hrel
   cases gk with
   | zero => exact absurd HA.out (by simp [history_Generations.l0])
   | succ k1 =>
    have H := HA.out
    clear HA
    simp only [history_Generations.l0] at H
    by_cases c22 : x21_1 < (l0.length : Int)
    rotate_left
    · rw [if_neg c22] at H
      have c22b0 : decide (x21_1 < (l0.length : Int)) = false := decide_eq_false c22
      clear c22
      simp only [Option.some.injEq, Prod.mk.injEq] at H
      obtain ⟨rfl, rfl, rfl⟩ := H
      have hnb46 := NB550_553.out
      have hnc46 := NB553_550.out
      have hcz47_0 : wr.cell? ⟨gb550, 0, none⟩ = some (.int .i64 0) := (blk_cell BK550.out 0).trans rfl
      have hcz47_1 : wr.cell? ⟨gb550, 1, none⟩ = some (.int .i64 0) := (blk_cell BK550.out 1).trans rfl
      have hfz47_0 := blk_frozen BK550.out 0
      have hfz47_1 := blk_frozen BK550.out 1
      go_wp2
      refine bodyPost_ret (results_tc rfl _ _ gb550 26 #[.int .i64 0, .int .i64 0] (0, 0) _ rfl (by (with_reducible repeat (first | refine bN ?_ _ | refine bD ?_ | refine bA ?_ _)); refine blk_put (cs := #[.int .i64 0, .int .i64 0]) ?_ 1 _ rfl; (with_reducible repeat (first | refine bN ?_ _ | refine bD ?_ | refine bA ?_ _)); refine blk_put (cs := #[.int .i64 0, .int .i64 0]) ?_ 0 _ rfl; (with_reducible repeat (first | refine bN ?_ _ | refine bD ?_ | refine bA ?_ _)); exact BK550.out) Try.underlying26 rfl (by kernel_rfl)) rfl ?_
      exact ⟨_, by first | rfl | (simp [errW_none, errW_some] <;> rfl) | (simp [*, errW_none, errW_some] <;> rfl), by (with_reducible repeat (first | apply Kd.rA | apply Kd.rN | apply Kd.rD)); exact Kd.R_mono (Kd.R_far (p := ⟨gb550, 1, none⟩) (Kd.R_far (p := ⟨gb550, 0, none⟩) (Kd.R_types HO_5.out BK550.out (by decide)) (fun _ hk => hk.2) (.int .i64 0)) (fun _ hk => hk.2) (.int .i64 0)) (fun _ hk => trivial), by repeat (first | (with_reducible first | exact HB.out | apply lA | apply lN | apply lD | refine lS ?_ GE550.out | refine lS ?_ GE553.out) | exact HB.out)⟩
    rw [if_pos c22] at H
    have c22b0 : decide (x21_1 < (l0.length : Int)) = true := decide_eq_true c22
    clear c22
    by_cases c23 : 0 ≤ x21_1
    rotate_left
    · rw [if_neg c23] at H
      exact absurd H (by simp)
    rw [if_pos c23] at H
    have c23b0 : decide (0 ≤ x21_1) = true := decide_eq_true c23
    clear c23
    by_cases c24 : x21_1 < (l0.length : Int)
    rotate_left
    · rw [if_neg c24] at H
      exact absurd H (by simp)
    rw [if_pos c24] at H
    have c24b0 : decide (x21_1 < (l0.length : Int)) = true := decide_eq_true c24
    clear c24
    by_cases c25 : x21_1 < (x5_1.length : Int)
    rotate_left
    · rw [if_neg c25] at H
      exact absurd H (by simp)
    rw [if_pos c25] at H
    have c25b0 : decide (x21_1 < (x5_1.length : Int)) = true := decide_eq_true c25
    clear c25
    obtain ⟨y559, hy559⟩ : ∃ y_ : List Int, y_ = (x5_1.set (x21_1 : Int).toNat 1) := ⟨_, rfl⟩
    replace H : (history_Generations.l1 k1 y559 x21_1 l0 (l0.length : Int) x21_1 ((rd_T49 l0 x21_1).f0) (((rd_T49 l0 x21_1).f0).length : Int) 0) = some (r1, r2, r3) := by first | (rw [hy559]; with_reducible exact H) | (have H2_ := (Option.bind_some _ _).symm.trans H; rw [hy559]; with_reducible exact H2_) | (have H2_ := (Option.bind_some _ _).symm.trans H; with_reducible exact H2_) | with_reducible exact H | (rw [hy559]; exact H) | exact H
    have Ny559 := aZ hy559
    clear hy559
    have H' := aZ H
    clear H
    have p557 : 0 ≤ (x21_1 : Int) := of_decide_eq_true (by first | (with_reducible assumption) | assumption)
    have q557 : x21_1 < (l0.length : Int) := of_decide_eq_true (by first | (with_reducible assumption) | assumption)
    obtain ⟨ad557, A557_0, c557_0, e557, hx557_0, hx557_1, hx557_2, hx557_3, hx557_4, hl557_0, hi557_0⟩ := at_T49 HR0.out x21_1 p557 q557
    cases e557
    replace hx557_0 := (HB.out.cell (World.block_lt_of_cell? w _ hx557_0)).trans hx557_0
    replace hx557_1 := (HB.out.cell (World.block_lt_of_cell? w _ hx557_1)).trans hx557_1
    replace hx557_2 := (HB.out.cell (World.block_lt_of_cell? w _ hx557_2)).trans hx557_2
    replace hx557_3 := (HB.out.cell (World.block_lt_of_cell? w _ hx557_3)).trans hx557_3
    replace hx557_4 := (HB.out.cell (World.block_lt_of_cell? w _ hx557_4)).trans hx557_4
    have HR557_0 := aZ hi557_0
    have HC557_0 := aZ hl557_0
    clear hi557_0 hl557_0
    replace p557 := eq_true p557
    replace q557 := eq_true q557
    go_wp2_with (first | ((with_reducible refine gate_dst (N := 7) rfl ?_); refine box_event ?hg (N := 7) ?hd (cs := #[.slice none 0 0, .int .i64 0, .int .i64 0, .int .i64 0, .string (⟨#[]⟩ : ByteArray)]) (t := 49) ?hr ?_; (case hd => rfl); (case hg => rfl); (case hr => first | (go_simp; done) | (go_simp; rfl)); intro gb558 hg w27 hbox hb; have n0_ := aZ (Kd.R_below (by (with_reducible repeat (first | apply Kd.rA | apply Kd.rN | apply Kd.rD)); exact HO_5.out) hb); have n1_ := aZ (blk_below (g := gb550) (o := .cells #[.int .i64 0, .int .i64 0] 26 (0, 0)) (by (with_reducible repeat (first | refine bN ?_ _ | refine bD ?_ | refine bA ?_ _)); exact BK550.out) hb); have n2_ := aZ (blk_below (g := gb553) (o := .cells #[.int .i64 t551, .int .i64 t552] 26 (0, 0)) (by (with_reducible repeat (first | refine bN ?_ _ | refine bD ?_ | refine bA ?_ _)); exact BK553.out) hb); have n3_ := aZ (lT (by repeat (first | (with_reducible first | exact HB.out | apply lA | apply lN | apply lD | refine lS ?_ GE550.out | refine lS ?_ GE553.out) | exact HB.out)) hb); have n4_ := aZ (hbox); have n5_ := aZ ((by rw [hg]; exact (lZ (by repeat (first | (with_reducible first | exact HB.out | apply lA | apply lN | apply lD | refine lS ?_ GE550.out | refine lS ?_ GE553.out) | exact HB.out))) : w.heap.size ≤ gb558)); have n6_ := aZ ((by rw [hg]; exact (lZ (by repeat (first | (with_reducible first | exact HB.out | apply lA | apply lN | apply lD | refine lS ?_ GE550.out | refine lS ?_ GE553.out) | exact HB.out))) : w.heap.size ≤ gb558)); have n7_ := aZ ((by rw [hg]; exact Nat.ne_of_lt (blk_lt (g := gb550) (o := .cells #[.int .i64 0, .int .i64 0] 26 (0, 0)) (by (with_reducible repeat (first | refine bN ?_ _ | refine bD ?_ | refine bA ?_ _)); exact BK550.out)) : gb550 ≠ gb558)); have n8_ := aZ ((by rw [hg]; exact Nat.ne_of_gt (blk_lt (g := gb550) (o := .cells #[.int .i64 0, .int .i64 0] 26 (0, 0)) (by (with_reducible repeat (first | refine bN ?_ _ | refine bD ?_ | refine bA ?_ _)); exact BK550.out)) : gb558 ≠ gb550)); have n9_ := aZ ((by rw [hg]; exact Nat.ne_of_lt (blk_lt (g := gb553) (o := .cells #[.int .i64 t551, .int .i64 t552] 26 (0, 0)) (by (with_reducible repeat (first | refine bN ?_ _ | refine bD ?_ | refine bA ?_ _)); exact BK553.out)) : gb553 ≠ gb558)); have n10_ := aZ ((by rw [hg]; exact Nat.ne_of_gt (blk_lt (g := gb553) (o := .cells #[.int .i64 t551, .int .i64 t552] 26 (0, 0)) (by (with_reducible repeat (first | refine bN ?_ _ | refine bD ?_ | refine bA ?_ _)); exact BK553.out)) : gb558 ≠ gb553)); clear HO_5; clear BK550; clear BK553; clear HB; have HO_5 := n0_; have BK550 := n1_; have BK553 := n2_; have HB := n3_; have BK558 := n4_; have GW558 := n5_; have GE558 := n6_; have NB550_558 := n7_; have NB558_550 := n8_; have NB553_558 := n9_; have NB558_553 := n10_; clear n0_ n1_ n2_ n3_ n4_ n5_ n6_ n7_ n8_ n9_ n10_; clear hb hbox hg; have hnb28 := NB558_550.out; have hnc28 := NB550_558.out; have hnb29 := NB558_553.out; have hnc29 := NB553_558.out; have hcz30_0 : w27.cell? ⟨gb558, 0, none⟩ = some (.slice none 0 0) := (blk_cell BK558.out 0).trans rfl; have hcz30_1 : w27.cell? ⟨gb558, 1, none⟩ = some (.int .i64 0) := (blk_cell BK558.out 1).trans rfl; have hcz30_2 : w27.cell? ⟨gb558, 2, none⟩ = some (.int .i64 0) := (blk_cell BK558.out 2).trans rfl; have hcz30_3 : w27.cell? ⟨gb558, 3, none⟩ = some (.int .i64 0) := (blk_cell BK558.out 3).trans rfl; have hcz30_4 : w27.cell? ⟨gb558, 4, none⟩ = some (.string (⟨#[]⟩ : ByteArray)) := (blk_cell BK558.out 4).trans rfl; have hfz30_0 := blk_frozen BK558.out 0; have hfz30_1 := blk_frozen BK558.out 1; have hfz30_2 := blk_frozen BK558.out 2; have hfz30_3 := blk_frozen BK558.out 3; have hfz30_4 := blk_frozen BK558.out 4) | ((with_reducible refine gate_store (t := 49) (p := 7) rfl ?_); refine store_event (t := 49) (p := 7) (v := ?vo_w31) (w1 := (((((w27.setCell ⟨gb558, 0, none⟩ (.slice A557_0 ((rd_T49 l0 x21_1).f0).length c557_0)).setCell ⟨gb558, 1, none⟩ (.int .i64 ((rd_T49 l0 x21_1).f1))).setCell ⟨gb558, 2, none⟩ (.int .i64 ((rd_T49 l0 x21_1).f2))).setCell ⟨gb558, 3, none⟩ (.int .i64 ((rd_T49 l0 x21_1).f3))).setCell ⟨gb558, 4, none⟩ (.string ((rd_T49 l0 x21_1).f4)))) ?hg ?ho ?hn ?hr ?_; (case ho => rfl); (case hg => rfl); (case hn => rfl); (case hr => first | (go_simp; done) | (go_simp; rfl)); intro w31 hw; have n0_ : Aside0 (Kd.R (Kd.int .i64) 3 w31 w.heap.size (fun _ => True) v555 x5_1) := ⟨(by rw [hw]; exact (by (with_reducible repeat (first | apply Kd.rA | apply Kd.rN | apply Kd.rD)); exact Kd.R_mono (Kd.R_far (p := ⟨gb558, 4, none⟩) (Kd.R_far (p := ⟨gb558, 3, none⟩) (Kd.R_far (p := ⟨gb558, 2, none⟩) (Kd.R_far (p := ⟨gb558, 1, none⟩) (Kd.R_far (p := ⟨gb558, 0, none⟩) (Kd.R_types HO_5.out BK558.out (by decide)) (fun _ hk => hk.2) (.slice A557_0 ((rd_T49 l0 x21_1).f0).length c557_0)) (fun _ hk => hk.2) (.int .i64 ((rd_T49 l0 x21_1).f1))) (fun _ hk => hk.2) (.int .i64 ((rd_T49 l0 x21_1).f2))) (fun _ hk => hk.2) (.int .i64 ((rd_T49 l0 x21_1).f3))) (fun _ hk => hk.2) (.string ((rd_T49 l0 x21_1).f4))) (fun _ hk => trivial)))⟩; have n1_ : Aside0 (w31.heap[gb550]? = some (.cells #[.int .i64 0, .int .i64 0] 26 (0, 0))) := ⟨(by rw [hw]; exact (by (with_reducible repeat (first | refine bN ?_ _ | refine bD ?_ | refine bA ?_ _)); refine blk_far ?_ NB550_558.out _; (with_reducible repeat (first | refine bN ?_ _ | refine bD ?_ | refine bA ?_ _)); refine blk_far ?_ NB550_558.out _; (with_reducible repeat (first | refine bN ?_ _ | refine bD ?_ | refine bA ?_ _)); refine blk_far ?_ NB550_558.out _; (with_reducible repeat (first | refine bN ?_ _ | refine bD ?_ | refine bA ?_ _)); refine blk_far ?_ NB550_558.out _; (with_reducible repeat (first | refine bN ?_ _ | refine bD ?_ | refine bA ?_ _)); refine blk_far ?_ NB550_558.out _; (with_reducible repeat (first | refine bN ?_ _ | refine bD ?_ | refine bA ?_ _)); exact BK550.out))⟩; have n2_ : Aside0 (w31.heap[gb553]? = some (.cells #[.int .i64 t551, .int .i64 t552] 26 (0, 0))) := ⟨(by rw [hw]; exact (by (with_reducible repeat (first | refine bN ?_ _ | refine bD ?_ | refine bA ?_ _)); refine blk_far ?_ NB553_558.out _; (with_reducible repeat (first | refine bN ?_ _ | refine bD ?_ | refine bA ?_ _)); refine blk_far ?_ NB553_558.out _; (with_reducible repeat (first | refine bN ?_ _ | refine bD ?_ | refine bA ?_ _)); refine blk_far ?_ NB553_558.out _; (with_reducible repeat (first | refine bN ?_ _ | refine bD ?_ | refine bA ?_ _)); refine blk_far ?_ NB553_558.out _; (with_reducible repeat (first | refine bN ?_ _ | refine bD ?_ | refine bA ?_ _)); refine blk_far ?_ NB553_558.out _; (with_reducible repeat (first | refine bN ?_ _ | refine bD ?_ | refine bA ?_ _)); exact BK553.out))⟩; have n3_ : Aside0 (w31.heap[gb558]? = some (.cells #[.slice A557_0 ((rd_T49 l0 x21_1).f0).length c557_0, .int .i64 ((rd_T49 l0 x21_1).f1), .int .i64 ((rd_T49 l0 x21_1).f2), .int .i64 ((rd_T49 l0 x21_1).f3), .string ((rd_T49 l0 x21_1).f4)] 49 (0, 0))) := ⟨(by rw [hw]; exact (by (with_reducible repeat (first | refine bN ?_ _ | refine bD ?_ | refine bA ?_ _)); refine blk_put (cs := #[.slice A557_0 ((rd_T49 l0 x21_1).f0).length c557_0, .int .i64 ((rd_T49 l0 x21_1).f1), .int .i64 ((rd_T49 l0 x21_1).f2), .int .i64 ((rd_T49 l0 x21_1).f3), .string (⟨#[]⟩ : ByteArray)]) ?_ 4 _ rfl; (with_reducible repeat (first | refine bN ?_ _ | refine bD ?_ | refine bA ?_ _)); refine blk_put (cs := #[.slice A557_0 ((rd_T49 l0 x21_1).f0).length c557_0, .int .i64 ((rd_T49 l0 x21_1).f1), .int .i64 ((rd_T49 l0 x21_1).f2), .int .i64 0, .string (⟨#[]⟩ : ByteArray)]) ?_ 3 _ rfl; (with_reducible repeat (first | refine bN ?_ _ | refine bD ?_ | refine bA ?_ _)); refine blk_put (cs := #[.slice A557_0 ((rd_T49 l0 x21_1).f0).length c557_0, .int .i64 ((rd_T49 l0 x21_1).f1), .int .i64 0, .int .i64 0, .string (⟨#[]⟩ : ByteArray)]) ?_ 2 _ rfl; (with_reducible repeat (first | refine bN ?_ _ | refine bD ?_ | refine bA ?_ _)); refine blk_put (cs := #[.slice A557_0 ((rd_T49 l0 x21_1).f0).length c557_0, .int .i64 0, .int .i64 0, .int .i64 0, .string (⟨#[]⟩ : ByteArray)]) ?_ 1 _ rfl; (with_reducible repeat (first | refine bN ?_ _ | refine bD ?_ | refine bA ?_ _)); refine blk_put (cs := #[.slice none 0 0, .int .i64 0, .int .i64 0, .int .i64 0, .string (⟨#[]⟩ : ByteArray)]) ?_ 0 _ rfl; (with_reducible repeat (first | refine bN ?_ _ | refine bD ?_ | refine bA ?_ _)); exact BK558.out))⟩; have n4_ : Aside0 (Below w.heap.size w w31) := ⟨(by rw [hw]; exact (by repeat (first | (with_reducible first | exact HB.out | apply lA | apply lN | apply lD | refine lS ?_ GE550.out | refine lS ?_ GE553.out | refine lS ?_ GE558.out) | exact HB.out)))⟩; clear hw; clear HO_5; clear BK550; clear BK553; clear BK558; clear HB; have HO_5 := n0_; have BK550 := n1_; have BK553 := n2_; have BK558 := n3_; have HB := n4_; clear n0_ n1_ n2_ n3_ n4_; have p26 : 0 ≤ (x21_1 : Int) := of_decide_eq_true (by first | (with_reducible assumption) | assumption); have q26 : (x21_1 : Int) < ((x5_1.length : Int) : Int) := of_decide_eq_true (by first | (with_reducible assumption) | assumption); obtain ⟨go26, co26, eo26, gb26, gl26, cl26, HG26⟩ := Kd.R_form HO_5.out (by omega); (first | cases eo26 | (injection eo26 with ea_ en_ ec_; (first | subst ea_ | (injection ea_ with ea_; subst ea_)); subst ec_; clear en_)); have GB26 := aZ gb26; have GG26 := aZ HG26; clear gb26 gl26 HG26; obtain ⟨hx26_0, hf26_0⟩ := Kd.R_celln 0 HO_5.out (x21_1 : Int) p26 q26; replace p26 := eq_true p26; replace q26 := eq_true q26; obtain ⟨hy32_, hz32_⟩ := Kd.R_celln 0 HO_5.out (x21_1 : Int) (of_decide_eq_true (by first | (with_reducible assumption) | assumption)) (of_decide_eq_true (by first | (with_reducible assumption) | assumption)); have HP32 := Kd.R_putg HO_5.out (x21_1 : Int) 1) | ((with_reducible refine gate_store (t := 3) (p := 28) rfl ?_); refine store_event (t := 3) (p := 28) (v := ?vo_w33) (w1 := (w31.setCell ⟨go26, (x21_1 : Int).toNat, none⟩ (.int .i64 1))) ?hg ?ho ?hn ?hr ?_; (case ho => rfl); (case hg => rfl); (case hn => rfl); (case hr => first | (go_simp; done) | (go_simp; rfl)); intro w33 hw; have hg : w31.grownBy w33 (some go26) := (by rw [hw]; exact HP32.2); have hp_ : Kd.R (Kd.int .i64) 3 w33 w.heap.size (fun _ => True) (.slice (some ⟨go26, 0, none⟩) x5_1.length co26) y559 := (by rw [hw, Ny559.out]; exact HP32.1); clear HP32; have n0_ := aZ (hp_); have n1_ := aZ (blk_grown (g := gb550) (o := .cells #[.int .i64 0, .int .i64 0] 26 (0, 0)) (by (with_reducible repeat (first | refine bN ?_ _ | refine bD ?_ | refine bA ?_ _)); exact BK550.out) hg (Kd.R_ne HO_5.out BK550.out (by decide))); have n2_ := aZ (blk_grown (g := gb553) (o := .cells #[.int .i64 t551, .int .i64 t552] 26 (0, 0)) (by (with_reducible repeat (first | refine bN ?_ _ | refine bD ?_ | refine bA ?_ _)); exact BK553.out) hg (Kd.R_ne HO_5.out BK553.out (by decide))); have n3_ := aZ (blk_grown (g := gb558) (o := .cells #[.slice A557_0 ((rd_T49 l0 x21_1).f0).length c557_0, .int .i64 ((rd_T49 l0 x21_1).f1), .int .i64 ((rd_T49 l0 x21_1).f2), .int .i64 ((rd_T49 l0 x21_1).f3), .string ((rd_T49 l0 x21_1).f4)] 49 (0, 0)) (by (with_reducible repeat (first | refine bN ?_ _ | refine bD ?_ | refine bA ?_ _)); exact BK558.out) hg (Kd.R_ne HO_5.out BK558.out (by decide))); have n4_ := aZ ((by rw [hw]; exact lS (HB.out) GB26.out : Below w.heap.size w w33)); clear HO_5; clear BK550; clear BK553; clear BK558; clear HB; have HO_5 := n0_; have BK550 := n1_; have BK553 := n2_; have BK558 := n3_; have HB := n4_; clear n0_ n1_ n2_ n3_ n4_; clear hg hw hp_; have hcz34_0 : w33.cell? ⟨gb558, 0, none⟩ = some (.slice A557_0 ((rd_T49 l0 x21_1).f0).length c557_0) := (blk_cell BK558.out 0).trans rfl; have hcz34_1 : w33.cell? ⟨gb558, 1, none⟩ = some (.int .i64 ((rd_T49 l0 x21_1).f1)) := (blk_cell BK558.out 1).trans rfl; have hcz34_2 : w33.cell? ⟨gb558, 2, none⟩ = some (.int .i64 ((rd_T49 l0 x21_1).f2)) := (blk_cell BK558.out 2).trans rfl; have hcz34_3 : w33.cell? ⟨gb558, 3, none⟩ = some (.int .i64 ((rd_T49 l0 x21_1).f3)) := (blk_cell BK558.out 3).trans rfl; have hcz34_4 : w33.cell? ⟨gb558, 4, none⟩ = some (.string ((rd_T49 l0 x21_1).f4)) := (blk_cell BK558.out 4).trans rfl; have hfz34_0 := blk_frozen BK558.out 0; have hfz34_1 := blk_frozen BK558.out 1; have hfz34_2 := blk_frozen BK558.out 2; have hfz34_3 := blk_frozen BK558.out 3; have hfz34_4 := blk_frozen BK558.out 4))
    go_loopg [32] k1 (fun kq v32 w' => ∃ (x5_2 : List Int) (x32_2 : Int), v32 = .int .i64 x32_2 ∧ Aside0 (history_Generations.l1 kq x5_2 x21_1 l0 (l0.length : Int) x21_1 ((rd_T49 l0 x21_1).f0) (((rd_T49 l0 x21_1).f0).length : Int) x32_2 = some (r1, r2, r3)) ∧ Aside0 (kq ≤ k1) ∧ Aside0 (Kd.R (Kd.int .i64) 3 w' w.heap.size (fun _ => True) (.slice (some ⟨go26, 0, none⟩) x5_1.length co26) x5_2) ∧ Aside0 (w'.heap[gb550]? = some (.cells #[.int .i64 0, .int .i64 0] 26 (0, 0))) ∧ Aside0 (w'.heap[gb553]? = some (.cells #[.int .i64 t551, .int .i64 t552] 26 (0, 0))) ∧ Aside0 (w'.heap[gb558]? = some (.cells #[(.slice A557_0 ((rd_T49 l0 x21_1).f0).length c557_0), .int .i64 ((rd_T49 l0 x21_1).f1), .int .i64 ((rd_T49 l0 x21_1).f2), .int .i64 ((rd_T49 l0 x21_1).f3), .string ((rd_T49 l0 x21_1).f4)] 49 (0, 0))) ∧ Aside0 (Below w.heap.size w w'))
    case atStart => exact ⟨(y559), (0), (by first | rfl | (simp; done) | (simp [*]; done)), H', ⟨Nat.le_refl _⟩, ⟨by (with_reducible repeat (first | apply Kd.rA | apply Kd.rN | apply Kd.rD)); exact HO_5.out⟩, ⟨by (with_reducible repeat (first | refine bN ?_ _ | refine bD ?_ | refine bA ?_ _)); exact BK550.out⟩, ⟨by (with_reducible repeat (first | refine bN ?_ _ | refine bD ?_ | refine bA ?_ _)); exact BK553.out⟩, ⟨by (with_reducible repeat (first | refine bN ?_ _ | refine bD ?_ | refine bA ?_ _)); exact BK558.out⟩, ⟨by repeat (first | (with_reducible first | exact HB.out | apply lA | apply lN | apply lD | refine lS ?_ GE550.out | refine lS ?_ GE553.out | refine lS ?_ GE558.out) | exact HB.out)⟩⟩
    case round =>
     clear H'
     (try clear c22); (try clear c22b0); (try clear c23); (try clear c23b0); (try clear c24); (try clear c24b0); (try clear c25); (try clear c25b0); (try clear p26); (try clear q26); (try clear hcz30_0); (try clear hcz30_1); (try clear hcz30_2); (try clear hcz30_3); (try clear hcz30_4); (try clear hcz34_0); (try clear hcz34_1); (try clear hcz34_2); (try clear hcz34_3); (try clear hcz34_4); (try clear hfz30_0); (try clear hfz30_1); (try clear hfz30_2); (try clear hfz30_3); (try clear hfz30_4); (try clear hfz34_0); (try clear hfz34_1); (try clear hfz34_2); (try clear hfz34_3); (try clear hfz34_4); (try clear hx26_0); (try clear hx557_0); (try clear hx557_1); (try clear hx557_2); (try clear hx557_3); (try clear hx557_4); (try clear p557); (try clear q557)
     obtain ⟨x5_2, x32_2, rfl, HA, HK2, HO_5, BK550, BK553, BK558, HB⟩ := hrel
     have hl5_2 := (Kd.R_reads' HO_5.out).1
     rw [hl5_2] at HO_5
     (try simp only [hl5_2])
     (try simp only [hl5_2] at BK550)
     (try simp only [hl5_2] at BK553)
     (try simp only [hl5_2] at BK558)
     cases gk with
     | zero => exact absurd HA.out (by simp [history_Generations.l1])
     | succ k2 =>
      have H := HA.out
      clear HA
      simp only [history_Generations.l1] at H
      by_cases c35 : x32_2 < (((rd_T49 l0 x21_1).f0).length : Int)
      rotate_left
      · rw [if_neg c35] at H
        have c35b0 : decide (x32_2 < (((rd_T49 l0 x21_1).f0).length : Int)) = false := decide_eq_false c35
        (try (have c35b0z5_2 := c35b0; simp only [hl5_2] at c35b0z5_2))
        clear c35
        have H' := aZ H
        clear H
        go_wp2
        (try simp only [← hl5_2])
        go_roundg k2
        case measure => have := HK1.out; have := HK2.out; omega
        case rel => exact ⟨(x5_2), (wrap64 (x21_1 + 1)), (by first | rfl | (simp; done) | (simp [*]; done)), H', ⟨by have := HK1.out; have := HK2.out; omega⟩, ⟨by (try simp only [hl5_2]); (with_reducible repeat (first | apply Kd.rA | apply Kd.rN | apply Kd.rD)); exact HO_5.out⟩, ⟨by (try simp only [hl5_2]); (with_reducible repeat (first | refine bN ?_ _ | refine bD ?_ | refine bA ?_ _)); exact BK550.out⟩, ⟨by (try simp only [hl5_2]); (with_reducible repeat (first | refine bN ?_ _ | refine bD ?_ | refine bA ?_ _)); exact BK553.out⟩, ⟨by repeat (first | (with_reducible first | exact HB.out | apply lA | apply lN | apply lD | refine lS ?_ GE550.out | refine lS ?_ GE553.out | refine lS ?_ GE558.out) | exact HB.out)⟩⟩
      rw [if_pos c35] at H
      have c35b0 : decide (x32_2 < (((rd_T49 l0 x21_1).f0).length : Int)) = true := decide_eq_true c35
      (try (have c35b0z5_2 := c35b0; simp only [hl5_2] at c35b0z5_2))
      clear c35
      by_cases c36 : 0 ≤ x32_2
      rotate_left
      · rw [if_neg c36] at H
        exact absurd H (by simp)
      rw [if_pos c36] at H
      have c36b0 : decide (0 ≤ x32_2) = true := decide_eq_true c36
      clear c36
      by_cases c37 : x32_2 < (((rd_T49 l0 x21_1).f0).length : Int)
      rotate_left
      · rw [if_neg c37] at H
        exact absurd H (by simp)
      rw [if_pos c37] at H
      have c37b0 : decide (x32_2 < (((rd_T49 l0 x21_1).f0).length : Int)) = true := decide_eq_true c37
      (try (have c37b0z5_2 := c37b0; simp only [hl5_2] at c37b0z5_2))
      clear c37
      by_cases c38 : 0 ≤ x21_1
      rotate_left
      · rw [if_neg c38] at H
        exact absurd H (by simp)
      rw [if_pos c38] at H
      have c38b0 : decide (0 ≤ x21_1) = true := decide_eq_true c38
      clear c38
      by_cases c39 : x21_1 < (x5_2.length : Int)
      rotate_left
      · rw [if_neg c39] at H
        exact absurd H (by simp)
      rw [if_pos c39] at H
      have c39b0 : decide (x21_1 < (x5_2.length : Int)) = true := decide_eq_true c39
      (try (have c39b0z5_2 := c39b0; simp only [hl5_2] at c39b0z5_2))
      clear c39
      by_cases c40 : 0 ≤ (rd ((rd_T49 l0 x21_1).f0) x32_2)
      rotate_left
      · rw [if_neg c40] at H
        exact absurd H (by simp)
      rw [if_pos c40] at H
      have c40b0 : decide (0 ≤ (rd ((rd_T49 l0 x21_1).f0) x32_2)) = true := decide_eq_true c40
      clear c40
      by_cases c41 : (rd ((rd_T49 l0 x21_1).f0) x32_2) < (x5_2.length : Int)
      rotate_left
      · rw [if_neg c41] at H
        exact absurd H (by simp)
      rw [if_pos c41] at H
      have c41b0 : decide ((rd ((rd_T49 l0 x21_1).f0) x32_2) < (x5_2.length : Int)) = true := decide_eq_true c41
      (try (have c41b0z5_2 := c41b0; simp only [hl5_2] at c41b0z5_2))
      clear c41
      obtain ⟨ji42, hji42⟩ : ∃ j_ : Int, (mx (rd x5_2 x21_1) (wrap64 ((rd x5_2 (rd ((rd_T49 l0 x21_1).f0) x32_2)) + 1))) = j_ := ⟨_, rfl⟩
      replace H : (history_Generations.l1 k2 (x5_2.set (x21_1 : Int).toNat (ji42)) x21_1 l0 (l0.length : Int) x21_1 ((rd_T49 l0 x21_1).f0) (((rd_T49 l0 x21_1).f0).length : Int) (wrap64 (x32_2 + 1))) = some (r1, r2, r3) := by first | (rw [hji42] at H; exact H) | (simp only [hji42] at H ⊢; exact H)
      have hji42_ : (if (rd x5_2 x21_1) < (wrap64 ((rd x5_2 (rd ((rd_T49 l0 x21_1).f0) x32_2)) + 1)) then (wrap64 ((rd x5_2 (rd ((rd_T49 l0 x21_1).f0) x32_2)) + 1)) else (rd x5_2 x21_1)) = ji42 := hji42
      obtain ⟨y563, hy563⟩ : ∃ y_ : List Int, y_ = (x5_2.set (x21_1 : Int).toNat (ji42)) := ⟨_, rfl⟩
      replace H : (history_Generations.l1 k2 y563 x21_1 l0 (l0.length : Int) x21_1 ((rd_T49 l0 x21_1).f0) (((rd_T49 l0 x21_1).f0).length : Int) (wrap64 (x32_2 + 1))) = some (r1, r2, r3) := by first | (rw [hy563]; with_reducible exact H) | (have H2_ := (Option.bind_some _ _).symm.trans H; rw [hy563]; with_reducible exact H2_) | (have H2_ := (Option.bind_some _ _).symm.trans H; with_reducible exact H2_) | with_reducible exact H | (rw [hy563]; exact H) | exact H
      have Ny563 := aZ hy563
      clear hy563
      have H' := aZ H
      clear H
      have p560 : 0 ≤ (x32_2 : Int) := of_decide_eq_true (by first | (with_reducible assumption) | assumption)
      have q560 : x32_2 < (((rd_T49 l0 x21_1).f0).length : Int) := of_decide_eq_true (by first | (with_reducible assumption) | assumption)
      obtain ⟨ad560, e560, hx560_0⟩ := Kd.at_int HR557_0.out x32_2 p560 q560
      cases e560
      replace hx560_0 := (HB.out.cell (World.block_lt_of_cell? w _ hx560_0)).trans hx560_0
      replace p560 := eq_true p560
      replace q560 := eq_true q560
      try go_wp2
      have n0_ := aZ (Kd.rD HO_5.out)
      have n1_ := aZ (bD BK550.out)
      have n2_ := aZ (bD BK553.out)
      have n3_ := aZ (bD BK558.out)
      have n4_ := aZ (lD HB.out)
      clear HO_5
      clear BK550
      clear BK553
      clear BK558
      clear HB
      have HO_5 := n0_
      have BK550 := n1_
      have BK553 := n2_
      have BK558 := n3_
      have HB := n4_
      clear n0_ n1_ n2_ n3_ n4_
      have p561 : 0 ≤ (x21_1 : Int) := of_decide_eq_true (by first | (with_reducible assumption) | assumption)
      have q561 : x21_1 < (x5_2.length : Int) := of_decide_eq_true (by first | (with_reducible assumption) | assumption)
      obtain ⟨ad561, e561, hx561_0⟩ := Kd.at_int (Kd.R_reads' HO_5.out).2.2 x21_1 p561 q561
      obtain rfl : (⟨go26, 0, none⟩ : Addr) = ad561 := (by injection e561)
      (first | simp only [add_plain] at hx561_0 | simp only [add_at] at hx561_0 | simp only [Addr.add, Nat.zero_add] at hx561_0 | skip)
      replace p561 := eq_true p561
      replace q561 := eq_true q561
      have p562 : 0 ≤ ((rd ((rd_T49 l0 x21_1).f0) x32_2) : Int) := of_decide_eq_true (by first | (with_reducible assumption) | assumption)
      have q562 : (rd ((rd_T49 l0 x21_1).f0) x32_2) < (x5_2.length : Int) := of_decide_eq_true (by first | (with_reducible assumption) | assumption)
      obtain ⟨ad562, e562, hx562_0⟩ := Kd.at_int (Kd.R_reads' HO_5.out).2.2 (rd ((rd_T49 l0 x21_1).f0) x32_2) p562 q562
      obtain rfl : (⟨go26, 0, none⟩ : Addr) = ad562 := (by injection e562)
      (first | simp only [add_plain] at hx562_0 | simp only [add_at] at hx562_0 | simp only [Addr.add, Nat.zero_add] at hx562_0 | skip)
      replace p562 := eq_true p562
      replace q562 := eq_true q562
      have p43 : 0 ≤ (x21_1 : Int) := of_decide_eq_true (by first | (with_reducible assumption) | assumption)
      have q43 : (x21_1 : Int) < ((x5_2.length : Int) : Int) := of_decide_eq_true (by first | (with_reducible assumption) | assumption)
      obtain ⟨hx43_0, hf43_0⟩ := Kd.R_celln 0 HO_5.out (x21_1 : Int) p43 q43
      replace p43 := eq_true p43
      replace q43 := eq_true q43
      have HP45 := Kd.R_putn HO_5.out (x21_1 : Int) ji42
      rw [← Ny563.out] at HP45
      have HQ45 := aZ HP45
      clear HP45
      refine start_ (n := 14) (S := fun w' => w'.cell? ⟨go26, (x21_1).toNat, none⟩ = some (.int .i64 (rd x5_2 x21_1)) ∧ w'.cell? ⟨go26, ((rd ((rd_T49 l0 x21_1).f0) x32_2)).toNat, none⟩ = some (.int .i64 (rd x5_2 (rd ((rd_T49 l0 x21_1).f0) x32_2)))) (ds := [13]) Z1 (by kernel_rfl) rfl rfl ⟨hx561_0, hx562_0⟩ (fun hHeld => ?_); refine with_tabW history_Generations.tab12 history_Generations.bits12 (fun HT_ HW_ => ?_)
      generalize wr.drew = w44 at HO_5 BK550 BK553 BK558 HB HQ45 hf43_0 hx43_0 hx561_0 hx562_0 hHeld ⊢
      refine pu 0 36 Z2 HT_ rfl rfl (h := ?_)
      refine pu 1 37 Z3 HT_ rfl rfl (h := ?_)
      refine pu 2 38 Z4 HT_ rfl rfl (h := ?_)
      refine pu 3 39 Z5 HT_ rfl rfl (h := ?_)
      refine pu 4 40 Z6 HT_ rfl rfl (h := ?_)
      refine pu 6 42 Z7 HT_ rfl rfl (h := ?_)
      refine pu 7 43 Z8 HT_ rfl rfl (h := ?_)
      refine pu 8 44 Z9 HT_ rfl rfl (h := ?_)
      refine tk 5 41 Z10 HT_ HW_ rfl rfl hHeld (by rintro w' ⟨s0, s1⟩; go_simp; with_reducible rfl) (h := ?_)
      refine tk 9 45 Z11 HT_ HW_ rfl rfl hHeld (by rintro w' ⟨s0, s1⟩; go_simp; with_reducible rfl) (h := ?_)
      refine pu 10 46 Z12 HT_ rfl rfl (h := ?_)
      refine pu 11 47 Z13 HT_ rfl rfl (h := ?_)
      refine pu 12 48 Z14 HT_ rfl rfl (h := ?_)
      refine last_ (i := 13) (N := none) Z15 rfl rfl (one_of HT_.out (by kernel_rfl)) (by decide) (fun K hK => ?_)
      refine skip_ (w1 := ?_) (by rfl) rfl ?_ ?_
      rotate_left
      · go_simp
        rfl
      refine hK.out _ _ ?_
      clear hK K
      refine done_ (done_of HT_.out (by kernel_rfl)) ?_
      try go_wp2
      (try simp only [← hl5_2])
      go_roundg k2
      case measure => have := HK1.out; have := HK2.out; omega
      case rel => exact ⟨(y563), (wrap64 (x32_2 + 1)), (by first | rfl | (simp; done) | (simp [*]; done)), H', ⟨by have := HK1.out; have := HK2.out; omega⟩, ⟨by (try simp only [hl5_2]); (with_reducible repeat (first | apply Kd.rA | apply Kd.rN | apply Kd.rD)); exact HQ45.out⟩, ⟨by (try simp only [hl5_2]); (with_reducible repeat (first | refine bN ?_ _ | refine bD ?_ | refine bA ?_ _)); refine blk_far ?_ (by have h_ := Kd.R_ne HO_5.out BK550.out (by decide); intro e_; exact h_ (by rw [e_]; rfl)) _; (with_reducible repeat (first | refine bN ?_ _ | refine bD ?_ | refine bA ?_ _)); exact BK550.out⟩, ⟨by (try simp only [hl5_2]); (with_reducible repeat (first | refine bN ?_ _ | refine bD ?_ | refine bA ?_ _)); refine blk_far ?_ (by have h_ := Kd.R_ne HO_5.out BK553.out (by decide); intro e_; exact h_ (by rw [e_]; rfl)) _; (with_reducible repeat (first | refine bN ?_ _ | refine bD ?_ | refine bA ?_ _)); exact BK553.out⟩, ⟨by (try simp only [hl5_2]); (with_reducible repeat (first | refine bN ?_ _ | refine bD ?_ | refine bA ?_ _)); refine blk_far ?_ (by have h_ := Kd.R_ne HO_5.out BK558.out (by decide); intro e_; exact h_ (by rw [e_]; rfl)) _; (with_reducible repeat (first | refine bN ?_ _ | refine bD ?_ | refine bA ?_ _)); exact BK558.out⟩, ⟨by repeat (first | (with_reducible first | exact HB.out | apply lA | apply lN | apply lD | refine lS ?_ GB26.out | refine lS ?_ GE550.out | refine lS ?_ GE553.out | refine lS ?_ GE558.out) | exact HB.out)⟩⟩
end Go.Proofs.Ytojhnjgnpjoacaa.P
