/- What the Go functions of this seat compute, and that they do: printed by a program over the kit's print. -/
import Derived.Test.YtojhnjgnpjoacaaP0
import Derived.Test.YtojhnjgnpjoacaaP1
import Derived.Test.YtojhnjgnpjoacaaP2
namespace Go.Proofs.Ytojhnjgnpjoacaa.P
open Go.RowKit Go.Proofs.YtojhnjgnpjoacaaW.PrintWords Go.Proofs.YtojhnjgnpjoacaaW.PrintLast Go.Proofs.YtojhnjgnpjoacaaW.PrintMore
attribute [local go_sem] max2_int min2_int max_two min_two max_three min_three max_four min_four   -- for this text's walks alone
set_option linter.unusedVariables false
set_option linter.unusedSimpArgs false

attribute [local go_sem high] eqA26
/-! ### history_Heads: function 28 -/
mutual
def history_Heads.l0 : Nat → List Bool → List (S49) → Int → Int → Option (List Int × Int × Int)
  | 0, _, _, _, _ => none
  | k + 1, x5, x22, x23, x24 => if x24 < x23 then (if 0 ≤ x24 then (if x24 < (x22.length : Int) then (history_Heads.l1 k x5 x22 x23 x24 ((rd_T49 x22 x24).f0) (((rd_T49 x22 x24).f0).length : Int) 0) else (none)) else (none)) else (history_Heads.l2 k ([] : List Int) x5 (x5.length : Int) 0)
def history_Heads.l1 : Nat → List Bool → List (S49) → Int → Int → List Int → Int → Int → Option (List Int × Int × Int)
  | 0, _, _, _, _, _, _, _ => none
  | k + 1, x5, x22, x23, x24, x29, x30, x31 => if x31 < x30 then (if 0 ≤ x31 then (if x31 < (x29.length : Int) then (if 0 ≤ (rd x29 x31) then (if (rd x29 x31) < (x5.length : Int) then (history_Heads.l1 k (x5.set ((rd x29 x31) : Int).toNat true) x22 x23 x24 x29 x30 (wrap64 (x31 + 1))) else (none)) else (none)) else (none)) else (none)) else (history_Heads.l0 k x5 x22 x23 (wrap64 (x24 + 1)))
def history_Heads.l2 : Nat → List Int → List Bool → Int → Int → Option (List Int × Int × Int)
  | 0, _, _, _, _ => none
  | k + 1, x10, x40, x41, x42 => if x42 < x41 then (if 0 ≤ x42 then (if x42 < (x40.length : Int) then (if rdOf false x40 x42 = true then (history_Heads.l2 k x10 x40 x41 (wrap64 (x42 + 1))) else (if x10.length < 17592186044416 then (history_Heads.l2 k (x10 ++ [x42]) x40 x41 (wrap64 (x42 + 1))) else (none))) else (none)) else (none)) else (some (x10, 0, 0))
end
def history_Heads.f (k : Nat) (l0 : List (S49)) : Option (List Int × Int × Int) := (history_Validate.f k l0).bind fun bt510 => (if (!(bt510.1 == 0) || (!(bt510.2 == 0))) = true then (some (([] : List Int), bt510.1, bt510.2)) else (if 0 ≤ (l0.length : Int) then (if ((l0.length : Int) : Int).toNat ≤ 281474976710656 then (history_Heads.l0 k (List.replicate ((l0.length : Int) : Int).toNat false) l0 (l0.length : Int) 0) else (none)) else (none)))
theorem history_Heads.mono_l : ∀ k, (∀ y0 y1 y2 y3, LeO (history_Heads.l0 k y0 y1 y2 y3) (history_Heads.l0 (k + 1) y0 y1 y2 y3)) ∧ (∀ y0 y1 y2 y3 y4 y5 y6, LeO (history_Heads.l1 k y0 y1 y2 y3 y4 y5 y6) (history_Heads.l1 (k + 1) y0 y1 y2 y3 y4 y5 y6)) ∧ (∀ y0 y1 y2 y3, LeO (history_Heads.l2 k y0 y1 y2 y3) (history_Heads.l2 (k + 1) y0 y1 y2 y3))
  | 0 => ⟨fun _ _ _ _ r h => by simp [history_Heads.l0] at h, fun _ _ _ _ _ _ _ r h => by simp [history_Heads.l1] at h, fun _ _ _ _ r h => by simp [history_Heads.l2] at h⟩
  | k + 1 => by
    obtain ⟨ih0, ih1, ih2⟩ := history_Heads.mono_l k
    refine ⟨?_, ?_, ?_⟩
    · intro y0 y1 y2 y3
      unfold history_Heads.l0
      repeat' first
      | (with_reducible exact ih0 _ _ _ _)
      | (with_reducible exact ih1 _ _ _ _ _ _ _)
      | (with_reducible exact ih2 _ _ _ _)
      | (with_reducible exact history_Validate.mono _ _)
      | (with_reducible exact LeO.refl _)
      | (with_reducible exact LeO.none _)
      | (with_reducible refine LeO.ite ?_ ?_)
      | (with_reducible refine LeO.bind ?_ (fun _ => ?_))
      | exact ih0 _ _ _ _
      | exact ih1 _ _ _ _ _ _ _
      | exact ih2 _ _ _ _
      | exact history_Validate.mono _ _
      | exact LeO.none _
      | refine LeO.ite ?_ ?_
      | refine LeO.bind ?_ (fun _ => ?_)
    · intro y0 y1 y2 y3 y4 y5 y6
      unfold history_Heads.l1
      repeat' first
      | (with_reducible exact ih0 _ _ _ _)
      | (with_reducible exact ih1 _ _ _ _ _ _ _)
      | (with_reducible exact ih2 _ _ _ _)
      | (with_reducible exact history_Validate.mono _ _)
      | (with_reducible exact LeO.refl _)
      | (with_reducible exact LeO.none _)
      | (with_reducible refine LeO.ite ?_ ?_)
      | (with_reducible refine LeO.bind ?_ (fun _ => ?_))
      | exact ih0 _ _ _ _
      | exact ih1 _ _ _ _ _ _ _
      | exact ih2 _ _ _ _
      | exact history_Validate.mono _ _
      | exact LeO.none _
      | refine LeO.ite ?_ ?_
      | refine LeO.bind ?_ (fun _ => ?_)
    · intro y0 y1 y2 y3
      unfold history_Heads.l2
      repeat' first
      | (with_reducible exact ih0 _ _ _ _)
      | (with_reducible exact ih1 _ _ _ _ _ _ _)
      | (with_reducible exact ih2 _ _ _ _)
      | (with_reducible exact history_Validate.mono _ _)
      | (with_reducible exact LeO.refl _)
      | (with_reducible exact LeO.none _)
      | (with_reducible refine LeO.ite ?_ ?_)
      | (with_reducible refine LeO.bind ?_ (fun _ => ?_))
      | exact ih0 _ _ _ _
      | exact ih1 _ _ _ _ _ _ _
      | exact ih2 _ _ _ _
      | exact history_Validate.mono _ _
      | exact LeO.none _
      | refine LeO.ite ?_ ?_
      | refine LeO.bind ?_ (fun _ => ?_)
theorem history_Heads.mono : ∀ a0 k, LeO (history_Heads.f k a0) (history_Heads.f (k + 1) a0) := by
  intro a0 k
  obtain ⟨ih0, ih1, ih2⟩ := history_Heads.mono_l k
  unfold history_Heads.f
  repeat' first
      | (with_reducible exact ih0 _ _ _ _)
      | (with_reducible exact ih1 _ _ _ _ _ _ _)
      | (with_reducible exact ih2 _ _ _ _)
      | (with_reducible exact history_Validate.mono _ _)
      | (with_reducible exact LeO.refl _)
      | (with_reducible exact LeO.none _)
      | (with_reducible refine LeO.ite ?_ ?_)
      | (with_reducible refine LeO.bind ?_ (fun _ => ?_))
      | exact ih0 _ _ _ _
      | exact ih1 _ _ _ _ _ _ _
      | exact ih2 _ _ _ _
      | exact history_Validate.mono _ _
      | exact LeO.none _
      | refine LeO.ite ?_ ?_
      | refine LeO.bind ?_ (fun _ => ?_)
set_option maxHeartbeats 8000000 in
set_option maxRecDepth 100000 in
theorem history_Heads.calls (k : Nat) (A0 : Option Addr) (c0 : Nat) (l0 : List (S49)) (r1 : List Int) (r2 : Int) (r3 : Int) (w : World) (hr0 : Kd.C k49 w A0 l0.length l0) (hc0 : l0.length ≤ c0) (h : history_Heads.f k l0 = some (r1, r2, r3)) :
  Calls Try.prog 28 #[.slice A0 l0.length c0] w fun e w' => ∃ v0_ : Value, e = .returned (.tuple #[v0_, .agg #[.int .i64 r2, .int .i64 r3]]) ∧ Kd.R (Kd.int .i64) 3 w' w.heap.size (fun _ => True) v0_ r1 ∧ Below w.heap.size w w' := by
  have hu26 := Try.underlying26
  have hu49 := Try.underlying49
  have HR0 := aZ hr0
  have HC0 := aZ hc0
  clear hr0 hc0
  have HB := aZ (Below.refl w.heap.size w)
  have H : ((history_Validate.f k l0).bind fun bt510 => (if (!(bt510.1 == 0) || (!(bt510.2 == 0))) = true then (some (([] : List Int), bt510.1, bt510.2)) else (if 0 ≤ (l0.length : Int) then (if ((l0.length : Int) : Int).toNat ≤ 281474976710656 then (history_Heads.l0 k (List.replicate ((l0.length : Int) : Int).toNat false) l0 (l0.length : Int) 0) else (none)) else (none)))) = some (r1, r2, r3) := h
  clear h
  replace H := Option.bind_eq_some_iff.mp H
  obtain ⟨⟨t510, t511⟩, A20, H⟩ := H
  replace H : (if (!(t510 == 0) || (!(t511 == 0))) = true then (some (([] : List Int), t510, t511)) else (if 0 ≤ (l0.length : Int) then (if ((l0.length : Int) : Int).toNat ≤ 281474976710656 then (history_Heads.l0 k (List.replicate ((l0.length : Int) : Int).toNat false) l0 (l0.length : Int) 0) else (none)) else (none))) = some (r1, r2, r3) := H
  have A2 := aZ A20
  clear A20
  by_cases c3 : (!(t510 == 0) || (!(t511 == 0))) = true
  · rw [if_pos c3] at H
    have c3b0 : (!(t510 == 0) || (!(t511 == 0))) = true := c3
    clear c3
    simp only [Option.some.injEq, Prod.mk.injEq] at H
    obtain ⟨rfl, rfl, rfl⟩ := H
    go_enter Try.func28, Try.ntmps28
    try go_wp2_with (first | ((with_reducible refine gate_dst (N := 3) rfl ?_); refine box_event ?hg (N := 3) ?hd (cs := #[.int .i64 0, .int .i64 0]) (t := 26) ?hr ?_; (case hd => rfl); (case hg => rfl); (case hr => first | (go_simp; done) | (go_simp; rfl)); intro gb509 hg w4 hbox hb; have n0_ := aZ (lT (by repeat (first | (with_reducible first | exact HB.out | apply lA | apply lN | apply lD) | exact HB.out)) hb); have n1_ := aZ (hbox); have n2_ := aZ ((by rw [hg]; exact (lZ (by repeat (first | (with_reducible first | exact HB.out | apply lA | apply lN | apply lD) | exact HB.out))) : w.heap.size ≤ gb509)); have n3_ := aZ ((by rw [hg]; exact (lZ (by repeat (first | (with_reducible first | exact HB.out | apply lA | apply lN | apply lD) | exact HB.out))) : w.heap.size ≤ gb509)); clear HB; have HB := n0_; have BK509 := n1_; have GW509 := n2_; have GE509 := n3_; clear n0_ n1_ n2_ n3_; clear hb hbox hg) | ((with_reducible refine gate_callee (f := 25) rfl ?_); refine goesL_ (some 14) rfl rfl Try.func25 (by kernel_rfl) rfl #[.slice A0 l0.length c0] rfl (by (try simp only [List.map_toArray, List.map_cons, List.map_nil]); first | done | rfl | (simp only [List.length_drop, List.length_take]; rfl)) ?_; (with_reducible refine (history_Validate.calls k _ _ l0 t510 t511 _ ?side1 ?side2 A2.out).mono ?_); (case side1 => repeat (first | exact (Kd.C_below HR0.out HB.out) | (with_reducible refine Kd.C_alloc ?_ _) | (with_reducible refine Kd.C_drewN ?_ _) | (with_reducible refine Kd.C_drew ?_))); (case side2 => exact HC0.out); rintro e w5 ⟨rfl, hb⟩; refine ⟨_, rfl, ?_⟩; have n0_ := aZ (blk_below (g := gb509) (o := .cells #[.int .i64 0, .int .i64 0] 26 (0, 0)) (by (with_reducible repeat (first | refine bN ?_ _ | refine bD ?_ | refine bA ?_ _)); exact BK509.out) hb); have n1_ := aZ (lT (by repeat (first | (with_reducible first | exact HB.out | apply lA | apply lN | apply lD | refine lS ?_ GE509.out) | exact HB.out)) hb); clear BK509; clear HB; have BK509 := n0_; have HB := n1_; clear n0_ n1_; (try clear hb); (try clear hb2); (try clear hk); (try clear hi)) | ((with_reducible refine gate_dst (N := 4) rfl ?_); refine box_event ?hg (N := 4) ?hd (cs := #[.int .i64 0, .int .i64 0]) (t := 26) ?hr ?_; (case hd => rfl); (case hg => rfl); (case hr => first | (go_simp; done) | (go_simp; rfl)); intro gb512 hg w6 hbox hb; have n0_ := aZ (blk_below (g := gb509) (o := .cells #[.int .i64 0, .int .i64 0] 26 (0, 0)) (by (with_reducible repeat (first | refine bN ?_ _ | refine bD ?_ | refine bA ?_ _)); exact BK509.out) hb); have n1_ := aZ (lT (by repeat (first | (with_reducible first | exact HB.out | apply lA | apply lN | apply lD | refine lS ?_ GE509.out) | exact HB.out)) hb); have n2_ := aZ (hbox); have n3_ := aZ ((by rw [hg]; exact (lZ (by repeat (first | (with_reducible first | exact HB.out | apply lA | apply lN | apply lD | refine lS ?_ GE509.out) | exact HB.out))) : w.heap.size ≤ gb512)); have n4_ := aZ ((by rw [hg]; exact (lZ (by repeat (first | (with_reducible first | exact HB.out | apply lA | apply lN | apply lD | refine lS ?_ GE509.out) | exact HB.out))) : w.heap.size ≤ gb512)); have n5_ := aZ ((by rw [hg]; exact Nat.ne_of_lt (blk_lt (g := gb509) (o := .cells #[.int .i64 0, .int .i64 0] 26 (0, 0)) (by (with_reducible repeat (first | refine bN ?_ _ | refine bD ?_ | refine bA ?_ _)); exact BK509.out)) : gb509 ≠ gb512)); have n6_ := aZ ((by rw [hg]; exact Nat.ne_of_gt (blk_lt (g := gb509) (o := .cells #[.int .i64 0, .int .i64 0] 26 (0, 0)) (by (with_reducible repeat (first | refine bN ?_ _ | refine bD ?_ | refine bA ?_ _)); exact BK509.out)) : gb512 ≠ gb509)); clear BK509; clear HB; have BK509 := n0_; have HB := n1_; have BK512 := n2_; have GW512 := n3_; have GE512 := n4_; have NB509_512 := n5_; have NB512_509 := n6_; clear n0_ n1_ n2_ n3_ n4_ n5_ n6_; clear hb hbox hg; have hnb7 := NB512_509.out; have hnc7 := NB509_512.out; have hcz8_0 : w6.cell? ⟨gb512, 0, none⟩ = some (.int .i64 0) := (blk_cell BK512.out 0).trans rfl; have hcz8_1 : w6.cell? ⟨gb512, 1, none⟩ = some (.int .i64 0) := (blk_cell BK512.out 1).trans rfl; have hfz8_0 := blk_frozen BK512.out 0; have hfz8_1 := blk_frozen BK512.out 1))
    have n0_ : Aside0 (((w6.setCell ⟨gb512, 0, none⟩ (.int .i64 t510)).setCell ⟨gb512, 1, none⟩ (.int .i64 t511)).heap[gb509]? = some (.cells #[.int .i64 0, .int .i64 0] 26 (0, 0))) := ⟨by (with_reducible repeat (first | refine bN ?_ _ | refine bD ?_ | refine bA ?_ _)); refine blk_far ?_ NB509_512.out _; (with_reducible repeat (first | refine bN ?_ _ | refine bD ?_ | refine bA ?_ _)); refine blk_far ?_ NB509_512.out _; (with_reducible repeat (first | refine bN ?_ _ | refine bD ?_ | refine bA ?_ _)); exact BK509.out⟩
    have n1_ : Aside0 (((w6.setCell ⟨gb512, 0, none⟩ (.int .i64 t510)).setCell ⟨gb512, 1, none⟩ (.int .i64 t511)).heap[gb512]? = some (.cells #[.int .i64 t510, .int .i64 t511] 26 (0, 0))) := ⟨by (with_reducible repeat (first | refine bN ?_ _ | refine bD ?_ | refine bA ?_ _)); refine blk_put (cs := #[.int .i64 t510, .int .i64 0]) ?_ 1 _ rfl; (with_reducible repeat (first | refine bN ?_ _ | refine bD ?_ | refine bA ?_ _)); refine blk_put (cs := #[.int .i64 0, .int .i64 0]) ?_ 0 _ rfl; (with_reducible repeat (first | refine bN ?_ _ | refine bD ?_ | refine bA ?_ _)); exact BK512.out⟩
    have n2_ : Aside0 (Below w.heap.size w ((w6.setCell ⟨gb512, 0, none⟩ (.int .i64 t510)).setCell ⟨gb512, 1, none⟩ (.int .i64 t511))) := ⟨by repeat (first | (with_reducible first | exact HB.out | apply lA | apply lN | apply lD | refine lS ?_ GE509.out | refine lS ?_ GE512.out) | exact HB.out)⟩
    (try clear BK509)
    (try clear BK512)
    (try clear HB)
    generalize ((w6.setCell ⟨gb512, 0, none⟩ (.int .i64 t510)).setCell ⟨gb512, 1, none⟩ (.int .i64 t511)) = w9 at n0_ n1_ n2_ ⊢
    have BK509 := n0_
    have BK512 := n1_
    have HB := n2_
    clear n0_ n1_ n2_
    have n0_ := aZ (bD BK509.out)
    have n1_ := aZ (bD BK512.out)
    have n2_ := aZ (lD HB.out)
    clear BK509
    clear BK512
    clear HB
    have BK509 := n0_
    have BK512 := n1_
    have HB := n2_
    clear n0_ n1_ n2_
    refine start_ (n := 3) (S := fun w' => w'.cell? ⟨gb512, 0, none⟩ = some (.int .i64 t510) ∧ w'.cell? ⟨gb512, 1, none⟩ = some (.int .i64 t511)) (ds := []) #[false, false, false] (by kernel_rfl) rfl rfl ⟨(blk_cell BK512.out 0).trans rfl, (blk_cell BK512.out 1).trans rfl⟩ (fun hHeld => ?_)
    generalize w9.drew = w10 at BK509 BK512 HB hHeld ⊢
    refine pure_ (i := 1) (N := some 2) (v := ?_) (a' := ?_) #[false, true, false] rfl rfl (by kernel_rfl) (fun _ _ _ h => h) (Or.inl ⟨by rfl, ?_⟩) ?_ ?_
    rotate_left
    · intro w'
      go_simp
      with_reducible rfl
    rotate_left
    · simp only [Act.put, List.setIfInBounds_toArray, List.set_cons_zero, List.set_cons_succ, i64_w, i32_w]
      rfl
    refine take_ (i := 0) (N := some 18) (v := ?_) (a' := ?_) #[true, true, false] rfl rfl (by kernel_rfl) (fun _ _ _ h => h) (Or.inl ⟨by rfl, ?_⟩) hHeld ?_ ?_
    rotate_left
    · rintro w' ⟨s0, s1⟩
      go_simp
      with_reducible rfl
    rotate_left
    · simp only [Act.put, List.setIfInBounds_toArray, List.set_cons_zero, List.set_cons_succ, i64_w, i32_w]
      rfl
    refine one_ (i := 2) (N := none) #[true, true, true] rfl rfl (by kernel_rfl) (by decide) (fun K hK => ?_)
    have hs11 : w10.cell? ⟨gb509, 0, none⟩ = some (.int .i64 0) := (blk_cell BK509.out 0).trans rfl
    have hfs11 := blk_frozen BK509.out 0
    have hns11_1 := NB512_509.out
    have hms11_1 := NB509_512.out
    have hs12 : w10.cell? ⟨gb509, 1, none⟩ = some (.int .i64 0) := (blk_cell BK509.out 1).trans rfl
    have hfs12 := blk_frozen BK509.out 1
    have hns12_1 := NB512_509.out
    have hms12_1 := NB509_512.out
    refine skip_ (w1 := ?_) (by rfl) rfl ?_ ?_
    rotate_left
    · go_simp
      rfl
    refine hK.out _ _ ⟨((cell_far (p := ⟨gb509, _, none⟩) NB512_509.out _).trans (((cell_far (p := ⟨gb509, _, none⟩) NB512_509.out _).trans (hHeld.1)))), ((cell_far (p := ⟨gb509, _, none⟩) NB512_509.out _).trans (((cell_far (p := ⟨gb509, _, none⟩) NB512_509.out _).trans (hHeld.2))))⟩ (fun hHeld => ?_)
    clear hK K
    refine done_ (by kernel_rfl) ?_
    try go_wp2
    refine bodyPost_ret (results_tc rfl _ _ gb509 26 #[.int .i64 t510, .int .i64 t511] (0, 0) _ rfl (by (with_reducible repeat (first | refine bN ?_ _ | refine bD ?_ | refine bA ?_ _)); refine blk_put (cs := #[.int .i64 t510, .int .i64 0]) ?_ 1 _ rfl; (with_reducible repeat (first | refine bN ?_ _ | refine bD ?_ | refine bA ?_ _)); refine blk_put (cs := #[.int .i64 0, .int .i64 0]) ?_ 0 _ rfl; (with_reducible repeat (first | refine bN ?_ _ | refine bD ?_ | refine bA ?_ _)); exact BK509.out) Try.underlying26 rfl (by kernel_rfl)) rfl ?_
    exact ⟨_, by first | rfl | (simp [errW_none, errW_some] <;> rfl) | (simp [*, errW_none, errW_some] <;> rfl), by first | exact Kd.R_nil _ _ _ _ _ | exact Kd.N_nil _ _ _ _ _ | exact Kd.V_nil _ _ _ _ _ | exact Kd.Q_nil _ _ _ _ _ | exact Kd.S_nil _ _ _ _ _, by repeat (first | (with_reducible first | exact HB.out | apply lA | apply lN | apply lD | refine lS ?_ GE509.out | refine lS ?_ GE512.out) | exact HB.out)⟩
  rw [if_neg c3] at H
  have c3b0 : (!(t510 == 0) || (!(t511 == 0))) = false := by simpa using c3
  clear c3
  by_cases c13 : 0 ≤ (l0.length : Int)
  rotate_left
  · rw [if_neg c13] at H
    exact absurd H (by simp)

  rw [if_pos c13] at H
  have c13b0 := eq_true c13
  have c13b1 : decide (0 ≤ (l0.length : Int)) = true := decide_eq_true c13
  clear c13
  by_cases c14 : ((l0.length : Int) : Int).toNat ≤ 281474976710656
  rotate_left
  · rw [if_neg c14] at H
    exact absurd H (by simp)
  rw [if_pos c14] at H
  have c14b0 := eq_true c14
  have c14b1 : decide (((l0.length : Int) : Int).toNat ≤ 281474976710656) = true := decide_eq_true c14
  clear c14
  obtain ⟨y513, hy513⟩ : ∃ y_ : List Bool, y_ = (List.replicate ((l0.length : Int) : Int).toNat false) := ⟨_, rfl⟩
  replace H : (history_Heads.l0 k y513 l0 (l0.length : Int) 0) = some (r1, r2, r3) := by first | (rw [hy513]; with_reducible exact H) | (have H2_ := (Option.bind_some _ _).symm.trans H; rw [hy513]; with_reducible exact H2_) | (have H2_ := (Option.bind_some _ _).symm.trans H; with_reducible exact H2_) | with_reducible exact H | (rw [hy513]; exact H) | exact H
  have Ny513 := aZ hy513
  clear hy513
  have H' := aZ H
  clear H
  go_enter Try.func28, Try.ntmps28
  go_wp2_with (first | ((with_reducible refine gate_dst (N := 3) rfl ?_); refine box_event ?hg (N := 3) ?hd (cs := #[.int .i64 0, .int .i64 0]) (t := 26) ?hr ?_; (case hd => rfl); (case hg => rfl); (case hr => first | (go_simp; done) | (go_simp; rfl)); intro gb509 hg w15 hbox hb; have n0_ := aZ (lT (by repeat (first | (with_reducible first | exact HB.out | apply lA | apply lN | apply lD) | exact HB.out)) hb); have n1_ := aZ (hbox); have n2_ := aZ ((by rw [hg]; exact (lZ (by repeat (first | (with_reducible first | exact HB.out | apply lA | apply lN | apply lD) | exact HB.out))) : w.heap.size ≤ gb509)); have n3_ := aZ ((by rw [hg]; exact (lZ (by repeat (first | (with_reducible first | exact HB.out | apply lA | apply lN | apply lD) | exact HB.out))) : w.heap.size ≤ gb509)); clear HB; have HB := n0_; have BK509 := n1_; have GW509 := n2_; have GE509 := n3_; clear n0_ n1_ n2_ n3_; clear hb hbox hg) | ((with_reducible refine gate_callee (f := 25) rfl ?_); refine goesL_ (some 14) rfl rfl Try.func25 (by kernel_rfl) rfl #[.slice A0 l0.length c0] rfl (by (try simp only [List.map_toArray, List.map_cons, List.map_nil]); first | done | rfl | (simp only [List.length_drop, List.length_take]; rfl)) ?_; (with_reducible refine (history_Validate.calls k _ _ l0 t510 t511 _ ?side1 ?side2 A2.out).mono ?_); (case side1 => repeat (first | exact (Kd.C_below HR0.out HB.out) | (with_reducible refine Kd.C_alloc ?_ _) | (with_reducible refine Kd.C_drewN ?_ _) | (with_reducible refine Kd.C_drew ?_))); (case side2 => exact HC0.out); rintro e w16 ⟨rfl, hb⟩; refine ⟨_, rfl, ?_⟩; have n0_ := aZ (blk_below (g := gb509) (o := .cells #[.int .i64 0, .int .i64 0] 26 (0, 0)) (by (with_reducible repeat (first | refine bN ?_ _ | refine bD ?_ | refine bA ?_ _)); exact BK509.out) hb); have n1_ := aZ (lT (by repeat (first | (with_reducible first | exact HB.out | apply lA | apply lN | apply lD | refine lS ?_ GE509.out) | exact HB.out)) hb); clear BK509; clear HB; have BK509 := n0_; have HB := n1_; clear n0_ n1_; (try clear hb); (try clear hb2); (try clear hk); (try clear hi)) | ((with_reducible refine gate_dst (N := 4) rfl ?_); refine box_event ?hg (N := 4) ?hd (cs := #[.int .i64 0, .int .i64 0]) (t := 26) ?hr ?_; (case hd => rfl); (case hg => rfl); (case hr => first | (go_simp; done) | (go_simp; rfl)); intro gb512 hg w17 hbox hb; have n0_ := aZ (blk_below (g := gb509) (o := .cells #[.int .i64 0, .int .i64 0] 26 (0, 0)) (by (with_reducible repeat (first | refine bN ?_ _ | refine bD ?_ | refine bA ?_ _)); exact BK509.out) hb); have n1_ := aZ (lT (by repeat (first | (with_reducible first | exact HB.out | apply lA | apply lN | apply lD | refine lS ?_ GE509.out) | exact HB.out)) hb); have n2_ := aZ (hbox); have n3_ := aZ ((by rw [hg]; exact (lZ (by repeat (first | (with_reducible first | exact HB.out | apply lA | apply lN | apply lD | refine lS ?_ GE509.out) | exact HB.out))) : w.heap.size ≤ gb512)); have n4_ := aZ ((by rw [hg]; exact (lZ (by repeat (first | (with_reducible first | exact HB.out | apply lA | apply lN | apply lD | refine lS ?_ GE509.out) | exact HB.out))) : w.heap.size ≤ gb512)); have n5_ := aZ ((by rw [hg]; exact Nat.ne_of_lt (blk_lt (g := gb509) (o := .cells #[.int .i64 0, .int .i64 0] 26 (0, 0)) (by (with_reducible repeat (first | refine bN ?_ _ | refine bD ?_ | refine bA ?_ _)); exact BK509.out)) : gb509 ≠ gb512)); have n6_ := aZ ((by rw [hg]; exact Nat.ne_of_gt (blk_lt (g := gb509) (o := .cells #[.int .i64 0, .int .i64 0] 26 (0, 0)) (by (with_reducible repeat (first | refine bN ?_ _ | refine bD ?_ | refine bA ?_ _)); exact BK509.out)) : gb512 ≠ gb509)); clear BK509; clear HB; have BK509 := n0_; have HB := n1_; have BK512 := n2_; have GW512 := n3_; have GE512 := n4_; have NB509_512 := n5_; have NB512_509 := n6_; clear n0_ n1_ n2_ n3_ n4_ n5_ n6_; clear hb hbox hg; have hnb18 := NB512_509.out; have hnc18 := NB509_512.out; have hcz19_0 : w17.cell? ⟨gb512, 0, none⟩ = some (.int .i64 0) := (blk_cell BK512.out 0).trans rfl; have hcz19_1 : w17.cell? ⟨gb512, 1, none⟩ = some (.int .i64 0) := (blk_cell BK512.out 1).trans rfl; have hfz19_0 := blk_frozen BK512.out 0; have hfz19_1 := blk_frozen BK512.out 1) | ((with_reducible refine gate_dst (N := 21) rfl ?_); refine Kd.R_make Kd.bool _ 4 rfl (N := 21) rfl 37 _ _ rfl (l0.length : Int) rfl rfl Try.underlying37 (.bool false) 1 info4 rfl (by decide) (by omega) false (ok := fun _ => True) (okp := fun _ => True) rfl (fun _ hk => hk) trivial (of_decide_eq_true (by first | (with_reducible assumption) | assumption)) (Nat.le_trans (Nat.mul_le_mul_right _ (of_decide_eq_true (by first | (with_reducible assumption) | assumption) : (l0.length : Int).toNat ≤ 281474976710656)) (by omega)) (Below.refl _ _) (Nat.le_refl _) ?_; intro v514 w20 ho21 hb hg_ hnew_; clear hg_ hnew_; (first | rw [← Ny513.out] at ho21 | (simp only [Int.reduceToNat] at ho21; rw [← Ny513.out] at ho21)); have n0_ := aZ (Kd.R_lower ho21 (lZ (by repeat (first | (with_reducible first | exact HB.out | apply lA | apply lN | apply lD | refine lS ?_ GE509.out | refine lS ?_ GE512.out) | exact HB.out)))); have n1_ := aZ (blk_below (g := gb509) (o := .cells #[.int .i64 0, .int .i64 0] 26 (0, 0)) (by (with_reducible repeat (first | refine bN ?_ _ | refine bD ?_ | refine bA ?_ _)); refine blk_far ?_ NB509_512.out _; (with_reducible repeat (first | refine bN ?_ _ | refine bD ?_ | refine bA ?_ _)); refine blk_far ?_ NB509_512.out _; (with_reducible repeat (first | refine bN ?_ _ | refine bD ?_ | refine bA ?_ _)); exact BK509.out) hb); have n2_ := aZ (blk_below (g := gb512) (o := .cells #[.int .i64 t510, .int .i64 t511] 26 (0, 0)) (by (with_reducible repeat (first | refine bN ?_ _ | refine bD ?_ | refine bA ?_ _)); refine blk_put (cs := #[.int .i64 t510, .int .i64 0]) ?_ 1 _ rfl; (with_reducible repeat (first | refine bN ?_ _ | refine bD ?_ | refine bA ?_ _)); refine blk_put (cs := #[.int .i64 0, .int .i64 0]) ?_ 0 _ rfl; (with_reducible repeat (first | refine bN ?_ _ | refine bD ?_ | refine bA ?_ _)); exact BK512.out) hb); have n3_ := aZ (lT (by repeat (first | (with_reducible first | exact HB.out | apply lA | apply lN | apply lD | refine lS ?_ GE509.out | refine lS ?_ GE512.out) | exact HB.out)) hb); clear BK509; clear BK512; clear HB; have HO515 := n0_; have BK509 := n1_; have BK512 := n2_; have HB := n3_; clear n0_ n1_ n2_ n3_; clear hb ho21))
  go_loopg [24] k (fun kq v24 w' => ∃ (x5_1 : List Bool) (x24_1 : Int), v24 = .int .i64 x24_1 ∧ Aside0 (history_Heads.l0 kq x5_1 l0 (l0.length : Int) x24_1 = some (r1, r2, r3)) ∧ Aside0 (kq ≤ k) ∧ Aside0 (Kd.R Kd.bool 4 w' w.heap.size (fun _ => True) v514 x5_1) ∧ Aside0 (w'.heap[gb509]? = some (.cells #[.int .i64 0, .int .i64 0] 26 (0, 0))) ∧ Aside0 (w'.heap[gb512]? = some (.cells #[.int .i64 t510, .int .i64 t511] 26 (0, 0))) ∧ Aside0 (Below w.heap.size w w'))
  case atStart => exact ⟨(y513), (0), (by first | rfl | (simp; done) | (simp [*]; done)), H', ⟨Nat.le_refl _⟩, ⟨by (with_reducible repeat (first | apply Kd.rA | apply Kd.rN | apply Kd.rD)); exact HO515.out⟩, ⟨by (with_reducible repeat (first | refine bN ?_ _ | refine bD ?_ | refine bA ?_ _)); exact BK509.out⟩, ⟨by (with_reducible repeat (first | refine bN ?_ _ | refine bD ?_ | refine bA ?_ _)); exact BK512.out⟩, ⟨by repeat (first | (with_reducible first | exact HB.out | apply lA | apply lN | apply lD | refine lS ?_ GE509.out | refine lS ?_ GE512.out) | exact HB.out)⟩⟩
  case round =>
   clear H'
   (try clear c3); (try clear c3b0); (try clear c13); (try clear c13b0); (try clear c13b1); (try clear c14); (try clear c14b0); (try clear c14b1); (try clear hcz19_0); (try clear hcz19_1); (try clear hfz19_0); (try clear hfz19_1)
   obtain ⟨x5_1, x24_1, rfl, HA, HK1, HO_5, BK509, BK512, HB⟩ := hrel
   cases gk with
   | zero => exact absurd HA.out (by simp [history_Heads.l0])
   | succ k1 =>
    have H := HA.out
    clear HA
    simp only [history_Heads.l0] at H
    by_cases c22 : x24_1 < (l0.length : Int)
    rotate_left
    · rw [if_neg c22] at H
      have c22b0 : decide (x24_1 < (l0.length : Int)) = false := decide_eq_false c22
      clear c22
      have H' := aZ H
      clear H
      obtain ⟨Ao37, co37, eo37⟩ := Kd.R_slice HO_5.out
      subst eo37
      go_wp2
      go_loopg [10, 42] k1 (fun kq v10 v42 w' => ∃ (x10_2 : List Int) (x42_2 : Int), v42 = .int .i64 x42_2 ∧ Aside0 (history_Heads.l2 kq x10_2 x5_1 (x5_1.length : Int) x42_2 = some (r1, r2, r3)) ∧ Aside0 (kq ≤ k1) ∧ Aside0 (Kd.R (Kd.int .i64) 3 w' w.heap.size (fun _ => True) v10 x10_2) ∧ Aside0 (Kd.R Kd.bool 4 w' w.heap.size (fun _ => True) (.slice Ao37 x5_1.length co37) x5_1) ∧ Aside0 (w'.heap[gb509]? = some (.cells #[.int .i64 0, .int .i64 0] 26 (0, 0))) ∧ Aside0 (w'.heap[gb512]? = some (.cells #[.int .i64 t510, .int .i64 t511] 26 (0, 0))) ∧ Aside0 (Below w.heap.size w w'))
      case atStart => exact ⟨(([] : List Int)), (0), (by first | rfl | (simp; done) | (simp [*]; done)), H', ⟨Nat.le_refl _⟩, ⟨by first | exact Kd.R_nil _ _ _ _ _ | exact Kd.N_nil _ _ _ _ _ | exact Kd.V_nil _ _ _ _ _ | exact Kd.Q_nil _ _ _ _ _ | exact Kd.S_nil _ _ _ _ _⟩, ⟨by (with_reducible repeat (first | apply Kd.rA | apply Kd.rN | apply Kd.rD)); exact HO_5.out⟩, ⟨by (with_reducible repeat (first | refine bN ?_ _ | refine bD ?_ | refine bA ?_ _)); exact BK509.out⟩, ⟨by (with_reducible repeat (first | refine bN ?_ _ | refine bD ?_ | refine bA ?_ _)); exact BK512.out⟩, ⟨by repeat (first | (with_reducible first | exact HB.out | apply lA | apply lN | apply lD | refine lS ?_ GE509.out | refine lS ?_ GE512.out) | exact HB.out)⟩⟩
      case round =>
       clear H'
       (try clear c22); (try clear c22b0)
       obtain ⟨x10_2, x42_2, rfl, HA, HK2, HO_10, HO_40, BK509, BK512, HB⟩ := hrel
       cases gk with
       | zero => exact absurd HA.out (by simp [history_Heads.l2])
       | succ k2 =>
        have H := HA.out
        clear HA
        simp only [history_Heads.l2] at H
        by_cases c38 : x42_2 < (x5_1.length : Int)
        rotate_left
        · rw [if_neg c38] at H
          have c38b0 : decide (x42_2 < (x5_1.length : Int)) = false := decide_eq_false c38
          clear c38
          simp only [Option.some.injEq, Prod.mk.injEq] at H
          obtain ⟨rfl, rfl, rfl⟩ := H
          have hnb45 := NB509_512.out
          have hnc45 := NB512_509.out
          have hcz46_0 : wr.cell? ⟨gb509, 0, none⟩ = some (.int .i64 0) := (blk_cell BK509.out 0).trans rfl
          have hcz46_1 : wr.cell? ⟨gb509, 1, none⟩ = some (.int .i64 0) := (blk_cell BK509.out 1).trans rfl
          have hfz46_0 := blk_frozen BK509.out 0
          have hfz46_1 := blk_frozen BK509.out 1
          go_wp2
          refine bodyPost_ret (results_tc rfl _ _ gb509 26 #[.int .i64 0, .int .i64 0] (0, 0) _ rfl (by (with_reducible repeat (first | refine bN ?_ _ | refine bD ?_ | refine bA ?_ _)); refine blk_put (cs := #[.int .i64 0, .int .i64 0]) ?_ 1 _ rfl; (with_reducible repeat (first | refine bN ?_ _ | refine bD ?_ | refine bA ?_ _)); refine blk_put (cs := #[.int .i64 0, .int .i64 0]) ?_ 0 _ rfl; (with_reducible repeat (first | refine bN ?_ _ | refine bD ?_ | refine bA ?_ _)); exact BK509.out) Try.underlying26 rfl (by kernel_rfl)) rfl ?_
          exact ⟨_, by first | rfl | (simp [errW_none, errW_some] <;> rfl) | (simp [*, errW_none, errW_some] <;> rfl), by (with_reducible repeat (first | apply Kd.rA | apply Kd.rN | apply Kd.rD)); exact Kd.R_mono (Kd.R_far (p := ⟨gb509, 1, none⟩) (Kd.R_far (p := ⟨gb509, 0, none⟩) (Kd.R_types HO_10.out BK509.out (by decide)) (fun _ hk => hk.2) (.int .i64 0)) (fun _ hk => hk.2) (.int .i64 0)) (fun _ hk => trivial), by repeat (first | (with_reducible first | exact HB.out | apply lA | apply lN | apply lD | refine lS ?_ GE509.out | refine lS ?_ GE512.out) | exact HB.out)⟩
        rw [if_pos c38] at H
        have c38b0 : decide (x42_2 < (x5_1.length : Int)) = true := decide_eq_true c38
        clear c38
        by_cases c39 : 0 ≤ x42_2
        rotate_left
        · rw [if_neg c39] at H
          exact absurd H (by simp)
        rw [if_pos c39] at H
        have c39b0 : decide (0 ≤ x42_2) = true := decide_eq_true c39
        clear c39
        by_cases c40 : x42_2 < (x5_1.length : Int)
        rotate_left
        · rw [if_neg c40] at H
          exact absurd H (by simp)
        rw [if_pos c40] at H
        have c40b0 : decide (x42_2 < (x5_1.length : Int)) = true := decide_eq_true c40
        clear c40
        obtain ⟨bq41, hbq41⟩ : ∃ b_ : Bool, b_ = (rdOf false x5_1 x42_2) := ⟨_, rfl⟩
        replace H : (if bq41 = true then (history_Heads.l2 k2 x10_2 x5_1 (x5_1.length : Int) (wrap64 (x42_2 + 1))) else (if x10_2.length < 17592186044416 then (history_Heads.l2 k2 (x10_2 ++ [x42_2]) x5_1 (x5_1.length : Int) (wrap64 (x42_2 + 1))) else (none))) = some (r1, r2, r3) := by rw [← hbq41] at H; exact H
        have Nbq41 := aZ hbq41
        clear hbq41
        by_cases c42 : bq41 = true
        · subst c42
          have H1 : (history_Heads.l2 k2 x10_2 x5_1 (x5_1.length : Int) (wrap64 (x42_2 + 1))) = some (r1, r2, r3) := by rw [if_pos rfl] at H; exact H
          clear H
          have H := H1
          clear H1
          have H' := aZ H
          clear H
          have p520 : 0 ≤ (x42_2 : Int) := of_decide_eq_true (by first | (with_reducible assumption) | assumption)
          have q520 : x42_2 < (x5_1.length : Int) := of_decide_eq_true (by first | (with_reducible assumption) | assumption)
          obtain ⟨ad520, e520, hx520_0⟩ := Kd.at_bool (Kd.R_reads' HO_40.out).2.2 x42_2 p520 q520
          (try rw [← Nbq41.out] at hx520_0)
          cases e520
          replace p520 := eq_true p520
          replace q520 := eq_true q520
          go_wp2
          go_roundg k2
          case measure => have := HK1.out; have := HK2.out; omega
          case rel => exact ⟨(x10_2), (wrap64 (x42_2 + 1)), (by first | rfl | (simp; done) | (simp [*]; done)), H', ⟨by have := HK1.out; have := HK2.out; omega⟩, ⟨by (with_reducible repeat (first | apply Kd.rA | apply Kd.rN | apply Kd.rD)); exact HO_10.out⟩, ⟨by (with_reducible repeat (first | apply Kd.rA | apply Kd.rN | apply Kd.rD)); exact HO_40.out⟩, ⟨by (with_reducible repeat (first | refine bN ?_ _ | refine bD ?_ | refine bA ?_ _)); exact BK509.out⟩, ⟨by (with_reducible repeat (first | refine bN ?_ _ | refine bD ?_ | refine bA ?_ _)); exact BK512.out⟩, ⟨by repeat (first | (with_reducible first | exact HB.out | apply lA | apply lN | apply lD | refine lS ?_ GE509.out | refine lS ?_ GE512.out) | exact HB.out)⟩⟩
        replace c42 := Bool.eq_false_iff.mpr c42
        subst c42
        have H1 : (if x10_2.length < 17592186044416 then (history_Heads.l2 k2 (x10_2 ++ [x42_2]) x5_1 (x5_1.length : Int) (wrap64 (x42_2 + 1))) else (none)) = some (r1, r2, r3) := by rw [if_neg (show ¬ (false = true) by decide)] at H; exact H
        clear H
        have H := H1
        clear H1
        by_cases c43 : x10_2.length < 17592186044416
        rotate_left
        · rw [if_neg c43] at H
          exact absurd H (by simp)
        rw [if_pos c43] at H
        have LMc43 := aZ c43
        clear c43
        obtain ⟨y521, hy521⟩ : ∃ y_ : List Int, y_ = (x10_2 ++ [x42_2]) := ⟨_, rfl⟩
        replace H : (history_Heads.l2 k2 y521 x5_1 (x5_1.length : Int) (wrap64 (x42_2 + 1))) = some (r1, r2, r3) := by first | (rw [hy521]; with_reducible exact H) | (have H2_ := (Option.bind_some _ _).symm.trans H; rw [hy521]; with_reducible exact H2_) | (have H2_ := (Option.bind_some _ _).symm.trans H; with_reducible exact H2_) | with_reducible exact H | (rw [hy521]; exact H) | exact H
        have Ny521 := aZ hy521
        clear hy521
        have H' := aZ H
        clear H
        have p520 : 0 ≤ (x42_2 : Int) := of_decide_eq_true (by first | (with_reducible assumption) | assumption)
        have q520 : x42_2 < (x5_1.length : Int) := of_decide_eq_true (by first | (with_reducible assumption) | assumption)
        obtain ⟨ad520, e520, hx520_0⟩ := Kd.at_bool (Kd.R_reads' HO_40.out).2.2 x42_2 p520 q520
        (try rw [← Nbq41.out] at hx520_0)
        cases e520
        replace p520 := eq_true p520
        replace q520 := eq_true q520
        go_wp2_with (first | ((with_reducible refine gate_builtin (b := .append) (xs := #[.tmp 49, .tmp 51]) rfl ?_); at_builtin; refine Kd.R_append (Kd.int .i64) (w0 := w) w.heap.size rfl (.tmp 49) (.tmp 51) 23 3 (.int .i64 0) 8 rfl Try.underlying23 info3 rfl (by decide) (by omega) u10 x10_2 x42_2 [.int .i64 x42_2] (fun _ => True) (fun _ => False) rfl rfl ?aP (fun _ hk => hk.elim) ?aF ?aO ?aB ?aS ?aL ?_; (case aP => exact rfl); (case aB => exact (by repeat (first | (with_reducible first | exact HB.out | apply lA | apply lN | apply lD | refine lS ?_ GE509.out | refine lS ?_ GE512.out) | exact HB.out))); (case aF => exact (fun _ _ => trivial)); (case aO => exact (by (with_reducible repeat (first | apply Kd.rA | apply Kd.rN | apply Kd.rD)); exact HO_10.out)); (case aS => exact (lZ (by repeat (first | (with_reducible first | exact HB.out | apply lA | apply lN | apply lD | refine lS ?_ GE509.out | refine lS ?_ GE512.out) | exact HB.out)))); (case aL => have := LMc43.out; omega); intro v522 w44 ho hb hg hat; rw [← Ny521.out] at ho; have n0_ := aZ (Kd.R_over' (by (with_reducible repeat (first | apply Kd.rA | apply Kd.rN | apply Kd.rD)); exact HO_40.out) (Kd.R_typed (by (with_reducible repeat (first | apply Kd.rA | apply Kd.rN | apply Kd.rD)); exact HO_10.out)) (by decide) hg); have n1_ := aZ (blk_grown (g := gb509) (o := .cells #[.int .i64 0, .int .i64 0] 26 (0, 0)) (by (with_reducible repeat (first | refine bN ?_ _ | refine bD ?_ | refine bA ?_ _)); exact BK509.out) hg (Kd.R_ne HO_10.out BK509.out (by decide))); have n2_ := aZ (blk_grown (g := gb512) (o := .cells #[.int .i64 t510, .int .i64 t511] 26 (0, 0)) (by (with_reducible repeat (first | refine bN ?_ _ | refine bD ?_ | refine bA ?_ _)); exact BK512.out) hg (Kd.R_ne HO_10.out BK512.out (by decide))); have n3_ := aZ (hb); have n4_ := aZ (ho); clear HO_40; clear BK509; clear BK512; clear HB; clear HO_10; have HO_40 := n0_; have BK509 := n1_; have BK512 := n2_; have HB := n3_; have HO523 := n4_; clear n0_ n1_ n2_ n3_ n4_; clear ho hb hg hat))
        go_roundg k2
        case measure => have := HK1.out; have := HK2.out; omega
        case rel => exact ⟨(y521), (wrap64 (x42_2 + 1)), (by first | rfl | (simp; done) | (simp [*]; done)), H', ⟨by have := HK1.out; have := HK2.out; omega⟩, ⟨by (with_reducible repeat (first | apply Kd.rA | apply Kd.rN | apply Kd.rD)); exact HO523.out⟩, ⟨by (with_reducible repeat (first | apply Kd.rA | apply Kd.rN | apply Kd.rD)); exact HO_40.out⟩, ⟨by (with_reducible repeat (first | refine bN ?_ _ | refine bD ?_ | refine bA ?_ _)); exact BK509.out⟩, ⟨by (with_reducible repeat (first | refine bN ?_ _ | refine bD ?_ | refine bA ?_ _)); exact BK512.out⟩, ⟨by repeat (first | (with_reducible first | exact HB.out | apply lA | apply lN | apply lD | refine lS ?_ GE509.out | refine lS ?_ GE512.out) | exact HB.out)⟩⟩
    rw [if_pos c22] at H
    have c22b0 : decide (x24_1 < (l0.length : Int)) = true := decide_eq_true c22
    clear c22
    by_cases c23 : 0 ≤ x24_1
    rotate_left
    · rw [if_neg c23] at H
      exact absurd H (by simp)
    rw [if_pos c23] at H
    have c23b0 : decide (0 ≤ x24_1) = true := decide_eq_true c23
    clear c23
    by_cases c24 : x24_1 < (l0.length : Int)
    rotate_left
    · rw [if_neg c24] at H
      exact absurd H (by simp)
    rw [if_pos c24] at H
    have c24b0 : decide (x24_1 < (l0.length : Int)) = true := decide_eq_true c24
    clear c24
    have H' := aZ H
    clear H
    have p516 : 0 ≤ (x24_1 : Int) := of_decide_eq_true (by first | (with_reducible assumption) | assumption)
    have q516 : x24_1 < (l0.length : Int) := of_decide_eq_true (by first | (with_reducible assumption) | assumption)
    obtain ⟨ad516, A516_0, c516_0, e516, hx516_0, hx516_1, hx516_2, hx516_3, hx516_4, hl516_0, hi516_0⟩ := at_T49 HR0.out x24_1 p516 q516
    cases e516
    replace hx516_0 := (HB.out.cell (World.block_lt_of_cell? w _ hx516_0)).trans hx516_0
    replace hx516_1 := (HB.out.cell (World.block_lt_of_cell? w _ hx516_1)).trans hx516_1
    replace hx516_2 := (HB.out.cell (World.block_lt_of_cell? w _ hx516_2)).trans hx516_2
    replace hx516_3 := (HB.out.cell (World.block_lt_of_cell? w _ hx516_3)).trans hx516_3
    replace hx516_4 := (HB.out.cell (World.block_lt_of_cell? w _ hx516_4)).trans hx516_4
    have HR516_0 := aZ hi516_0
    have HC516_0 := aZ hl516_0
    clear hi516_0 hl516_0
    replace p516 := eq_true p516
    replace q516 := eq_true q516
    go_wp2_with (first | ((with_reducible refine gate_dst (N := 7) rfl ?_); refine box_event ?hg (N := 7) ?hd (cs := #[.slice none 0 0, .int .i64 0, .int .i64 0, .int .i64 0, .string (⟨#[]⟩ : ByteArray)]) (t := 49) ?hr ?_; (case hd => rfl); (case hg => rfl); (case hr => first | (go_simp; done) | (go_simp; rfl)); intro gb517 hg w25 hbox hb; have n0_ := aZ (Kd.R_below (by (with_reducible repeat (first | apply Kd.rA | apply Kd.rN | apply Kd.rD)); exact HO_5.out) hb); have n1_ := aZ (blk_below (g := gb509) (o := .cells #[.int .i64 0, .int .i64 0] 26 (0, 0)) (by (with_reducible repeat (first | refine bN ?_ _ | refine bD ?_ | refine bA ?_ _)); exact BK509.out) hb); have n2_ := aZ (blk_below (g := gb512) (o := .cells #[.int .i64 t510, .int .i64 t511] 26 (0, 0)) (by (with_reducible repeat (first | refine bN ?_ _ | refine bD ?_ | refine bA ?_ _)); exact BK512.out) hb); have n3_ := aZ (lT (by repeat (first | (with_reducible first | exact HB.out | apply lA | apply lN | apply lD | refine lS ?_ GE509.out | refine lS ?_ GE512.out) | exact HB.out)) hb); have n4_ := aZ (hbox); have n5_ := aZ ((by rw [hg]; exact (lZ (by repeat (first | (with_reducible first | exact HB.out | apply lA | apply lN | apply lD | refine lS ?_ GE509.out | refine lS ?_ GE512.out) | exact HB.out))) : w.heap.size ≤ gb517)); have n6_ := aZ ((by rw [hg]; exact (lZ (by repeat (first | (with_reducible first | exact HB.out | apply lA | apply lN | apply lD | refine lS ?_ GE509.out | refine lS ?_ GE512.out) | exact HB.out))) : w.heap.size ≤ gb517)); have n7_ := aZ ((by rw [hg]; exact Nat.ne_of_lt (blk_lt (g := gb509) (o := .cells #[.int .i64 0, .int .i64 0] 26 (0, 0)) (by (with_reducible repeat (first | refine bN ?_ _ | refine bD ?_ | refine bA ?_ _)); exact BK509.out)) : gb509 ≠ gb517)); have n8_ := aZ ((by rw [hg]; exact Nat.ne_of_gt (blk_lt (g := gb509) (o := .cells #[.int .i64 0, .int .i64 0] 26 (0, 0)) (by (with_reducible repeat (first | refine bN ?_ _ | refine bD ?_ | refine bA ?_ _)); exact BK509.out)) : gb517 ≠ gb509)); have n9_ := aZ ((by rw [hg]; exact Nat.ne_of_lt (blk_lt (g := gb512) (o := .cells #[.int .i64 t510, .int .i64 t511] 26 (0, 0)) (by (with_reducible repeat (first | refine bN ?_ _ | refine bD ?_ | refine bA ?_ _)); exact BK512.out)) : gb512 ≠ gb517)); have n10_ := aZ ((by rw [hg]; exact Nat.ne_of_gt (blk_lt (g := gb512) (o := .cells #[.int .i64 t510, .int .i64 t511] 26 (0, 0)) (by (with_reducible repeat (first | refine bN ?_ _ | refine bD ?_ | refine bA ?_ _)); exact BK512.out)) : gb517 ≠ gb512)); clear HO_5; clear BK509; clear BK512; clear HB; have HO_5 := n0_; have BK509 := n1_; have BK512 := n2_; have HB := n3_; have BK517 := n4_; have GW517 := n5_; have GE517 := n6_; have NB509_517 := n7_; have NB517_509 := n8_; have NB512_517 := n9_; have NB517_512 := n10_; clear n0_ n1_ n2_ n3_ n4_ n5_ n6_ n7_ n8_ n9_ n10_; clear hb hbox hg; have hnb26 := NB517_509.out; have hnc26 := NB509_517.out; have hnb27 := NB517_512.out; have hnc27 := NB512_517.out; have hcz28_0 : w25.cell? ⟨gb517, 0, none⟩ = some (.slice none 0 0) := (blk_cell BK517.out 0).trans rfl; have hcz28_1 : w25.cell? ⟨gb517, 1, none⟩ = some (.int .i64 0) := (blk_cell BK517.out 1).trans rfl; have hcz28_2 : w25.cell? ⟨gb517, 2, none⟩ = some (.int .i64 0) := (blk_cell BK517.out 2).trans rfl; have hcz28_3 : w25.cell? ⟨gb517, 3, none⟩ = some (.int .i64 0) := (blk_cell BK517.out 3).trans rfl; have hcz28_4 : w25.cell? ⟨gb517, 4, none⟩ = some (.string (⟨#[]⟩ : ByteArray)) := (blk_cell BK517.out 4).trans rfl; have hfz28_0 := blk_frozen BK517.out 0; have hfz28_1 := blk_frozen BK517.out 1; have hfz28_2 := blk_frozen BK517.out 2; have hfz28_3 := blk_frozen BK517.out 3; have hfz28_4 := blk_frozen BK517.out 4))
    go_loopg [31] k1 (fun kq v31 w' => ∃ (x5_2 : List Bool) (x31_2 : Int), v31 = .int .i64 x31_2 ∧ Aside0 (history_Heads.l1 kq x5_2 l0 (l0.length : Int) x24_1 ((rd_T49 l0 x24_1).f0) (((rd_T49 l0 x24_1).f0).length : Int) x31_2 = some (r1, r2, r3)) ∧ Aside0 (kq ≤ k1) ∧ Aside0 (Kd.R Kd.bool 4 w' w.heap.size (fun _ => True) v514 x5_2) ∧ Aside0 (w'.heap[gb509]? = some (.cells #[.int .i64 0, .int .i64 0] 26 (0, 0))) ∧ Aside0 (w'.heap[gb512]? = some (.cells #[.int .i64 t510, .int .i64 t511] 26 (0, 0))) ∧ Aside0 (w'.heap[gb517]? = some (.cells #[(.slice A516_0 ((rd_T49 l0 x24_1).f0).length c516_0), .int .i64 ((rd_T49 l0 x24_1).f1), .int .i64 ((rd_T49 l0 x24_1).f2), .int .i64 ((rd_T49 l0 x24_1).f3), .string ((rd_T49 l0 x24_1).f4)] 49 (0, 0))) ∧ Aside0 (Below w.heap.size w w'))
    case atStart => exact ⟨(x5_1), (0), (by first | rfl | (simp; done) | (simp [*]; done)), H', ⟨Nat.le_refl _⟩, ⟨by (with_reducible repeat (first | apply Kd.rA | apply Kd.rN | apply Kd.rD)); exact Kd.R_mono (Kd.R_far (p := ⟨gb517, 4, none⟩) (Kd.R_far (p := ⟨gb517, 3, none⟩) (Kd.R_far (p := ⟨gb517, 2, none⟩) (Kd.R_far (p := ⟨gb517, 1, none⟩) (Kd.R_far (p := ⟨gb517, 0, none⟩) (Kd.R_types HO_5.out BK517.out (by decide)) (fun _ hk => hk.2) (.slice A516_0 ((rd_T49 l0 x24_1).f0).length c516_0)) (fun _ hk => hk.2) (.int .i64 ((rd_T49 l0 x24_1).f1))) (fun _ hk => hk.2) (.int .i64 ((rd_T49 l0 x24_1).f2))) (fun _ hk => hk.2) (.int .i64 ((rd_T49 l0 x24_1).f3))) (fun _ hk => hk.2) (.string ((rd_T49 l0 x24_1).f4))) (fun _ hk => trivial)⟩, ⟨by (with_reducible repeat (first | refine bN ?_ _ | refine bD ?_ | refine bA ?_ _)); refine blk_far ?_ NB509_517.out _; (with_reducible repeat (first | refine bN ?_ _ | refine bD ?_ | refine bA ?_ _)); refine blk_far ?_ NB509_517.out _; (with_reducible repeat (first | refine bN ?_ _ | refine bD ?_ | refine bA ?_ _)); refine blk_far ?_ NB509_517.out _; (with_reducible repeat (first | refine bN ?_ _ | refine bD ?_ | refine bA ?_ _)); refine blk_far ?_ NB509_517.out _; (with_reducible repeat (first | refine bN ?_ _ | refine bD ?_ | refine bA ?_ _)); refine blk_far ?_ NB509_517.out _; (with_reducible repeat (first | refine bN ?_ _ | refine bD ?_ | refine bA ?_ _)); exact BK509.out⟩, ⟨by (with_reducible repeat (first | refine bN ?_ _ | refine bD ?_ | refine bA ?_ _)); refine blk_far ?_ NB512_517.out _; (with_reducible repeat (first | refine bN ?_ _ | refine bD ?_ | refine bA ?_ _)); refine blk_far ?_ NB512_517.out _; (with_reducible repeat (first | refine bN ?_ _ | refine bD ?_ | refine bA ?_ _)); refine blk_far ?_ NB512_517.out _; (with_reducible repeat (first | refine bN ?_ _ | refine bD ?_ | refine bA ?_ _)); refine blk_far ?_ NB512_517.out _; (with_reducible repeat (first | refine bN ?_ _ | refine bD ?_ | refine bA ?_ _)); refine blk_far ?_ NB512_517.out _; (with_reducible repeat (first | refine bN ?_ _ | refine bD ?_ | refine bA ?_ _)); exact BK512.out⟩, ⟨by (with_reducible repeat (first | refine bN ?_ _ | refine bD ?_ | refine bA ?_ _)); refine blk_put (cs := #[.slice A516_0 ((rd_T49 l0 x24_1).f0).length c516_0, .int .i64 ((rd_T49 l0 x24_1).f1), .int .i64 ((rd_T49 l0 x24_1).f2), .int .i64 ((rd_T49 l0 x24_1).f3), .string (⟨#[]⟩ : ByteArray)]) ?_ 4 _ rfl; (with_reducible repeat (first | refine bN ?_ _ | refine bD ?_ | refine bA ?_ _)); refine blk_put (cs := #[.slice A516_0 ((rd_T49 l0 x24_1).f0).length c516_0, .int .i64 ((rd_T49 l0 x24_1).f1), .int .i64 ((rd_T49 l0 x24_1).f2), .int .i64 0, .string (⟨#[]⟩ : ByteArray)]) ?_ 3 _ rfl; (with_reducible repeat (first | refine bN ?_ _ | refine bD ?_ | refine bA ?_ _)); refine blk_put (cs := #[.slice A516_0 ((rd_T49 l0 x24_1).f0).length c516_0, .int .i64 ((rd_T49 l0 x24_1).f1), .int .i64 0, .int .i64 0, .string (⟨#[]⟩ : ByteArray)]) ?_ 2 _ rfl; (with_reducible repeat (first | refine bN ?_ _ | refine bD ?_ | refine bA ?_ _)); refine blk_put (cs := #[.slice A516_0 ((rd_T49 l0 x24_1).f0).length c516_0, .int .i64 0, .int .i64 0, .int .i64 0, .string (⟨#[]⟩ : ByteArray)]) ?_ 1 _ rfl; (with_reducible repeat (first | refine bN ?_ _ | refine bD ?_ | refine bA ?_ _)); refine blk_put (cs := #[.slice none 0 0, .int .i64 0, .int .i64 0, .int .i64 0, .string (⟨#[]⟩ : ByteArray)]) ?_ 0 _ rfl; (with_reducible repeat (first | refine bN ?_ _ | refine bD ?_ | refine bA ?_ _)); exact BK517.out⟩, ⟨by repeat (first | (with_reducible first | exact HB.out | apply lA | apply lN | apply lD | refine lS ?_ GE509.out | refine lS ?_ GE512.out | refine lS ?_ GE517.out) | exact HB.out)⟩⟩
    case round =>
     clear H'
     (try clear c22); (try clear c22b0); (try clear c23); (try clear c23b0); (try clear c24); (try clear c24b0); (try clear hcz28_0); (try clear hcz28_1); (try clear hcz28_2); (try clear hcz28_3); (try clear hcz28_4); (try clear hfz28_0); (try clear hfz28_1); (try clear hfz28_2); (try clear hfz28_3); (try clear hfz28_4); (try clear hx516_0); (try clear hx516_1); (try clear hx516_2); (try clear hx516_3); (try clear hx516_4); (try clear p516); (try clear q516)
     obtain ⟨x5_2, x31_2, rfl, HA, HK2, HO_5, BK509, BK512, BK517, HB⟩ := hrel
     cases gk with
     | zero => exact absurd HA.out (by simp [history_Heads.l1])
     | succ k2 =>
      have H := HA.out
      clear HA
      simp only [history_Heads.l1] at H
      by_cases c29 : x31_2 < (((rd_T49 l0 x24_1).f0).length : Int)
      rotate_left
      · rw [if_neg c29] at H
        have c29b0 : decide (x31_2 < (((rd_T49 l0 x24_1).f0).length : Int)) = false := decide_eq_false c29
        clear c29
        have H' := aZ H
        clear H
        go_wp2
        go_roundg k2
        case measure => have := HK1.out; have := HK2.out; omega
        case rel => exact ⟨(x5_2), (wrap64 (x24_1 + 1)), (by first | rfl | (simp; done) | (simp [*]; done)), H', ⟨by have := HK1.out; have := HK2.out; omega⟩, ⟨by (with_reducible repeat (first | apply Kd.rA | apply Kd.rN | apply Kd.rD)); exact HO_5.out⟩, ⟨by (with_reducible repeat (first | refine bN ?_ _ | refine bD ?_ | refine bA ?_ _)); exact BK509.out⟩, ⟨by (with_reducible repeat (first | refine bN ?_ _ | refine bD ?_ | refine bA ?_ _)); exact BK512.out⟩, ⟨by repeat (first | (with_reducible first | exact HB.out | apply lA | apply lN | apply lD | refine lS ?_ GE509.out | refine lS ?_ GE512.out | refine lS ?_ GE517.out) | exact HB.out)⟩⟩
      rw [if_pos c29] at H
      have c29b0 : decide (x31_2 < (((rd_T49 l0 x24_1).f0).length : Int)) = true := decide_eq_true c29
      clear c29
      by_cases c30 : 0 ≤ x31_2
      rotate_left
      · rw [if_neg c30] at H
        exact absurd H (by simp)
      rw [if_pos c30] at H
      have c30b0 : decide (0 ≤ x31_2) = true := decide_eq_true c30
      clear c30
      by_cases c31 : x31_2 < (((rd_T49 l0 x24_1).f0).length : Int)
      rotate_left
      · rw [if_neg c31] at H
        exact absurd H (by simp)
      rw [if_pos c31] at H
      have c31b0 : decide (x31_2 < (((rd_T49 l0 x24_1).f0).length : Int)) = true := decide_eq_true c31
      clear c31
      by_cases c32 : 0 ≤ (rd ((rd_T49 l0 x24_1).f0) x31_2)
      rotate_left
      · rw [if_neg c32] at H
        exact absurd H (by simp)
      rw [if_pos c32] at H
      have c32b0 : decide (0 ≤ (rd ((rd_T49 l0 x24_1).f0) x31_2)) = true := decide_eq_true c32
      clear c32
      by_cases c33 : (rd ((rd_T49 l0 x24_1).f0) x31_2) < (x5_2.length : Int)
      rotate_left
      · rw [if_neg c33] at H
        exact absurd H (by simp)
      rw [if_pos c33] at H
      have c33b0 : decide ((rd ((rd_T49 l0 x24_1).f0) x31_2) < (x5_2.length : Int)) = true := decide_eq_true c33
      clear c33
      obtain ⟨y519, hy519⟩ : ∃ y_ : List Bool, y_ = (x5_2.set ((rd ((rd_T49 l0 x24_1).f0) x31_2) : Int).toNat true) := ⟨_, rfl⟩
      replace H : (history_Heads.l1 k2 y519 l0 (l0.length : Int) x24_1 ((rd_T49 l0 x24_1).f0) (((rd_T49 l0 x24_1).f0).length : Int) (wrap64 (x31_2 + 1))) = some (r1, r2, r3) := by first | (rw [hy519]; with_reducible exact H) | (have H2_ := (Option.bind_some _ _).symm.trans H; rw [hy519]; with_reducible exact H2_) | (have H2_ := (Option.bind_some _ _).symm.trans H; with_reducible exact H2_) | with_reducible exact H | (rw [hy519]; exact H) | exact H
      have Ny519 := aZ hy519
      clear hy519
      have H' := aZ H
      clear H
      have p518 : 0 ≤ (x31_2 : Int) := of_decide_eq_true (by first | (with_reducible assumption) | assumption)
      have q518 : x31_2 < (((rd_T49 l0 x24_1).f0).length : Int) := of_decide_eq_true (by first | (with_reducible assumption) | assumption)
      obtain ⟨ad518, e518, hx518_0⟩ := Kd.at_int HR516_0.out x31_2 p518 q518
      cases e518
      replace hx518_0 := (HB.out.cell (World.block_lt_of_cell? w _ hx518_0)).trans hx518_0
      replace p518 := eq_true p518
      replace q518 := eq_true q518
      have p34 : 0 ≤ ((rd ((rd_T49 l0 x24_1).f0) x31_2) : Int) := of_decide_eq_true (by first | (with_reducible assumption) | assumption)
      have q34 : ((rd ((rd_T49 l0 x24_1).f0) x31_2) : Int) < ((x5_2.length : Int) : Int) := of_decide_eq_true (by first | (with_reducible assumption) | assumption)
      obtain ⟨go34, co34, eo34, gb34, gl34, cl34, HG34⟩ := Kd.R_form HO_5.out (by omega)
      (first | cases eo34 | (injection eo34 with ea_ en_ ec_; (first | subst ea_ | (injection ea_ with ea_; subst ea_)); subst ec_; clear en_))
      have GB34 := aZ gb34
      have GG34 := aZ HG34
      clear gb34 gl34 HG34
      obtain ⟨hx34_0, hf34_0⟩ := Kd.R_celln false HO_5.out ((rd ((rd_T49 l0 x24_1).f0) x31_2) : Int) p34 q34
      replace p34 := eq_true p34
      replace q34 := eq_true q34
      have HP35 := Kd.R_putg HO_5.out ((rd ((rd_T49 l0 x24_1).f0) x31_2) : Int) true
      go_wp2_with (first | ((with_reducible refine gate_store (t := 4) (p := 37) rfl ?_); refine store_event (t := 4) (p := 37) (v := ?vo_w36) (w1 := (wr.setCell ⟨go34, ((rd ((rd_T49 l0 x24_1).f0) x31_2) : Int).toNat, none⟩ (.bool true))) ?hg ?ho ?hn ?hr ?_; (case ho => rfl); (case hg => rfl); (case hn => rfl); (case hr => first | (go_simp; done) | (go_simp; rfl)); intro w36 hw; have hg : wr.grownBy w36 (some go34) := (by rw [hw]; exact HP35.2); have hp_ : Kd.R Kd.bool 4 w36 w.heap.size (fun _ => True) (.slice (some ⟨go34, 0, none⟩) x5_2.length co34) y519 := (by rw [hw, Ny519.out]; exact HP35.1); clear HP35; have n0_ := aZ (hp_); have n1_ := aZ (blk_grown (g := gb509) (o := .cells #[.int .i64 0, .int .i64 0] 26 (0, 0)) (by (with_reducible repeat (first | refine bN ?_ _ | refine bD ?_ | refine bA ?_ _)); exact BK509.out) hg (Kd.R_ne HO_5.out BK509.out (by decide))); have n2_ := aZ (blk_grown (g := gb512) (o := .cells #[.int .i64 t510, .int .i64 t511] 26 (0, 0)) (by (with_reducible repeat (first | refine bN ?_ _ | refine bD ?_ | refine bA ?_ _)); exact BK512.out) hg (Kd.R_ne HO_5.out BK512.out (by decide))); have n3_ := aZ (blk_grown (g := gb517) (o := .cells #[.slice (some ad518) ((rd_T49 l0 x24_1).f0).length c516_0, .int .i64 ((rd_T49 l0 x24_1).f1), .int .i64 ((rd_T49 l0 x24_1).f2), .int .i64 ((rd_T49 l0 x24_1).f3), .string ((rd_T49 l0 x24_1).f4)] 49 (0, 0)) (by (with_reducible repeat (first | refine bN ?_ _ | refine bD ?_ | refine bA ?_ _)); exact BK517.out) hg (Kd.R_ne HO_5.out BK517.out (by decide))); have n4_ := aZ ((by rw [hw]; exact lS (HB.out) GB34.out : Below w.heap.size w w36)); clear HO_5; clear BK509; clear BK512; clear BK517; clear HB; have HO_5 := n0_; have BK509 := n1_; have BK512 := n2_; have BK517 := n3_; have HB := n4_; clear n0_ n1_ n2_ n3_ n4_; clear hg hw hp_))
      go_roundg k2
      case measure => have := HK1.out; have := HK2.out; omega
      case rel => exact ⟨(y519), (wrap64 (x31_2 + 1)), (by first | rfl | (simp; done) | (simp [*]; done)), H', ⟨by have := HK1.out; have := HK2.out; omega⟩, ⟨by (with_reducible repeat (first | apply Kd.rA | apply Kd.rN | apply Kd.rD)); exact HO_5.out⟩, ⟨by (with_reducible repeat (first | refine bN ?_ _ | refine bD ?_ | refine bA ?_ _)); exact BK509.out⟩, ⟨by (with_reducible repeat (first | refine bN ?_ _ | refine bD ?_ | refine bA ?_ _)); exact BK512.out⟩, ⟨by (with_reducible repeat (first | refine bN ?_ _ | refine bD ?_ | refine bA ?_ _)); exact BK517.out⟩, ⟨by repeat (first | (with_reducible first | exact HB.out | apply lA | apply lN | apply lD | refine lS ?_ GE509.out | refine lS ?_ GE512.out | refine lS ?_ GE517.out) | exact HB.out)⟩⟩
end Go.Proofs.Ytojhnjgnpjoacaa.P
