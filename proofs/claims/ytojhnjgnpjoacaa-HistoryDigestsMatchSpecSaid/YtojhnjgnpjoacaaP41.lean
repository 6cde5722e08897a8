/- What the Go functions of this seat compute, and that they do: printed by a program over the kit's print. -/
import Derived.Test.YtojhnjgnpjoacaaP0
import Derived.Test.YtojhnjgnpjoacaaP1
import Derived.Test.YtojhnjgnpjoacaaP2
import Derived.Test.YtojhnjgnpjoacaaP39
import Derived.Test.YtojhnjgnpjoacaaP40
namespace Go.Proofs.Ytojhnjgnpjoacaa.P
open Go.RowKit Go.Proofs.YtojhnjgnpjoacaaW.PrintWords Go.Proofs.YtojhnjgnpjoacaaW.PrintLast Go.Proofs.YtojhnjgnpjoacaaW.PrintMore
attribute [local go_sem] max2_int min2_int max_two min_two max_three min_three max_four min_four   -- for this text's walks alone
set_option linter.unusedVariables false
set_option linter.unusedSimpArgs false

attribute [local go_sem high] eqA26
/-! ### history_Digests: function 33 -/
mutual
def history_Digests.l0 : Nat → List Int → List (S49) → Int → Int → Option (List Int × Int × Int)
  | 0, _, _, _, _ => none
  | k + 1, x5, x23, x24, x25 => if x25 < x24 then (if 0 ≤ x25 then (if x25 < (x23.length : Int) then ((pp_bytes.f ((rd_T49 x23 x25).f4)).bind fun t639 => ((digest_Of.f k t639).bind fun bt642 => ((some (([(rd_T49 x23 x25).f1, (rd_T49 x23 x25).f2, (rd_T49 x23 x25).f3] : List Int) : List Int)).bind fun y646 => (history_Digests.l1 k x5 x25 bt642.1 x23 x24 x25 y646 (y646.length : Int) 0 ((rd_T49 x23 x25).f0) ((rd_T49 x23 x25).f1) ((rd_T49 x23 x25).f2) ((rd_T49 x23 x25).f3) ((rd_T49 x23 x25).f4))))) else (none)) else (none)) else (some (x5, 0, 0))
def history_Digests.l1 : Nat → List Int → Int → Int → List (S49) → Int → Int → List Int → Int → Int → List Int → Int → Int → Int → ByteArray → Option (List Int × Int × Int)
  | 0, _, _, _, _, _, _, _, _, _, _, _, _, _, _ => none
  | k + 1, x5, x6, x8, x23, x24, x25, x43, x44, x45, x639000, x639001, x639002, x639003, x639004 => if x45 < x44 then (if 0 ≤ x45 then (if x45 < (x43.length : Int) then ((digest_Pair.f k x8 (rd x43 x45)).bind fun bt650 => (history_Digests.l1 k x5 x6 bt650.1 x23 x24 x25 x43 x44 (wrap64 (x45 + 1)) x639000 x639001 x639002 x639003 x639004)) else (none)) else (none)) else (history_Digests.l2 k x5 x6 x8 x23 x24 x25 x639000 (x639000.length : Int) 0)
def history_Digests.l2 : Nat → List Int → Int → Int → List (S49) → Int → Int → List Int → Int → Int → Option (List Int × Int × Int)
  | 0, _, _, _, _, _, _, _, _, _ => none
  | k + 1, x5, x6, x8, x23, x24, x25, x57, x58, x59 => if x59 < x58 then (if 0 ≤ x59 then (if x59 < (x57.length : Int) then (if 0 ≤ (rd x57 x59) then (if (rd x57 x59) < (x5.length : Int) then ((digest_Pair.f k x8 (rd x5 (rd x57 x59))).bind fun bt655 => (history_Digests.l2 k x5 x6 bt655.1 x23 x24 x25 x57 x58 (wrap64 (x59 + 1)))) else (none)) else (none)) else (none)) else (none)) else (if 0 ≤ x6 then (if x6 < (x5.length : Int) then (history_Digests.l0 k (x5.set (x6 : Int).toNat x8) x23 x24 (wrap64 (x25 + 1))) else (none)) else (none))
end
def history_Digests.f (k : Nat) (l0 : List (S49)) : Option (List Int × Int × Int) := (history_Validate.f k l0).bind fun bt631 => (if (!(bt631.1 == 0) || (!(bt631.2 == 0))) = true then (some (([] : List Int), bt631.1, bt631.2)) else (if 0 ≤ (l0.length : Int) then (if ((l0.length : Int) : Int).toNat ≤ 35184372088832 then (history_Digests.l0 k (List.replicate ((l0.length : Int) : Int).toNat 0) l0 (l0.length : Int) 0) else (none)) else (none)))
theorem history_Digests.mono_l : ∀ k, (∀ y0 y1 y2 y3, LeO (history_Digests.l0 k y0 y1 y2 y3) (history_Digests.l0 (k + 1) y0 y1 y2 y3)) ∧ (∀ y0 y1 y2 y3 y4 y5 y6 y7 y8 y9 y10 y11 y12 y13, LeO (history_Digests.l1 k y0 y1 y2 y3 y4 y5 y6 y7 y8 y9 y10 y11 y12 y13) (history_Digests.l1 (k + 1) y0 y1 y2 y3 y4 y5 y6 y7 y8 y9 y10 y11 y12 y13)) ∧ (∀ y0 y1 y2 y3 y4 y5 y6 y7 y8, LeO (history_Digests.l2 k y0 y1 y2 y3 y4 y5 y6 y7 y8) (history_Digests.l2 (k + 1) y0 y1 y2 y3 y4 y5 y6 y7 y8))
  | 0 => ⟨fun _ _ _ _ r h => by simp [history_Digests.l0] at h, fun _ _ _ _ _ _ _ _ _ _ _ _ _ _ r h => by simp [history_Digests.l1] at h, fun _ _ _ _ _ _ _ _ _ r h => by simp [history_Digests.l2] at h⟩
  | k + 1 => by
    obtain ⟨ih0, ih1, ih2⟩ := history_Digests.mono_l k
    refine ⟨?_, ?_, ?_⟩
    · intro y0 y1 y2 y3
      unfold history_Digests.l0
      repeat' first
      | (with_reducible exact ih0 _ _ _ _)
      | (with_reducible exact ih1 _ _ _ _ _ _ _ _ _ _ _ _ _ _)
      | (with_reducible exact ih2 _ _ _ _ _ _ _ _ _)
      | (with_reducible exact digest_Of.mono _ _)
      | (with_reducible exact digest_Pair.mono _ _ _)
      | (with_reducible exact history_Validate.mono _ _)
      | (with_reducible exact LeO.refl _)
      | (with_reducible exact LeO.none _)
      | (with_reducible refine LeO.ite ?_ ?_)
      | (with_reducible refine LeO.bind ?_ (fun _ => ?_))
      | exact ih0 _ _ _ _
      | exact ih1 _ _ _ _ _ _ _ _ _ _ _ _ _ _
      | exact ih2 _ _ _ _ _ _ _ _ _
      | exact digest_Of.mono _ _
      | exact digest_Pair.mono _ _ _
      | exact history_Validate.mono _ _
      | exact LeO.none _
      | refine LeO.ite ?_ ?_
      | refine LeO.bind ?_ (fun _ => ?_)
    · intro y0 y1 y2 y3 y4 y5 y6 y7 y8 y9 y10 y11 y12 y13
      unfold history_Digests.l1
      repeat' first
      | (with_reducible exact ih0 _ _ _ _)
      | (with_reducible exact ih1 _ _ _ _ _ _ _ _ _ _ _ _ _ _)
      | (with_reducible exact ih2 _ _ _ _ _ _ _ _ _)
      | (with_reducible exact digest_Of.mono _ _)
      | (with_reducible exact digest_Pair.mono _ _ _)
      | (with_reducible exact history_Validate.mono _ _)
      | (with_reducible exact LeO.refl _)
      | (with_reducible exact LeO.none _)
      | (with_reducible refine LeO.ite ?_ ?_)
      | (with_reducible refine LeO.bind ?_ (fun _ => ?_))
      | exact ih0 _ _ _ _
      | exact ih1 _ _ _ _ _ _ _ _ _ _ _ _ _ _
      | exact ih2 _ _ _ _ _ _ _ _ _
      | exact digest_Of.mono _ _
      | exact digest_Pair.mono _ _ _
      | exact history_Validate.mono _ _
      | exact LeO.none _
      | refine LeO.ite ?_ ?_
      | refine LeO.bind ?_ (fun _ => ?_)
    · intro y0 y1 y2 y3 y4 y5 y6 y7 y8
      unfold history_Digests.l2
      repeat' first
      | (with_reducible exact ih0 _ _ _ _)
      | (with_reducible exact ih1 _ _ _ _ _ _ _ _ _ _ _ _ _ _)
      | (with_reducible exact ih2 _ _ _ _ _ _ _ _ _)
      | (with_reducible exact digest_Of.mono _ _)
      | (with_reducible exact digest_Pair.mono _ _ _)
      | (with_reducible exact history_Validate.mono _ _)
      | (with_reducible exact LeO.refl _)
      | (with_reducible exact LeO.none _)
      | (with_reducible refine LeO.ite ?_ ?_)
      | (with_reducible refine LeO.bind ?_ (fun _ => ?_))
      | exact ih0 _ _ _ _
      | exact ih1 _ _ _ _ _ _ _ _ _ _ _ _ _ _
      | exact ih2 _ _ _ _ _ _ _ _ _
      | exact digest_Of.mono _ _
      | exact digest_Pair.mono _ _ _
      | exact history_Validate.mono _ _
      | exact LeO.none _
      | refine LeO.ite ?_ ?_
      | refine LeO.bind ?_ (fun _ => ?_)
theorem history_Digests.mono : ∀ a0 k, LeO (history_Digests.f k a0) (history_Digests.f (k + 1) a0) := by
  intro a0 k
  obtain ⟨ih0, ih1, ih2⟩ := history_Digests.mono_l k
  unfold history_Digests.f
  repeat' first
      | (with_reducible exact ih0 _ _ _ _)
      | (with_reducible exact ih1 _ _ _ _ _ _ _ _ _ _ _ _ _ _)
      | (with_reducible exact ih2 _ _ _ _ _ _ _ _ _)
      | (with_reducible exact digest_Of.mono _ _)
      | (with_reducible exact digest_Pair.mono _ _ _)
      | (with_reducible exact history_Validate.mono _ _)
      | (with_reducible exact LeO.refl _)
      | (with_reducible exact LeO.none _)
      | (with_reducible refine LeO.ite ?_ ?_)
      | (with_reducible refine LeO.bind ?_ (fun _ => ?_))
      | exact ih0 _ _ _ _
      | exact ih1 _ _ _ _ _ _ _ _ _ _ _ _ _ _
      | exact ih2 _ _ _ _ _ _ _ _ _
      | exact digest_Of.mono _ _
      | exact digest_Pair.mono _ _ _
      | exact history_Validate.mono _ _
      | exact LeO.none _
      | refine LeO.ite ?_ ?_
      | refine LeO.bind ?_ (fun _ => ?_)
set_option maxHeartbeats 8000000 in
set_option maxRecDepth 100000 in
theorem history_Digests.calls (k : Nat) (A0 : Option Addr) (c0 : Nat) (l0 : List (S49)) (r1 : List Int) (r2 : Int) (r3 : Int) (w : World) (hr0 : Kd.C k49 w A0 l0.length l0) (hc0 : l0.length ≤ c0) (h : history_Digests.f k l0 = some (r1, r2, r3)) :
  Calls Try.prog 33 #[.slice A0 l0.length c0] w fun e w' => ∃ v0_ : Value, e = .returned (.tuple #[v0_, .agg #[.int .i64 r2, .int .i64 r3]]) ∧ Kd.R (Kd.int .i64) 3 w' w.heap.size (fun _ => True) v0_ r1 ∧ Below w.heap.size w w' := by
  have hu26 := Try.underlying26
  have hu49 := Try.underlying49
  have HR0 := aZ hr0
  have HC0 := aZ hc0
  clear hr0 hc0
  have HB := aZ (Below.refl w.heap.size w)
  have H : ((history_Validate.f k l0).bind fun bt631 => (if (!(bt631.1 == 0) || (!(bt631.2 == 0))) = true then (some (([] : List Int), bt631.1, bt631.2)) else (if 0 ≤ (l0.length : Int) then (if ((l0.length : Int) : Int).toNat ≤ 35184372088832 then (history_Digests.l0 k (List.replicate ((l0.length : Int) : Int).toNat 0) l0 (l0.length : Int) 0) else (none)) else (none)))) = some (r1, r2, r3) := h
  clear h
  replace H := Option.bind_eq_some_iff.mp H
  obtain ⟨⟨t631, t632⟩, A20, H⟩ := H
  replace H : (if (!(t631 == 0) || (!(t632 == 0))) = true then (some (([] : List Int), t631, t632)) else (if 0 ≤ (l0.length : Int) then (if ((l0.length : Int) : Int).toNat ≤ 35184372088832 then (history_Digests.l0 k (List.replicate ((l0.length : Int) : Int).toNat 0) l0 (l0.length : Int) 0) else (none)) else (none))) = some (r1, r2, r3) := H
  have A2 := aZ A20
  clear A20
  by_cases c3 : (!(t631 == 0) || (!(t632 == 0))) = true
  · rw [if_pos c3] at H
    have c3b0 : (!(t631 == 0) || (!(t632 == 0))) = true := c3
    clear c3
    simp only [Option.some.injEq, Prod.mk.injEq] at H
    obtain ⟨rfl, rfl, rfl⟩ := H
    go_enter Try.func33, Try.ntmps33
    try go_wp2_with (first | ((with_reducible refine gate_dst (N := 3) rfl ?_); refine box_event ?hg (N := 3) ?hd (cs := #[.int .i64 0, .int .i64 0]) (t := 26) ?hr ?_; (case hd => rfl); (case hg => rfl); (case hr => first | (go_simp; done) | (go_simp; rfl)); intro gb630 hg w4 hbox hb; have n0_ := aZ (lT (by repeat (first | (with_reducible first | exact HB.out | apply lA | apply lN | apply lD) | exact HB.out)) hb); have n1_ := aZ (hbox); have n2_ := aZ ((by rw [hg]; exact (lZ (by repeat (first | (with_reducible first | exact HB.out | apply lA | apply lN | apply lD) | exact HB.out))) : w.heap.size ≤ gb630)); have n3_ := aZ ((by rw [hg]; exact (lZ (by repeat (first | (with_reducible first | exact HB.out | apply lA | apply lN | apply lD) | exact HB.out))) : w.heap.size ≤ gb630)); clear HB; have HB := n0_; have BK630 := n1_; have GW630 := n2_; have GE630 := n3_; clear n0_ n1_ n2_ n3_; clear hb hbox hg) | ((with_reducible refine gate_callee (f := 25) rfl ?_); refine goesL_ (some 15) rfl rfl Try.func25 (by kernel_rfl) rfl #[.slice A0 l0.length c0] rfl (by (try simp only [List.map_toArray, List.map_cons, List.map_nil]); first | done | rfl | (simp only [List.length_drop, List.length_take]; rfl)) ?_; (with_reducible refine (history_Validate.calls k _ _ l0 t631 t632 _ ?side1 ?side2 A2.out).mono ?_); (case side1 => repeat (first | exact (Kd.C_below HR0.out HB.out) | (with_reducible refine Kd.C_alloc ?_ _) | (with_reducible refine Kd.C_drewN ?_ _) | (with_reducible refine Kd.C_drew ?_))); (case side2 => exact HC0.out); rintro e w5 ⟨rfl, hb⟩; refine ⟨_, rfl, ?_⟩; have n0_ := aZ (blk_below (g := gb630) (o := .cells #[.int .i64 0, .int .i64 0] 26 (0, 0)) (by (with_reducible repeat (first | refine bN ?_ _ | refine bD ?_ | refine bA ?_ _)); exact BK630.out) hb); have n1_ := aZ (lT (by repeat (first | (with_reducible first | exact HB.out | apply lA | apply lN | apply lD | refine lS ?_ GE630.out) | exact HB.out)) hb); clear BK630; clear HB; have BK630 := n0_; have HB := n1_; clear n0_ n1_; (try clear hb); (try clear hb2); (try clear hk); (try clear hi)) | ((with_reducible refine gate_dst (N := 4) rfl ?_); refine box_event ?hg (N := 4) ?hd (cs := #[.int .i64 0, .int .i64 0]) (t := 26) ?hr ?_; (case hd => rfl); (case hg => rfl); (case hr => first | (go_simp; done) | (go_simp; rfl)); intro gb633 hg w6 hbox hb; have n0_ := aZ (blk_below (g := gb630) (o := .cells #[.int .i64 0, .int .i64 0] 26 (0, 0)) (by (with_reducible repeat (first | refine bN ?_ _ | refine bD ?_ | refine bA ?_ _)); exact BK630.out) hb); have n1_ := aZ (lT (by repeat (first | (with_reducible first | exact HB.out | apply lA | apply lN | apply lD | refine lS ?_ GE630.out) | exact HB.out)) hb); have n2_ := aZ (hbox); have n3_ := aZ ((by rw [hg]; exact (lZ (by repeat (first | (with_reducible first | exact HB.out | apply lA | apply lN | apply lD | refine lS ?_ GE630.out) | exact HB.out))) : w.heap.size ≤ gb633)); have n4_ := aZ ((by rw [hg]; exact (lZ (by repeat (first | (with_reducible first | exact HB.out | apply lA | apply lN | apply lD | refine lS ?_ GE630.out) | exact HB.out))) : w.heap.size ≤ gb633)); have n5_ := aZ ((by rw [hg]; exact Nat.ne_of_lt (blk_lt (g := gb630) (o := .cells #[.int .i64 0, .int .i64 0] 26 (0, 0)) (by (with_reducible repeat (first | refine bN ?_ _ | refine bD ?_ | refine bA ?_ _)); exact BK630.out)) : gb630 ≠ gb633)); have n6_ := aZ ((by rw [hg]; exact Nat.ne_of_gt (blk_lt (g := gb630) (o := .cells #[.int .i64 0, .int .i64 0] 26 (0, 0)) (by (with_reducible repeat (first | refine bN ?_ _ | refine bD ?_ | refine bA ?_ _)); exact BK630.out)) : gb633 ≠ gb630)); clear BK630; clear HB; have BK630 := n0_; have HB := n1_; have BK633 := n2_; have GW633 := n3_; have GE633 := n4_; have NB630_633 := n5_; have NB633_630 := n6_; clear n0_ n1_ n2_ n3_ n4_ n5_ n6_; clear hb hbox hg; have hnb7 := NB633_630.out; have hnc7 := NB630_633.out; have hcz8_0 : w6.cell? ⟨gb633, 0, none⟩ = some (.int .i64 0) := (blk_cell BK633.out 0).trans rfl; have hcz8_1 : w6.cell? ⟨gb633, 1, none⟩ = some (.int .i64 0) := (blk_cell BK633.out 1).trans rfl; have hfz8_0 := blk_frozen BK633.out 0; have hfz8_1 := blk_frozen BK633.out 1))
    have n0_ : Aside0 (((w6.setCell ⟨gb633, 0, none⟩ (.int .i64 t631)).setCell ⟨gb633, 1, none⟩ (.int .i64 t632)).heap[gb630]? = some (.cells #[.int .i64 0, .int .i64 0] 26 (0, 0))) := ⟨by (with_reducible repeat (first | refine bN ?_ _ | refine bD ?_ | refine bA ?_ _)); refine blk_far ?_ NB630_633.out _; (with_reducible repeat (first | refine bN ?_ _ | refine bD ?_ | refine bA ?_ _)); refine blk_far ?_ NB630_633.out _; (with_reducible repeat (first | refine bN ?_ _ | refine bD ?_ | refine bA ?_ _)); exact BK630.out⟩
    have n1_ : Aside0 (((w6.setCell ⟨gb633, 0, none⟩ (.int .i64 t631)).setCell ⟨gb633, 1, none⟩ (.int .i64 t632)).heap[gb633]? = some (.cells #[.int .i64 t631, .int .i64 t632] 26 (0, 0))) := ⟨by (with_reducible repeat (first | refine bN ?_ _ | refine bD ?_ | refine bA ?_ _)); refine blk_put (cs := #[.int .i64 t631, .int .i64 0]) ?_ 1 _ rfl; (with_reducible repeat (first | refine bN ?_ _ | refine bD ?_ | refine bA ?_ _)); refine blk_put (cs := #[.int .i64 0, .int .i64 0]) ?_ 0 _ rfl; (with_reducible repeat (first | refine bN ?_ _ | refine bD ?_ | refine bA ?_ _)); exact BK633.out⟩
    have n2_ : Aside0 (Below w.heap.size w ((w6.setCell ⟨gb633, 0, none⟩ (.int .i64 t631)).setCell ⟨gb633, 1, none⟩ (.int .i64 t632))) := ⟨by repeat (first | (with_reducible first | exact HB.out | apply lA | apply lN | apply lD | refine lS ?_ GE630.out | refine lS ?_ GE633.out) | exact HB.out)⟩
    (try clear BK630)
    (try clear BK633)
    (try clear HB)
    generalize ((w6.setCell ⟨gb633, 0, none⟩ (.int .i64 t631)).setCell ⟨gb633, 1, none⟩ (.int .i64 t632)) = w9 at n0_ n1_ n2_ ⊢
    have BK630 := n0_
    have BK633 := n1_
    have HB := n2_
    clear n0_ n1_ n2_
    have n0_ := aZ (bD BK630.out)
    have n1_ := aZ (bD BK633.out)
    have n2_ := aZ (lD HB.out)
    clear BK630
    clear BK633
    clear HB
    have BK630 := n0_
    have BK633 := n1_
    have HB := n2_
    clear n0_ n1_ n2_
    refine start_ (n := 3) (S := fun w' => w'.cell? ⟨gb633, 0, none⟩ = some (.int .i64 t631) ∧ w'.cell? ⟨gb633, 1, none⟩ = some (.int .i64 t632)) (ds := []) #[false, false, false] (by kernel_rfl) rfl rfl ⟨(blk_cell BK633.out 0).trans rfl, (blk_cell BK633.out 1).trans rfl⟩ (fun hHeld => ?_)
    generalize w9.drew = w10 at BK630 BK633 HB hHeld ⊢
    refine pure_ (i := 1) (N := some 2) (v := ?_) (a' := ?_) #[false, true, false] rfl rfl (by kernel_rfl) (fun _ _ _ h => h) (Or.inl ⟨by rfl, ?_⟩) ?_ ?_
    rotate_left
    · intro w'
      go_simp
      with_reducible rfl
    rotate_left
    · simp only [Act.put, List.setIfInBounds_toArray, List.set_cons_zero, List.set_cons_succ, i64_w, i32_w]
      rfl
    refine take_ (i := 0) (N := some 19) (v := ?_) (a' := ?_) #[true, true, false] rfl rfl (by kernel_rfl) (fun _ _ _ h => h) (Or.inl ⟨by rfl, ?_⟩) hHeld ?_ ?_
    rotate_left
    · rintro w' ⟨s0, s1⟩
      go_simp
      with_reducible rfl
    rotate_left
    · simp only [Act.put, List.setIfInBounds_toArray, List.set_cons_zero, List.set_cons_succ, i64_w, i32_w]
      rfl
    refine one_ (i := 2) (N := none) #[true, true, true] rfl rfl (by kernel_rfl) (by decide) (fun K hK => ?_)
    have hs11 : w10.cell? ⟨gb630, 0, none⟩ = some (.int .i64 0) := (blk_cell BK630.out 0).trans rfl
    have hfs11 := blk_frozen BK630.out 0
    have hns11_1 := NB633_630.out
    have hms11_1 := NB630_633.out
    have hs12 : w10.cell? ⟨gb630, 1, none⟩ = some (.int .i64 0) := (blk_cell BK630.out 1).trans rfl
    have hfs12 := blk_frozen BK630.out 1
    have hns12_1 := NB633_630.out
    have hms12_1 := NB630_633.out
    refine skip_ (w1 := ?_) (by rfl) rfl ?_ ?_
    rotate_left
    · go_simp
      rfl
    refine hK.out _ _ ⟨((cell_far (p := ⟨gb630, _, none⟩) NB633_630.out _).trans (((cell_far (p := ⟨gb630, _, none⟩) NB633_630.out _).trans (hHeld.1)))), ((cell_far (p := ⟨gb630, _, none⟩) NB633_630.out _).trans (((cell_far (p := ⟨gb630, _, none⟩) NB633_630.out _).trans (hHeld.2))))⟩ (fun hHeld => ?_)
    clear hK K
    refine done_ (by kernel_rfl) ?_
    try go_wp2
    refine bodyPost_ret (results_tc rfl _ _ gb630 26 #[.int .i64 t631, .int .i64 t632] (0, 0) _ rfl (by (with_reducible repeat (first | refine bN ?_ _ | refine bD ?_ | refine bA ?_ _)); refine blk_put (cs := #[.int .i64 t631, .int .i64 0]) ?_ 1 _ rfl; (with_reducible repeat (first | refine bN ?_ _ | refine bD ?_ | refine bA ?_ _)); refine blk_put (cs := #[.int .i64 0, .int .i64 0]) ?_ 0 _ rfl; (with_reducible repeat (first | refine bN ?_ _ | refine bD ?_ | refine bA ?_ _)); exact BK630.out) Try.underlying26 rfl (by kernel_rfl)) rfl ?_
    exact ⟨_, by first | rfl | (simp [errW_none, errW_some] <;> rfl) | (simp [*, errW_none, errW_some] <;> rfl), by first | exact Kd.R_nil _ _ _ _ _ | exact Kd.N_nil _ _ _ _ _ | exact Kd.V_nil _ _ _ _ _ | exact Kd.Q_nil _ _ _ _ _ | exact Kd.S_nil _ _ _ _ _, by repeat (first | (with_reducible first | exact HB.out | apply lA | apply lN | apply lD | refine lS ?_ GE630.out | refine lS ?_ GE633.out) | exact HB.out)⟩
  rw [if_neg c3] at H
  have c3b0 : (!(t631 == 0) || (!(t632 == 0))) = false := by simpa using c3
  clear c3
  by_cases c13 : 0 ≤ (l0.length : Int)
  rotate_left
  · rw [if_neg c13] at H
    exact absurd H (by simp)

  rw [if_pos c13] at H
  have c13b0 := eq_true c13
  have c13b1 : decide (0 ≤ (l0.length : Int)) = true := decide_eq_true c13
  clear c13
  by_cases c14 : ((l0.length : Int) : Int).toNat ≤ 35184372088832
  rotate_left
  · rw [if_neg c14] at H
    exact absurd H (by simp)
  rw [if_pos c14] at H
  have c14b0 := eq_true c14
  have c14b1 : decide (((l0.length : Int) : Int).toNat ≤ 35184372088832) = true := decide_eq_true c14
  clear c14
  obtain ⟨y634, hy634⟩ : ∃ y_ : List Int, y_ = (List.replicate ((l0.length : Int) : Int).toNat 0) := ⟨_, rfl⟩
  replace H : (history_Digests.l0 k y634 l0 (l0.length : Int) 0) = some (r1, r2, r3) := by first | (rw [hy634]; with_reducible exact H) | (have H2_ := (Option.bind_some _ _).symm.trans H; rw [hy634]; with_reducible exact H2_) | (have H2_ := (Option.bind_some _ _).symm.trans H; with_reducible exact H2_) | with_reducible exact H | (rw [hy634]; exact H) | exact H
  have Ny634 := aZ hy634
  clear hy634
  have H' := aZ H
  clear H
  go_enter Try.func33, Try.ntmps33
  go_wp2_with (first | ((with_reducible refine gate_dst (N := 3) rfl ?_); refine box_event ?hg (N := 3) ?hd (cs := #[.int .i64 0, .int .i64 0]) (t := 26) ?hr ?_; (case hd => rfl); (case hg => rfl); (case hr => first | (go_simp; done) | (go_simp; rfl)); intro gb630 hg w15 hbox hb; have n0_ := aZ (lT (by repeat (first | (with_reducible first | exact HB.out | apply lA | apply lN | apply lD) | exact HB.out)) hb); have n1_ := aZ (hbox); have n2_ := aZ ((by rw [hg]; exact (lZ (by repeat (first | (with_reducible first | exact HB.out | apply lA | apply lN | apply lD) | exact HB.out))) : w.heap.size ≤ gb630)); have n3_ := aZ ((by rw [hg]; exact (lZ (by repeat (first | (with_reducible first | exact HB.out | apply lA | apply lN | apply lD) | exact HB.out))) : w.heap.size ≤ gb630)); clear HB; have HB := n0_; have BK630 := n1_; have GW630 := n2_; have GE630 := n3_; clear n0_ n1_ n2_ n3_; clear hb hbox hg) | ((with_reducible refine gate_callee (f := 25) rfl ?_); refine goesL_ (some 15) rfl rfl Try.func25 (by kernel_rfl) rfl #[.slice A0 l0.length c0] rfl (by (try simp only [List.map_toArray, List.map_cons, List.map_nil]); first | done | rfl | (simp only [List.length_drop, List.length_take]; rfl)) ?_; (with_reducible refine (history_Validate.calls k _ _ l0 t631 t632 _ ?side1 ?side2 A2.out).mono ?_); (case side1 => repeat (first | exact (Kd.C_below HR0.out HB.out) | (with_reducible refine Kd.C_alloc ?_ _) | (with_reducible refine Kd.C_drewN ?_ _) | (with_reducible refine Kd.C_drew ?_))); (case side2 => exact HC0.out); rintro e w16 ⟨rfl, hb⟩; refine ⟨_, rfl, ?_⟩; have n0_ := aZ (blk_below (g := gb630) (o := .cells #[.int .i64 0, .int .i64 0] 26 (0, 0)) (by (with_reducible repeat (first | refine bN ?_ _ | refine bD ?_ | refine bA ?_ _)); exact BK630.out) hb); have n1_ := aZ (lT (by repeat (first | (with_reducible first | exact HB.out | apply lA | apply lN | apply lD | refine lS ?_ GE630.out) | exact HB.out)) hb); clear BK630; clear HB; have BK630 := n0_; have HB := n1_; clear n0_ n1_; (try clear hb); (try clear hb2); (try clear hk); (try clear hi)) | ((with_reducible refine gate_dst (N := 4) rfl ?_); refine box_event ?hg (N := 4) ?hd (cs := #[.int .i64 0, .int .i64 0]) (t := 26) ?hr ?_; (case hd => rfl); (case hg => rfl); (case hr => first | (go_simp; done) | (go_simp; rfl)); intro gb633 hg w17 hbox hb; have n0_ := aZ (blk_below (g := gb630) (o := .cells #[.int .i64 0, .int .i64 0] 26 (0, 0)) (by (with_reducible repeat (first | refine bN ?_ _ | refine bD ?_ | refine bA ?_ _)); exact BK630.out) hb); have n1_ := aZ (lT (by repeat (first | (with_reducible first | exact HB.out | apply lA | apply lN | apply lD | refine lS ?_ GE630.out) | exact HB.out)) hb); have n2_ := aZ (hbox); have n3_ := aZ ((by rw [hg]; exact (lZ (by repeat (first | (with_reducible first | exact HB.out | apply lA | apply lN | apply lD | refine lS ?_ GE630.out) | exact HB.out))) : w.heap.size ≤ gb633)); have n4_ := aZ ((by rw [hg]; exact (lZ (by repeat (first | (with_reducible first | exact HB.out | apply lA | apply lN | apply lD | refine lS ?_ GE630.out) | exact HB.out))) : w.heap.size ≤ gb633)); have n5_ := aZ ((by rw [hg]; exact Nat.ne_of_lt (blk_lt (g := gb630) (o := .cells #[.int .i64 0, .int .i64 0] 26 (0, 0)) (by (with_reducible repeat (first | refine bN ?_ _ | refine bD ?_ | refine bA ?_ _)); exact BK630.out)) : gb630 ≠ gb633)); have n6_ := aZ ((by rw [hg]; exact Nat.ne_of_gt (blk_lt (g := gb630) (o := .cells #[.int .i64 0, .int .i64 0] 26 (0, 0)) (by (with_reducible repeat (first | refine bN ?_ _ | refine bD ?_ | refine bA ?_ _)); exact BK630.out)) : gb633 ≠ gb630)); clear BK630; clear HB; have BK630 := n0_; have HB := n1_; have BK633 := n2_; have GW633 := n3_; have GE633 := n4_; have NB630_633 := n5_; have NB633_630 := n6_; clear n0_ n1_ n2_ n3_ n4_ n5_ n6_; clear hb hbox hg; have hnb18 := NB633_630.out; have hnc18 := NB630_633.out; have hcz19_0 : w17.cell? ⟨gb633, 0, none⟩ = some (.int .i64 0) := (blk_cell BK633.out 0).trans rfl; have hcz19_1 : w17.cell? ⟨gb633, 1, none⟩ = some (.int .i64 0) := (blk_cell BK633.out 1).trans rfl; have hfz19_0 := blk_frozen BK633.out 0; have hfz19_1 := blk_frozen BK633.out 1) | ((with_reducible refine gate_dst (N := 22) rfl ?_); refine Kd.R_make (Kd.int .i64) _ 3 rfl (N := 22) rfl 23 _ _ rfl (l0.length : Int) rfl rfl Try.underlying23 (.int .i64 0) 8 info3 rfl (by decide) (by omega) 0 (ok := fun _ => True) (okp := fun _ => True) rfl (fun _ hk => hk) trivial (of_decide_eq_true (by first | (with_reducible assumption) | assumption)) (Nat.le_trans (Nat.mul_le_mul_right _ (of_decide_eq_true (by first | (with_reducible assumption) | assumption) : (l0.length : Int).toNat ≤ 35184372088832)) (by omega)) (Below.refl _ _) (Nat.le_refl _) ?_; intro v635 w20 ho21 hb hg_ hnew_; clear hg_ hnew_; (first | rw [← Ny634.out] at ho21 | (simp only [Int.reduceToNat] at ho21; rw [← Ny634.out] at ho21)); have n0_ := aZ (Kd.R_lower ho21 (lZ (by repeat (first | (with_reducible first | exact HB.out | apply lA | apply lN | apply lD | refine lS ?_ GE630.out | refine lS ?_ GE633.out) | exact HB.out)))); have n1_ := aZ (blk_below (g := gb630) (o := .cells #[.int .i64 0, .int .i64 0] 26 (0, 0)) (by (with_reducible repeat (first | refine bN ?_ _ | refine bD ?_ | refine bA ?_ _)); refine blk_far ?_ NB630_633.out _; (with_reducible repeat (first | refine bN ?_ _ | refine bD ?_ | refine bA ?_ _)); refine blk_far ?_ NB630_633.out _; (with_reducible repeat (first | refine bN ?_ _ | refine bD ?_ | refine bA ?_ _)); exact BK630.out) hb); have n2_ := aZ (blk_below (g := gb633) (o := .cells #[.int .i64 t631, .int .i64 t632] 26 (0, 0)) (by (with_reducible repeat (first | refine bN ?_ _ | refine bD ?_ | refine bA ?_ _)); refine blk_put (cs := #[.int .i64 t631, .int .i64 0]) ?_ 1 _ rfl; (with_reducible repeat (first | refine bN ?_ _ | refine bD ?_ | refine bA ?_ _)); refine blk_put (cs := #[.int .i64 0, .int .i64 0]) ?_ 0 _ rfl; (with_reducible repeat (first | refine bN ?_ _ | refine bD ?_ | refine bA ?_ _)); exact BK633.out) hb); have n3_ := aZ (lT (by repeat (first | (with_reducible first | exact HB.out | apply lA | apply lN | apply lD | refine lS ?_ GE630.out | refine lS ?_ GE633.out) | exact HB.out)) hb); clear BK630; clear BK633; clear HB; have HO636 := n0_; have BK630 := n1_; have BK633 := n2_; have HB := n3_; clear n0_ n1_ n2_ n3_; clear hb ho21))
  go_loopg [25] k (fun kq v25 w' => ∃ (x5_1 : List Int) (x25_1 : Int), v25 = .int .i64 x25_1 ∧ Aside0 (history_Digests.l0 kq x5_1 l0 (l0.length : Int) x25_1 = some (r1, r2, r3)) ∧ Aside0 (kq ≤ k) ∧ Aside0 (Kd.R (Kd.int .i64) 3 w' w.heap.size (fun _ => True) v635 x5_1) ∧ Aside0 (w'.heap[gb630]? = some (.cells #[.int .i64 0, .int .i64 0] 26 (0, 0))) ∧ Aside0 (w'.heap[gb633]? = some (.cells #[.int .i64 t631, .int .i64 t632] 26 (0, 0))) ∧ Aside0 (Below w.heap.size w w'))
  case atStart => exact ⟨(y634), (0), (by first | rfl | (simp; done) | (simp [*]; done) | (simp [i64_w]; done)), H', ⟨Nat.le_refl _⟩, ⟨by (with_reducible repeat (first | apply Kd.rA | apply Kd.rN | apply Kd.rD)); exact HO636.out⟩, ⟨by (with_reducible repeat (first | refine bN ?_ _ | refine bD ?_ | refine bA ?_ _)); exact BK630.out⟩, ⟨by (with_reducible repeat (first | refine bN ?_ _ | refine bD ?_ | refine bA ?_ _)); exact BK633.out⟩, ⟨by repeat (first | (with_reducible first | exact HB.out | apply lA | apply lN | apply lD | refine lS ?_ GE630.out | refine lS ?_ GE633.out) | exact HB.out)⟩⟩
  case round =>
   clear H'
   (try clear c3); (try clear c3b0); (try clear c13); (try clear c13b0); (try clear c13b1); (try clear c14); (try clear c14b0); (try clear c14b1); (try clear hcz19_0); (try clear hcz19_1); (try clear hfz19_0); (try clear hfz19_1)
   obtain ⟨x5_1, x25_1, rfl, HA, HK1, HO_5, BK630, BK633, HB⟩ := hrel
   cases gk with
   | zero => exact absurd HA.out (by simp [history_Digests.l0])
   | succ k1 =>
    have H := HA.out
    clear HA
    simp only [history_Digests.l0] at H
    by_cases c22 : x25_1 < (l0.length : Int)
    rotate_left
    · rw [if_neg c22] at H
      have c22b0 : decide (x25_1 < (l0.length : Int)) = false := decide_eq_false c22
      clear c22
      simp only [Option.some.injEq, Prod.mk.injEq] at H
      obtain ⟨rfl, rfl, rfl⟩ := H
      have hnb65 := NB630_633.out
      have hnc65 := NB633_630.out
      have hcz66_0 : wr.cell? ⟨gb630, 0, none⟩ = some (.int .i64 0) := (blk_cell BK630.out 0).trans rfl
      have hcz66_1 : wr.cell? ⟨gb630, 1, none⟩ = some (.int .i64 0) := (blk_cell BK630.out 1).trans rfl
      have hfz66_0 := blk_frozen BK630.out 0
      have hfz66_1 := blk_frozen BK630.out 1
      go_wp2
      refine bodyPost_ret (results_tc rfl _ _ gb630 26 #[.int .i64 0, .int .i64 0] (0, 0) _ rfl (by (with_reducible repeat (first | refine bN ?_ _ | refine bD ?_ | refine bA ?_ _)); refine blk_put (cs := #[.int .i64 0, .int .i64 0]) ?_ 1 _ rfl; (with_reducible repeat (first | refine bN ?_ _ | refine bD ?_ | refine bA ?_ _)); refine blk_put (cs := #[.int .i64 0, .int .i64 0]) ?_ 0 _ rfl; (with_reducible repeat (first | refine bN ?_ _ | refine bD ?_ | refine bA ?_ _)); exact BK630.out) Try.underlying26 rfl (by kernel_rfl)) rfl ?_
      exact ⟨_, by first | rfl | (simp [errW_none, errW_some] <;> rfl) | (simp [*, errW_none, errW_some] <;> rfl), by (with_reducible repeat (first | apply Kd.rA | apply Kd.rN | apply Kd.rD)); exact Kd.R_mono (Kd.R_far (p := ⟨gb630, 1, none⟩) (Kd.R_far (p := ⟨gb630, 0, none⟩) (Kd.R_types HO_5.out BK630.out (by decide)) (fun _ hk => hk.2) (.int .i64 0)) (fun _ hk => hk.2) (.int .i64 0)) (fun _ hk => trivial), by repeat (first | (with_reducible first | exact HB.out | apply lA | apply lN | apply lD | refine lS ?_ GE630.out | refine lS ?_ GE633.out) | exact HB.out)⟩
    rw [if_pos c22] at H
    have c22b0 : decide (x25_1 < (l0.length : Int)) = true := decide_eq_true c22
    clear c22
    by_cases c23 : 0 ≤ x25_1
    rotate_left
    · rw [if_neg c23] at H
      exact absurd H (by simp)
    rw [if_pos c23] at H
    have c23b0 : decide (0 ≤ x25_1) = true := decide_eq_true c23
    clear c23
    by_cases c24 : x25_1 < (l0.length : Int)
    rotate_left
    · rw [if_neg c24] at H
      exact absurd H (by simp)
    rw [if_pos c24] at H
    have c24b0 : decide (x25_1 < (l0.length : Int)) = true := decide_eq_true c24
    clear c24
    replace H := Option.bind_eq_some_iff.mp H
    obtain ⟨t639, A250, H⟩ := H
    replace H : ((digest_Of.f k1 t639).bind fun bt642 => ((some (([(rd_T49 l0 x25_1).f1, (rd_T49 l0 x25_1).f2, (rd_T49 l0 x25_1).f3] : List Int) : List Int)).bind fun y646 => (history_Digests.l1 k1 x5_1 x25_1 bt642.1 l0 (l0.length : Int) x25_1 y646 (y646.length : Int) 0 ((rd_T49 l0 x25_1).f0) ((rd_T49 l0 x25_1).f1) ((rd_T49 l0 x25_1).f2) ((rd_T49 l0 x25_1).f3) ((rd_T49 l0 x25_1).f4)))) = some (r1, r2, r3) := H
    have A25 := aZ A250
    clear A250
    replace H := Option.bind_eq_some_iff.mp H
    obtain ⟨⟨t642, t643, t644⟩, A260, H⟩ := H
    replace H : ((some (([(rd_T49 l0 x25_1).f1, (rd_T49 l0 x25_1).f2, (rd_T49 l0 x25_1).f3] : List Int) : List Int)).bind fun y646 => (history_Digests.l1 k1 x5_1 x25_1 t642 l0 (l0.length : Int) x25_1 y646 (y646.length : Int) 0 ((rd_T49 l0 x25_1).f0) ((rd_T49 l0 x25_1).f1) ((rd_T49 l0 x25_1).f2) ((rd_T49 l0 x25_1).f3) ((rd_T49 l0 x25_1).f4))) = some (r1, r2, r3) := H
    have A26 := aZ A260
    clear A260
    obtain ⟨y646, hy646⟩ : ∃ y_ : List Int, y_ = (([(rd_T49 l0 x25_1).f1, (rd_T49 l0 x25_1).f2, (rd_T49 l0 x25_1).f3] : List Int)) := ⟨_, rfl⟩
    replace H : (history_Digests.l1 k1 x5_1 x25_1 t642 l0 (l0.length : Int) x25_1 y646 (y646.length : Int) 0 ((rd_T49 l0 x25_1).f0) ((rd_T49 l0 x25_1).f1) ((rd_T49 l0 x25_1).f2) ((rd_T49 l0 x25_1).f3) ((rd_T49 l0 x25_1).f4)) = some (r1, r2, r3) := by first | (rw [hy646]; with_reducible exact H) | (have H2_ := (Option.bind_some _ _).symm.trans H; rw [hy646]; with_reducible exact H2_) | (have H2_ := (Option.bind_some _ _).symm.trans H; with_reducible exact H2_) | with_reducible exact H | (rw [hy646]; exact H) | exact H
    have Ny646 := aZ hy646
    clear hy646
    have H' := aZ H
    clear H
    have p637 : 0 ≤ (x25_1 : Int) := of_decide_eq_true (by first | (with_reducible assumption) | assumption)
    have q637 : x25_1 < (l0.length : Int) := of_decide_eq_true (by first | (with_reducible assumption) | assumption)
    obtain ⟨ad637, A637_0, c637_0, e637, hx637_0, hx637_1, hx637_2, hx637_3, hx637_4, hl637_0, hi637_0⟩ := at_T49 HR0.out x25_1 p637 q637
    cases e637
    replace hx637_0 := (HB.out.cell (World.block_lt_of_cell? w _ hx637_0)).trans hx637_0
    replace hx637_1 := (HB.out.cell (World.block_lt_of_cell? w _ hx637_1)).trans hx637_1
    replace hx637_2 := (HB.out.cell (World.block_lt_of_cell? w _ hx637_2)).trans hx637_2
    replace hx637_3 := (HB.out.cell (World.block_lt_of_cell? w _ hx637_3)).trans hx637_3
    replace hx637_4 := (HB.out.cell (World.block_lt_of_cell? w _ hx637_4)).trans hx637_4
    have HR637_0 := aZ hi637_0
    have HC637_0 := aZ hl637_0
    clear hi637_0 hl637_0
    replace p637 := eq_true p637
    replace q637 := eq_true q637
    go_wp2_with (first | ((with_reducible refine gate_dst (N := 7) rfl ?_); refine box_event ?hg (N := 7) ?hd (cs := #[.slice none 0 0, .int .i64 0, .int .i64 0, .int .i64 0, .string (⟨#[]⟩ : ByteArray)]) (t := 49) ?hr ?_; (case hd => rfl); (case hg => rfl); (case hr => first | (go_simp; done) | (go_simp; rfl)); intro gb638 hg w27 hbox hb; have n0_ := aZ (Kd.R_below (by (with_reducible repeat (first | apply Kd.rA | apply Kd.rN | apply Kd.rD)); exact HO_5.out) hb); have n1_ := aZ (blk_below (g := gb630) (o := .cells #[.int .i64 0, .int .i64 0] 26 (0, 0)) (by (with_reducible repeat (first | refine bN ?_ _ | refine bD ?_ | refine bA ?_ _)); exact BK630.out) hb); have n2_ := aZ (blk_below (g := gb633) (o := .cells #[.int .i64 t631, .int .i64 t632] 26 (0, 0)) (by (with_reducible repeat (first | refine bN ?_ _ | refine bD ?_ | refine bA ?_ _)); exact BK633.out) hb); have n3_ := aZ (lT (by repeat (first | (with_reducible first | exact HB.out | apply lA | apply lN | apply lD | refine lS ?_ GE630.out | refine lS ?_ GE633.out) | exact HB.out)) hb); have n4_ := aZ (hbox); have n5_ := aZ ((by rw [hg]; exact (lZ (by repeat (first | (with_reducible first | exact HB.out | apply lA | apply lN | apply lD | refine lS ?_ GE630.out | refine lS ?_ GE633.out) | exact HB.out))) : w.heap.size ≤ gb638)); have n6_ := aZ ((by rw [hg]; exact (lZ (by repeat (first | (with_reducible first | exact HB.out | apply lA | apply lN | apply lD | refine lS ?_ GE630.out | refine lS ?_ GE633.out) | exact HB.out))) : w.heap.size ≤ gb638)); have n7_ := aZ ((by rw [hg]; exact Nat.ne_of_lt (blk_lt (g := gb630) (o := .cells #[.int .i64 0, .int .i64 0] 26 (0, 0)) (by (with_reducible repeat (first | refine bN ?_ _ | refine bD ?_ | refine bA ?_ _)); exact BK630.out)) : gb630 ≠ gb638)); have n8_ := aZ ((by rw [hg]; exact Nat.ne_of_gt (blk_lt (g := gb630) (o := .cells #[.int .i64 0, .int .i64 0] 26 (0, 0)) (by (with_reducible repeat (first | refine bN ?_ _ | refine bD ?_ | refine bA ?_ _)); exact BK630.out)) : gb638 ≠ gb630)); have n9_ := aZ ((by rw [hg]; exact Nat.ne_of_lt (blk_lt (g := gb633) (o := .cells #[.int .i64 t631, .int .i64 t632] 26 (0, 0)) (by (with_reducible repeat (first | refine bN ?_ _ | refine bD ?_ | refine bA ?_ _)); exact BK633.out)) : gb633 ≠ gb638)); have n10_ := aZ ((by rw [hg]; exact Nat.ne_of_gt (blk_lt (g := gb633) (o := .cells #[.int .i64 t631, .int .i64 t632] 26 (0, 0)) (by (with_reducible repeat (first | refine bN ?_ _ | refine bD ?_ | refine bA ?_ _)); exact BK633.out)) : gb638 ≠ gb633)); clear HO_5; clear BK630; clear BK633; clear HB; have HO_5 := n0_; have BK630 := n1_; have BK633 := n2_; have HB := n3_; have BK638 := n4_; have GW638 := n5_; have GE638 := n6_; have NB630_638 := n7_; have NB638_630 := n8_; have NB633_638 := n9_; have NB638_633 := n10_; clear n0_ n1_ n2_ n3_ n4_ n5_ n6_ n7_ n8_ n9_ n10_; clear hb hbox hg; have hnb28 := NB638_630.out; have hnc28 := NB630_638.out; have hnb29 := NB638_633.out; have hnc29 := NB633_638.out; have hcz30_0 : w27.cell? ⟨gb638, 0, none⟩ = some (.slice none 0 0) := (blk_cell BK638.out 0).trans rfl; have hcz30_1 : w27.cell? ⟨gb638, 1, none⟩ = some (.int .i64 0) := (blk_cell BK638.out 1).trans rfl; have hcz30_2 : w27.cell? ⟨gb638, 2, none⟩ = some (.int .i64 0) := (blk_cell BK638.out 2).trans rfl; have hcz30_3 : w27.cell? ⟨gb638, 3, none⟩ = some (.int .i64 0) := (blk_cell BK638.out 3).trans rfl; have hcz30_4 : w27.cell? ⟨gb638, 4, none⟩ = some (.string (⟨#[]⟩ : ByteArray)) := (blk_cell BK638.out 4).trans rfl; have hfz30_0 := blk_frozen BK638.out 0; have hfz30_1 := blk_frozen BK638.out 1; have hfz30_2 := blk_frozen BK638.out 2; have hfz30_3 := blk_frozen BK638.out 3; have hfz30_4 := blk_frozen BK638.out 4) | ((with_reducible refine gate_dst (N := 33) rfl ?_); refine convL_ 9 60 5 Try.underlying9 Try.underlying60 Try.underlying5 (s := ((rd_T49 l0 x25_1).f4)) (some 33) rfl rfl ?hcv ?_; (case hcv => first | (go_simp; done) | (go_simp; rfl) | (unfold execOp; rfl)); (with_reducible refine (pp_bytes.calls (e := 5) ((rd_T49 l0 x25_1).f4) t639 _ A25.out).mono ?_); rintro e w31 ⟨v640, rfl, ho0, hb⟩; refine ⟨_, rfl, ?_⟩; have n0_ := aZ (Kd.R_below (by (with_reducible repeat (first | apply Kd.rA | apply Kd.rN | apply Kd.rD)); exact (Kd.R_mono (Kd.R_far (p := ⟨gb638, 4, none⟩) (Kd.R_far (p := ⟨gb638, 3, none⟩) (Kd.R_far (p := ⟨gb638, 2, none⟩) (Kd.R_far (p := ⟨gb638, 1, none⟩) (Kd.R_far (p := ⟨gb638, 0, none⟩) (Kd.R_types HO_5.out BK638.out (by decide)) (fun _ hk => hk.2) (.slice A637_0 ((rd_T49 l0 x25_1).f0).length c637_0)) (fun _ hk => hk.2) (.int .i64 ((rd_T49 l0 x25_1).f1))) (fun _ hk => hk.2) (.int .i64 ((rd_T49 l0 x25_1).f2))) (fun _ hk => hk.2) (.int .i64 ((rd_T49 l0 x25_1).f3))) (fun _ hk => hk.2) (.string ((rd_T49 l0 x25_1).f4))) (fun _ h_ => h_.1))) hb); have n1_ := aZ (Kd.V_lower (Kd.V_mono (ok' := fun k_ => some k_ ≠ (v635 : Value).ownBlock ∧ k_ ≠ gb630 ∧ k_ ≠ gb633 ∧ k_ ≠ gb638) ho0 (fun k_ hk_ => ⟨(Kd.fresh' (Kd.R_lt (by (with_reducible repeat (first | apply Kd.rA | apply Kd.rN | apply Kd.rD)); exact (Kd.R_mono (Kd.R_far (p := ⟨gb638, 4, none⟩) (Kd.R_far (p := ⟨gb638, 3, none⟩) (Kd.R_far (p := ⟨gb638, 2, none⟩) (Kd.R_far (p := ⟨gb638, 1, none⟩) (Kd.R_far (p := ⟨gb638, 0, none⟩) (Kd.R_types HO_5.out BK638.out (by decide)) (fun _ hk => hk.2) (.slice A637_0 ((rd_T49 l0 x25_1).f0).length c637_0)) (fun _ hk => hk.2) (.int .i64 ((rd_T49 l0 x25_1).f1))) (fun _ hk => hk.2) (.int .i64 ((rd_T49 l0 x25_1).f2))) (fun _ hk => hk.2) (.int .i64 ((rd_T49 l0 x25_1).f3))) (fun _ hk => hk.2) (.string ((rd_T49 l0 x25_1).f4))) (fun _ h_ => h_.1)))) k_ hk_), (Kd.freshB (g := gb630) (o := .cells #[.int .i64 0, .int .i64 0] 26 (0, 0)) (by (with_reducible repeat (first | refine bN ?_ _ | refine bD ?_ | refine bA ?_ _)); refine blk_far ?_ NB630_638.out _; (with_reducible repeat (first | refine bN ?_ _ | refine bD ?_ | refine bA ?_ _)); refine blk_far ?_ NB630_638.out _; (with_reducible repeat (first | refine bN ?_ _ | refine bD ?_ | refine bA ?_ _)); refine blk_far ?_ NB630_638.out _; (with_reducible repeat (first | refine bN ?_ _ | refine bD ?_ | refine bA ?_ _)); refine blk_far ?_ NB630_638.out _; (with_reducible repeat (first | refine bN ?_ _ | refine bD ?_ | refine bA ?_ _)); refine blk_far ?_ NB630_638.out _; (with_reducible repeat (first | refine bN ?_ _ | refine bD ?_ | refine bA ?_ _)); exact BK630.out) k_ hk_), (Kd.freshB (g := gb633) (o := .cells #[.int .i64 t631, .int .i64 t632] 26 (0, 0)) (by (with_reducible repeat (first | refine bN ?_ _ | refine bD ?_ | refine bA ?_ _)); refine blk_far ?_ NB633_638.out _; (with_reducible repeat (first | refine bN ?_ _ | refine bD ?_ | refine bA ?_ _)); refine blk_far ?_ NB633_638.out _; (with_reducible repeat (first | refine bN ?_ _ | refine bD ?_ | refine bA ?_ _)); refine blk_far ?_ NB633_638.out _; (with_reducible repeat (first | refine bN ?_ _ | refine bD ?_ | refine bA ?_ _)); refine blk_far ?_ NB633_638.out _; (with_reducible repeat (first | refine bN ?_ _ | refine bD ?_ | refine bA ?_ _)); refine blk_far ?_ NB633_638.out _; (with_reducible repeat (first | refine bN ?_ _ | refine bD ?_ | refine bA ?_ _)); exact BK633.out) k_ hk_), (Kd.freshB (g := gb638) (o := .cells #[.slice A637_0 ((rd_T49 l0 x25_1).f0).length c637_0, .int .i64 ((rd_T49 l0 x25_1).f1), .int .i64 ((rd_T49 l0 x25_1).f2), .int .i64 ((rd_T49 l0 x25_1).f3), .string ((rd_T49 l0 x25_1).f4)] 49 (0, 0)) (by (with_reducible repeat (first | refine bN ?_ _ | refine bD ?_ | refine bA ?_ _)); refine blk_put (cs := #[.slice A637_0 ((rd_T49 l0 x25_1).f0).length c637_0, .int .i64 ((rd_T49 l0 x25_1).f1), .int .i64 ((rd_T49 l0 x25_1).f2), .int .i64 ((rd_T49 l0 x25_1).f3), .string (⟨#[]⟩ : ByteArray)]) ?_ 4 _ rfl; (with_reducible repeat (first | refine bN ?_ _ | refine bD ?_ | refine bA ?_ _)); refine blk_put (cs := #[.slice A637_0 ((rd_T49 l0 x25_1).f0).length c637_0, .int .i64 ((rd_T49 l0 x25_1).f1), .int .i64 ((rd_T49 l0 x25_1).f2), .int .i64 0, .string (⟨#[]⟩ : ByteArray)]) ?_ 3 _ rfl; (with_reducible repeat (first | refine bN ?_ _ | refine bD ?_ | refine bA ?_ _)); refine blk_put (cs := #[.slice A637_0 ((rd_T49 l0 x25_1).f0).length c637_0, .int .i64 ((rd_T49 l0 x25_1).f1), .int .i64 0, .int .i64 0, .string (⟨#[]⟩ : ByteArray)]) ?_ 2 _ rfl; (with_reducible repeat (first | refine bN ?_ _ | refine bD ?_ | refine bA ?_ _)); refine blk_put (cs := #[.slice A637_0 ((rd_T49 l0 x25_1).f0).length c637_0, .int .i64 0, .int .i64 0, .int .i64 0, .string (⟨#[]⟩ : ByteArray)]) ?_ 1 _ rfl; (with_reducible repeat (first | refine bN ?_ _ | refine bD ?_ | refine bA ?_ _)); refine blk_put (cs := #[.slice none 0 0, .int .i64 0, .int .i64 0, .int .i64 0, .string (⟨#[]⟩ : ByteArray)]) ?_ 0 _ rfl; (with_reducible repeat (first | refine bN ?_ _ | refine bD ?_ | refine bA ?_ _)); exact BK638.out) k_ hk_)⟩)) (lZ (by repeat (first | (with_reducible first | exact HB.out | apply lA | apply lN | apply lD | refine lS ?_ GE630.out | refine lS ?_ GE633.out | refine lS ?_ GE638.out) | exact HB.out)))); have n2_ := aZ (blk_below (g := gb630) (o := .cells #[.int .i64 0, .int .i64 0] 26 (0, 0)) (by (with_reducible repeat (first | refine bN ?_ _ | refine bD ?_ | refine bA ?_ _)); refine blk_far ?_ NB630_638.out _; (with_reducible repeat (first | refine bN ?_ _ | refine bD ?_ | refine bA ?_ _)); refine blk_far ?_ NB630_638.out _; (with_reducible repeat (first | refine bN ?_ _ | refine bD ?_ | refine bA ?_ _)); refine blk_far ?_ NB630_638.out _; (with_reducible repeat (first | refine bN ?_ _ | refine bD ?_ | refine bA ?_ _)); refine blk_far ?_ NB630_638.out _; (with_reducible repeat (first | refine bN ?_ _ | refine bD ?_ | refine bA ?_ _)); refine blk_far ?_ NB630_638.out _; (with_reducible repeat (first | refine bN ?_ _ | refine bD ?_ | refine bA ?_ _)); exact BK630.out) hb); have n3_ := aZ (blk_below (g := gb633) (o := .cells #[.int .i64 t631, .int .i64 t632] 26 (0, 0)) (by (with_reducible repeat (first | refine bN ?_ _ | refine bD ?_ | refine bA ?_ _)); refine blk_far ?_ NB633_638.out _; (with_reducible repeat (first | refine bN ?_ _ | refine bD ?_ | refine bA ?_ _)); refine blk_far ?_ NB633_638.out _; (with_reducible repeat (first | refine bN ?_ _ | refine bD ?_ | refine bA ?_ _)); refine blk_far ?_ NB633_638.out _; (with_reducible repeat (first | refine bN ?_ _ | refine bD ?_ | refine bA ?_ _)); refine blk_far ?_ NB633_638.out _; (with_reducible repeat (first | refine bN ?_ _ | refine bD ?_ | refine bA ?_ _)); refine blk_far ?_ NB633_638.out _; (with_reducible repeat (first | refine bN ?_ _ | refine bD ?_ | refine bA ?_ _)); exact BK633.out) hb); have n4_ := aZ (blk_below (g := gb638) (o := .cells #[.slice A637_0 ((rd_T49 l0 x25_1).f0).length c637_0, .int .i64 ((rd_T49 l0 x25_1).f1), .int .i64 ((rd_T49 l0 x25_1).f2), .int .i64 ((rd_T49 l0 x25_1).f3), .string ((rd_T49 l0 x25_1).f4)] 49 (0, 0)) (by (with_reducible repeat (first | refine bN ?_ _ | refine bD ?_ | refine bA ?_ _)); refine blk_put (cs := #[.slice A637_0 ((rd_T49 l0 x25_1).f0).length c637_0, .int .i64 ((rd_T49 l0 x25_1).f1), .int .i64 ((rd_T49 l0 x25_1).f2), .int .i64 ((rd_T49 l0 x25_1).f3), .string (⟨#[]⟩ : ByteArray)]) ?_ 4 _ rfl; (with_reducible repeat (first | refine bN ?_ _ | refine bD ?_ | refine bA ?_ _)); refine blk_put (cs := #[.slice A637_0 ((rd_T49 l0 x25_1).f0).length c637_0, .int .i64 ((rd_T49 l0 x25_1).f1), .int .i64 ((rd_T49 l0 x25_1).f2), .int .i64 0, .string (⟨#[]⟩ : ByteArray)]) ?_ 3 _ rfl; (with_reducible repeat (first | refine bN ?_ _ | refine bD ?_ | refine bA ?_ _)); refine blk_put (cs := #[.slice A637_0 ((rd_T49 l0 x25_1).f0).length c637_0, .int .i64 ((rd_T49 l0 x25_1).f1), .int .i64 0, .int .i64 0, .string (⟨#[]⟩ : ByteArray)]) ?_ 2 _ rfl; (with_reducible repeat (first | refine bN ?_ _ | refine bD ?_ | refine bA ?_ _)); refine blk_put (cs := #[.slice A637_0 ((rd_T49 l0 x25_1).f0).length c637_0, .int .i64 0, .int .i64 0, .int .i64 0, .string (⟨#[]⟩ : ByteArray)]) ?_ 1 _ rfl; (with_reducible repeat (first | refine bN ?_ _ | refine bD ?_ | refine bA ?_ _)); refine blk_put (cs := #[.slice none 0 0, .int .i64 0, .int .i64 0, .int .i64 0, .string (⟨#[]⟩ : ByteArray)]) ?_ 0 _ rfl; (with_reducible repeat (first | refine bN ?_ _ | refine bD ?_ | refine bA ?_ _)); exact BK638.out) hb); have n5_ := aZ (lT (by repeat (first | (with_reducible first | exact HB.out | apply lA | apply lN | apply lD | refine lS ?_ GE630.out | refine lS ?_ GE633.out | refine lS ?_ GE638.out) | exact HB.out)) hb); clear HO_5; clear BK630; clear BK633; clear BK638; clear HB; have HO_5 := n0_; have HO641 := n1_; have BK630 := n2_; have BK633 := n3_; have BK638 := n4_; have HB := n5_; clear n0_ n1_ n2_ n3_ n4_ n5_; (try clear hb); (try clear hb2); (try clear hk); (try clear hi); (try clear ho0); obtain ⟨Ao32, co32, eo32⟩ := Kd.V_slice HO641.out; subst eo32) | ((with_reducible refine gate_callee (f := 42) rfl ?_); refine goesL_ (some 34) rfl rfl Try.func42 (by kernel_rfl) rfl #[.slice Ao32 t639.length co32] rfl (by (try simp only [List.map_toArray, List.map_cons, List.map_nil]); first | done | rfl | (simp only [List.length_drop, List.length_take]; rfl)) ?_; (with_reducible refine (digest_Of.calls k1 _ _ t639 t642 t643 t644 _ ?side1 ?side2 A26.out).mono ?_); (case side1 => repeat (first | exact (Kd.V_reads' HO641.out).2.2 | (with_reducible refine Kd.C_alloc ?_ _) | (with_reducible refine Kd.C_drewN ?_ _) | (with_reducible refine Kd.C_drew ?_))); (case side2 => exact (Kd.V_reads' HO641.out).2.1); rintro e w33 ⟨rfl, hb⟩; refine ⟨_, rfl, ?_⟩; have n0_ := aZ (Kd.R_below (by (with_reducible repeat (first | apply Kd.rA | apply Kd.rN | apply Kd.rD)); exact HO_5.out) hb); have n1_ := aZ (Kd.V_below (by (with_reducible repeat (first | apply Kd.V_alloc | apply Kd.V_drewN | apply Kd.V_drew)); exact HO641.out) hb); have n2_ := aZ (blk_below (g := gb630) (o := .cells #[.int .i64 0, .int .i64 0] 26 (0, 0)) (by (with_reducible repeat (first | refine bN ?_ _ | refine bD ?_ | refine bA ?_ _)); exact BK630.out) hb); have n3_ := aZ (blk_below (g := gb633) (o := .cells #[.int .i64 t631, .int .i64 t632] 26 (0, 0)) (by (with_reducible repeat (first | refine bN ?_ _ | refine bD ?_ | refine bA ?_ _)); exact BK633.out) hb); have n4_ := aZ (blk_below (g := gb638) (o := .cells #[.slice A637_0 ((rd_T49 l0 x25_1).f0).length c637_0, .int .i64 ((rd_T49 l0 x25_1).f1), .int .i64 ((rd_T49 l0 x25_1).f2), .int .i64 ((rd_T49 l0 x25_1).f3), .string ((rd_T49 l0 x25_1).f4)] 49 (0, 0)) (by (with_reducible repeat (first | refine bN ?_ _ | refine bD ?_ | refine bA ?_ _)); exact BK638.out) hb); have n5_ := aZ (lT (by repeat (first | (with_reducible first | exact HB.out | apply lA | apply lN | apply lD | refine lS ?_ GE630.out | refine lS ?_ GE633.out | refine lS ?_ GE638.out) | exact HB.out)) hb); clear HO_5; clear HO641; clear BK630; clear BK633; clear BK638; clear HB; have HO_5 := n0_; have HO641 := n1_; have BK630 := n2_; have BK633 := n3_; have BK638 := n4_; have HB := n5_; clear n0_ n1_ n2_ n3_ n4_ n5_; (try clear hb); (try clear hb2); (try clear hk); (try clear hi)) | ((with_reducible refine gate_dst (N := 9) rfl ?_); refine box_event ?hg (N := 9) ?hd (cs := #[.int .i64 0, .int .i64 0]) (t := 26) ?hr ?_; (case hd => rfl); (case hg => rfl); (case hr => first | (go_simp; done) | (go_simp; rfl)); intro gb645 hg w34 hbox hb; have n0_ := aZ (Kd.R_below (by (with_reducible repeat (first | apply Kd.rA | apply Kd.rN | apply Kd.rD)); exact HO_5.out) hb); have n1_ := aZ (Kd.V_below (Kd.V_elderB (by (with_reducible repeat (first | apply Kd.V_alloc | apply Kd.V_drewN | apply Kd.V_drew)); exact HO641.out) gb645 (Nat.le_of_eq hg.symm)) hb); have n2_ := aZ (blk_below (g := gb630) (o := .cells #[.int .i64 0, .int .i64 0] 26 (0, 0)) (by (with_reducible repeat (first | refine bN ?_ _ | refine bD ?_ | refine bA ?_ _)); exact BK630.out) hb); have n3_ := aZ (blk_below (g := gb633) (o := .cells #[.int .i64 t631, .int .i64 t632] 26 (0, 0)) (by (with_reducible repeat (first | refine bN ?_ _ | refine bD ?_ | refine bA ?_ _)); exact BK633.out) hb); have n4_ := aZ (blk_below (g := gb638) (o := .cells #[.slice A637_0 ((rd_T49 l0 x25_1).f0).length c637_0, .int .i64 ((rd_T49 l0 x25_1).f1), .int .i64 ((rd_T49 l0 x25_1).f2), .int .i64 ((rd_T49 l0 x25_1).f3), .string ((rd_T49 l0 x25_1).f4)] 49 (0, 0)) (by (with_reducible repeat (first | refine bN ?_ _ | refine bD ?_ | refine bA ?_ _)); exact BK638.out) hb); have n5_ := aZ (lT (by repeat (first | (with_reducible first | exact HB.out | apply lA | apply lN | apply lD | refine lS ?_ GE630.out | refine lS ?_ GE633.out | refine lS ?_ GE638.out) | exact HB.out)) hb); have n6_ := aZ (hbox); have n7_ := aZ ((by rw [hg]; exact (lZ (by repeat (first | (with_reducible first | exact HB.out | apply lA | apply lN | apply lD | refine lS ?_ GE630.out | refine lS ?_ GE633.out | refine lS ?_ GE638.out) | exact HB.out))) : w.heap.size ≤ gb645)); have n8_ := aZ ((by rw [hg]; exact (lZ (by repeat (first | (with_reducible first | exact HB.out | apply lA | apply lN | apply lD | refine lS ?_ GE630.out | refine lS ?_ GE633.out | refine lS ?_ GE638.out) | exact HB.out))) : w.heap.size ≤ gb645)); have n9_ := aZ ((by rw [hg]; exact Nat.ne_of_lt (blk_lt (g := gb630) (o := .cells #[.int .i64 0, .int .i64 0] 26 (0, 0)) (by (with_reducible repeat (first | refine bN ?_ _ | refine bD ?_ | refine bA ?_ _)); exact BK630.out)) : gb630 ≠ gb645)); have n10_ := aZ ((by rw [hg]; exact Nat.ne_of_gt (blk_lt (g := gb630) (o := .cells #[.int .i64 0, .int .i64 0] 26 (0, 0)) (by (with_reducible repeat (first | refine bN ?_ _ | refine bD ?_ | refine bA ?_ _)); exact BK630.out)) : gb645 ≠ gb630)); have n11_ := aZ ((by rw [hg]; exact Nat.ne_of_lt (blk_lt (g := gb633) (o := .cells #[.int .i64 t631, .int .i64 t632] 26 (0, 0)) (by (with_reducible repeat (first | refine bN ?_ _ | refine bD ?_ | refine bA ?_ _)); exact BK633.out)) : gb633 ≠ gb645)); have n12_ := aZ ((by rw [hg]; exact Nat.ne_of_gt (blk_lt (g := gb633) (o := .cells #[.int .i64 t631, .int .i64 t632] 26 (0, 0)) (by (with_reducible repeat (first | refine bN ?_ _ | refine bD ?_ | refine bA ?_ _)); exact BK633.out)) : gb645 ≠ gb633)); have n13_ := aZ ((by rw [hg]; exact Nat.ne_of_lt (blk_lt (g := gb638) (o := .cells #[.slice A637_0 ((rd_T49 l0 x25_1).f0).length c637_0, .int .i64 ((rd_T49 l0 x25_1).f1), .int .i64 ((rd_T49 l0 x25_1).f2), .int .i64 ((rd_T49 l0 x25_1).f3), .string ((rd_T49 l0 x25_1).f4)] 49 (0, 0)) (by (with_reducible repeat (first | refine bN ?_ _ | refine bD ?_ | refine bA ?_ _)); exact BK638.out)) : gb638 ≠ gb645)); have n14_ := aZ ((by rw [hg]; exact Nat.ne_of_gt (blk_lt (g := gb638) (o := .cells #[.slice A637_0 ((rd_T49 l0 x25_1).f0).length c637_0, .int .i64 ((rd_T49 l0 x25_1).f1), .int .i64 ((rd_T49 l0 x25_1).f2), .int .i64 ((rd_T49 l0 x25_1).f3), .string ((rd_T49 l0 x25_1).f4)] 49 (0, 0)) (by (with_reducible repeat (first | refine bN ?_ _ | refine bD ?_ | refine bA ?_ _)); exact BK638.out)) : gb645 ≠ gb638)); clear HO_5; clear HO641; clear BK630; clear BK633; clear BK638; clear HB; have HO_5 := n0_; have HO641 := n1_; have BK630 := n2_; have BK633 := n3_; have BK638 := n4_; have HB := n5_; have BK645 := n6_; have GW645 := n7_; have GE645 := n8_; have NB630_645 := n9_; have NB645_630 := n10_; have NB633_645 := n11_; have NB645_633 := n12_; have NB638_645 := n13_; have NB645_638 := n14_; clear n0_ n1_ n2_ n3_ n4_ n5_ n6_ n7_ n8_ n9_ n10_ n11_ n12_ n13_ n14_; clear hb hbox hg; have hnb35 := NB645_630.out; have hnc35 := NB630_645.out; have hnb36 := NB645_633.out; have hnc36 := NB633_645.out; have hnb37 := NB645_638.out; have hnc37 := NB638_645.out; have hcz38_0 : w34.cell? ⟨gb645, 0, none⟩ = some (.int .i64 0) := (blk_cell BK645.out 0).trans rfl; have hcz38_1 : w34.cell? ⟨gb645, 1, none⟩ = some (.int .i64 0) := (blk_cell BK645.out 1).trans rfl; have hfz38_0 := blk_frozen BK645.out 0; have hfz38_1 := blk_frozen BK645.out 1; have hcz39_0 : w34.cell? ⟨gb638, 0, none⟩ = some (.slice A637_0 ((rd_T49 l0 x25_1).f0).length c637_0) := (blk_cell BK638.out 0).trans rfl; have hcz39_1 : w34.cell? ⟨gb638, 1, none⟩ = some (.int .i64 ((rd_T49 l0 x25_1).f1)) := (blk_cell BK638.out 1).trans rfl; have hcz39_2 : w34.cell? ⟨gb638, 2, none⟩ = some (.int .i64 ((rd_T49 l0 x25_1).f2)) := (blk_cell BK638.out 2).trans rfl; have hcz39_3 : w34.cell? ⟨gb638, 3, none⟩ = some (.int .i64 ((rd_T49 l0 x25_1).f3)) := (blk_cell BK638.out 3).trans rfl; have hcz39_4 : w34.cell? ⟨gb638, 4, none⟩ = some (.string ((rd_T49 l0 x25_1).f4)) := (blk_cell BK638.out 4).trans rfl; have hfz39_0 := blk_frozen BK638.out 0; have hfz39_1 := blk_frozen BK638.out 1; have hfz39_2 := blk_frozen BK638.out 2; have hfz39_3 := blk_frozen BK638.out 3; have hfz39_4 := blk_frozen BK638.out 4) | ((with_reducible refine gate_dst (N := 43) rfl ?_); refine Kd.R_lit (Kd.int .i64) _ 3 ?hg (N := 43) ?hd (xs := ([(rd_T49 l0 x25_1).f1, (rd_T49 l0 x25_1).f2, (rd_T49 l0 x25_1).f3] : List Int)) (inner := [.int .i64 ((rd_T49 l0 x25_1).f1), .int .i64 ((rd_T49 l0 x25_1).f2), .int .i64 ((rd_T49 l0 x25_1).f3)]) (ok := fun _ => True) (okp := fun _ => True) ?hr ?hp (fun _ hk => hk) trivial (Below.refl _ _) (Nat.le_refl _) (by simp) ?_; (case hd => rfl); (case hg => rfl); (case hr => first | (go_simp; done) | (go_simp; rfl)); (case hp => exact (Reps.one (show Kd.M (Kd.int .i64) _ _ _ ((rd_T49 l0 x25_1).f1) [.int .i64 ((rd_T49 l0 x25_1).f1)] from rfl) (Reps.one (show Kd.M (Kd.int .i64) _ _ _ ((rd_T49 l0 x25_1).f2) [.int .i64 ((rd_T49 l0 x25_1).f2)] from rfl) (Reps.one (show Kd.M (Kd.int .i64) _ _ _ ((rd_T49 l0 x25_1).f3) [.int .i64 ((rd_T49 l0 x25_1).f3)] from rfl) (Reps.none _ _))))); intro v647 w40 ho41 hb hg_ hnew_; clear hg_ hnew_; (first | rw [← Ny646.out] at ho41 | (simp only [Int.reduceToNat] at ho41; rw [← Ny646.out] at ho41)); have n0_ := aZ (Kd.R_elder' (by (with_reducible repeat (first | apply Kd.rA | apply Kd.rN | apply Kd.rD)); exact (Kd.R_mono (Kd.R_far (p := ⟨gb645, 1, none⟩) (Kd.R_far (p := ⟨gb645, 0, none⟩) (Kd.R_types HO_5.out BK645.out (by decide)) (fun _ hk => hk.2) (.int .i64 t643)) (fun _ hk => hk.2) (.int .i64 t644)) (fun _ h_ => h_.1))) (Kd.R_base ho41) hb); have n1_ := aZ (Kd.V_elder' (by (with_reducible repeat (first | apply Kd.V_alloc | apply Kd.V_drewN | apply Kd.V_drew)); exact (Kd.V_mono (Kd.V_far (p := ⟨gb645, 1, none⟩) (Kd.V_far (p := ⟨gb645, 0, none⟩) (Kd.V_mono HO641.out (fun k_ hk => (⟨hk, hk.2⟩ : _ ∧ k_ ≠ gb645))) (fun _ hk => hk.2) (.int .i64 t643)) (fun _ hk => hk.2) (.int .i64 t644)) (fun _ h_ => h_.1))) (Kd.R_base ho41) hb); have n2_ := aZ (Kd.R_lower (Kd.R_new' ho41 (Kd.R_lt (by (with_reducible repeat (first | apply Kd.rA | apply Kd.rN | apply Kd.rD)); exact (Kd.R_mono (Kd.R_far (p := ⟨gb645, 1, none⟩) (Kd.R_far (p := ⟨gb645, 0, none⟩) (Kd.R_types HO_5.out BK645.out (by decide)) (fun _ hk => hk.2) (.int .i64 t643)) (fun _ hk => hk.2) (.int .i64 t644)) (fun _ h_ => h_.1))))) (lZ (by repeat (first | (with_reducible first | exact HB.out | apply lA | apply lN | apply lD | refine lS ?_ GE630.out | refine lS ?_ GE633.out | refine lS ?_ GE638.out | refine lS ?_ GE645.out) | exact HB.out)))); have n3_ := aZ (blk_below (g := gb630) (o := .cells #[.int .i64 0, .int .i64 0] 26 (0, 0)) (by (with_reducible repeat (first | refine bN ?_ _ | refine bD ?_ | refine bA ?_ _)); refine blk_far ?_ NB630_645.out _; (with_reducible repeat (first | refine bN ?_ _ | refine bD ?_ | refine bA ?_ _)); refine blk_far ?_ NB630_645.out _; (with_reducible repeat (first | refine bN ?_ _ | refine bD ?_ | refine bA ?_ _)); exact BK630.out) hb); have n4_ := aZ (blk_below (g := gb633) (o := .cells #[.int .i64 t631, .int .i64 t632] 26 (0, 0)) (by (with_reducible repeat (first | refine bN ?_ _ | refine bD ?_ | refine bA ?_ _)); refine blk_far ?_ NB633_645.out _; (with_reducible repeat (first | refine bN ?_ _ | refine bD ?_ | refine bA ?_ _)); refine blk_far ?_ NB633_645.out _; (with_reducible repeat (first | refine bN ?_ _ | refine bD ?_ | refine bA ?_ _)); exact BK633.out) hb); have n5_ := aZ (blk_below (g := gb638) (o := .cells #[.slice A637_0 ((rd_T49 l0 x25_1).f0).length c637_0, .int .i64 ((rd_T49 l0 x25_1).f1), .int .i64 ((rd_T49 l0 x25_1).f2), .int .i64 ((rd_T49 l0 x25_1).f3), .string ((rd_T49 l0 x25_1).f4)] 49 (0, 0)) (by (with_reducible repeat (first | refine bN ?_ _ | refine bD ?_ | refine bA ?_ _)); refine blk_far ?_ NB638_645.out _; (with_reducible repeat (first | refine bN ?_ _ | refine bD ?_ | refine bA ?_ _)); refine blk_far ?_ NB638_645.out _; (with_reducible repeat (first | refine bN ?_ _ | refine bD ?_ | refine bA ?_ _)); exact BK638.out) hb); have n6_ := aZ (blk_below (g := gb645) (o := .cells #[.int .i64 t643, .int .i64 t644] 26 (0, 0)) (by (with_reducible repeat (first | refine bN ?_ _ | refine bD ?_ | refine bA ?_ _)); refine blk_put (cs := #[.int .i64 t643, .int .i64 0]) ?_ 1 _ rfl; (with_reducible repeat (first | refine bN ?_ _ | refine bD ?_ | refine bA ?_ _)); refine blk_put (cs := #[.int .i64 0, .int .i64 0]) ?_ 0 _ rfl; (with_reducible repeat (first | refine bN ?_ _ | refine bD ?_ | refine bA ?_ _)); exact BK645.out) hb); have n7_ := aZ (lT (by repeat (first | (with_reducible first | exact HB.out | apply lA | apply lN | apply lD | refine lS ?_ GE630.out | refine lS ?_ GE633.out | refine lS ?_ GE638.out | refine lS ?_ GE645.out) | exact HB.out)) hb); clear HO_5; clear HO641; clear BK630; clear BK633; clear BK638; clear BK645; clear HB; have HO_5 := n0_; have HO641 := n1_; have HO648 := n2_; have BK630 := n3_; have BK633 := n4_; have BK638 := n5_; have BK645 := n6_; have HB := n7_; clear n0_ n1_ n2_ n3_ n4_ n5_ n6_ n7_; clear hb ho41; obtain ⟨Ao42, co42, eo42⟩ := Kd.R_slice HO648.out; subst eo42))
    go_loopg [8, 45] k1 (fun kq v8 v45 w' => ∃ (x8_2 : Int) (x45_2 : Int), v8 = .int .i64 x8_2 ∧ v45 = .int .i64 x45_2 ∧ Aside0 (history_Digests.l1 kq x5_1 x25_1 x8_2 l0 (l0.length : Int) x25_1 y646 (y646.length : Int) x45_2 ((rd_T49 l0 x25_1).f0) ((rd_T49 l0 x25_1).f1) ((rd_T49 l0 x25_1).f2) ((rd_T49 l0 x25_1).f3) ((rd_T49 l0 x25_1).f4) = some (r1, r2, r3)) ∧ Aside0 (kq ≤ k1) ∧ Aside0 (Kd.R (Kd.int .i64) 3 w' w.heap.size (fun k_ => some k_ ≠ ((.slice Ao42 y646.length co42) : Value).ownBlock) v635 x5_1) ∧ Aside0 (Kd.R (Kd.int .i64) 3 w' w.heap.size (fun k_ => some k_ ≠ (v635 : Value).ownBlock) (.slice Ao42 y646.length co42) y646) ∧ Aside0 (w'.heap[gb630]? = some (.cells #[.int .i64 0, .int .i64 0] 26 (0, 0))) ∧ Aside0 (w'.heap[gb633]? = some (.cells #[.int .i64 t631, .int .i64 t632] 26 (0, 0))) ∧ Aside0 (w'.heap[gb638]? = some (.cells #[(.slice A637_0 ((rd_T49 l0 x25_1).f0).length c637_0), .int .i64 ((rd_T49 l0 x25_1).f1), .int .i64 ((rd_T49 l0 x25_1).f2), .int .i64 ((rd_T49 l0 x25_1).f3), .string ((rd_T49 l0 x25_1).f4)] 49 (0, 0))) ∧ Aside0 (w'.heap[gb645]? = some (.cells #[.int .i64 t643, .int .i64 t644] 26 (0, 0))) ∧ Aside0 (Below w.heap.size w w'))
    case atStart => exact ⟨(t642), (0), (by first | rfl | (simp; done) | (simp [*]; done) | (simp [i64_w]; done)), (by first | rfl | (simp; done) | (simp [*]; done) | (simp [i64_w]; done)), H', ⟨Nat.le_refl _⟩, ⟨by (with_reducible repeat (first | apply Kd.rA | apply Kd.rN | apply Kd.rD)); exact Kd.R_mono HO_5.out (fun _ hk => hk.2)⟩, ⟨by (with_reducible repeat (first | apply Kd.rA | apply Kd.rN | apply Kd.rD)); exact Kd.R_mono HO648.out (fun _ hk => hk.2)⟩, ⟨by (with_reducible repeat (first | refine bN ?_ _ | refine bD ?_ | refine bA ?_ _)); exact BK630.out⟩, ⟨by (with_reducible repeat (first | refine bN ?_ _ | refine bD ?_ | refine bA ?_ _)); exact BK633.out⟩, ⟨by (with_reducible repeat (first | refine bN ?_ _ | refine bD ?_ | refine bA ?_ _)); exact BK638.out⟩, ⟨by (with_reducible repeat (first | refine bN ?_ _ | refine bD ?_ | refine bA ?_ _)); exact BK645.out⟩, ⟨by repeat (first | (with_reducible first | exact HB.out | apply lA | apply lN | apply lD | refine lS ?_ GE630.out | refine lS ?_ GE633.out | refine lS ?_ GE638.out | refine lS ?_ GE645.out) | exact HB.out)⟩⟩
    case round =>
     clear H'
     (try clear c22); (try clear c22b0); (try clear c23); (try clear c23b0); (try clear c24); (try clear c24b0); (try clear hcz30_0); (try clear hcz30_1); (try clear hcz30_2); (try clear hcz30_3); (try clear hcz30_4); (try clear hcz38_0); (try clear hcz38_1); (try clear hcz39_0); (try clear hcz39_1); (try clear hcz39_2); (try clear hcz39_3); (try clear hcz39_4); (try clear hfz30_0); (try clear hfz30_1); (try clear hfz30_2); (try clear hfz30_3); (try clear hfz30_4); (try clear hfz38_0); (try clear hfz38_1); (try clear hfz39_0); (try clear hfz39_1); (try clear hfz39_2); (try clear hfz39_3); (try clear hfz39_4); (try clear hx637_0); (try clear hx637_1); (try clear hx637_2); (try clear hx637_3); (try clear hx637_4); (try clear p637); (try clear q637)
     obtain ⟨x8_2, x45_2, rfl, rfl, HA, HK2, HO_5, HO_43, BK630, BK633, BK638, BK645, HB⟩ := hrel
     cases gk with
     | zero => exact absurd HA.out (by simp [history_Digests.l1])
     | succ k2 =>
      have H := HA.out
      clear HA
      simp only [history_Digests.l1] at H
      by_cases c43 : x45_2 < (y646.length : Int)
      · rw [if_pos c43] at H
        have c43b0 : decide (x45_2 < (y646.length : Int)) = true := decide_eq_true c43
        clear c43
        by_cases c44 : 0 ≤ x45_2
        rotate_left
        · rw [if_neg c44] at H
          exact absurd H (by simp)
        rw [if_pos c44] at H
        have c44b0 : decide (0 ≤ x45_2) = true := decide_eq_true c44
        clear c44
        by_cases c45 : x45_2 < (y646.length : Int)
        rotate_left
        · rw [if_neg c45] at H
          exact absurd H (by simp)
        rw [if_pos c45] at H
        have c45b0 : decide (x45_2 < (y646.length : Int)) = true := decide_eq_true c45
        clear c45
        replace H := Option.bind_eq_some_iff.mp H
        obtain ⟨⟨t650, t651, t652⟩, A460, H⟩ := H
        replace H : (history_Digests.l1 k2 x5_1 x25_1 t650 l0 (l0.length : Int) x25_1 y646 (y646.length : Int) (wrap64 (x45_2 + 1)) ((rd_T49 l0 x25_1).f0) ((rd_T49 l0 x25_1).f1) ((rd_T49 l0 x25_1).f2) ((rd_T49 l0 x25_1).f3) ((rd_T49 l0 x25_1).f4)) = some (r1, r2, r3) := H
        have A46 := aZ A460
        clear A460
        have H' := aZ H
        clear H
        have p649 : 0 ≤ (x45_2 : Int) := of_decide_eq_true (by first | (with_reducible assumption) | assumption)
        have q649 : x45_2 < (y646.length : Int) := of_decide_eq_true (by first | (with_reducible assumption) | assumption)
        obtain ⟨ad649, e649, hx649_0⟩ := Kd.at_int (Kd.R_reads' HO_43.out).2.2 x45_2 p649 q649
        cases e649
        replace p649 := eq_true p649
        replace q649 := eq_true q649
        go_wp2_with (first | ((with_reducible refine gate_callee (f := 43) rfl ?_); refine goesL_ (some 52) rfl rfl Try.func43 (by kernel_rfl) rfl #[.int .i64 x8_2, .int .i64 (rd y646 x45_2)] rfl (by (try simp only [List.map_toArray, List.map_cons, List.map_nil]); first | done | rfl | (simp only [List.length_drop, List.length_take]; rfl)) ?_; (with_reducible refine (digest_Pair.calls k2 x8_2 (rd y646 x45_2) t650 t651 t652 _ A46.out).mono ?_); rintro e w47 ⟨rfl, hb⟩; refine ⟨_, rfl, ?_⟩; have n0_ := aZ (Kd.R_below (by (with_reducible repeat (first | apply Kd.rA | apply Kd.rN | apply Kd.rD)); exact HO_5.out) hb); have n1_ := aZ (Kd.R_below (by (with_reducible repeat (first | apply Kd.rA | apply Kd.rN | apply Kd.rD)); exact HO_43.out) hb); have n2_ := aZ (blk_below (g := gb630) (o := .cells #[.int .i64 0, .int .i64 0] 26 (0, 0)) (by (with_reducible repeat (first | refine bN ?_ _ | refine bD ?_ | refine bA ?_ _)); exact BK630.out) hb); have n3_ := aZ (blk_below (g := gb633) (o := .cells #[.int .i64 t631, .int .i64 t632] 26 (0, 0)) (by (with_reducible repeat (first | refine bN ?_ _ | refine bD ?_ | refine bA ?_ _)); exact BK633.out) hb); have n4_ := aZ (blk_below (g := gb638) (o := .cells #[.slice A637_0 ((rd_T49 l0 x25_1).f0).length c637_0, .int .i64 ((rd_T49 l0 x25_1).f1), .int .i64 ((rd_T49 l0 x25_1).f2), .int .i64 ((rd_T49 l0 x25_1).f3), .string ((rd_T49 l0 x25_1).f4)] 49 (0, 0)) (by (with_reducible repeat (first | refine bN ?_ _ | refine bD ?_ | refine bA ?_ _)); exact BK638.out) hb); have n5_ := aZ (blk_below (g := gb645) (o := .cells #[.int .i64 t643, .int .i64 t644] 26 (0, 0)) (by (with_reducible repeat (first | refine bN ?_ _ | refine bD ?_ | refine bA ?_ _)); exact BK645.out) hb); have n6_ := aZ (lT (by repeat (first | (with_reducible first | exact HB.out | apply lA | apply lN | apply lD | refine lS ?_ GE630.out | refine lS ?_ GE633.out | refine lS ?_ GE638.out | refine lS ?_ GE645.out) | exact HB.out)) hb); clear HO_5; clear HO_43; clear BK630; clear BK633; clear BK638; clear BK645; clear HB; have HO_5 := n0_; have HO_43 := n1_; have BK630 := n2_; have BK633 := n3_; have BK638 := n4_; have BK645 := n5_; have HB := n6_; clear n0_ n1_ n2_ n3_ n4_ n5_ n6_; (try clear hb); (try clear hb2); (try clear hk); (try clear hi)))
        go_roundg k2
        case measure => have := HK1.out; have := HK2.out; omega
        case rel => exact ⟨(t650), (wrap64 (x45_2 + 1)), (by first | rfl | (simp; done) | (simp [*]; done) | (simp [i64_w]; done)), (by first | rfl | (simp; done) | (simp [*]; done) | (simp [i64_w]; done)), H', ⟨by have := HK1.out; have := HK2.out; omega⟩, ⟨by (with_reducible repeat (first | apply Kd.rA | apply Kd.rN | apply Kd.rD)); exact HO_5.out⟩, ⟨by (with_reducible repeat (first | apply Kd.rA | apply Kd.rN | apply Kd.rD)); exact HO_43.out⟩, ⟨by (with_reducible repeat (first | refine bN ?_ _ | refine bD ?_ | refine bA ?_ _)); exact BK630.out⟩, ⟨by (with_reducible repeat (first | refine bN ?_ _ | refine bD ?_ | refine bA ?_ _)); exact BK633.out⟩, ⟨by (with_reducible repeat (first | refine bN ?_ _ | refine bD ?_ | refine bA ?_ _)); exact BK638.out⟩, ⟨by (with_reducible repeat (first | refine bN ?_ _ | refine bD ?_ | refine bA ?_ _)); exact BK645.out⟩, ⟨by repeat (first | (with_reducible first | exact HB.out | apply lA | apply lN | apply lD | refine lS ?_ GE630.out | refine lS ?_ GE633.out | refine lS ?_ GE638.out | refine lS ?_ GE645.out) | exact HB.out)⟩⟩
      rw [if_neg c43] at H
      have c43b0 : decide (x45_2 < (y646.length : Int)) = false := decide_eq_false c43
      clear c43
      have H' := aZ H
      clear H
      have hnb48 := NB638_630.out
      have hnc48 := NB630_638.out
      have hnb49 := NB638_633.out
      have hnc49 := NB633_638.out
      have hnb50 := NB638_645.out
      have hnc50 := NB645_638.out
      have hcz51_0 : wr.cell? ⟨gb638, 0, none⟩ = some (.slice A637_0 ((rd_T49 l0 x25_1).f0).length c637_0) := (blk_cell BK638.out 0).trans rfl
      have hcz51_1 : wr.cell? ⟨gb638, 1, none⟩ = some (.int .i64 ((rd_T49 l0 x25_1).f1)) := (blk_cell BK638.out 1).trans rfl
      have hcz51_2 : wr.cell? ⟨gb638, 2, none⟩ = some (.int .i64 ((rd_T49 l0 x25_1).f2)) := (blk_cell BK638.out 2).trans rfl
      have hcz51_3 : wr.cell? ⟨gb638, 3, none⟩ = some (.int .i64 ((rd_T49 l0 x25_1).f3)) := (blk_cell BK638.out 3).trans rfl
      have hcz51_4 : wr.cell? ⟨gb638, 4, none⟩ = some (.string ((rd_T49 l0 x25_1).f4)) := (blk_cell BK638.out 4).trans rfl
      have hfz51_0 := blk_frozen BK638.out 0
      have hfz51_1 := blk_frozen BK638.out 1
      have hfz51_2 := blk_frozen BK638.out 2
      have hfz51_3 := blk_frozen BK638.out 3
      have hfz51_4 := blk_frozen BK638.out 4
      go_wp2
      go_loopg [8, 59] k2 (fun kq v8 v59 w' => ∃ (x8_3 : Int) (x59_3 : Int), v8 = .int .i64 x8_3 ∧ v59 = .int .i64 x59_3 ∧ Aside0 (history_Digests.l2 kq x5_1 x25_1 x8_3 l0 (l0.length : Int) x25_1 ((rd_T49 l0 x25_1).f0) (((rd_T49 l0 x25_1).f0).length : Int) x59_3 = some (r1, r2, r3)) ∧ Aside0 (kq ≤ k2) ∧ Aside0 (Kd.R (Kd.int .i64) 3 w' w.heap.size (fun _ => True) v635 x5_1) ∧ Aside0 (w'.heap[gb630]? = some (.cells #[.int .i64 0, .int .i64 0] 26 (0, 0))) ∧ Aside0 (w'.heap[gb633]? = some (.cells #[.int .i64 t631, .int .i64 t632] 26 (0, 0))) ∧ Aside0 (w'.heap[gb638]? = some (.cells #[(.slice A637_0 ((rd_T49 l0 x25_1).f0).length c637_0), .int .i64 ((rd_T49 l0 x25_1).f1), .int .i64 ((rd_T49 l0 x25_1).f2), .int .i64 ((rd_T49 l0 x25_1).f3), .string ((rd_T49 l0 x25_1).f4)] 49 (0, 0))) ∧ Aside0 (w'.heap[gb645]? = some (.cells #[.int .i64 t643, .int .i64 t644] 26 (0, 0))) ∧ Aside0 (Below w.heap.size w w'))
      case atStart => exact ⟨(x8_2), (0), (by first | rfl | (simp; done) | (simp [*]; done) | (simp [i64_w]; done)), (by first | rfl | (simp; done) | (simp [*]; done) | (simp [i64_w]; done)), H', ⟨Nat.le_refl _⟩, ⟨by (with_reducible repeat (first | apply Kd.rA | apply Kd.rN | apply Kd.rD)); exact Kd.R_mono HO_5.out (fun _ hk => trivial)⟩, ⟨by (with_reducible repeat (first | refine bN ?_ _ | refine bD ?_ | refine bA ?_ _)); exact BK630.out⟩, ⟨by (with_reducible repeat (first | refine bN ?_ _ | refine bD ?_ | refine bA ?_ _)); exact BK633.out⟩, ⟨by (with_reducible repeat (first | refine bN ?_ _ | refine bD ?_ | refine bA ?_ _)); exact BK638.out⟩, ⟨by (with_reducible repeat (first | refine bN ?_ _ | refine bD ?_ | refine bA ?_ _)); exact BK645.out⟩, ⟨by repeat (first | (with_reducible first | exact HB.out | apply lA | apply lN | apply lD | refine lS ?_ GE630.out | refine lS ?_ GE633.out | refine lS ?_ GE638.out | refine lS ?_ GE645.out) | exact HB.out)⟩⟩
      case round =>
       clear H'
       (try clear c43); (try clear c43b0); (try clear hcz51_0); (try clear hcz51_1); (try clear hcz51_2); (try clear hcz51_3); (try clear hcz51_4); (try clear hfz51_0); (try clear hfz51_1); (try clear hfz51_2); (try clear hfz51_3); (try clear hfz51_4)
       obtain ⟨x8_3, x59_3, rfl, rfl, HA, HK3, HO_5, BK630, BK633, BK638, BK645, HB⟩ := hrel
       cases gk with
       | zero => exact absurd HA.out (by simp [history_Digests.l2])
       | succ k3 =>
        have H := HA.out
        clear HA
        simp only [history_Digests.l2] at H
        by_cases c52 : x59_3 < (((rd_T49 l0 x25_1).f0).length : Int)
        rotate_left
        · rw [if_neg c52] at H
          have c52b0 : decide (x59_3 < (((rd_T49 l0 x25_1).f0).length : Int)) = false := decide_eq_false c52
          clear c52
          by_cases c60 : 0 ≤ x25_1
          rotate_left
          · rw [if_neg c60] at H
            exact absurd H (by simp)
          rw [if_pos c60] at H
          have c60b0 : decide (0 ≤ x25_1) = true := decide_eq_true c60
          clear c60
          by_cases c61 : x25_1 < (x5_1.length : Int)
          rotate_left
          · rw [if_neg c61] at H
            exact absurd H (by simp)
          rw [if_pos c61] at H
          have c61b0 : decide (x25_1 < (x5_1.length : Int)) = true := decide_eq_true c61
          clear c61
          obtain ⟨y658, hy658⟩ : ∃ y_ : List Int, y_ = (x5_1.set (x25_1 : Int).toNat x8_3) := ⟨_, rfl⟩
          replace H : (history_Digests.l0 k3 y658 l0 (l0.length : Int) (wrap64 (x25_1 + 1))) = some (r1, r2, r3) := by first | (rw [hy658]; with_reducible exact H) | (have H2_ := (Option.bind_some _ _).symm.trans H; rw [hy658]; with_reducible exact H2_) | (have H2_ := (Option.bind_some _ _).symm.trans H; with_reducible exact H2_) | with_reducible exact H | (rw [hy658]; exact H) | exact H
          have Ny658 := aZ hy658
          clear hy658
          have H' := aZ H
          clear H
          have p62 : 0 ≤ (x25_1 : Int) := of_decide_eq_true (by first | (with_reducible assumption) | assumption)
          have q62 : (x25_1 : Int) < ((x5_1.length : Int) : Int) := of_decide_eq_true (by first | (with_reducible assumption) | assumption)
          obtain ⟨go62, co62, eo62, gb62, gl62, cl62, HG62⟩ := Kd.R_form HO_5.out (by omega)
          (first | cases eo62 | (injection eo62 with ea_ en_ ec_; (first | subst ea_ | (injection ea_ with ea_; subst ea_)); subst ec_; clear en_))
          have GB62 := aZ gb62
          have GG62 := aZ HG62
          clear gb62 gl62 HG62
          obtain ⟨hx62_0, hf62_0⟩ := Kd.R_celln 0 HO_5.out (x25_1 : Int) p62 q62
          replace p62 := eq_true p62
          replace q62 := eq_true q62
          have HP63 := Kd.R_putg HO_5.out (x25_1 : Int) x8_3
          go_wp2_with (first | ((with_reducible refine gate_store (t := 3) (p := 76) rfl ?_); refine store_event (t := 3) (p := 76) (v := ?vo_w64) (w1 := (wr.setCell ⟨go62, (x25_1 : Int).toNat, none⟩ (.int .i64 x8_3))) ?hg ?ho ?hn ?hr ?_; (case ho => rfl); (case hg => rfl); (case hn => rfl); (case hr => first | (go_simp; done) | (go_simp; rfl)); intro w64 hw; have hg : wr.grownBy w64 (some go62) := (by rw [hw]; exact HP63.2); have hp_ : Kd.R (Kd.int .i64) 3 w64 w.heap.size (fun _ => True) (.slice (some ⟨go62, 0, none⟩) x5_1.length co62) y658 := (by rw [hw, Ny658.out]; exact HP63.1); clear HP63; have n0_ := aZ (hp_); have n1_ := aZ (blk_grown (g := gb630) (o := .cells #[.int .i64 0, .int .i64 0] 26 (0, 0)) (by (with_reducible repeat (first | refine bN ?_ _ | refine bD ?_ | refine bA ?_ _)); exact BK630.out) hg (Kd.R_ne HO_5.out BK630.out (by decide))); have n2_ := aZ (blk_grown (g := gb633) (o := .cells #[.int .i64 t631, .int .i64 t632] 26 (0, 0)) (by (with_reducible repeat (first | refine bN ?_ _ | refine bD ?_ | refine bA ?_ _)); exact BK633.out) hg (Kd.R_ne HO_5.out BK633.out (by decide))); have n3_ := aZ (blk_grown (g := gb638) (o := .cells #[.slice A637_0 ((rd_T49 l0 x25_1).f0).length c637_0, .int .i64 ((rd_T49 l0 x25_1).f1), .int .i64 ((rd_T49 l0 x25_1).f2), .int .i64 ((rd_T49 l0 x25_1).f3), .string ((rd_T49 l0 x25_1).f4)] 49 (0, 0)) (by (with_reducible repeat (first | refine bN ?_ _ | refine bD ?_ | refine bA ?_ _)); exact BK638.out) hg (Kd.R_ne HO_5.out BK638.out (by decide))); have n4_ := aZ (blk_grown (g := gb645) (o := .cells #[.int .i64 t643, .int .i64 t644] 26 (0, 0)) (by (with_reducible repeat (first | refine bN ?_ _ | refine bD ?_ | refine bA ?_ _)); exact BK645.out) hg (Kd.R_ne HO_5.out BK645.out (by decide))); have n5_ := aZ ((by rw [hw]; exact lS (HB.out) GB62.out : Below w.heap.size w w64)); clear HO_5; clear BK630; clear BK633; clear BK638; clear BK645; clear HB; have HO_5 := n0_; have BK630 := n1_; have BK633 := n2_; have BK638 := n3_; have BK645 := n4_; have HB := n5_; clear n0_ n1_ n2_ n3_ n4_ n5_; clear hg hw hp_))
          go_roundg k3
          case measure => have := HK1.out; have := HK2.out; have := HK3.out; omega
          case rel => exact ⟨(y658), (wrap64 (x25_1 + 1)), (by first | rfl | (simp; done) | (simp [*]; done) | (simp [i64_w]; done)), H', ⟨by have := HK1.out; have := HK2.out; have := HK3.out; omega⟩, ⟨by (with_reducible repeat (first | apply Kd.rA | apply Kd.rN | apply Kd.rD)); exact HO_5.out⟩, ⟨by (with_reducible repeat (first | refine bN ?_ _ | refine bD ?_ | refine bA ?_ _)); exact BK630.out⟩, ⟨by (with_reducible repeat (first | refine bN ?_ _ | refine bD ?_ | refine bA ?_ _)); exact BK633.out⟩, ⟨by repeat (first | (with_reducible first | exact HB.out | apply lA | apply lN | apply lD | refine lS ?_ GE630.out | refine lS ?_ GE633.out | refine lS ?_ GE638.out | refine lS ?_ GE645.out) | exact HB.out)⟩⟩
        rw [if_pos c52] at H
        have c52b0 : decide (x59_3 < (((rd_T49 l0 x25_1).f0).length : Int)) = true := decide_eq_true c52
        clear c52
        by_cases c53 : 0 ≤ x59_3
        rotate_left
        · rw [if_neg c53] at H
          exact absurd H (by simp)
        rw [if_pos c53] at H
        have c53b0 : decide (0 ≤ x59_3) = true := decide_eq_true c53
        clear c53
        by_cases c54 : x59_3 < (((rd_T49 l0 x25_1).f0).length : Int)
        rotate_left
        · rw [if_neg c54] at H
          exact absurd H (by simp)
        rw [if_pos c54] at H
        have c54b0 : decide (x59_3 < (((rd_T49 l0 x25_1).f0).length : Int)) = true := decide_eq_true c54
        clear c54
        by_cases c55 : 0 ≤ (rd ((rd_T49 l0 x25_1).f0) x59_3)
        rotate_left
        · rw [if_neg c55] at H
          exact absurd H (by simp)
        rw [if_pos c55] at H
        have c55b0 : decide (0 ≤ (rd ((rd_T49 l0 x25_1).f0) x59_3)) = true := decide_eq_true c55
        clear c55
        by_cases c56 : (rd ((rd_T49 l0 x25_1).f0) x59_3) < (x5_1.length : Int)
        rotate_left
        · rw [if_neg c56] at H
          exact absurd H (by simp)
        rw [if_pos c56] at H
        have c56b0 : decide ((rd ((rd_T49 l0 x25_1).f0) x59_3) < (x5_1.length : Int)) = true := decide_eq_true c56
        clear c56
        replace H := Option.bind_eq_some_iff.mp H
        obtain ⟨⟨t655, t656, t657⟩, A570, H⟩ := H
        replace H : (history_Digests.l2 k3 x5_1 x25_1 t655 l0 (l0.length : Int) x25_1 ((rd_T49 l0 x25_1).f0) (((rd_T49 l0 x25_1).f0).length : Int) (wrap64 (x59_3 + 1))) = some (r1, r2, r3) := H
        have A57 := aZ A570
        clear A570
        have H' := aZ H
        clear H
        have p653 : 0 ≤ (x59_3 : Int) := of_decide_eq_true (by first | (with_reducible assumption) | assumption)
        have q653 : x59_3 < (((rd_T49 l0 x25_1).f0).length : Int) := of_decide_eq_true (by first | (with_reducible assumption) | assumption)
        obtain ⟨ad653, e653, hx653_0⟩ := Kd.at_int HR637_0.out x59_3 p653 q653
        cases e653
        replace hx653_0 := (HB.out.cell (World.block_lt_of_cell? w _ hx653_0)).trans hx653_0
        replace p653 := eq_true p653
        replace q653 := eq_true q653
        obtain ⟨Ao58, co58, eo58⟩ := Kd.R_slice HO_5.out
        subst eo58
        have p654 : 0 ≤ ((rd ((rd_T49 l0 x25_1).f0) x59_3) : Int) := of_decide_eq_true (by first | (with_reducible assumption) | assumption)
        have q654 : (rd ((rd_T49 l0 x25_1).f0) x59_3) < (x5_1.length : Int) := of_decide_eq_true (by first | (with_reducible assumption) | assumption)
        obtain ⟨ad654, e654, hx654_0⟩ := Kd.at_int (Kd.R_reads' HO_5.out).2.2 (rd ((rd_T49 l0 x25_1).f0) x59_3) p654 q654
        cases e654
        replace p654 := eq_true p654
        replace q654 := eq_true q654
        go_wp2_with (first | ((with_reducible refine gate_callee (f := 43) rfl ?_); refine goesL_ (some 69) rfl rfl Try.func43 (by kernel_rfl) rfl #[.int .i64 x8_3, .int .i64 (rd x5_1 (rd ((rd_T49 l0 x25_1).f0) x59_3))] rfl (by (try simp only [List.map_toArray, List.map_cons, List.map_nil]); first | done | rfl | (simp only [List.length_drop, List.length_take]; rfl)) ?_; (with_reducible refine (digest_Pair.calls k3 x8_3 (rd x5_1 (rd ((rd_T49 l0 x25_1).f0) x59_3)) t655 t656 t657 _ A57.out).mono ?_); rintro e w59 ⟨rfl, hb⟩; refine ⟨_, rfl, ?_⟩; have n0_ := aZ (Kd.R_below (by (with_reducible repeat (first | apply Kd.rA | apply Kd.rN | apply Kd.rD)); exact HO_5.out) hb); have n1_ := aZ (blk_below (g := gb630) (o := .cells #[.int .i64 0, .int .i64 0] 26 (0, 0)) (by (with_reducible repeat (first | refine bN ?_ _ | refine bD ?_ | refine bA ?_ _)); exact BK630.out) hb); have n2_ := aZ (blk_below (g := gb633) (o := .cells #[.int .i64 t631, .int .i64 t632] 26 (0, 0)) (by (with_reducible repeat (first | refine bN ?_ _ | refine bD ?_ | refine bA ?_ _)); exact BK633.out) hb); have n3_ := aZ (blk_below (g := gb638) (o := .cells #[.slice (some ad653) ((rd_T49 l0 x25_1).f0).length c637_0, .int .i64 ((rd_T49 l0 x25_1).f1), .int .i64 ((rd_T49 l0 x25_1).f2), .int .i64 ((rd_T49 l0 x25_1).f3), .string ((rd_T49 l0 x25_1).f4)] 49 (0, 0)) (by (with_reducible repeat (first | refine bN ?_ _ | refine bD ?_ | refine bA ?_ _)); exact BK638.out) hb); have n4_ := aZ (blk_below (g := gb645) (o := .cells #[.int .i64 t643, .int .i64 t644] 26 (0, 0)) (by (with_reducible repeat (first | refine bN ?_ _ | refine bD ?_ | refine bA ?_ _)); exact BK645.out) hb); have n5_ := aZ (lT (by repeat (first | (with_reducible first | exact HB.out | apply lA | apply lN | apply lD | refine lS ?_ GE630.out | refine lS ?_ GE633.out | refine lS ?_ GE638.out | refine lS ?_ GE645.out) | exact HB.out)) hb); clear HO_5; clear BK630; clear BK633; clear BK638; clear BK645; clear HB; have HO_5 := n0_; have BK630 := n1_; have BK633 := n2_; have BK638 := n3_; have BK645 := n4_; have HB := n5_; clear n0_ n1_ n2_ n3_ n4_ n5_; (try clear hb); (try clear hb2); (try clear hk); (try clear hi)))
        go_roundg k3
        case measure => have := HK1.out; have := HK2.out; have := HK3.out; omega
        case rel => exact ⟨(t655), (wrap64 (x59_3 + 1)), (by first | rfl | (simp; done) | (simp [*]; done) | (simp [i64_w]; done)), (by first | rfl | (simp; done) | (simp [*]; done) | (simp [i64_w]; done)), H', ⟨by have := HK1.out; have := HK2.out; have := HK3.out; omega⟩, ⟨by (with_reducible repeat (first | apply Kd.rA | apply Kd.rN | apply Kd.rD)); exact HO_5.out⟩, ⟨by (with_reducible repeat (first | refine bN ?_ _ | refine bD ?_ | refine bA ?_ _)); exact BK630.out⟩, ⟨by (with_reducible repeat (first | refine bN ?_ _ | refine bD ?_ | refine bA ?_ _)); exact BK633.out⟩, ⟨by (with_reducible repeat (first | refine bN ?_ _ | refine bD ?_ | refine bA ?_ _)); exact BK638.out⟩, ⟨by (with_reducible repeat (first | refine bN ?_ _ | refine bD ?_ | refine bA ?_ _)); exact BK645.out⟩, ⟨by repeat (first | (with_reducible first | exact HB.out | apply lA | apply lN | apply lD | refine lS ?_ GE630.out | refine lS ?_ GE633.out | refine lS ?_ GE638.out | refine lS ?_ GE645.out) | exact HB.out)⟩⟩
end Go.Proofs.Ytojhnjgnpjoacaa.P
