/- What the Go functions of this seat compute, and that they do: printed by a program over the kit's print. -/
import Derived.Test.YtojhnjgnpjoacaaP0
import Derived.Test.YtojhnjgnpjoacaaP44
import Derived.Test.YtojhnjgnpjoacaaP45
namespace Go.Proofs.Ytojhnjgnpjoacaa.P
open Go.RowKit Go.Proofs.YtojhnjgnpjoacaaW.PrintWords Go.Proofs.YtojhnjgnpjoacaaW.PrintLast Go.Proofs.YtojhnjgnpjoacaaW.PrintMore
attribute [local go_sem] max2_int min2_int max_two min_two max_three min_three max_four min_four   -- for this text's walks alone
set_option linter.unusedVariables false
set_option linter.unusedSimpArgs false

/-! ### changeforgeref3_CommitDigests: function 34 -/
mutual
def changeforgeref3_CommitDigests.l0 : Nat → List (S49) → List Int → Int → Option (List Int)
  | 0, _, _, _ => none
  | k + 1, x0, x3, x4 => if x4 < (x0.length : Int) then (if 0 ≤ x4 then ((pp_bytes.f ((rd_T49 x0 x4).f4)).bind fun t667 => ((changeforgeref3_DigestOf.f k t667).bind fun t670 => ((changeforgeref3_DigestPair.f k t670 ((rd_T49 x0 x4).f1)).bind fun t671 => ((changeforgeref3_DigestPair.f k t671 ((rd_T49 x0 x4).f2)).bind fun t672 => ((changeforgeref3_DigestPair.f k t672 ((rd_T49 x0 x4).f3)).bind fun t673 => (changeforgeref3_CommitDigests.l1 k x0 x3 x4 t673 0 ((rd_T49 x0 x4).f0) ((rd_T49 x0 x4).f1) ((rd_T49 x0 x4).f2) ((rd_T49 x0 x4).f3) ((rd_T49 x0 x4).f4))))))) else (none)) else (some x3)
def changeforgeref3_CommitDigests.l1 : Nat → List (S49) → List Int → Int → Int → Int → List Int → Int → Int → Int → ByteArray → Option (List Int)
  | 0, _, _, _, _, _, _, _, _, _, _ => none
  | k + 1, x0, x3, x4, x6, x7, x667000, x667001, x667002, x667003, x667004 => if x7 < (x667000.length : Int) then (if 0 ≤ x7 then (if 0 ≤ (rd x667000 x7) then (if (rd x667000 x7) < (x3.length : Int) then ((changeforgeref3_DigestPair.f k x6 (rd x3 (rd x667000 x7))).bind fun t676 => (changeforgeref3_CommitDigests.l1 k x0 x3 x4 t676 (wrap64 (x7 + 1)) x667000 x667001 x667002 x667003 x667004)) else (none)) else (none)) else (none)) else (if x3.length < 17592186044416 then (changeforgeref3_CommitDigests.l0 k x0 (x3 ++ [x6]) (wrap64 (x4 + 1))) else (none))
end
def changeforgeref3_CommitDigests.f (k : Nat) (l0 : List (S49)) : Option (List Int) := changeforgeref3_CommitDigests.l0 k l0 ([] : List Int) 0
theorem changeforgeref3_CommitDigests.mono_l : ∀ k, (∀ y0 y1 y2, LeO (changeforgeref3_CommitDigests.l0 k y0 y1 y2) (changeforgeref3_CommitDigests.l0 (k + 1) y0 y1 y2)) ∧ (∀ y0 y1 y2 y3 y4 y5 y6 y7 y8 y9, LeO (changeforgeref3_CommitDigests.l1 k y0 y1 y2 y3 y4 y5 y6 y7 y8 y9) (changeforgeref3_CommitDigests.l1 (k + 1) y0 y1 y2 y3 y4 y5 y6 y7 y8 y9))
  | 0 => ⟨fun _ _ _ r h => by simp [changeforgeref3_CommitDigests.l0] at h, fun _ _ _ _ _ _ _ _ _ _ r h => by simp [changeforgeref3_CommitDigests.l1] at h⟩
  | k + 1 => by
    obtain ⟨ih0, ih1⟩ := changeforgeref3_CommitDigests.mono_l k
    refine ⟨?_, ?_⟩
    · intro y0 y1 y2
      unfold changeforgeref3_CommitDigests.l0
      repeat' first
      | (with_reducible exact ih0 _ _ _)
      | (with_reducible exact ih1 _ _ _ _ _ _ _ _ _ _)
      | (with_reducible exact changeforgeref3_DigestOf.mono _ _)
      | (with_reducible exact changeforgeref3_DigestPair.mono _ _ _)
      | (with_reducible exact LeO.refl _)
      | (with_reducible exact LeO.none _)
      | (with_reducible refine LeO.ite ?_ ?_)
      | (with_reducible refine LeO.bind ?_ (fun _ => ?_))
      | exact ih0 _ _ _
      | exact ih1 _ _ _ _ _ _ _ _ _ _
      | exact changeforgeref3_DigestOf.mono _ _
      | exact changeforgeref3_DigestPair.mono _ _ _
      | exact LeO.none _
      | refine LeO.ite ?_ ?_
      | refine LeO.bind ?_ (fun _ => ?_)
    · intro y0 y1 y2 y3 y4 y5 y6 y7 y8 y9
      unfold changeforgeref3_CommitDigests.l1
      repeat' first
      | (with_reducible exact ih0 _ _ _)
      | (with_reducible exact ih1 _ _ _ _ _ _ _ _ _ _)
      | (with_reducible exact changeforgeref3_DigestOf.mono _ _)
      | (with_reducible exact changeforgeref3_DigestPair.mono _ _ _)
      | (with_reducible exact LeO.refl _)
      | (with_reducible exact LeO.none _)
      | (with_reducible refine LeO.ite ?_ ?_)
      | (with_reducible refine LeO.bind ?_ (fun _ => ?_))
      | exact ih0 _ _ _
      | exact ih1 _ _ _ _ _ _ _ _ _ _
      | exact changeforgeref3_DigestOf.mono _ _
      | exact changeforgeref3_DigestPair.mono _ _ _
      | exact LeO.none _
      | refine LeO.ite ?_ ?_
      | refine LeO.bind ?_ (fun _ => ?_)
theorem changeforgeref3_CommitDigests.mono : ∀ a0 k, LeO (changeforgeref3_CommitDigests.f k a0) (changeforgeref3_CommitDigests.f (k + 1) a0) := by
  intro a0 k
  obtain ⟨ih0, ih1⟩ := changeforgeref3_CommitDigests.mono_l k
  unfold changeforgeref3_CommitDigests.f
  repeat' first
      | (with_reducible exact ih0 _ _ _)
      | (with_reducible exact ih1 _ _ _ _ _ _ _ _ _ _)
      | (with_reducible exact changeforgeref3_DigestOf.mono _ _)
      | (with_reducible exact changeforgeref3_DigestPair.mono _ _ _)
      | (with_reducible exact LeO.refl _)
      | (with_reducible exact LeO.none _)
      | (with_reducible refine LeO.ite ?_ ?_)
      | (with_reducible refine LeO.bind ?_ (fun _ => ?_))
      | exact ih0 _ _ _
      | exact ih1 _ _ _ _ _ _ _ _ _ _
      | exact changeforgeref3_DigestOf.mono _ _
      | exact changeforgeref3_DigestPair.mono _ _ _
      | exact LeO.none _
      | refine LeO.ite ?_ ?_
      | refine LeO.bind ?_ (fun _ => ?_)
def changeforgeref3_CommitDigests.T6 : Bool × List (List Nat × List Nat) := (true, [([], []), ([0], [0]), ([1], [1]), ([2], [2]), ([], []), ([4], [4]), ([3, 5, 3], [3, 5]), ([], []), ([7], [7]), ([6, 8, 6], [6, 8]), ([], []), ([10], [10]), ([9, 11, 9], [9, 11]), ([12, 12, 0, 1, 2, 3, 4, 5, 6, 7, 8, 9, 10, 11, 12], [12])])
def changeforgeref3_CommitDigests.B6 : List Nat := [0, 1, 3, 7, 0, 16, 63, 0, 128, 511, 0, 1024, 4095, 8191]
theorem changeforgeref3_CommitDigests.tab6 : rtab .any (opsOf Try.f34 6) = changeforgeref3_CommitDigests.T6 := by kernel_rfl
theorem changeforgeref3_CommitDigests.bits6 : waitsOk changeforgeref3_CommitDigests.T6.2 changeforgeref3_CommitDigests.B6 = true := by kernel_rfl
abbrev changeforgeref3_CommitDigests.Z1 : Array Bool := #[false, false, false, false, false, false, false, false, false, false, false, false, false, false]
abbrev changeforgeref3_CommitDigests.Z2 : Array Bool := #[true, false, false, false, false, false, false, false, false, false, false, false, false, false]
abbrev changeforgeref3_CommitDigests.Z3 : Array Bool := #[true, false, false, false, true, false, false, false, false, false, false, false, false, false]
abbrev changeforgeref3_CommitDigests.Z4 : Array Bool := #[true, false, false, false, true, false, false, true, false, false, false, false, false, false]
abbrev changeforgeref3_CommitDigests.Z5 : Array Bool := #[true, false, false, false, true, false, false, true, false, false, true, false, false, false]
abbrev changeforgeref3_CommitDigests.Z6 : Array Bool := #[true, true, false, false, true, false, false, true, false, false, true, false, false, false]
abbrev changeforgeref3_CommitDigests.Z7 : Array Bool := #[true, true, false, false, true, true, false, true, false, false, true, false, false, false]
abbrev changeforgeref3_CommitDigests.Z8 : Array Bool := #[true, true, false, false, true, true, false, true, true, false, true, false, false, false]
abbrev changeforgeref3_CommitDigests.Z9 : Array Bool := #[true, true, false, false, true, true, false, true, true, false, true, true, false, false]
abbrev changeforgeref3_CommitDigests.Z10 : Array Bool := #[true, true, true, false, true, true, false, true, true, false, true, true, false, false]
abbrev changeforgeref3_CommitDigests.Z11 : Array Bool := #[true, true, true, true, true, true, false, true, true, false, true, true, false, false]
abbrev changeforgeref3_CommitDigests.Z12 : Array Bool := #[true, true, true, true, true, true, true, true, true, false, true, true, false, false]
abbrev changeforgeref3_CommitDigests.Z13 : Array Bool := #[true, true, true, true, true, true, true, true, true, true, true, true, false, false]
abbrev changeforgeref3_CommitDigests.Z14 : Array Bool := #[true, true, true, true, true, true, true, true, true, true, true, true, true, false]
abbrev changeforgeref3_CommitDigests.Z15 : Array Bool := #[true, true, true, true, true, true, true, true, true, true, true, true, true, true]
set_option maxHeartbeats 8000000 in
set_option maxRecDepth 100000 in
theorem changeforgeref3_CommitDigests.calls (k : Nat) (A0 : Option Addr) (c0 : Nat) (l0 : List (S49)) (r : List Int) (w : World) (hr0 : Kd.C k49 w A0 l0.length l0) (hc0 : l0.length ≤ c0) (h : changeforgeref3_CommitDigests.f k l0 = some r) :
  Calls Try.prog 34 #[.slice A0 l0.length c0] w fun e w' => ∃ v0_ : Value, e = .returned (v0_) ∧ Kd.R (Kd.int .i64) 3 w' w.heap.size (fun _ => True) v0_ r ∧ Below w.heap.size w w' := by
  have hu49 := Try.underlying49
  have HR0 := aZ hr0
  have HC0 := aZ hc0
  clear hr0 hc0
  have HB := aZ (Below.refl w.heap.size w)
  have H : (changeforgeref3_CommitDigests.l0 k l0 ([] : List Int) 0) = some r := h
  clear h
  have H' := aZ H
  clear H
  go_enter Try.func34, Try.ntmps34
  go_wp2
  go_loopg [3, 4] k (fun kq v3 v4 w' => ∃ (x3_1 : List Int) (x4_1 : Int), v4 = .int .i64 x4_1 ∧ Aside0 (changeforgeref3_CommitDigests.l0 kq l0 x3_1 x4_1 = some r) ∧ Aside0 (kq ≤ k) ∧ Aside0 (Kd.R (Kd.int .i64) 3 w' w.heap.size (fun _ => True) v3 x3_1) ∧ Aside0 (Below w.heap.size w w'))
  case atStart => exact ⟨(([] : List Int)), (0), (by first | rfl | (simp; done) | (simp [*]; done) | (simp [i64_w]; done)), H', ⟨Nat.le_refl _⟩, ⟨by first | exact Kd.R_nil _ _ _ _ _ | exact Kd.N_nil _ _ _ _ _ | exact Kd.V_nil _ _ _ _ _ | exact Kd.Q_nil _ _ _ _ _ | exact Kd.S_nil _ _ _ _ _⟩, ⟨by repeat (first | (with_reducible first | exact HB.out | apply lA | apply lN | apply lD) | exact HB.out)⟩⟩
  case round =>
   clear H'
   obtain ⟨x3_1, x4_1, rfl, HA, HK1, HO_3, HB⟩ := hrel
   cases gk with
   | zero => exact absurd HA.out (by simp [changeforgeref3_CommitDigests.l0])
   | succ k1 =>
    have H := HA.out
    clear HA
    simp only [changeforgeref3_CommitDigests.l0] at H
    by_cases c2 : x4_1 < (l0.length : Int)
    rotate_left
    · rw [if_neg c2] at H
      have c2b0 : decide (x4_1 < (l0.length : Int)) = false := decide_eq_false c2
      clear c2
      obtain rfl := Option.some.inj H
      go_wp2
      go_ret
      exact ⟨_, by first | rfl | (simp [errW_none, errW_some] <;> rfl) | (simp [*, errW_none, errW_some] <;> rfl), by (with_reducible repeat (first | apply Kd.rA | apply Kd.rN | apply Kd.rD)); exact HO_3.out, by repeat (first | (with_reducible first | exact HB.out | apply lA | apply lN | apply lD) | exact HB.out)⟩

    rw [if_pos c2] at H
    have c2b0 : decide (x4_1 < (l0.length : Int)) = true := decide_eq_true c2
    clear c2
    by_cases c3 : 0 ≤ x4_1
    rotate_left
    · rw [if_neg c3] at H
      exact absurd H (by simp)
    rw [if_pos c3] at H
    have c3b0 : decide (0 ≤ x4_1) = true := decide_eq_true c3
    clear c3
    replace H := Option.bind_eq_some_iff.mp H
    obtain ⟨t667, A40, H⟩ := H
    replace H : ((changeforgeref3_DigestOf.f k1 t667).bind fun t670 => ((changeforgeref3_DigestPair.f k1 t670 ((rd_T49 l0 x4_1).f1)).bind fun t671 => ((changeforgeref3_DigestPair.f k1 t671 ((rd_T49 l0 x4_1).f2)).bind fun t672 => ((changeforgeref3_DigestPair.f k1 t672 ((rd_T49 l0 x4_1).f3)).bind fun t673 => (changeforgeref3_CommitDigests.l1 k1 l0 x3_1 x4_1 t673 0 ((rd_T49 l0 x4_1).f0) ((rd_T49 l0 x4_1).f1) ((rd_T49 l0 x4_1).f2) ((rd_T49 l0 x4_1).f3) ((rd_T49 l0 x4_1).f4)))))) = some r := H
    have A4 := aZ A40
    clear A40
    replace H := Option.bind_eq_some_iff.mp H
    obtain ⟨t670, A50, H⟩ := H
    replace H : ((changeforgeref3_DigestPair.f k1 t670 ((rd_T49 l0 x4_1).f1)).bind fun t671 => ((changeforgeref3_DigestPair.f k1 t671 ((rd_T49 l0 x4_1).f2)).bind fun t672 => ((changeforgeref3_DigestPair.f k1 t672 ((rd_T49 l0 x4_1).f3)).bind fun t673 => (changeforgeref3_CommitDigests.l1 k1 l0 x3_1 x4_1 t673 0 ((rd_T49 l0 x4_1).f0) ((rd_T49 l0 x4_1).f1) ((rd_T49 l0 x4_1).f2) ((rd_T49 l0 x4_1).f3) ((rd_T49 l0 x4_1).f4))))) = some r := H
    have A5 := aZ A50
    clear A50
    replace H := Option.bind_eq_some_iff.mp H
    obtain ⟨t671, A60, H⟩ := H
    replace H : ((changeforgeref3_DigestPair.f k1 t671 ((rd_T49 l0 x4_1).f2)).bind fun t672 => ((changeforgeref3_DigestPair.f k1 t672 ((rd_T49 l0 x4_1).f3)).bind fun t673 => (changeforgeref3_CommitDigests.l1 k1 l0 x3_1 x4_1 t673 0 ((rd_T49 l0 x4_1).f0) ((rd_T49 l0 x4_1).f1) ((rd_T49 l0 x4_1).f2) ((rd_T49 l0 x4_1).f3) ((rd_T49 l0 x4_1).f4)))) = some r := H
    have A6 := aZ A60
    clear A60
    replace H := Option.bind_eq_some_iff.mp H
    obtain ⟨t672, A70, H⟩ := H
    replace H : ((changeforgeref3_DigestPair.f k1 t672 ((rd_T49 l0 x4_1).f3)).bind fun t673 => (changeforgeref3_CommitDigests.l1 k1 l0 x3_1 x4_1 t673 0 ((rd_T49 l0 x4_1).f0) ((rd_T49 l0 x4_1).f1) ((rd_T49 l0 x4_1).f2) ((rd_T49 l0 x4_1).f3) ((rd_T49 l0 x4_1).f4))) = some r := H
    have A7 := aZ A70
    clear A70
    replace H := Option.bind_eq_some_iff.mp H
    obtain ⟨t673, A80, H⟩ := H
    replace H : (changeforgeref3_CommitDigests.l1 k1 l0 x3_1 x4_1 t673 0 ((rd_T49 l0 x4_1).f0) ((rd_T49 l0 x4_1).f1) ((rd_T49 l0 x4_1).f2) ((rd_T49 l0 x4_1).f3) ((rd_T49 l0 x4_1).f4)) = some r := H
    have A8 := aZ A80
    clear A80
    have H' := aZ H
    clear H
    have p665 : 0 ≤ (x4_1 : Int) := of_decide_eq_true (by first | (with_reducible assumption) | assumption)
    have q665 : x4_1 < (l0.length : Int) := of_decide_eq_true (by first | (with_reducible assumption) | assumption)
    obtain ⟨ad665, A665_0, c665_0, e665, hx665_0, hx665_1, hx665_2, hx665_3, hx665_4, hl665_0, hi665_0⟩ := at_T49 HR0.out x4_1 p665 q665
    cases e665
    replace hx665_0 := (HB.out.cell (World.block_lt_of_cell? w _ hx665_0)).trans hx665_0
    replace hx665_1 := (HB.out.cell (World.block_lt_of_cell? w _ hx665_1)).trans hx665_1
    replace hx665_2 := (HB.out.cell (World.block_lt_of_cell? w _ hx665_2)).trans hx665_2
    replace hx665_3 := (HB.out.cell (World.block_lt_of_cell? w _ hx665_3)).trans hx665_3
    replace hx665_4 := (HB.out.cell (World.block_lt_of_cell? w _ hx665_4)).trans hx665_4
    have HR665_0 := aZ hi665_0
    have HC665_0 := aZ hl665_0
    clear hi665_0 hl665_0
    replace p665 := eq_true p665
    replace q665 := eq_true q665
    try go_wp2_with (first | ((with_reducible refine gate_dst (N := 5) rfl ?_); refine box_event ?hg (N := 5) ?hd (cs := #[.slice none 0 0, .int .i64 0, .int .i64 0, .int .i64 0, .string (⟨#[]⟩ : ByteArray)]) (t := 49) ?hr ?_; (case hd => rfl); (case hg => rfl); (case hr => first | (go_simp; done) | (go_simp; rfl)); intro gb666 hg w9 hbox hb; have n0_ := aZ (Kd.R_below (by (with_reducible repeat (first | apply Kd.rA | apply Kd.rN | apply Kd.rD)); exact HO_3.out) hb); have n1_ := aZ (lT (by repeat (first | (with_reducible first | exact HB.out | apply lA | apply lN | apply lD) | exact HB.out)) hb); have n2_ := aZ (hbox); have n3_ := aZ ((by rw [hg]; exact (lZ (by repeat (first | (with_reducible first | exact HB.out | apply lA | apply lN | apply lD) | exact HB.out))) : w.heap.size ≤ gb666)); have n4_ := aZ ((by rw [hg]; exact (lZ (by repeat (first | (with_reducible first | exact HB.out | apply lA | apply lN | apply lD) | exact HB.out))) : w.heap.size ≤ gb666)); clear HO_3; clear HB; have HO_3 := n0_; have HB := n1_; have BK666 := n2_; have GW666 := n3_; have GE666 := n4_; clear n0_ n1_ n2_ n3_ n4_; clear hb hbox hg; have hcz10_0 : w9.cell? ⟨gb666, 0, none⟩ = some (.slice none 0 0) := (blk_cell BK666.out 0).trans rfl; have hcz10_1 : w9.cell? ⟨gb666, 1, none⟩ = some (.int .i64 0) := (blk_cell BK666.out 1).trans rfl; have hcz10_2 : w9.cell? ⟨gb666, 2, none⟩ = some (.int .i64 0) := (blk_cell BK666.out 2).trans rfl; have hcz10_3 : w9.cell? ⟨gb666, 3, none⟩ = some (.int .i64 0) := (blk_cell BK666.out 3).trans rfl; have hcz10_4 : w9.cell? ⟨gb666, 4, none⟩ = some (.string (⟨#[]⟩ : ByteArray)) := (blk_cell BK666.out 4).trans rfl; have hfz10_0 := blk_frozen BK666.out 0; have hfz10_1 := blk_frozen BK666.out 1; have hfz10_2 := blk_frozen BK666.out 2; have hfz10_3 := blk_frozen BK666.out 3; have hfz10_4 := blk_frozen BK666.out 4))
    have n0_ : Aside0 (Kd.R (Kd.int .i64) 3 (((((w9.setCell ⟨gb666, 0, none⟩ (.slice A665_0 ((rd_T49 l0 x4_1).f0).length c665_0)).setCell ⟨gb666, 1, none⟩ (.int .i64 ((rd_T49 l0 x4_1).f1))).setCell ⟨gb666, 2, none⟩ (.int .i64 ((rd_T49 l0 x4_1).f2))).setCell ⟨gb666, 3, none⟩ (.int .i64 ((rd_T49 l0 x4_1).f3))).setCell ⟨gb666, 4, none⟩ (.string ((rd_T49 l0 x4_1).f4))) w.heap.size (fun _ => True) u3 x3_1) := ⟨by (with_reducible repeat (first | apply Kd.rA | apply Kd.rN | apply Kd.rD)); exact Kd.R_mono (Kd.R_far (p := ⟨gb666, 4, none⟩) (Kd.R_far (p := ⟨gb666, 3, none⟩) (Kd.R_far (p := ⟨gb666, 2, none⟩) (Kd.R_far (p := ⟨gb666, 1, none⟩) (Kd.R_far (p := ⟨gb666, 0, none⟩) (Kd.R_types HO_3.out BK666.out (by decide)) (fun _ hk => hk.2) (.slice A665_0 ((rd_T49 l0 x4_1).f0).length c665_0)) (fun _ hk => hk.2) (.int .i64 ((rd_T49 l0 x4_1).f1))) (fun _ hk => hk.2) (.int .i64 ((rd_T49 l0 x4_1).f2))) (fun _ hk => hk.2) (.int .i64 ((rd_T49 l0 x4_1).f3))) (fun _ hk => hk.2) (.string ((rd_T49 l0 x4_1).f4))) (fun _ hk => trivial)⟩
    have n1_ : Aside0 ((((((w9.setCell ⟨gb666, 0, none⟩ (.slice A665_0 ((rd_T49 l0 x4_1).f0).length c665_0)).setCell ⟨gb666, 1, none⟩ (.int .i64 ((rd_T49 l0 x4_1).f1))).setCell ⟨gb666, 2, none⟩ (.int .i64 ((rd_T49 l0 x4_1).f2))).setCell ⟨gb666, 3, none⟩ (.int .i64 ((rd_T49 l0 x4_1).f3))).setCell ⟨gb666, 4, none⟩ (.string ((rd_T49 l0 x4_1).f4))).heap[gb666]? = some (.cells #[.slice A665_0 ((rd_T49 l0 x4_1).f0).length c665_0, .int .i64 ((rd_T49 l0 x4_1).f1), .int .i64 ((rd_T49 l0 x4_1).f2), .int .i64 ((rd_T49 l0 x4_1).f3), .string ((rd_T49 l0 x4_1).f4)] 49 (0, 0))) := ⟨by (with_reducible repeat (first | refine bN ?_ _ | refine bD ?_ | refine bA ?_ _)); refine blk_put (cs := #[.slice A665_0 ((rd_T49 l0 x4_1).f0).length c665_0, .int .i64 ((rd_T49 l0 x4_1).f1), .int .i64 ((rd_T49 l0 x4_1).f2), .int .i64 ((rd_T49 l0 x4_1).f3), .string (⟨#[]⟩ : ByteArray)]) ?_ 4 _ rfl; (with_reducible repeat (first | refine bN ?_ _ | refine bD ?_ | refine bA ?_ _)); refine blk_put (cs := #[.slice A665_0 ((rd_T49 l0 x4_1).f0).length c665_0, .int .i64 ((rd_T49 l0 x4_1).f1), .int .i64 ((rd_T49 l0 x4_1).f2), .int .i64 0, .string (⟨#[]⟩ : ByteArray)]) ?_ 3 _ rfl; (with_reducible repeat (first | refine bN ?_ _ | refine bD ?_ | refine bA ?_ _)); refine blk_put (cs := #[.slice A665_0 ((rd_T49 l0 x4_1).f0).length c665_0, .int .i64 ((rd_T49 l0 x4_1).f1), .int .i64 0, .int .i64 0, .string (⟨#[]⟩ : ByteArray)]) ?_ 2 _ rfl; (with_reducible repeat (first | refine bN ?_ _ | refine bD ?_ | refine bA ?_ _)); refine blk_put (cs := #[.slice A665_0 ((rd_T49 l0 x4_1).f0).length c665_0, .int .i64 0, .int .i64 0, .int .i64 0, .string (⟨#[]⟩ : ByteArray)]) ?_ 1 _ rfl; (with_reducible repeat (first | refine bN ?_ _ | refine bD ?_ | refine bA ?_ _)); refine blk_put (cs := #[.slice none 0 0, .int .i64 0, .int .i64 0, .int .i64 0, .string (⟨#[]⟩ : ByteArray)]) ?_ 0 _ rfl; (with_reducible repeat (first | refine bN ?_ _ | refine bD ?_ | refine bA ?_ _)); exact BK666.out⟩
    have n2_ : Aside0 (Below w.heap.size w (((((w9.setCell ⟨gb666, 0, none⟩ (.slice A665_0 ((rd_T49 l0 x4_1).f0).length c665_0)).setCell ⟨gb666, 1, none⟩ (.int .i64 ((rd_T49 l0 x4_1).f1))).setCell ⟨gb666, 2, none⟩ (.int .i64 ((rd_T49 l0 x4_1).f2))).setCell ⟨gb666, 3, none⟩ (.int .i64 ((rd_T49 l0 x4_1).f3))).setCell ⟨gb666, 4, none⟩ (.string ((rd_T49 l0 x4_1).f4)))) := ⟨by repeat (first | (with_reducible first | exact HB.out | apply lA | apply lN | apply lD | refine lS ?_ GE666.out) | exact HB.out)⟩
    (try clear HO_3)
    (try clear BK666)
    (try clear HB)
    generalize (((((w9.setCell ⟨gb666, 0, none⟩ (.slice A665_0 ((rd_T49 l0 x4_1).f0).length c665_0)).setCell ⟨gb666, 1, none⟩ (.int .i64 ((rd_T49 l0 x4_1).f1))).setCell ⟨gb666, 2, none⟩ (.int .i64 ((rd_T49 l0 x4_1).f2))).setCell ⟨gb666, 3, none⟩ (.int .i64 ((rd_T49 l0 x4_1).f3))).setCell ⟨gb666, 4, none⟩ (.string ((rd_T49 l0 x4_1).f4))) = w11 at n0_ n1_ n2_ ⊢
    have HO_3 := n0_
    have BK666 := n1_
    have HB := n2_
    clear n0_ n1_ n2_
    have n0_ := aZ (Kd.rD HO_3.out)
    have n1_ := aZ (bD BK666.out)
    have n2_ := aZ (lD HB.out)
    clear HO_3
    clear BK666
    clear HB
    have HO_3 := n0_
    have BK666 := n1_
    have HB := n2_
    clear n0_ n1_ n2_
    refine start_ (n := 14) (S := fun w' => w'.cell? ⟨gb666, 0, none⟩ = some (.slice A665_0 ((rd_T49 l0 x4_1).f0).length c665_0) ∧ w'.cell? ⟨gb666, 1, none⟩ = some (.int .i64 ((rd_T49 l0 x4_1).f1)) ∧ w'.cell? ⟨gb666, 2, none⟩ = some (.int .i64 ((rd_T49 l0 x4_1).f2)) ∧ w'.cell? ⟨gb666, 3, none⟩ = some (.int .i64 ((rd_T49 l0 x4_1).f3)) ∧ w'.cell? ⟨gb666, 4, none⟩ = some (.string ((rd_T49 l0 x4_1).f4))) (ds := []) Z1 (by kernel_rfl) rfl rfl ⟨(blk_cell BK666.out 0).trans rfl, (blk_cell BK666.out 1).trans rfl, (blk_cell BK666.out 2).trans rfl, (blk_cell BK666.out 3).trans rfl, (blk_cell BK666.out 4).trans rfl⟩ (fun hHeld => ?_); refine with_tabW changeforgeref3_CommitDigests.tab6 changeforgeref3_CommitDigests.bits6 (fun HT_ HW_ => ?_)
    generalize w11.drew = w12 at HO_3 BK666 HB hHeld ⊢
    refine pu 0 18 Z2 HT_ rfl rfl (h := ?_)
    refine pu 4 22 Z3 HT_ rfl rfl (h := ?_)
    refine pu 7 25 Z4 HT_ rfl rfl (h := ?_)
    refine pu 10 28 Z5 HT_ rfl rfl (h := ?_)
    refine tk 1 19 Z6 HT_ HW_ rfl rfl hHeld (by rintro w' ⟨s0, s1, s2, s3, s4⟩; go_simp; with_reducible rfl) (h := ?_)
    refine tk 5 23 Z7 HT_ HW_ rfl rfl hHeld (by rintro w' ⟨s0, s1, s2, s3, s4⟩; go_simp; with_reducible rfl) (h := ?_)
    refine tk 8 26 Z8 HT_ HW_ rfl rfl hHeld (by rintro w' ⟨s0, s1, s2, s3, s4⟩; go_simp; with_reducible rfl) (h := ?_)
    refine tk 11 29 Z9 HT_ HW_ rfl rfl hHeld (by rintro w' ⟨s0, s1, s2, s3, s4⟩; go_simp; with_reducible rfl) (h := ?_)
    refine one_ (i := 2) (N := some 20) Z10 rfl rfl (one_of HT_.out (by kernel_rfl)) (by decide) (fun K hK => ?_)
    refine conv_ 9 60 5 Try.underlying9 Try.underlying60 Try.underlying5 (s := ((rd_T49 l0 x4_1).f4)) (by rfl) rfl ?hcv ?_; (case hcv => first | (go_simp; done) | (go_simp; rfl) | (unfold execOp; rfl))
    with_reducible refine (pp_bytes.calls (e := 5) ((rd_T49 l0 x4_1).f4) t667 _ A4.out).mono ?_
    rintro e w13 ⟨v668, rfl, ho0, hb⟩
    refine ⟨_, rfl, ?_⟩
    have n0_ := aZ (Kd.R_below (by (with_reducible repeat (first | apply Kd.rA | apply Kd.rN | apply Kd.rD)); exact HO_3.out) hb)
    have n1_ := aZ (Kd.V_lower (Kd.V_mono (ok' := fun k_ => some k_ ≠ (u3 : Value).ownBlock ∧ k_ ≠ gb666) ho0 (fun k_ hk_ => ⟨(Kd.fresh' (Kd.R_lt (by (with_reducible repeat (first | apply Kd.rA | apply Kd.rN | apply Kd.rD)); exact HO_3.out)) k_ hk_), (Kd.freshB (g := gb666) (o := .cells #[.slice A665_0 ((rd_T49 l0 x4_1).f0).length c665_0, .int .i64 ((rd_T49 l0 x4_1).f1), .int .i64 ((rd_T49 l0 x4_1).f2), .int .i64 ((rd_T49 l0 x4_1).f3), .string ((rd_T49 l0 x4_1).f4)] 49 (0, 0)) (by (with_reducible repeat (first | refine bN ?_ _ | refine bD ?_ | refine bA ?_ _)); exact BK666.out) k_ hk_)⟩)) (lZ (by repeat (first | (with_reducible first | exact HB.out | apply lA | apply lN | apply lD | refine lS ?_ GE666.out) | exact HB.out))))
    have n2_ := aZ (blk_below (g := gb666) (o := .cells #[.slice A665_0 ((rd_T49 l0 x4_1).f0).length c665_0, .int .i64 ((rd_T49 l0 x4_1).f1), .int .i64 ((rd_T49 l0 x4_1).f2), .int .i64 ((rd_T49 l0 x4_1).f3), .string ((rd_T49 l0 x4_1).f4)] 49 (0, 0)) (by (with_reducible repeat (first | refine bN ?_ _ | refine bD ?_ | refine bA ?_ _)); exact BK666.out) hb)
    have n3_ := aZ (lT (by repeat (first | (with_reducible first | exact HB.out | apply lA | apply lN | apply lD | refine lS ?_ GE666.out) | exact HB.out)) hb)
    clear HO_3
    clear BK666
    clear HB
    have HO_3 := n0_
    have HO669 := n1_
    have BK666 := n2_
    have HB := n3_
    clear n0_ n1_ n2_ n3_
    (try clear hb)
    (try clear hb2)
    (try clear hk)
    (try clear hi)
    (try clear ho0)
    obtain ⟨Ao14, co14, eo14⟩ := Kd.V_slice HO669.out
    (first | subst eo14 | (injection eo14 with f1_ f2_ f3_; have f4_ := f1_.symm; have f5_ := f3_.symm; clear f1_ f2_ f3_; subst f4_; subst f5_))
    refine hK.out _ _ ⟨(blk_cell BK666.out 0).trans rfl, (blk_cell BK666.out 1).trans rfl, (blk_cell BK666.out 2).trans rfl, (blk_cell BK666.out 3).trans rfl, (blk_cell BK666.out 4).trans rfl⟩ (fun hHeld => ?_)
    clear hK K
    refine norm_ (a' := ?_) ?_ ?_
    rotate_left
    · show Act.put _ (some 20) _ = _
      simp only [Act.put, List.setIfInBounds_toArray, List.set_cons_zero, List.set_cons_succ, i64_w, i32_w]
      rfl
    refine one_ (i := 3) (N := some 21) Z11 rfl rfl (one_of HT_.out (by kernel_rfl)) (by decide) (fun K hK => ?_)
    refine goes_ Try.func45 (by kernel_rfl) rfl #[.slice Ao14 t667.length co14] (by rfl) rfl rfl (by (try simp only [List.map_toArray, List.map_cons, List.map_nil]); first | done | rfl | (simp only [List.length_drop, List.length_take]; rfl)) ?_
    with_reducible refine (changeforgeref3_DigestOf.calls k1 _ _ t667 t670 _ ?side1 ?side2 A5.out).mono ?_
    (case side1 => repeat (first | exact (Kd.V_reads' HO669.out).2.2 | (with_reducible refine Kd.C_alloc ?_ _) | (with_reducible refine Kd.C_drewN ?_ _) | (with_reducible refine Kd.C_drew ?_)))
    (case side2 => exact (Kd.V_reads' HO669.out).2.1)
    rintro e w' ⟨rfl, ⟨nd, rfl⟩⟩
    refine ⟨_, rfl, ?_⟩
    refine hK.out _ _ ⟨(blk_cell BK666.out 0).trans rfl, (blk_cell BK666.out 1).trans rfl, (blk_cell BK666.out 2).trans rfl, (blk_cell BK666.out 3).trans rfl, (blk_cell BK666.out 4).trans rfl⟩ (fun hHeld => ?_)
    clear hK K
    refine norm_ (a' := ?_) ?_ ?_
    rotate_left
    · show Act.put _ (some 21) _ = _
      simp only [Act.put, List.setIfInBounds_toArray, List.set_cons_zero, List.set_cons_succ, i64_w, i32_w]
      rfl
    refine one_ (i := 6) (N := some 24) Z12 rfl rfl (one_of HT_.out (by kernel_rfl)) (by decide) (fun K hK => ?_)
    refine goes_ Try.func44 (by kernel_rfl) rfl #[.int .i64 t670, .int .i64 ((rd_T49 l0 x4_1).f1)] (by rfl) rfl rfl (by (try simp only [List.map_toArray, List.map_cons, List.map_nil]); first | done | rfl | (simp only [List.length_drop, List.length_take]; rfl)) ?_
    with_reducible refine (changeforgeref3_DigestPair.calls k1 t670 ((rd_T49 l0 x4_1).f1) t671 _ A6.out).mono ?_
    rintro e w' ⟨rfl, ⟨nd, rfl⟩⟩
    refine ⟨_, rfl, ?_⟩
    refine hK.out _ _ ⟨(blk_cell BK666.out 0).trans rfl, (blk_cell BK666.out 1).trans rfl, (blk_cell BK666.out 2).trans rfl, (blk_cell BK666.out 3).trans rfl, (blk_cell BK666.out 4).trans rfl⟩ (fun hHeld => ?_)
    clear hK K
    refine norm_ (a' := ?_) ?_ ?_
    rotate_left
    · show Act.put _ (some 24) _ = _
      simp only [Act.put, List.setIfInBounds_toArray, List.set_cons_zero, List.set_cons_succ, i64_w, i32_w]
      rfl
    refine one_ (i := 9) (N := some 27) Z13 rfl rfl (one_of HT_.out (by kernel_rfl)) (by decide) (fun K hK => ?_)
    refine goes_ Try.func44 (by kernel_rfl) rfl #[.int .i64 t671, .int .i64 ((rd_T49 l0 x4_1).f2)] (by rfl) rfl rfl (by (try simp only [List.map_toArray, List.map_cons, List.map_nil]); first | done | rfl | (simp only [List.length_drop, List.length_take]; rfl)) ?_
    with_reducible refine (changeforgeref3_DigestPair.calls k1 t671 ((rd_T49 l0 x4_1).f2) t672 _ A7.out).mono ?_
    rintro e w' ⟨rfl, ⟨nd, rfl⟩⟩
    refine ⟨_, rfl, ?_⟩
    refine hK.out _ _ ⟨(blk_cell BK666.out 0).trans rfl, (blk_cell BK666.out 1).trans rfl, (blk_cell BK666.out 2).trans rfl, (blk_cell BK666.out 3).trans rfl, (blk_cell BK666.out 4).trans rfl⟩ (fun hHeld => ?_)
    clear hK K
    refine norm_ (a' := ?_) ?_ ?_
    rotate_left
    · show Act.put _ (some 27) _ = _
      simp only [Act.put, List.setIfInBounds_toArray, List.set_cons_zero, List.set_cons_succ, i64_w, i32_w]
      rfl
    refine one_ (i := 12) (N := some 30) Z14 rfl rfl (one_of HT_.out (by kernel_rfl)) (by decide) (fun K hK => ?_)
    refine goes_ Try.func44 (by kernel_rfl) rfl #[.int .i64 t672, .int .i64 ((rd_T49 l0 x4_1).f3)] (by rfl) rfl rfl (by (try simp only [List.map_toArray, List.map_cons, List.map_nil]); first | done | rfl | (simp only [List.length_drop, List.length_take]; rfl)) ?_
    with_reducible refine (changeforgeref3_DigestPair.calls k1 t672 ((rd_T49 l0 x4_1).f3) t673 _ A8.out).mono ?_
    rintro e w' ⟨rfl, ⟨nd, rfl⟩⟩
    refine ⟨_, rfl, ?_⟩
    refine hK.out _ _ ⟨(blk_cell BK666.out 0).trans rfl, (blk_cell BK666.out 1).trans rfl, (blk_cell BK666.out 2).trans rfl, (blk_cell BK666.out 3).trans rfl, (blk_cell BK666.out 4).trans rfl⟩ (fun hHeld => ?_)
    clear hK K
    refine norm_ (a' := ?_) ?_ ?_
    rotate_left
    · show Act.put _ (some 30) _ = _
      simp only [Act.put, List.setIfInBounds_toArray, List.set_cons_zero, List.set_cons_succ, i64_w, i32_w]
      rfl
    refine pu 13 6 Z15 HT_ rfl rfl (h := ?_)
    refine done_ (done_of HT_.out (by kernel_rfl)) ?_
    try go_wp2
    go_loopg [6, 7] k1 (fun kq v6 v7 w' => ∃ (x6_2 : Int) (x7_2 : Int), v6 = .int .i64 x6_2 ∧ v7 = .int .i64 x7_2 ∧ Aside0 (changeforgeref3_CommitDigests.l1 kq l0 x3_1 x4_1 x6_2 x7_2 ((rd_T49 l0 x4_1).f0) ((rd_T49 l0 x4_1).f1) ((rd_T49 l0 x4_1).f2) ((rd_T49 l0 x4_1).f3) ((rd_T49 l0 x4_1).f4) = some r) ∧ Aside0 (kq ≤ k1) ∧ Aside0 (Kd.R (Kd.int .i64) 3 w' w.heap.size (fun _ => True) u3 x3_1) ∧ Aside0 (w'.heap[gb666]? = some (.cells #[(.slice A665_0 ((rd_T49 l0 x4_1).f0).length c665_0), .int .i64 ((rd_T49 l0 x4_1).f1), .int .i64 ((rd_T49 l0 x4_1).f2), .int .i64 ((rd_T49 l0 x4_1).f3), .string ((rd_T49 l0 x4_1).f4)] 49 (0, 0))) ∧ Aside0 (Below w.heap.size w w'))
    case atStart => exact ⟨(t673), (0), (by first | rfl | (simp; done) | (simp [*]; done) | (simp [i64_w]; done)), (by first | rfl | (simp; done) | (simp [*]; done) | (simp [i64_w]; done)), H', ⟨Nat.le_refl _⟩, ⟨by (with_reducible repeat (first | apply Kd.rA | apply Kd.rN | apply Kd.rD)); exact HO_3.out⟩, ⟨by (with_reducible repeat (first | refine bN ?_ _ | refine bD ?_ | refine bA ?_ _)); exact BK666.out⟩, ⟨by repeat (first | (with_reducible first | exact HB.out | apply lA | apply lN | apply lD | refine lS ?_ GE666.out) | exact HB.out)⟩⟩
    case round =>
     clear H'
     (try clear c2); (try clear c2b0); (try clear c3); (try clear c3b0); (try clear hcz10_0); (try clear hcz10_1); (try clear hcz10_2); (try clear hcz10_3); (try clear hcz10_4); (try clear hfz10_0); (try clear hfz10_1); (try clear hfz10_2); (try clear hfz10_3); (try clear hfz10_4); (try clear hx665_0); (try clear hx665_1); (try clear hx665_2); (try clear hx665_3); (try clear hx665_4); (try clear p665); (try clear q665)
     obtain ⟨x6_2, x7_2, rfl, rfl, HA, HK2, HO_3, BK666, HB⟩ := hrel
     cases gk with
     | zero => exact absurd HA.out (by simp [changeforgeref3_CommitDigests.l1])
     | succ k2 =>
      have H := HA.out
      clear HA
      simp only [changeforgeref3_CommitDigests.l1] at H
      by_cases c15 : x7_2 < (((rd_T49 l0 x4_1).f0).length : Int)
      rotate_left
      · rw [if_neg c15] at H
        have c15b0 : decide (x7_2 < (((rd_T49 l0 x4_1).f0).length : Int)) = false := decide_eq_false c15
        clear c15
        by_cases c22 : x3_1.length < 17592186044416
        rotate_left
        · rw [if_neg c22] at H
          exact absurd H (by simp)
        rw [if_pos c22] at H
        have LMc22 := aZ c22
        clear c22
        obtain ⟨y677, hy677⟩ : ∃ y_ : List Int, y_ = (x3_1 ++ [x6_2]) := ⟨_, rfl⟩
        replace H : (changeforgeref3_CommitDigests.l0 k2 l0 y677 (wrap64 (x4_1 + 1))) = some r := by first | (rw [hy677]; with_reducible exact H) | (have H2_ := (Option.bind_some _ _).symm.trans H; rw [hy677]; with_reducible exact H2_) | (have H2_ := (Option.bind_some _ _).symm.trans H; with_reducible exact H2_) | with_reducible exact H | (rw [hy677]; exact H) | exact H
        have Ny677 := aZ hy677
        clear hy677
        have H' := aZ H
        clear H
        have hcz23_0 : wr.cell? ⟨gb666, 0, none⟩ = some (.slice A665_0 ((rd_T49 l0 x4_1).f0).length c665_0) := (blk_cell BK666.out 0).trans rfl
        have hcz23_1 : wr.cell? ⟨gb666, 1, none⟩ = some (.int .i64 ((rd_T49 l0 x4_1).f1)) := (blk_cell BK666.out 1).trans rfl
        have hcz23_2 : wr.cell? ⟨gb666, 2, none⟩ = some (.int .i64 ((rd_T49 l0 x4_1).f2)) := (blk_cell BK666.out 2).trans rfl
        have hcz23_3 : wr.cell? ⟨gb666, 3, none⟩ = some (.int .i64 ((rd_T49 l0 x4_1).f3)) := (blk_cell BK666.out 3).trans rfl
        have hcz23_4 : wr.cell? ⟨gb666, 4, none⟩ = some (.string ((rd_T49 l0 x4_1).f4)) := (blk_cell BK666.out 4).trans rfl
        have hfz23_0 := blk_frozen BK666.out 0
        have hfz23_1 := blk_frozen BK666.out 1
        have hfz23_2 := blk_frozen BK666.out 2
        have hfz23_3 := blk_frozen BK666.out 3
        have hfz23_4 := blk_frozen BK666.out 4
        go_wp2_with (first | ((with_reducible refine gate_builtin (b := .append) (xs := #[.tmp 48, .tmp 50]) rfl ?_); at_builtin; refine Kd.R_append (Kd.int .i64) (w0 := w) w.heap.size rfl (.tmp 48) (.tmp 50) 23 3 (.int .i64 0) 8 rfl Try.underlying23 info3 rfl (by decide) (by omega) u3 x3_1 x6_2 [.int .i64 x6_2] (fun _ => True) (fun _ => False) rfl rfl ?aP (fun _ hk => hk.elim) ?aF ?aO ?aB ?aS ?aL ?_; (case aP => exact rfl); (case aB => exact (by repeat (first | (with_reducible first | exact HB.out | apply lA | apply lN | apply lD | refine lS ?_ GE666.out) | exact HB.out))); (case aF => exact (fun _ _ => trivial)); (case aO => exact (by (with_reducible repeat (first | apply Kd.rA | apply Kd.rN | apply Kd.rD)); exact HO_3.out)); (case aS => exact (lZ (by repeat (first | (with_reducible first | exact HB.out | apply lA | apply lN | apply lD | refine lS ?_ GE666.out) | exact HB.out)))); (case aL => have := LMc22.out; omega); intro v678 w24 ho hb hg hat; rw [← Ny677.out] at ho; have n0_ := aZ (blk_grown (g := gb666) (o := .cells #[.slice A665_0 ((rd_T49 l0 x4_1).f0).length c665_0, .int .i64 ((rd_T49 l0 x4_1).f1), .int .i64 ((rd_T49 l0 x4_1).f2), .int .i64 ((rd_T49 l0 x4_1).f3), .string ((rd_T49 l0 x4_1).f4)] 49 (0, 0)) (by (with_reducible repeat (first | refine bN ?_ _ | refine bD ?_ | refine bA ?_ _)); exact BK666.out) hg (Kd.R_ne HO_3.out BK666.out (by decide))); have n1_ := aZ (hb); have n2_ := aZ (ho); clear BK666; clear HB; clear HO_3; have BK666 := n0_; have HB := n1_; have HO679 := n2_; clear n0_ n1_ n2_; clear ho hb hg hat))
        go_roundg k2
        case measure => have := HK1.out; have := HK2.out; omega
        case rel => exact ⟨(y677), (wrap64 (x4_1 + 1)), (by first | rfl | (simp; done) | (simp [*]; done) | (simp [i64_w]; done)), H', ⟨by have := HK1.out; have := HK2.out; omega⟩, ⟨by (with_reducible repeat (first | apply Kd.rA | apply Kd.rN | apply Kd.rD)); exact HO679.out⟩, ⟨by repeat (first | (with_reducible first | exact HB.out | apply lA | apply lN | apply lD | refine lS ?_ GE666.out) | exact HB.out)⟩⟩
      rw [if_pos c15] at H
      have c15b0 : decide (x7_2 < (((rd_T49 l0 x4_1).f0).length : Int)) = true := decide_eq_true c15
      clear c15
      by_cases c16 : 0 ≤ x7_2
      rotate_left
      · rw [if_neg c16] at H
        exact absurd H (by simp)
      rw [if_pos c16] at H
      have c16b0 : decide (0 ≤ x7_2) = true := decide_eq_true c16
      clear c16
      by_cases c17 : 0 ≤ (rd ((rd_T49 l0 x4_1).f0) x7_2)
      rotate_left
      · rw [if_neg c17] at H
        exact absurd H (by simp)
      rw [if_pos c17] at H
      have c17b0 : decide (0 ≤ (rd ((rd_T49 l0 x4_1).f0) x7_2)) = true := decide_eq_true c17
      clear c17
      by_cases c18 : (rd ((rd_T49 l0 x4_1).f0) x7_2) < (x3_1.length : Int)
      rotate_left
      · rw [if_neg c18] at H
        exact absurd H (by simp)
      rw [if_pos c18] at H
      have c18b0 : decide ((rd ((rd_T49 l0 x4_1).f0) x7_2) < (x3_1.length : Int)) = true := decide_eq_true c18
      clear c18
      replace H := Option.bind_eq_some_iff.mp H
      obtain ⟨t676, A190, H⟩ := H
      replace H : (changeforgeref3_CommitDigests.l1 k2 l0 x3_1 x4_1 t676 (wrap64 (x7_2 + 1)) ((rd_T49 l0 x4_1).f0) ((rd_T49 l0 x4_1).f1) ((rd_T49 l0 x4_1).f2) ((rd_T49 l0 x4_1).f3) ((rd_T49 l0 x4_1).f4)) = some r := H
      have A19 := aZ A190
      clear A190
      have H' := aZ H
      clear H
      have hcz20_0 : wr.cell? ⟨gb666, 0, none⟩ = some (.slice A665_0 ((rd_T49 l0 x4_1).f0).length c665_0) := (blk_cell BK666.out 0).trans rfl
      have hcz20_1 : wr.cell? ⟨gb666, 1, none⟩ = some (.int .i64 ((rd_T49 l0 x4_1).f1)) := (blk_cell BK666.out 1).trans rfl
      have hcz20_2 : wr.cell? ⟨gb666, 2, none⟩ = some (.int .i64 ((rd_T49 l0 x4_1).f2)) := (blk_cell BK666.out 2).trans rfl
      have hcz20_3 : wr.cell? ⟨gb666, 3, none⟩ = some (.int .i64 ((rd_T49 l0 x4_1).f3)) := (blk_cell BK666.out 3).trans rfl
      have hcz20_4 : wr.cell? ⟨gb666, 4, none⟩ = some (.string ((rd_T49 l0 x4_1).f4)) := (blk_cell BK666.out 4).trans rfl
      have hfz20_0 := blk_frozen BK666.out 0
      have hfz20_1 := blk_frozen BK666.out 1
      have hfz20_2 := blk_frozen BK666.out 2
      have hfz20_3 := blk_frozen BK666.out 3
      have hfz20_4 := blk_frozen BK666.out 4
      have p674 : 0 ≤ (x7_2 : Int) := of_decide_eq_true (by first | (with_reducible assumption) | assumption)
      have q674 : x7_2 < (((rd_T49 l0 x4_1).f0).length : Int) := of_decide_eq_true (by first | (with_reducible assumption) | assumption)
      obtain ⟨ad674, e674, hx674_0⟩ := Kd.at_int HR665_0.out x7_2 p674 q674
      cases e674
      replace hx674_0 := (HB.out.cell (World.block_lt_of_cell? w _ hx674_0)).trans hx674_0
      replace p674 := eq_true p674
      replace q674 := eq_true q674
      obtain ⟨Ao21, co21, eo21⟩ := Kd.R_slice HO_3.out
      subst eo21
      have p675 : 0 ≤ ((rd ((rd_T49 l0 x4_1).f0) x7_2) : Int) := of_decide_eq_true (by first | (with_reducible assumption) | assumption)
      have q675 : (rd ((rd_T49 l0 x4_1).f0) x7_2) < (x3_1.length : Int) := of_decide_eq_true (by first | (with_reducible assumption) | assumption)
      obtain ⟨ad675, e675, hx675_0⟩ := Kd.at_int (Kd.R_reads' HO_3.out).2.2 (rd ((rd_T49 l0 x4_1).f0) x7_2) p675 q675
      cases e675
      replace p675 := eq_true p675
      replace q675 := eq_true q675
      go_wp2_with (first | ((with_reducible refine gate_callee (f := 44) rfl ?_); refine goesL_ (some 47) rfl rfl Try.func44 (by kernel_rfl) rfl #[.int .i64 x6_2, .int .i64 (rd x3_1 (rd ((rd_T49 l0 x4_1).f0) x7_2))] rfl (by (try simp only [List.map_toArray, List.map_cons, List.map_nil]); first | done | rfl | (simp only [List.length_drop, List.length_take]; rfl)) ?_; (with_reducible refine (changeforgeref3_DigestPair.calls k2 x6_2 (rd x3_1 (rd ((rd_T49 l0 x4_1).f0) x7_2)) t676 _ A19.out).mono ?_); rintro e w' ⟨rfl, ⟨nd, rfl⟩⟩; refine ⟨_, rfl, ?_⟩))
      go_roundg k2
      case measure => have := HK1.out; have := HK2.out; omega
      case rel => exact ⟨(t676), (wrap64 (x7_2 + 1)), (by first | rfl | (simp; done) | (simp [*]; done) | (simp [i64_w]; done)), (by first | rfl | (simp; done) | (simp [*]; done) | (simp [i64_w]; done)), H', ⟨by have := HK1.out; have := HK2.out; omega⟩, ⟨by (with_reducible repeat (first | apply Kd.rA | apply Kd.rN | apply Kd.rD)); exact HO_3.out⟩, ⟨by (with_reducible repeat (first | refine bN ?_ _ | refine bD ?_ | refine bA ?_ _)); exact BK666.out⟩, ⟨by repeat (first | (with_reducible first | exact HB.out | apply lA | apply lN | apply lD | refine lS ?_ GE666.out) | exact HB.out)⟩⟩
end Go.Proofs.Ytojhnjgnpjoacaa.P
