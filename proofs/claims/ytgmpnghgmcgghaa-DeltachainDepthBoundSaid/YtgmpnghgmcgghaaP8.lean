/- What the Go functions of this seat compute, and that they do: printed by a program over the kit's print. -/
import Derived.Test.YtgmpnghgmcgghaaP0
namespace Go.Proofs.Ytgmpnghgmcgghaa.P
open Go.RowKit Go.Proofs.YtgmpnghgmcgghaaW.PrintWords Go.Proofs.YtgmpnghgmcgghaaW.PrintLast Go.Proofs.YtgmpnghgmcgghaaW.PrintMore
attribute [local go_sem] max2_int min2_int max_two min_two max_three min_three max_four min_four   -- for this text's walks alone
set_option linter.unusedVariables false
set_option linter.unusedSimpArgs false

/-! ### changeforgeref3_Deltas: function 13 -/
def changeforgeref3_Deltas.l0 : Nat → List (S37) → List (S37) → Int → Option (Bool)
  | 0, _, _, _ => none
  | k + 1, x0, x1, x5 => if x5 < (x0.length : Int) then (if 0 ≤ x5 then (if x5 < (x1.length : Int) then (if ((rd_T37 x0 x5).f0) = ((rd_T37 x1 x5).f0) then (if ((rd_T37 x0 x5).f1) = ((rd_T37 x1 x5).f1) then (if (strOfNums ((rd_T37 x0 x5).f2)).toList = (strOfNums ((rd_T37 x1 x5).f2)).toList then (changeforgeref3_Deltas.l0 k x0 x1 (wrap64 (x5 + 1))) else (some false)) else (some false)) else (some false)) else (none)) else (none)) else (some true)
def changeforgeref3_Deltas.f (k : Nat) (l0 : List (S37)) (l1 : List (S37)) : Option (Bool) := if (l0.length : Int) = (l1.length : Int) then (changeforgeref3_Deltas.l0 k l0 l1 0) else (some false)
theorem changeforgeref3_Deltas.mono_l : ∀ k, (∀ y0 y1 y2, LeO (changeforgeref3_Deltas.l0 k y0 y1 y2) (changeforgeref3_Deltas.l0 (k + 1) y0 y1 y2))
  | 0 => fun _ _ _ r h => by simp [changeforgeref3_Deltas.l0] at h
  | k + 1 => by
    have ih0 := changeforgeref3_Deltas.mono_l k
    · intro y0 y1 y2
      unfold changeforgeref3_Deltas.l0
      repeat' first
      | (with_reducible exact ih0 _ _ _)
      | (with_reducible exact LeO.refl _)
      | (with_reducible exact LeO.none _)
      | (with_reducible refine LeO.ite ?_ ?_)
      | (with_reducible refine LeO.bind ?_ (fun _ => ?_))
      | exact ih0 _ _ _
      | exact LeO.none _
      | refine LeO.ite ?_ ?_
      | refine LeO.bind ?_ (fun _ => ?_)
theorem changeforgeref3_Deltas.mono : ∀ a0 a1 k, LeO (changeforgeref3_Deltas.f k a0 a1) (changeforgeref3_Deltas.f (k + 1) a0 a1) := by
  intro a0 a1 k
  have ih0 := changeforgeref3_Deltas.mono_l k
  unfold changeforgeref3_Deltas.f
  repeat' first
      | (with_reducible exact ih0 _ _ _)
      | (with_reducible exact LeO.refl _)
      | (with_reducible exact LeO.none _)
      | (with_reducible refine LeO.ite ?_ ?_)
      | (with_reducible refine LeO.bind ?_ (fun _ => ?_))
      | exact ih0 _ _ _
      | exact LeO.none _
      | refine LeO.ite ?_ ?_
      | refine LeO.bind ?_ (fun _ => ?_)
set_option maxHeartbeats 8000000 in
set_option maxRecDepth 100000 in
theorem changeforgeref3_Deltas.calls (k : Nat) (A0 : Option Addr) (c0 : Nat) (l0 : List (S37)) (A1 : Option Addr) (c1 : Nat) (l1 : List (S37)) (r : Bool) (w : World) (hr0 : Kd.C k37 w A0 l0.length l0) (hc0 : l0.length ≤ c0) (hr1 : Kd.C k37 w A1 l1.length l1) (hc1 : l1.length ≤ c1) (h : changeforgeref3_Deltas.f k l0 l1 = some r) :
  Calls Try.prog 13 #[.slice A0 l0.length c0, .slice A1 l1.length c1] w fun e w' => e = .returned (.bool r) ∧ Drawn0 w w' := by
  have HR0 := aZ hr0
  have HC0 := aZ hc0
  clear hr0 hc0
  have HR1 := aZ hr1
  have HC1 := aZ hc1
  clear hr1 hc1
  have H : (if (l0.length : Int) = (l1.length : Int) then (changeforgeref3_Deltas.l0 k l0 l1 0) else (some false)) = some r := h
  clear h
  by_cases c3 : (l0.length : Int) = (l1.length : Int)
  rotate_left
  · rw [if_neg c3] at H
    have c3b0 : ((l0.length : Int) == (l1.length : Int)) = false := beq_eq_false_iff_ne.mpr c3
    have c3b1 : ((l0.length : Int) != (l1.length : Int)) = true := bne_iff_ne.mpr c3
    have c3b2 : (l0.length == l1.length) = false := by first | simpa using c3 | (simp at c3 ⊢; omega)
    obtain rfl := Option.some.inj H
    go_enter Try.func13, Try.ntmps13
    go_wp2
    repeat (go_quiet (fail); try go_wp2)
    go_ret
    exact ⟨by first | rfl | (simp; done) | (simp [*]; done), by repeat (first | exact Drawn0.refl _ | apply Drawn0.step)⟩

  rw [if_pos c3] at H
  have c3b0 : ((l0.length : Int) == (l1.length : Int)) = true := beq_iff_eq.mpr c3
  have c3b1 : ((l0.length : Int) != (l1.length : Int)) = false := bne_eq_false_iff_eq.mpr c3
  have c3b2 : (l0.length == l1.length) = true := by first | simpa using c3 | (simp at c3 ⊢; omega)
  clear c3
  have H' := aZ H
  clear H
  go_enter Try.func13, Try.ntmps13
  go_wp2
  repeat (go_quiet (fail); try go_wp2)
  go_loopg [5] k (fun kq v5 w' => ∃ (x5_1 : Int), v5 = .int .i64 x5_1 ∧ Aside0 (changeforgeref3_Deltas.l0 kq l0 l1 x5_1 = some r) ∧ Aside0 (kq ≤ k) ∧ Drawn0 w w')
  case atStart => exact ⟨(0), (by first | rfl | (simp; done) | (simp [*]; done) | (simp [i64_w]; done)), H', ⟨Nat.le_refl _⟩, by repeat (first | exact Drawn0.refl _ | apply Drawn0.step)⟩
  case round =>
   clear H'
   (try clear c1); (try clear c3); (try clear c3b0); (try clear c3b1); (try clear c3b2)
   obtain ⟨x5_1, rfl, HA, HK1, ⟨m1, rfl⟩⟩ := hrel
   cases gk with
   | zero => exact absurd HA.out (by simp [changeforgeref3_Deltas.l0])
   | succ k1 =>
    have H := HA.out
    clear HA
    simp only [changeforgeref3_Deltas.l0] at H
    by_cases c4 : x5_1 < (l0.length : Int)
    rotate_left
    · rw [if_neg c4] at H
      have c4b0 : decide (x5_1 < (l0.length : Int)) = false := decide_eq_false c4
      clear c4
      obtain rfl := Option.some.inj H
      go_wp2
      repeat (go_quiet (fail); try go_wp2)
      go_ret
      exact ⟨by first | rfl | (simp; done) | (simp [*]; done), by repeat (first | exact Drawn0.refl _ | apply Drawn0.step)⟩
    rw [if_pos c4] at H
    have c4b0 : decide (x5_1 < (l0.length : Int)) = true := decide_eq_true c4
    clear c4
    by_cases c5 : 0 ≤ x5_1
    rotate_left
    · rw [if_neg c5] at H
      exact absurd H (by simp)
    rw [if_pos c5] at H
    have c5b0 : decide (0 ≤ x5_1) = true := decide_eq_true c5
    clear c5
    by_cases c6 : x5_1 < (l1.length : Int)
    rotate_left
    · rw [if_neg c6] at H
      exact absurd H (by simp)
    rw [if_pos c6] at H
    have c6b0 : decide (x5_1 < (l1.length : Int)) = true := decide_eq_true c6
    clear c6
    by_cases c7 : ((rd_T37 l0 x5_1).f0) = ((rd_T37 l1 x5_1).f0)
    rotate_left
    · rw [if_neg c7] at H
      have c7b0 : (((rd_T37 l0 x5_1).f0) == ((rd_T37 l1 x5_1).f0)) = false := beq_eq_false_iff_ne.mpr c7
      have c7b1 : (((rd_T37 l0 x5_1).f0) != ((rd_T37 l1 x5_1).f0)) = true := bne_iff_ne.mpr c7
      obtain rfl := Option.some.inj H
      have p191 : 0 ≤ (x5_1 : Int) := of_decide_eq_true (by first | (with_reducible assumption) | assumption)
      have q191 : x5_1 < (l0.length : Int) := of_decide_eq_true (by first | (with_reducible assumption) | assumption)
      obtain ⟨ad191, A191_2, c191_2, e191, hx191_0, hx191_1, hx191_2, hl191_2, hi191_2⟩ := at_T37 HR0.out x5_1 p191 q191
      cases e191
      have HR191_2 := aZ hi191_2
      have HC191_2 := aZ hl191_2
      clear hi191_2 hl191_2
      replace p191 := eq_true p191
      replace q191 := eq_true q191
      have p192 : 0 ≤ (x5_1 : Int) := of_decide_eq_true (by first | (with_reducible assumption) | assumption)
      have q192 : x5_1 < (l1.length : Int) := of_decide_eq_true (by first | (with_reducible assumption) | assumption)
      obtain ⟨ad192, A192_2, c192_2, e192, hx192_0, hx192_1, hx192_2, hl192_2, hi192_2⟩ := at_T37 HR1.out x5_1 p192 q192
      cases e192
      have HR192_2 := aZ hi192_2
      have HC192_2 := aZ hl192_2
      clear hi192_2 hl192_2
      replace p192 := eq_true p192
      replace q192 := eq_true q192
      go_wp2
      repeat (go_quiet (fail); try go_wp2)
      go_ret
      exact ⟨by first | rfl | (simp; done) | (simp [*]; done), by repeat (first | exact Drawn0.refl _ | apply Drawn0.step)⟩
    rw [if_pos c7] at H
    have c7b0 : (((rd_T37 l0 x5_1).f0) == ((rd_T37 l1 x5_1).f0)) = true := beq_iff_eq.mpr c7
    have c7b1 : (((rd_T37 l0 x5_1).f0) != ((rd_T37 l1 x5_1).f0)) = false := bne_eq_false_iff_eq.mpr c7
    clear c7
    by_cases c8 : ((rd_T37 l0 x5_1).f1) = ((rd_T37 l1 x5_1).f1)
    rotate_left
    · rw [if_neg c8] at H
      have c8b0 : (((rd_T37 l0 x5_1).f1) == ((rd_T37 l1 x5_1).f1)) = false := beq_eq_false_iff_ne.mpr c8
      have c8b1 : (((rd_T37 l0 x5_1).f1) != ((rd_T37 l1 x5_1).f1)) = true := bne_iff_ne.mpr c8
      obtain rfl := Option.some.inj H
      have p191 : 0 ≤ (x5_1 : Int) := of_decide_eq_true (by first | (with_reducible assumption) | assumption)
      have q191 : x5_1 < (l0.length : Int) := of_decide_eq_true (by first | (with_reducible assumption) | assumption)
      obtain ⟨ad191, A191_2, c191_2, e191, hx191_0, hx191_1, hx191_2, hl191_2, hi191_2⟩ := at_T37 HR0.out x5_1 p191 q191
      cases e191
      have HR191_2 := aZ hi191_2
      have HC191_2 := aZ hl191_2
      clear hi191_2 hl191_2
      replace p191 := eq_true p191
      replace q191 := eq_true q191
      have p192 : 0 ≤ (x5_1 : Int) := of_decide_eq_true (by first | (with_reducible assumption) | assumption)
      have q192 : x5_1 < (l1.length : Int) := of_decide_eq_true (by first | (with_reducible assumption) | assumption)
      obtain ⟨ad192, A192_2, c192_2, e192, hx192_0, hx192_1, hx192_2, hl192_2, hi192_2⟩ := at_T37 HR1.out x5_1 p192 q192
      cases e192
      have HR192_2 := aZ hi192_2
      have HC192_2 := aZ hl192_2
      clear hi192_2 hl192_2
      replace p192 := eq_true p192
      replace q192 := eq_true q192
      have p193 : 0 ≤ (x5_1 : Int) := of_decide_eq_true (by first | (with_reducible assumption) | assumption)
      have q193 : x5_1 < (l0.length : Int) := of_decide_eq_true (by first | (with_reducible assumption) | assumption)
      obtain ⟨ad193, A193_2, c193_2, e193, hx193_0, hx193_1, hx193_2, hl193_2, hi193_2⟩ := at_T37 HR0.out x5_1 p193 q193
      obtain rfl : ad191 = ad193 := (by injection e193)
      have HR193_2 := aZ hi193_2
      have HC193_2 := aZ hl193_2
      clear hi193_2 hl193_2
      replace p193 := eq_true p193
      replace q193 := eq_true q193
      have ea_ := Option.some.inj (hx191_2.symm.trans hx193_2)
      injection ea_ with ea_ en_ ec_
      subst ea_
      subst ec_
      clear en_
      have p194 : 0 ≤ (x5_1 : Int) := of_decide_eq_true (by first | (with_reducible assumption) | assumption)
      have q194 : x5_1 < (l1.length : Int) := of_decide_eq_true (by first | (with_reducible assumption) | assumption)
      obtain ⟨ad194, A194_2, c194_2, e194, hx194_0, hx194_1, hx194_2, hl194_2, hi194_2⟩ := at_T37 HR1.out x5_1 p194 q194
      obtain rfl : ad192 = ad194 := (by injection e194)
      have HR194_2 := aZ hi194_2
      have HC194_2 := aZ hl194_2
      clear hi194_2 hl194_2
      replace p194 := eq_true p194
      replace q194 := eq_true q194
      have ea_ := Option.some.inj (hx192_2.symm.trans hx194_2)
      injection ea_ with ea_ en_ ec_
      subst ea_
      subst ec_
      clear en_
      go_wp2
      repeat (go_quiet (fail); try go_wp2)
      go_ret
      exact ⟨by first | rfl | (simp; done) | (simp [*]; done), by repeat (first | exact Drawn0.refl _ | apply Drawn0.step)⟩
    rw [if_pos c8] at H
    have c8b0 : (((rd_T37 l0 x5_1).f1) == ((rd_T37 l1 x5_1).f1)) = true := beq_iff_eq.mpr c8
    have c8b1 : (((rd_T37 l0 x5_1).f1) != ((rd_T37 l1 x5_1).f1)) = false := bne_eq_false_iff_eq.mpr c8
    clear c8
    by_cases c9 : (strOfNums ((rd_T37 l0 x5_1).f2)).toList = (strOfNums ((rd_T37 l1 x5_1).f2)).toList
    rotate_left
    · rw [if_neg c9] at H
      have c9b0 : ((strOfNums ((rd_T37 l0 x5_1).f2)).toList == (strOfNums ((rd_T37 l1 x5_1).f2)).toList) = false := beq_eq_false_iff_ne.mpr c9
      have c9b1 : ((strOfNums ((rd_T37 l0 x5_1).f2)).toList != (strOfNums ((rd_T37 l1 x5_1).f2)).toList) = true := bne_iff_ne.mpr c9
      obtain rfl := Option.some.inj H
      have p191 : 0 ≤ (x5_1 : Int) := of_decide_eq_true (by first | (with_reducible assumption) | assumption)
      have q191 : x5_1 < (l0.length : Int) := of_decide_eq_true (by first | (with_reducible assumption) | assumption)
      obtain ⟨ad191, A191_2, c191_2, e191, hx191_0, hx191_1, hx191_2, hl191_2, hi191_2⟩ := at_T37 HR0.out x5_1 p191 q191
      cases e191
      have HR191_2 := aZ hi191_2
      have HC191_2 := aZ hl191_2
      clear hi191_2 hl191_2
      replace p191 := eq_true p191
      replace q191 := eq_true q191
      have p192 : 0 ≤ (x5_1 : Int) := of_decide_eq_true (by first | (with_reducible assumption) | assumption)
      have q192 : x5_1 < (l1.length : Int) := of_decide_eq_true (by first | (with_reducible assumption) | assumption)
      obtain ⟨ad192, A192_2, c192_2, e192, hx192_0, hx192_1, hx192_2, hl192_2, hi192_2⟩ := at_T37 HR1.out x5_1 p192 q192
      cases e192
      have HR192_2 := aZ hi192_2
      have HC192_2 := aZ hl192_2
      clear hi192_2 hl192_2
      replace p192 := eq_true p192
      replace q192 := eq_true q192
      have p193 : 0 ≤ (x5_1 : Int) := of_decide_eq_true (by first | (with_reducible assumption) | assumption)
      have q193 : x5_1 < (l0.length : Int) := of_decide_eq_true (by first | (with_reducible assumption) | assumption)
      obtain ⟨ad193, A193_2, c193_2, e193, hx193_0, hx193_1, hx193_2, hl193_2, hi193_2⟩ := at_T37 HR0.out x5_1 p193 q193
      obtain rfl : ad191 = ad193 := (by injection e193)
      have HR193_2 := aZ hi193_2
      have HC193_2 := aZ hl193_2
      clear hi193_2 hl193_2
      replace p193 := eq_true p193
      replace q193 := eq_true q193
      have ea_ := Option.some.inj (hx191_2.symm.trans hx193_2)
      injection ea_ with ea_ en_ ec_
      subst ea_
      subst ec_
      clear en_
      have p194 : 0 ≤ (x5_1 : Int) := of_decide_eq_true (by first | (with_reducible assumption) | assumption)
      have q194 : x5_1 < (l1.length : Int) := of_decide_eq_true (by first | (with_reducible assumption) | assumption)
      obtain ⟨ad194, A194_2, c194_2, e194, hx194_0, hx194_1, hx194_2, hl194_2, hi194_2⟩ := at_T37 HR1.out x5_1 p194 q194
      obtain rfl : ad192 = ad194 := (by injection e194)
      have HR194_2 := aZ hi194_2
      have HC194_2 := aZ hl194_2
      clear hi194_2 hl194_2
      replace p194 := eq_true p194
      replace q194 := eq_true q194
      have ea_ := Option.some.inj (hx192_2.symm.trans hx194_2)
      injection ea_ with ea_ en_ ec_
      subst ea_
      subst ec_
      clear en_
      have p195 : 0 ≤ (x5_1 : Int) := of_decide_eq_true (by first | (with_reducible assumption) | assumption)
      have q195 : x5_1 < (l0.length : Int) := of_decide_eq_true (by first | (with_reducible assumption) | assumption)
      obtain ⟨ad195, A195_2, c195_2, e195, hx195_0, hx195_1, hx195_2, hl195_2, hi195_2⟩ := at_T37 HR0.out x5_1 p195 q195
      obtain rfl : ad191 = ad195 := (by injection e195)
      have HR195_2 := aZ hi195_2
      have HC195_2 := aZ hl195_2
      clear hi195_2 hl195_2
      replace p195 := eq_true p195
      replace q195 := eq_true q195
      have ea_ := Option.some.inj (hx191_2.symm.trans hx195_2)
      injection ea_ with ea_ en_ ec_
      subst ea_
      subst ec_
      clear en_
      have hcv12 := Kd.C_string (P := Try.prog) (A := A191_2) (c := c191_2) Try.underlying22 Try.underlying5 Try.underlying9 HR195_2.out
      have hcvd12 := fun n_ : Nat => Kd.C_string (P := Try.prog) (A := A191_2) (c := c191_2) Try.underlying22 Try.underlying5 Try.underlying9 (Kd.C_drewN HR195_2.out n_)
      have p196 : 0 ≤ (x5_1 : Int) := of_decide_eq_true (by first | (with_reducible assumption) | assumption)
      have q196 : x5_1 < (l1.length : Int) := of_decide_eq_true (by first | (with_reducible assumption) | assumption)
      obtain ⟨ad196, A196_2, c196_2, e196, hx196_0, hx196_1, hx196_2, hl196_2, hi196_2⟩ := at_T37 HR1.out x5_1 p196 q196
      obtain rfl : ad192 = ad196 := (by injection e196)
      have HR196_2 := aZ hi196_2
      have HC196_2 := aZ hl196_2
      clear hi196_2 hl196_2
      replace p196 := eq_true p196
      replace q196 := eq_true q196
      have ea_ := Option.some.inj (hx192_2.symm.trans hx196_2)
      injection ea_ with ea_ en_ ec_
      subst ea_
      subst ec_
      clear en_
      have hcv13 := Kd.C_string (P := Try.prog) (A := A192_2) (c := c192_2) Try.underlying22 Try.underlying5 Try.underlying9 HR196_2.out
      have hcvd13 := fun n_ : Nat => Kd.C_string (P := Try.prog) (A := A192_2) (c := c192_2) Try.underlying22 Try.underlying5 Try.underlying9 (Kd.C_drewN HR196_2.out n_)
      go_wp2
      repeat (go_quiet (fail); try go_wp2)
      go_ret
      exact ⟨by first | rfl | (simp; done) | (simp [*]; done), by repeat (first | exact Drawn0.refl _ | apply Drawn0.step)⟩
    rw [if_pos c9] at H
    have c9b0 : ((strOfNums ((rd_T37 l0 x5_1).f2)).toList == (strOfNums ((rd_T37 l1 x5_1).f2)).toList) = true := beq_iff_eq.mpr c9
    have c9b1 : ((strOfNums ((rd_T37 l0 x5_1).f2)).toList != (strOfNums ((rd_T37 l1 x5_1).f2)).toList) = false := bne_eq_false_iff_eq.mpr c9
    clear c9
    have H' := aZ H
    clear H
    have p191 : 0 ≤ (x5_1 : Int) := of_decide_eq_true (by first | (with_reducible assumption) | assumption)
    have q191 : x5_1 < (l0.length : Int) := of_decide_eq_true (by first | (with_reducible assumption) | assumption)
    obtain ⟨ad191, A191_2, c191_2, e191, hx191_0, hx191_1, hx191_2, hl191_2, hi191_2⟩ := at_T37 HR0.out x5_1 p191 q191
    cases e191
    have HR191_2 := aZ hi191_2
    have HC191_2 := aZ hl191_2
    clear hi191_2 hl191_2
    replace p191 := eq_true p191
    replace q191 := eq_true q191
    have p192 : 0 ≤ (x5_1 : Int) := of_decide_eq_true (by first | (with_reducible assumption) | assumption)
    have q192 : x5_1 < (l1.length : Int) := of_decide_eq_true (by first | (with_reducible assumption) | assumption)
    obtain ⟨ad192, A192_2, c192_2, e192, hx192_0, hx192_1, hx192_2, hl192_2, hi192_2⟩ := at_T37 HR1.out x5_1 p192 q192
    cases e192
    have HR192_2 := aZ hi192_2
    have HC192_2 := aZ hl192_2
    clear hi192_2 hl192_2
    replace p192 := eq_true p192
    replace q192 := eq_true q192
    have p193 : 0 ≤ (x5_1 : Int) := of_decide_eq_true (by first | (with_reducible assumption) | assumption)
    have q193 : x5_1 < (l0.length : Int) := of_decide_eq_true (by first | (with_reducible assumption) | assumption)
    obtain ⟨ad193, A193_2, c193_2, e193, hx193_0, hx193_1, hx193_2, hl193_2, hi193_2⟩ := at_T37 HR0.out x5_1 p193 q193
    obtain rfl : ad191 = ad193 := (by injection e193)
    have HR193_2 := aZ hi193_2
    have HC193_2 := aZ hl193_2
    clear hi193_2 hl193_2
    replace p193 := eq_true p193
    replace q193 := eq_true q193
    have ea_ := Option.some.inj (hx191_2.symm.trans hx193_2)
    injection ea_ with ea_ en_ ec_
    subst ea_
    subst ec_
    clear en_
    have p194 : 0 ≤ (x5_1 : Int) := of_decide_eq_true (by first | (with_reducible assumption) | assumption)
    have q194 : x5_1 < (l1.length : Int) := of_decide_eq_true (by first | (with_reducible assumption) | assumption)
    obtain ⟨ad194, A194_2, c194_2, e194, hx194_0, hx194_1, hx194_2, hl194_2, hi194_2⟩ := at_T37 HR1.out x5_1 p194 q194
    obtain rfl : ad192 = ad194 := (by injection e194)
    have HR194_2 := aZ hi194_2
    have HC194_2 := aZ hl194_2
    clear hi194_2 hl194_2
    replace p194 := eq_true p194
    replace q194 := eq_true q194
    have ea_ := Option.some.inj (hx192_2.symm.trans hx194_2)
    injection ea_ with ea_ en_ ec_
    subst ea_
    subst ec_
    clear en_
    have p195 : 0 ≤ (x5_1 : Int) := of_decide_eq_true (by first | (with_reducible assumption) | assumption)
    have q195 : x5_1 < (l0.length : Int) := of_decide_eq_true (by first | (with_reducible assumption) | assumption)
    obtain ⟨ad195, A195_2, c195_2, e195, hx195_0, hx195_1, hx195_2, hl195_2, hi195_2⟩ := at_T37 HR0.out x5_1 p195 q195
    obtain rfl : ad191 = ad195 := (by injection e195)
    have HR195_2 := aZ hi195_2
    have HC195_2 := aZ hl195_2
    clear hi195_2 hl195_2
    replace p195 := eq_true p195
    replace q195 := eq_true q195
    have ea_ := Option.some.inj (hx191_2.symm.trans hx195_2)
    injection ea_ with ea_ en_ ec_
    subst ea_
    subst ec_
    clear en_
    have hcv10 := Kd.C_string (P := Try.prog) (A := A191_2) (c := c191_2) Try.underlying22 Try.underlying5 Try.underlying9 HR195_2.out
    have hcvd10 := fun n_ : Nat => Kd.C_string (P := Try.prog) (A := A191_2) (c := c191_2) Try.underlying22 Try.underlying5 Try.underlying9 (Kd.C_drewN HR195_2.out n_)
    have p196 : 0 ≤ (x5_1 : Int) := of_decide_eq_true (by first | (with_reducible assumption) | assumption)
    have q196 : x5_1 < (l1.length : Int) := of_decide_eq_true (by first | (with_reducible assumption) | assumption)
    obtain ⟨ad196, A196_2, c196_2, e196, hx196_0, hx196_1, hx196_2, hl196_2, hi196_2⟩ := at_T37 HR1.out x5_1 p196 q196
    obtain rfl : ad192 = ad196 := (by injection e196)
    have HR196_2 := aZ hi196_2
    have HC196_2 := aZ hl196_2
    clear hi196_2 hl196_2
    replace p196 := eq_true p196
    replace q196 := eq_true q196
    have ea_ := Option.some.inj (hx192_2.symm.trans hx196_2)
    injection ea_ with ea_ en_ ec_
    subst ea_
    subst ec_
    clear en_
    have hcv11 := Kd.C_string (P := Try.prog) (A := A192_2) (c := c192_2) Try.underlying22 Try.underlying5 Try.underlying9 HR196_2.out
    have hcvd11 := fun n_ : Nat => Kd.C_string (P := Try.prog) (A := A192_2) (c := c192_2) Try.underlying22 Try.underlying5 Try.underlying9 (Kd.C_drewN HR196_2.out n_)
    go_wp2
    repeat (go_quiet (fail); try go_wp2)
    go_roundg k1
    case measure => have := HK1.out; omega
    case rel => exact ⟨(wrap64 (x5_1 + 1)), (by first | rfl | (simp; done) | (simp [*]; done) | (simp [i64_w]; done)), H', ⟨by have := HK1.out; omega⟩, by repeat (first | exact Drawn0.refl _ | apply Drawn0.step)⟩
end Go.Proofs.Ytgmpnghgmcgghaa.P
