/- What the Go functions of this seat compute, and that they do: printed by a program over the kit's print. -/
import Derived.Test.YtgmpnghgmcgghaaP0
namespace Go.Proofs.Ytgmpnghgmcgghaa.P
open Go.RowKit Go.Proofs.YtgmpnghgmcgghaaW.PrintWords Go.Proofs.YtgmpnghgmcgghaaW.PrintLast Go.Proofs.YtgmpnghgmcgghaaW.PrintMore
attribute [local go_sem] max2_int min2_int max_two min_two max_three min_three max_four min_four   -- for this text's walks alone
set_option linter.unusedVariables false
set_option linter.unusedSimpArgs false

/-! ### changeforgeref3_ChainDepth: function 22 -/
def changeforgeref3_ChainDepth.l0 : Nat → List (S45) → Int → Int → Option (Int)
  | 0, _, _, _ => none
  | k + 1, x0, x1, x5 => if 0 ≤ x1 then (if x1 < (x0.length : Int) then (if ((rd_T45 x0 x1).f0) ≥ 0 then (changeforgeref3_ChainDepth.l0 k x0 ((rd_T45 x0 x1).f0) (wrap64 (x5 + 1))) else (some x5)) else (none)) else (none)
def changeforgeref3_ChainDepth.f (k : Nat) (l0 : List (S45)) (a1 : Int) : Option (Int) := changeforgeref3_ChainDepth.l0 k l0 a1 0
theorem changeforgeref3_ChainDepth.mono_l : ∀ k, (∀ y0 y1 y2, LeO (changeforgeref3_ChainDepth.l0 k y0 y1 y2) (changeforgeref3_ChainDepth.l0 (k + 1) y0 y1 y2))
  | 0 => fun _ _ _ r h => by simp [changeforgeref3_ChainDepth.l0] at h
  | k + 1 => by
    have ih0 := changeforgeref3_ChainDepth.mono_l k
    · intro y0 y1 y2
      unfold changeforgeref3_ChainDepth.l0
      repeat' first
      | (with_reducible exact ih0 _ _ _)
      | (with_reducible exact LeO.refl _)
      | (with_reducible exact LeO.none _)
      | (with_reducible refine LeO.ite ?_ ?_)
      | (with_reducible refine LeO.bind ?_ (fun _ => ?_))
      | exact ih0 _ _ _
      | exact LeO.none _
      | refine LeO.ite ?_ ?_
      | refine LeO.bind ?_ (fun _ => ?_)
theorem changeforgeref3_ChainDepth.mono : ∀ a0 a1 k, LeO (changeforgeref3_ChainDepth.f k a0 a1) (changeforgeref3_ChainDepth.f (k + 1) a0 a1) := by
  intro a0 a1 k
  have ih0 := changeforgeref3_ChainDepth.mono_l k
  unfold changeforgeref3_ChainDepth.f
  repeat' first
      | (with_reducible exact ih0 _ _ _)
      | (with_reducible exact LeO.refl _)
      | (with_reducible exact LeO.none _)
      | (with_reducible refine LeO.ite ?_ ?_)
      | (with_reducible refine LeO.bind ?_ (fun _ => ?_))
      | exact ih0 _ _ _
      | exact LeO.none _
      | refine LeO.ite ?_ ?_
      | refine LeO.bind ?_ (fun _ => ?_)
set_option maxHeartbeats 8000000 in
set_option maxRecDepth 100000 in
theorem changeforgeref3_ChainDepth.calls (k : Nat) (A0 : Option Addr) (c0 : Nat) (l0 : List (S45)) (a1 : Int) (r : Int) (w : World) (hr0 : Kd.C k45 w A0 l0.length l0) (hc0 : l0.length ≤ c0) (h : changeforgeref3_ChainDepth.f k l0 a1 = some r) :
  Calls Try.prog 22 #[.slice A0 l0.length c0, .int .i64 a1] w fun e w' => e = .returned (.int .i64 r) ∧ Drawn0 w w' := by
  have HR0 := aZ hr0
  have HC0 := aZ hc0
  clear hr0 hc0
  have H : (changeforgeref3_ChainDepth.l0 k l0 a1 0) = some r := h
  clear h
  have H' := aZ H
  clear H
  go_enter Try.func22, Try.ntmps22
  go_wp2
  go_loopg [1, 5] k (fun kq v1 v5 w' => ∃ (x1_1 : Int) (x5_1 : Int), v1 = .int .i64 x1_1 ∧ v5 = .int .i64 x5_1 ∧ Aside0 (changeforgeref3_ChainDepth.l0 kq l0 x1_1 x5_1 = some r) ∧ Aside0 (kq ≤ k) ∧ Drawn0 w w')
  case atStart => exact ⟨(a1), (0), (by first | rfl | (simp; done) | (simp [*]; done) | (simp [i64_w]; done)), (by first | rfl | (simp; done) | (simp [*]; done) | (simp [i64_w]; done)), H', ⟨Nat.le_refl _⟩, by repeat (first | exact Drawn0.refl _ | apply Drawn0.step)⟩
  case round =>
   clear H'
   obtain ⟨x1_1, x5_1, rfl, rfl, HA, HK1, ⟨m1, rfl⟩⟩ := hrel
   cases gk with
   | zero => exact absurd HA.out (by simp [changeforgeref3_ChainDepth.l0])
   | succ k1 =>
    have H := HA.out
    clear HA
    simp only [changeforgeref3_ChainDepth.l0] at H
    by_cases c3 : 0 ≤ x1_1
    rotate_left
    · rw [if_neg c3] at H
      exact absurd H (by simp)

    rw [if_pos c3] at H
    have c3b0 : decide (0 ≤ x1_1) = true := decide_eq_true c3
    clear c3
    by_cases c4 : x1_1 < (l0.length : Int)
    rotate_left
    · rw [if_neg c4] at H
      exact absurd H (by simp)
    rw [if_pos c4] at H
    have c4b0 : decide (x1_1 < (l0.length : Int)) = true := decide_eq_true c4
    clear c4
    by_cases c5 : ((rd_T45 l0 x1_1).f0) ≥ 0
    rotate_left
    · rw [if_neg c5] at H
      have c5b0 : decide (0 ≤ ((rd_T45 l0 x1_1).f0)) = false := decide_eq_false c5
      clear c5
      obtain rfl := Option.some.inj H
      have p479 : 0 ≤ (x1_1 : Int) := of_decide_eq_true (by first | (with_reducible assumption) | assumption)
      have q479 : x1_1 < (l0.length : Int) := of_decide_eq_true (by first | (with_reducible assumption) | assumption)
      obtain ⟨ad479, A479_1, c479_1, A479_2, c479_2, e479, hx479_0, hx479_1, hx479_2, hl479_1, hi479_1, hl479_2, hi479_2⟩ := at_T45 HR0.out x1_1 p479 q479
      cases e479
      have HR479_1 := aZ hi479_1
      have HC479_1 := aZ hl479_1
      clear hi479_1 hl479_1
      have HR479_2 := aZ hi479_2
      have HC479_2 := aZ hl479_2
      clear hi479_2 hl479_2
      replace p479 := eq_true p479
      replace q479 := eq_true q479
      go_wp2
      go_ret
      exact ⟨by first | rfl | (simp; done) | (simp [*]; done), by repeat (first | exact Drawn0.refl _ | apply Drawn0.step)⟩
    rw [if_pos c5] at H
    have c5b0 : decide (0 ≤ ((rd_T45 l0 x1_1).f0)) = true := decide_eq_true c5
    clear c5
    have H' := aZ H
    clear H
    have p479 : 0 ≤ (x1_1 : Int) := of_decide_eq_true (by first | (with_reducible assumption) | assumption)
    have q479 : x1_1 < (l0.length : Int) := of_decide_eq_true (by first | (with_reducible assumption) | assumption)
    obtain ⟨ad479, A479_1, c479_1, A479_2, c479_2, e479, hx479_0, hx479_1, hx479_2, hl479_1, hi479_1, hl479_2, hi479_2⟩ := at_T45 HR0.out x1_1 p479 q479
    cases e479
    have HR479_1 := aZ hi479_1
    have HC479_1 := aZ hl479_1
    clear hi479_1 hl479_1
    have HR479_2 := aZ hi479_2
    have HC479_2 := aZ hl479_2
    clear hi479_2 hl479_2
    replace p479 := eq_true p479
    replace q479 := eq_true q479
    have p480 : 0 ≤ (x1_1 : Int) := of_decide_eq_true (by first | (with_reducible assumption) | assumption)
    have q480 : x1_1 < (l0.length : Int) := of_decide_eq_true (by first | (with_reducible assumption) | assumption)
    obtain ⟨ad480, A480_1, c480_1, A480_2, c480_2, e480, hx480_0, hx480_1, hx480_2, hl480_1, hi480_1, hl480_2, hi480_2⟩ := at_T45 HR0.out x1_1 p480 q480
    obtain rfl : ad479 = ad480 := (by injection e480)
    have HR480_1 := aZ hi480_1
    have HC480_1 := aZ hl480_1
    clear hi480_1 hl480_1
    have HR480_2 := aZ hi480_2
    have HC480_2 := aZ hl480_2
    clear hi480_2 hl480_2
    replace p480 := eq_true p480
    replace q480 := eq_true q480
    have ea_ := Option.some.inj (hx479_1.symm.trans hx480_1)
    injection ea_ with ea_ en_ ec_
    subst ea_
    subst ec_
    clear en_
    have ea_ := Option.some.inj (hx479_2.symm.trans hx480_2)
    injection ea_ with ea_ en_ ec_
    subst ea_
    subst ec_
    clear en_
    go_wp2
    go_roundg k1
    case measure => have := HK1.out; omega
    case rel => exact ⟨((rd_T45 l0 x1_1).f0), (wrap64 (x5_1 + 1)), (by first | rfl | (simp; done) | (simp [*]; done) | (simp [i64_w]; done)), (by first | rfl | (simp; done) | (simp [*]; done) | (simp [i64_w]; done)), H', ⟨by have := HK1.out; omega⟩, by repeat (first | exact Drawn0.refl _ | apply Drawn0.step)⟩
end Go.Proofs.Ytgmpnghgmcgghaa.P
