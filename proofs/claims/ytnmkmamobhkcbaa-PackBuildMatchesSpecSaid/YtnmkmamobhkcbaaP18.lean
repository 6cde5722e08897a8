/- What the Go functions of this seat compute, and that they do: printed by a program over the kit's print. -/
import Derived.Test.YtnmkmamobhkcbaaP0
namespace Go.Proofs.Ytnmkmamobhkcbaa.P
open Go.RowKit Go.Proofs.YtnmkmamobhkcbaaW.PrintWords Go.Proofs.YtnmkmamobhkcbaaW.PrintLast Go.Proofs.YtnmkmamobhkcbaaW.PrintMore
attribute [local go_sem] max2_int min2_int max_two min_two max_three min_three max_four min_four   -- for this text's walks alone
set_option linter.unusedVariables false
set_option linter.unusedSimpArgs false

/-! ### changeforgeref3_double: function 67 -/
def changeforgeref3_double.f (a0 : Int) : Option (Int) := if (wrap64 (a0 + a0)) ≥ 2305843009213693951 then (some (wrap64 ((wrap64 (a0 + a0)) - 2305843009213693951))) else (some (wrap64 (a0 + a0)))
set_option maxHeartbeats 8000000 in
set_option maxRecDepth 100000 in
theorem changeforgeref3_double.calls (a0 : Int) (r : Int) (w : World) (h : changeforgeref3_double.f a0 = some r) :
    Calls Try.prog 67 #[.int .i64 a0] w fun e w' => e = .returned (.int .i64 r) ∧ Drawn0 w w' := by
  have H : (if (wrap64 (a0 + a0)) ≥ 2305843009213693951 then (some (wrap64 ((wrap64 (a0 + a0)) - 2305843009213693951))) else (some (wrap64 (a0 + a0)))) = some r := h
  clear h
  by_cases c2 : (wrap64 (a0 + a0)) ≥ 2305843009213693951
  · rw [if_pos c2] at H
    have c2b0 : decide (2305843009213693951 ≤ (wrap64 (a0 + a0))) = true := decide_eq_true c2
    clear c2
    obtain rfl := Option.some.inj H
    go_enter Try.func67, Try.ntmps67
    go_wp2
    go_ret
    exact ⟨by first | rfl | (simp; done) | (simp [*]; done), by repeat (first | exact Drawn0.refl _ | apply Drawn0.step)⟩
  · rw [if_neg c2] at H
    have c2b0 : decide (2305843009213693951 ≤ (wrap64 (a0 + a0))) = false := decide_eq_false c2
    clear c2
    obtain rfl := Option.some.inj H
    go_enter Try.func67, Try.ntmps67
    go_wp2
    go_ret
    exact ⟨by first | rfl | (simp; done) | (simp [*]; done), by repeat (first | exact Drawn0.refl _ | apply Drawn0.step)⟩

end Go.Proofs.Ytnmkmamobhkcbaa.P
