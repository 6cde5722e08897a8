/- What the Go functions of this seat compute, and that they do: printed by a program over the kit's print. -/
import Derived.Test.YtojhnjgnpjoacaaP0
import Derived.Test.YtojhnjgnpjoacaaP43
namespace Go.Proofs.Ytojhnjgnpjoacaa.P
open Go.RowKit Go.Proofs.YtojhnjgnpjoacaaW.PrintWords Go.Proofs.YtojhnjgnpjoacaaW.PrintLast Go.Proofs.YtojhnjgnpjoacaaW.PrintMore
attribute [local go_sem] max2_int min2_int max_two min_two max_three min_three max_four min_four   -- for this text's walks alone
set_option linter.unusedVariables false
set_option linter.unusedSimpArgs false

/-! ### changeforgeref3_DigestPair: function 44 -/
def changeforgeref3_DigestPair.f (k : Nat) (a0 : Int) (a1 : Int) : Option (Int) := (changeforgeref3_times.f k a0 1000003).bind fun t661 => ((changeforgeref3_times.f k a1 31).bind fun t662 => (some (Int.tmod (wrap64 ((Int.tmod (wrap64 (t661 + t662)) 2305843009213693951) + 7)) 2305843009213693951)))
theorem changeforgeref3_DigestPair.mono : ∀ a0 a1 k, LeO (changeforgeref3_DigestPair.f k a0 a1) (changeforgeref3_DigestPair.f (k + 1) a0 a1) := by
  intro a0 a1 k
  unfold changeforgeref3_DigestPair.f
  repeat' first
      | (with_reducible exact changeforgeref3_times.mono _ _ _)
      | (with_reducible exact LeO.refl _)
      | (with_reducible exact LeO.none _)
      | (with_reducible refine LeO.ite ?_ ?_)
      | (with_reducible refine LeO.bind ?_ (fun _ => ?_))
      | exact changeforgeref3_times.mono _ _ _
      | exact LeO.none _
      | refine LeO.ite ?_ ?_
      | refine LeO.bind ?_ (fun _ => ?_)
set_option maxHeartbeats 8000000 in
set_option maxRecDepth 100000 in
theorem changeforgeref3_DigestPair.calls (k : Nat) (a0 : Int) (a1 : Int) (r : Int) (w : World) (h : changeforgeref3_DigestPair.f k a0 a1 = some r) :
  Calls Try.prog 44 #[.int .i64 a0, .int .i64 a1] w fun e w' => e = .returned (.int .i64 r) ∧ Drawn0 w w' := by
  have H : ((changeforgeref3_times.f k a0 1000003).bind fun t661 => ((changeforgeref3_times.f k a1 31).bind fun t662 => (some (Int.tmod (wrap64 ((Int.tmod (wrap64 (t661 + t662)) 2305843009213693951) + 7)) 2305843009213693951)))) = some r := h
  clear h
  replace H := Option.bind_eq_some_iff.mp H
  obtain ⟨t661, A30, H⟩ := H
  replace H : ((changeforgeref3_times.f k a1 31).bind fun t662 => (some (Int.tmod (wrap64 ((Int.tmod (wrap64 (t661 + t662)) 2305843009213693951) + 7)) 2305843009213693951))) = some r := H
  have A3 := aZ A30
  clear A30
  replace H := Option.bind_eq_some_iff.mp H
  obtain ⟨t662, A40, H⟩ := H
  replace H : (some (Int.tmod (wrap64 ((Int.tmod (wrap64 (t661 + t662)) 2305843009213693951) + 7)) 2305843009213693951)) = some r := H
  have A4 := aZ A40
  clear A40
  obtain rfl := Option.some.inj H
  go_enter Try.func44, Try.ntmps44
  go_wp2_with (first | ((with_reducible refine gate_callee (f := 48) rfl ?_); refine goesL_ (some 6) rfl rfl Try.func48 (by kernel_rfl) rfl #[.int .i64 a0, .int .i64 1000003] rfl (by (try simp only [List.map_toArray, List.map_cons, List.map_nil]); first | done | rfl | (simp only [List.length_drop, List.length_take]; rfl)) ?_; (with_reducible refine (changeforgeref3_times.calls k a0 1000003 t661 _ A3.out).mono ?_); rintro e w' ⟨rfl, ⟨nd, rfl⟩⟩; refine ⟨_, rfl, ?_⟩) | ((with_reducible refine gate_callee (f := 48) rfl ?_); refine goesL_ (some 8) rfl rfl Try.func48 (by kernel_rfl) rfl #[.int .i64 a1, .int .i64 31] rfl (by (try simp only [List.map_toArray, List.map_cons, List.map_nil]); first | done | rfl | (simp only [List.length_drop, List.length_take]; rfl)) ?_; (with_reducible refine (changeforgeref3_times.calls k a1 31 t662 _ A4.out).mono ?_); rintro e w' ⟨rfl, ⟨nd, rfl⟩⟩; refine ⟨_, rfl, ?_⟩))
  go_ret
  exact ⟨by first | rfl | (simp; done) | (simp [*]; done), by repeat (first | exact Drawn0.refl _ | apply Drawn0.step)⟩

end Go.Proofs.Ytojhnjgnpjoacaa.P
