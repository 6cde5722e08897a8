/- The pure statement of PackBuildMatchesSpec. -/
import Derived.Test.YtnmkmamobhkcbaaPackEx
import Derived.Test.YtnmkmamobhkcbaaP24
namespace Go.Proofs.Ytnmkmamobhkcbaa.Pure
open Go.RowKit Go.Proofs.YtnmkmamobhkcbaaW.PrintWords Go.Proofs.YtnmkmamobhkcbaaW.PrintEv Go.Proofs.Ytnmkmamobhkcbaa.P Go.Proofs.Ytnmkmamobhkcbaa.Dig Go.Proofs.Ytnmkmamobhkcbaa.Obj
set_option linter.unusedVariables false
theorem PackBuildMatchesSpec : changeforgelaw3_PackBuildMatchesSpec.Pure := by
  intro s hs
  refine ev_ex ?_
  have hp := hs.2
  obtain ⟨l⟩ := s
  have hp : ∀ x ∈ l, S46.ok x := hp
  show Ev (fun k => changeforgelaw3_PackBuildMatchesSpec.f k l) true
  unfold changeforgelaw3_PackBuildMatchesSpec.f
  refine ev_bind pexample_ev (ev_pos rfl (ev_bind (build_ev hp) (ev_bind (sflt_ev hp) ?_)))
  unfold pbR
  by_cases h : (sf l).1 ≠ 0
  · rw [if_pos h]
    refine ev_neg h ?_
    refine Ev.step (fun k_ => by rw [changeforgelaw3_PackBuildMatchesSpec.j0]) ?_
    refine ev_neg (by decide) (ev_neg h (ev_pos (by simp) ?_))
    exact ev_cast (ev_now _) (by simp)
  · obtain ⟨e, hv⟩ := sf_zero (Decidable.not_not.1 h)
    have hb := packbytes_ev hp hv
    have hbl : (pkb l).length = (pkl l).length + 8 := by
      unfold pkb
      rw [List.length_append, wide_len]
    rw [if_neg h, e]
    refine ev_pos rfl (ev_bind hb ?_)
    by_cases c : ((pkl l).length : Int) > 4088
    · rw [if_pos c, decide_eq_true (show ((pkb l).length : Int) > 4096 by omega)]
      refine Ev.step (fun k_ => by rw [changeforgelaw3_PackBuildMatchesSpec.j0]) ?_
      refine ev_pos rfl (ev_some (ev_neg (by decide) (ev_pos (by simp) ?_)))
      exact ev_cast (ev_now _) (by simp)
    · rw [if_neg c, decide_eq_false (show ¬ ((pkb l).length : Int) > 4096 by omega)]
      refine Ev.step (fun k_ => by rw [changeforgelaw3_PackBuildMatchesSpec.j0]) ?_
      refine ev_neg (by decide) (ev_pos rfl (ev_pos rfl (ev_bind hb ?_)))
      exact ev_cast (ev_now _) (by simp)
end Go.Proofs.Ytnmkmamobhkcbaa.Pure
