/- The pure statement of HistoryAncestorsMatchesSpec. -/
import Derived.Test.YtojhnjgnpjoacaaHist9
import Derived.Test.YtojhnjgnpjoacaaP16
namespace Go.Proofs.Ytojhnjgnpjoacaa.Pure
open Go.RowKit Go.Proofs.YtojhnjgnpjoacaaW.PrintWords Go.Proofs.YtojhnjgnpjoacaaW.PrintEv Go.Proofs.Ytojhnjgnpjoacaa.P Go.Proofs.Ytojhnjgnpjoacaa.Hist
set_option linter.unusedVariables false
theorem j1_bad {l : List C} {n : Int} {f : Int × Int} (h : f.1 ≠ 0) : Ev (fun k => changeforgelaw3_HistoryAncestorsMatchesSpec.j1 k l n [] f.1 f.2 f.1 f.2) true := by
  refine Ev.step (fun k_ => by rw [changeforgelaw3_HistoryAncestorsMatchesSpec.j1]) ?_
  refine ev_neg h (ev_pos (by simp) ?_)
  exact ev_now _
theorem HistoryAncestorsMatchesSpec : changeforgelaw3_HistoryAncestorsMatchesSpec.Pure := by
  intro l n hl hn
  refine ev_ex ?_
  have hp := hl.2
  unfold changeforgelaw3_HistoryAncestorsMatchesSpec.f
  refine ev_bind hexample_ev (ev_pos rfl (ev_bind (ancestors_ev hp n) (ev_bind hfault_ev (ev_bind (validate_ev hp) (ev_neg (by simp) ?_)))))
  by_cases h : (vf l).1 ≠ 0
  · have e : ancR l n = ([], vf l) := by unfold ancR; rw [if_pos h]
    rw [e]
    refine ev_neg h ?_
    refine Ev.step (fun k_ => by rw [changeforgelaw3_HistoryAncestorsMatchesSpec.j0]) ?_
    exact ev_neg (by simp) (j1_bad h)
  · obtain ⟨e, hv⟩ := vf_zero (Decidable.not_not.1 h)
    have hv60 := hv.len
    rw [e]
    refine ev_pos rfl ?_
    rw [In_eq, w64 (by omega)]
    refine ev_some ?_
    by_cases h2 : n < 0 ∨ n ≥ l.length
    · have e2 : ancR l n = ([], 6, -1) := by unfold ancR; rw [if_neg h, if_pos h2]
      rw [e2]
      refine Ev.step (fun k_ => by rw [changeforgelaw3_HistoryAncestorsMatchesSpec.j0]) ?_
      refine ev_pos (by simp; omega) ?_
      rw [Fault_eq]
      exact ev_some (j1_bad (f := (6, -1)) (by decide))
    · have e2 : ancR l n = (ancs l n, 0, 0) := by unfold ancR; rw [if_neg h, if_neg h2]
      rw [e2]
      refine Ev.step (fun k_ => by rw [changeforgelaw3_HistoryAncestorsMatchesSpec.j0]) ?_
      refine ev_neg (by simp; omega) ?_
      refine Ev.step (fun k_ => by rw [changeforgelaw3_HistoryAncestorsMatchesSpec.j1]) ?_
      refine ev_pos rfl (ev_pos rfl (ev_bind (reach_ev hv) (ev_pos (by omega) (ev_pos (by rw [reach_length]; omega) ?_))))
      rw [reach_rd (by omega) (by omega)]
      exact ev_bind (bools_same (by rw [ancs_length]; omega)) (ev_now _)
end Go.Proofs.Ytojhnjgnpjoacaa.Pure
