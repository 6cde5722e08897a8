/- The pure statement of HistoryDigestsMatchSpec. -/
import Derived.Test.YtojhnjgnpjoacaaHistEx
import Derived.Test.YtojhnjgnpjoacaaHistF
import Derived.Test.YtojhnjgnpjoacaaDig3
import Derived.Test.YtojhnjgnpjoacaaP47
namespace Go.Proofs.Ytojhnjgnpjoacaa.Pure
open Go.RowKit Go.Proofs.YtojhnjgnpjoacaaW.PrintWords Go.Proofs.YtojhnjgnpjoacaaW.PrintEv Go.Proofs.Ytojhnjgnpjoacaa.P Go.Proofs.Ytojhnjgnpjoacaa.Hist Go.Proofs.Ytojhnjgnpjoacaa.HistF Go.Proofs.Ytojhnjgnpjoacaa.Dig
set_option linter.unusedVariables false
theorem HistoryDigestsMatchSpec : changeforgelaw3_HistoryDigestsMatchSpec.Pure := by
  intro l hl
  refine ev_ex ?_
  have hp := hl.2
  unfold changeforgelaw3_HistoryDigestsMatchSpec.f
  refine ev_bind hexample_ev (ev_pos rfl (ev_bind (digs_ev hp) (ev_bind hfault_ev ?_)))
  unfold digsR
  by_cases h : (vf l).1 ≠ 0
  · rw [if_pos h]
    refine ev_neg h (ev_pos (by simp) ?_)
    exact ev_cast (ev_now _) (by simp)
  · obtain ⟨e, hv⟩ := vf_zero (Decidable.not_not.1 h)
    have hv60 := hv.len
    have hc := cds_length l l.length
    rw [if_neg h, e]
    refine ev_pos rfl (ev_pos rfl (ev_bind (cdigs_ev hv) (ev_bind (ints_same (by show ((cds l l.length).length : Int) ≤ _; omega)) ?_)))
    exact ev_now _
end Go.Proofs.Ytojhnjgnpjoacaa.Pure
