/- The pure statement of DeltachainEncodeMatchesSpec. -/
import Derived.Test.YtgmpnghgmcgghaaDelta3
import Derived.Test.YtgmpnghgmcgghaaP7
namespace Go.Proofs.Ytgmpnghgmcgghaa.Pure
open Go.RowKit Go.Proofs.YtgmpnghgmcgghaaW.PrintWords Go.Proofs.YtgmpnghgmcgghaaW.PrintEv Go.Proofs.Ytgmpnghgmcgghaa.P Go.Proofs.Ytgmpnghgmcgghaa.Delta
set_option linter.unusedVariables false
theorem DeltachainEncodeMatchesSpec : changeforgelaw3_DeltachainEncodeMatchesSpec.Pure := by
  intro a b ha hb
  refine ev_ex ?_
  unfold changeforgelaw3_DeltachainEncodeMatchesSpec.f
  refine ev_bind example_ev (ev_pos rfl (ev_bind encode_ev ?_))
  unfold encR
  by_cases h1 : (a.length : Int) > 1000
  · simp only [if_pos h1]
    exact ev_const (fault_eq _ _) (ev_pos rfl (ev_now _))
  · simp only [if_neg h1]
    by_cases h2 : (b.length : Int) > 1000
    · simp only [if_pos h2]
      exact ev_const (fault_eq _ _) (ev_pos rfl (ev_now _))
    · simp only [if_neg h2]
      have hl := enc_length (b := a) (b.length + 1) b [] false
      simp only [List.length_nil] at hl
      exact ev_pos (by simp) (ev_bind (encodedelta_ev (by omega) (by omega)) (ev_bind (deltas_same (by omega)) (ev_now _)))
end Go.Proofs.Ytgmpnghgmcgghaa.Pure
