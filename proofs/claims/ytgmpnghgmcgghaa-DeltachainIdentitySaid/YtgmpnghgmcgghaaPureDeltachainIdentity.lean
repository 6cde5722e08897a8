/- The pure statement of DeltachainIdentity. -/
import Derived.Test.YtgmpnghgmcgghaaDelta3
import Derived.Test.YtgmpnghgmcgghaaP11
namespace Go.Proofs.Ytgmpnghgmcgghaa.Pure
open Go.RowKit Go.Proofs.YtgmpnghgmcgghaaW.PrintWords Go.Proofs.YtgmpnghgmcgghaaW.PrintEv Go.Proofs.Ytgmpnghgmcgghaa.P Go.Proofs.Ytgmpnghgmcgghaa.Delta
set_option linter.unusedVariables false
theorem DeltachainIdentity : changeforgelaw3_DeltachainIdentity.Pure := by
  intro a ha
  refine ev_ex ?_
  unfold changeforgelaw3_DeltachainIdentity.f
  refine ev_bind example_ev (ev_pos rfl (ev_bind encode_ev ?_))
  unfold encR
  by_cases h1 : (a.length : Int) > 1000
  · simp only [if_pos h1]
    exact ev_neg (by decide) (ev_now _)
  · simp only [if_neg h1]
    refine ev_pos (by simp) (ev_cases (fun h => ev_now _) (fun h => ?_))
    rw [self_enc (by omega)]
    exact ev_pos (by simp) (ev_pos (by simp) (ev_pos (by simp [rd_T37]) (ev_cast (ev_now _) (by simp [rd_T37]))))
end Go.Proofs.Ytgmpnghgmcgghaa.Pure
