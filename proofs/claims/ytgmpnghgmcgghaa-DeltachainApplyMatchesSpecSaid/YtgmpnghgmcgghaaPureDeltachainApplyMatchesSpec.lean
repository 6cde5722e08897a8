/- The pure statement of DeltachainApplyMatchesSpec. -/
import Derived.Test.YtgmpnghgmcgghaaDelta4
import Derived.Test.YtgmpnghgmcgghaaP9
namespace Go.Proofs.Ytgmpnghgmcgghaa.Pure
open Go.RowKit Go.Proofs.YtgmpnghgmcgghaaW.PrintWords Go.Proofs.YtgmpnghgmcgghaaW.PrintEv Go.Proofs.Ytgmpnghgmcgghaa.P Go.Proofs.Ytgmpnghgmcgghaa.Delta
set_option linter.unusedVariables false
theorem DeltachainApplyMatchesSpec : changeforgelaw3_DeltachainApplyMatchesSpec.Pure := by
  intro b ds hb hd
  refine ev_ex ?_
  unfold changeforgelaw3_DeltachainApplyMatchesSpec.f
  have hm : ∀ d ∈ ds, (d.f2.length : Int) ≤ 140737488351232 := fun d h => by
    have := (hd.2 d h).2.2.1
    omega
  refine ev_bind example_ev (ev_pos rfl (ev_bind (apply_ev hm) (ev_bind (applydelta_ev hm) (ev_pos (by simp) ?_))))
  exact ev_cast (ev_now _) (by simp)
end Go.Proofs.Ytgmpnghgmcgghaa.Pure
