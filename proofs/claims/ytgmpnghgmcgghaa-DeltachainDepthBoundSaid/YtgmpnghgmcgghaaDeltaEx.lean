/- The example. -/
import Derived.Test.YtgmpnghgmcgghaaEv
import Derived.Test.YtgmpnghgmcgghaaP6
import Derived.Test.YtgmpnghgmcgghaaP7
namespace Go.Proofs.Ytgmpnghgmcgghaa.Delta
open Go.RowKit Go.Proofs.YtgmpnghgmcgghaaW.PrintWords Go.Proofs.YtgmpnghgmcgghaaW.PrintEv Go.Proofs.Ytgmpnghgmcgghaa.P
theorem example_ev : Ev (fun k => changeforgelaw3_deltachainExample.f k) true :=
  Ev.of (fun k => changeforgelaw3_deltachainExample.mono k) (k := 60) (by decide +kernel)

theorem fault_eq (c i : Int) : changeforgeref3_Fault.f c i = some (c, i) := rfl
end Go.Proofs.Ytgmpnghgmcgghaa.Delta
