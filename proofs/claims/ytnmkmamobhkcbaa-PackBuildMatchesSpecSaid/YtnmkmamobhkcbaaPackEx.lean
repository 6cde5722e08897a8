/- The example of the packs. -/
import Derived.Test.YtnmkmamobhkcbaaPack1
import Derived.Test.YtnmkmamobhkcbaaP14
namespace Go.Proofs.Ytnmkmamobhkcbaa.Obj
open Go.RowKit Go.Proofs.YtnmkmamobhkcbaaW.PrintWords Go.Proofs.YtnmkmamobhkcbaaW.PrintEv Go.Proofs.Ytnmkmamobhkcbaa.P Go.Proofs.Ytnmkmamobhkcbaa.Dig
set_option linter.unusedVariables false
theorem pexample_ev : Ev (fun k => changeforgelaw3_packExample.f k) true := by
  have h := build_ev (l := []) (by intro x hx; cases hx)
  have e : pbR ([] : List SO) = (pkb [], 0, 0) := rfl
  have e2 : pkb ([] : List SO) = [80, 75, 0] ++ wide (dgf 1 [80, 75, 0]) := rfl
  rw [e] at h
  unfold changeforgelaw3_packExample.f
  refine ev_bind h ?_
  rw [e2]
  refine ev_pos rfl (ev_pos rfl (ev_pos (by decide) (ev_pos rfl (ev_pos (by decide) (ev_pos rfl (ev_pos (by decide) (ev_cast (ev_now _) rfl)))))))
end Go.Proofs.Ytnmkmamobhkcbaa.Obj
