/- How this seat's structs that come in are read. -/
import Derived.Test.YtgmpnghgmcgghaaP0
import Derived.Test.YtgmpnghgmcgghaaOpen
namespace Go.Proofs.Ytgmpnghgmcgghaa.P
open Go.RowKit Go.Proofs.YtgmpnghgmcgghaaW.PrintWords Go.Proofs.YtgmpnghgmcgghaaW.PrintOpen
theorem opens_S37 : Opens Try.prog 37 k37 S37.ok := opens_struct Try.underlying37 (by kernel_rfl) (opensFs_cons (opens_int Try.underlying3 (by kernel_rfl)) rfl (opensFs_cons (opens_int Try.underlying3 (by kernel_rfl)) rfl (opensFs_one (opens_slice Try.underlying22 (by kernel_rfl) (B := 1) (by kernel_rfl) (opens_int Try.underlying5 (by kernel_rfl))) rfl rfl))) (fun x : S37 => (x.f0, x.f1, x.f2)) (fun a => ⟨a.1, a.2.1, a.2.2⟩) (fun _ => rfl)
theorem opens_S45 : Opens Try.prog 45 k45 S45.ok := opens_struct Try.underlying45 (by kernel_rfl) (opensFs_cons (opens_int Try.underlying3 (by kernel_rfl)) rfl (opensFs_cons (opens_slice Try.underlying22 (by kernel_rfl) (B := 1) (by kernel_rfl) (opens_int Try.underlying5 (by kernel_rfl))) rfl (opensFs_one (opens_slice Try.underlying24 (by kernel_rfl) (B := 40) (by kernel_rfl) opens_S37) rfl rfl))) (fun x : S45 => (x.f0, x.f1, x.f2)) (fun a => ⟨a.1, a.2.1, a.2.2⟩) (fun _ => rfl)
end Go.Proofs.Ytgmpnghgmcgghaa.P
