/- How this seat's structs that come in are read. -/
import Derived.Test.YtnmkmamobhkcbaaP0
import Derived.Test.YtnmkmamobhkcbaaOpen
namespace Go.Proofs.Ytnmkmamobhkcbaa.P
open Go.RowKit Go.Proofs.YtnmkmamobhkcbaaW.PrintWords Go.Proofs.YtnmkmamobhkcbaaW.PrintOpen
theorem opens_S44 : Opens Try.prog 44 k44 S44.ok := opens_struct Try.underlying44 (by kernel_rfl) (opensFs_cons (opens_int Try.underlying3 (by kernel_rfl)) rfl (opensFs_cons (opens_slice Try.underlying42 (by kernel_rfl) (B := 8) (by kernel_rfl) (opens_int Try.underlying3 (by kernel_rfl))) rfl (opensFs_one (opens_slice Try.underlying26 (by kernel_rfl) (B := 1) (by kernel_rfl) (opens_int Try.underlying5 (by kernel_rfl))) rfl rfl))) (fun x : S44 => (x.f0, x.f1, x.f2)) (fun a => ⟨a.1, a.2.1, a.2.2⟩) (fun _ => rfl)
theorem opens_S46 : Opens Try.prog 46 k46 S46.ok := opens_struct Try.underlying46 (by kernel_rfl) (opensFs_cons (opens_int Try.underlying3 (by kernel_rfl)) rfl (opensFs_one opens_S44 rfl rfl)) (fun x : S46 => (x.f0, x.f1)) (fun a => ⟨a.1, a.2⟩) (fun _ => rfl)
theorem opens_S24 : Opens Try.prog 24 k24 S24.ok := opens_struct Try.underlying24 (by kernel_rfl) (opensFs_one (opens_slice Try.underlying22 (by kernel_rfl) (B := 64) (by kernel_rfl) opens_S46) rfl rfl) (fun x : S24 => x.f0) (fun a => ⟨a⟩) (fun _ => rfl)
end Go.Proofs.Ytnmkmamobhkcbaa.P
