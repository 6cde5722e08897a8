/- How this seat's structs that come in are read. -/
import Derived.Test.YtojhnjgnpjoacaaP0
import Derived.Test.YtojhnjgnpjoacaaOpen
namespace Go.Proofs.Ytojhnjgnpjoacaa.P
open Go.RowKit Go.Proofs.YtojhnjgnpjoacaaW.PrintWords Go.Proofs.YtojhnjgnpjoacaaW.PrintOpen
theorem opens_S49 : Opens Try.prog 49 k49 S49.ok := opens_struct Try.underlying49 (by kernel_rfl) (opensFs_cons (opens_slice Try.underlying23 (by kernel_rfl) (B := 8) (by kernel_rfl) (opens_int Try.underlying3 (by kernel_rfl))) rfl (opensFs_cons (opens_int Try.underlying3 (by kernel_rfl)) rfl (opensFs_cons (opens_int Try.underlying3 (by kernel_rfl)) rfl (opensFs_cons (opens_int Try.underlying3 (by kernel_rfl)) rfl (opensFs_one (opens_string Try.underlying9 (by kernel_rfl)) rfl rfl))))) (fun x : S49 => (x.f0, x.f1, x.f2, x.f3, x.f4)) (fun a => ⟨a.1, a.2.1, a.2.2.1, a.2.2.2.1, a.2.2.2.2⟩) (fun _ => rfl)
end Go.Proofs.Ytojhnjgnpjoacaa.P
