/- The example of the document on histories. -/
import Derived.Test.YtojhnjgnpjoacaaEv
import Derived.Test.YtojhnjgnpjoacaaP22
import Derived.Test.YtojhnjgnpjoacaaP9
namespace Go.Proofs.Ytojhnjgnpjoacaa.Hist
open Go.RowKit Go.Proofs.YtojhnjgnpjoacaaW.PrintWords Go.Proofs.YtojhnjgnpjoacaaW.PrintEv Go.Proofs.Ytojhnjgnpjoacaa.P
theorem hexample_ev : Ev (fun k => changeforgelaw3_historyExample.f k) true := Ev.of (fun k => changeforgelaw3_historyExample.mono k) (k := 60) (by decide +kernel)
theorem In_dec (a b c : Int) : changeforgeref3_In.f a b c = some (decide (b ≤ a ∧ a ≤ c)) := by
  unfold changeforgeref3_In.f
  split
  · congr 1; simp; omega
  · congr 1; simp; omega
end Go.Proofs.Ytojhnjgnpjoacaa.Hist
