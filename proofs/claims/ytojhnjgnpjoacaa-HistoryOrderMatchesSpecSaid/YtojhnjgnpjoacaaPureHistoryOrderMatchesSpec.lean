/- The pure statement of HistoryOrderMatchesSpec. -/
import Derived.Test.YtojhnjgnpjoacaaHistEx
import Derived.Test.YtojhnjgnpjoacaaHistF
import Derived.Test.YtojhnjgnpjoacaaHist10
import Derived.Test.YtojhnjgnpjoacaaHist12
import Derived.Test.YtojhnjgnpjoacaaP33
namespace Go.Proofs.Ytojhnjgnpjoacaa.Pure
open Go.RowKit Go.Proofs.YtojhnjgnpjoacaaW.PrintWords Go.Proofs.YtojhnjgnpjoacaaW.PrintEv Go.Proofs.Ytojhnjgnpjoacaa.P Go.Proofs.Ytojhnjgnpjoacaa.Hist Go.Proofs.Ytojhnjgnpjoacaa.HistF
set_option linter.unusedVariables false
theorem HistoryOrderMatchesSpec : changeforgelaw3_HistoryOrderMatchesSpec.Pure := by
  intro l hl
  refine ev_ex ?_
  have hp := hl.2
  unfold changeforgelaw3_HistoryOrderMatchesSpec.f
  refine ev_bind hexample_ev (ev_pos rfl ?_)
  refine Ev.step (fun k_ => by rw [changeforgelaw3_HistoryOrderMatchesSpec.j0]) ?_
  refine ev_bind (heads_ev hp) (ev_bind (order_ev hp) (ev_bind (gens_ev hp) (ev_bind hfault_ev ?_)))
  unfold headsR ordR gensR
  by_cases h : (vf l).1 ≠ 0
  · rw [if_pos h, if_pos h, if_pos h]
    refine ev_neg h (ev_pos (by simp) (ev_pos (by simp) (ev_pos (by simp) ?_)))
    refine ev_cast (ev_now _) ?_
    have e1 : wrap64 (((0 : Nat) : Int) + ((0 : Nat) : Int)) = 0 := w64 (by omega)
    have e2 : wrap64 (0 + ((0 : Nat) : Int)) = 0 := w64 (by omega)
    show (wrap64 (wrap64 (((0 : Nat) : Int) + ((0 : Nat) : Int)) + ((0 : Nat) : Int)) == 0) = true
    rw [e1, e2]; rfl
  · obtain ⟨e, hv⟩ := vf_zero (Decidable.not_not.1 h)
    have hv60 := hv.len
    have hh := headf_length l l.length
    have hh : (heads l).length ≤ l.length := hh
    have ho := (ordr_ord hv).2
    have hg := (gens_spec hv).1
    rw [if_neg h, if_neg h, if_neg h, e]
    refine ev_pos rfl ?_
    refine Ev.step (fun k_ => by rw [changeforgelaw3_HistoryOrderMatchesSpec.j1]) ?_
    refine ev_pos rfl (ev_pos rfl (ev_pos rfl (ev_bind (hof_ev hv) (ev_bind (ints_same (by show ((heads l).length : Int) ≤ _; omega)) (ev_pos rfl (ev_bind (oof_ev hv) (ev_bind (ints_same (by show ((ordr l).length : Int) ≤ _; omega)) (ev_pos rfl (ev_bind (gof_ev hv) (ev_bind (ints_same (by show ((gens l).length : Int) ≤ _; omega)) ?_))))))))))
    exact ev_now _
end Go.Proofs.Ytojhnjgnpjoacaa.Pure
