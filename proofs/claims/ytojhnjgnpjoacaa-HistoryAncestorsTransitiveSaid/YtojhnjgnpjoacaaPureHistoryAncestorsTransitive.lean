/- The pure statement of HistoryAncestorsTransitive. -/
import Derived.Test.YtojhnjgnpjoacaaHist9
import Derived.Test.YtojhnjgnpjoacaaP17
namespace Go.Proofs.Ytojhnjgnpjoacaa.Pure
open Go.RowKit Go.Proofs.YtojhnjgnpjoacaaW.PrintWords Go.Proofs.YtojhnjgnpjoacaaW.PrintEv Go.Proofs.Ytojhnjgnpjoacaa.P Go.Proofs.Ytojhnjgnpjoacaa.Hist
set_option linter.unusedVariables false
theorem trans_l0 {l : List C} {a b : Int} (hv : Valid l) (hb0 : 0 ≤ b) (hb : b < l.length) : ∀ (m : Nat) (i : Int), 0 ≤ i → i + m = l.length → Ev (fun k => changeforgelaw3_HistoryAncestorsTransitive.l0 k l b (ancs l a) (ancs l b) i) true := by
  have hv60 := hv.len
  intro m
  induction m with
  | zero =>
    intro i h0 hi
    refine Ev.step (fun k_ => by rw [changeforgelaw3_HistoryAncestorsTransitive.l0]) ?_
    refine ev_neg (by omega) ?_
    exact ev_now _
  | succ m ih =>
    intro i h0 hi
    have ih' := ih (i + 1) (by omega) (by omega)
    refine Ev.step (fun k_ => by rw [changeforgelaw3_HistoryAncestorsTransitive.l0]) ?_
    rw [w64 (by omega)]
    refine ev_pos (by omega) (ev_pos hb0 (ev_pos (by rw [ancs_length]; omega) (ev_cases (fun h1 => ?_) (fun _ => ih'))))
    refine ev_pos h0 (ev_pos (by rw [ancs_length]; omega) (ev_cases (fun h2 => ?_) (fun _ => ih')))
    refine ev_pos (by rw [ancs_length]; omega) (ev_pos ?_ ih')
    rw [ancs_rd h0 (by omega)]
    exact ((ancs_rd hb0 hb).1 h1).trans ((ancs_rd h0 (by omega)).1 h2)
theorem HistoryAncestorsTransitive : changeforgelaw3_HistoryAncestorsTransitive.Pure := by
  intro l a b hl ha hb
  refine ev_ex ?_
  have hp := hl.2
  unfold changeforgelaw3_HistoryAncestorsTransitive.f
  refine ev_bind hexample_ev (ev_pos rfl (ev_bind (ancestors_ev hp a) (ev_bind (ancestors_ev hp b) ?_)))
  rcases anc_cases l a with ⟨h1, e1⟩ | ⟨hv, hf, ha0, hal, e1⟩
  · refine ev_neg h1 ?_
    refine Ev.step (fun k_ => by rw [changeforgelaw3_HistoryAncestorsTransitive.j0]) ?_
    refine ev_pos rfl (ev_neg h1 ?_)
    rw [e1]; exact ev_now _
  · have hv60 := hv.len
    rw [e1]
    refine ev_pos rfl ?_
    rcases anc_cases l b with ⟨h2, e2⟩ | ⟨_, _, hb0, hbl, e2⟩
    · refine Ev.step (fun k_ => by rw [changeforgelaw3_HistoryAncestorsTransitive.j0]) ?_
      refine ev_pos (by simpa using h2) (ev_pos rfl ?_)
      exact ev_now _
    · rw [e2]
      refine Ev.step (fun k_ => by rw [changeforgelaw3_HistoryAncestorsTransitive.j0]) ?_
      refine ev_neg (by simp) (ev_pos (by rw [ancs_length]) (ev_pos (by rw [ancs_length]) ?_))
      rw [In_eq, In_eq, w64 (by omega)]
      refine ev_some (ev_pos (by simp; omega) (ev_some (ev_pos (by simp; omega) (ev_pos ha0 (ev_pos (by rw [ancs_length]; omega) ?_)))))
      refine Ev.step (fun k_ => by rw [changeforgelaw3_HistoryAncestorsTransitive.j1]) ?_
      refine ev_neg ?_ (trans_l0 hv hb0 hbl l.length 0 (by omega) (by omega))
      rw [(ancs_rd ha0 hal).2 (Anc.refl l a)]; simp
end Go.Proofs.Ytojhnjgnpjoacaa.Pure
