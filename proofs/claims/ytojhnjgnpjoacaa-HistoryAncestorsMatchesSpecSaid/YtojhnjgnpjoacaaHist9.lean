/- The example of the document on histories; two equal lists of truth values compared. -/
import Derived.Test.YtojhnjgnpjoacaaHist5
import Derived.Test.YtojhnjgnpjoacaaP14
import Derived.Test.YtojhnjgnpjoacaaP15
namespace Go.Proofs.Ytojhnjgnpjoacaa.Hist
open Go.RowKit Go.Proofs.YtojhnjgnpjoacaaW.PrintWords Go.Proofs.YtojhnjgnpjoacaaW.PrintEv Go.Proofs.Ytojhnjgnpjoacaa.P
set_option linter.unusedVariables false

theorem bools_l0 {a : List Bool} (ha : (a.length : Int) ≤ 140737488351232) : ∀ (m : Nat) (i : Int), 0 ≤ i → i + m = a.length → Ev (fun k => changeforgeref3_Bools.l0 k a a i) true := by
  intro m
  induction m with
  | zero =>
    intro i h0 hi
    refine Ev.step (fun k_ => by rw [changeforgeref3_Bools.l0]) ?_
    refine ev_neg (by omega) ?_
    exact ev_now _
  | succ m ih =>
    intro i h0 hi
    refine Ev.step (fun k_ => by rw [changeforgeref3_Bools.l0]) ?_
    refine ev_pos (by omega) (ev_pos (by omega) (ev_pos (by omega) (ev_neg (by simp) ?_)))
    rw [w64 (by omega)]
    exact ih (i + 1) (by omega) (by omega)
theorem bools_same {a : List Bool} (ha : (a.length : Int) ≤ 140737488351232) : Ev (fun k => changeforgeref3_Bools.f k a a) true := by
  unfold changeforgeref3_Bools.f
  exact ev_pos rfl (bools_l0 ha a.length 0 (by omega) (by omega))
theorem hexample_ev : Ev (fun k => changeforgelaw3_historyExample.f k) true := Ev.of (fun k => changeforgelaw3_historyExample.mono k) (k := 60) (by decide +kernel)
/-- What history.Ancestors hands back, case by case. -/
theorem anc_cases (l : List C) (n : Int) : ((ancR l n).2.1 ≠ 0 ∧ (ancR l n).1 = []) ∨ (Valid l ∧ vf l = (0, 0) ∧ 0 ≤ n ∧ n < l.length ∧ ancR l n = (ancs l n, 0, 0)) := by
  unfold ancR
  by_cases h : (vf l).1 ≠ 0
  · rw [if_pos h]; exact Or.inl ⟨h, rfl⟩
  · obtain ⟨e, hv⟩ := vf_zero (Decidable.not_not.1 h)
    rw [if_neg h]
    by_cases h2 : n < 0 ∨ n ≥ l.length
    · rw [if_pos h2]; exact Or.inl ⟨by decide, rfl⟩
    · rw [if_neg h2]; exact Or.inr ⟨hv, e, by omega, by omega, rfl⟩
end Go.Proofs.Ytojhnjgnpjoacaa.Hist
