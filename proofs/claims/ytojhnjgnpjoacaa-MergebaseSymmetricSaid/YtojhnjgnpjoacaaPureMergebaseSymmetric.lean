/- The pure statement of MergebaseSymmetric. -/
import Derived.Test.YtojhnjgnpjoacaaHist4
import Derived.Test.YtojhnjgnpjoacaaP11
namespace Go.Proofs.Ytojhnjgnpjoacaa.Pure
open Go.RowKit Go.Proofs.YtojhnjgnpjoacaaW.PrintWords Go.Proofs.YtojhnjgnpjoacaaW.PrintEv Go.Proofs.Ytojhnjgnpjoacaa.P Go.Proofs.Ytojhnjgnpjoacaa.Hist
set_option linter.unusedVariables false
theorem sym_l0 {l : List C} {ns : List Int} {x : List Int} (hp : ∀ x ∈ l, S49.ok x) (hns : (ns.length : Int) < 17592186044416) (hx : (x.length : Int) ≤ 60) :
    ∀ (m : Nat) (i : Int) (bk : List Int), i + 1 = m → i < ns.length → (bk.length : Int) = ns.length - 1 - i → (∀ v, v ∈ bk ↔ ∃ j, i < j ∧ j < ns.length ∧ rd ns j = v) →
      Ev (fun k => changeforgelaw3_MergebaseSymmetric.l0 k l ns x x x bk i) true := by
  intro m
  induction m with
  | zero =>
    intro i bk hi hil hl hb
    have hm : ∀ v, v ∈ ns ↔ v ∈ bk := fun v => by
      rw [hb v]
      exact ⟨fun h => by obtain ⟨j, hj0, hj, e⟩ := mem_rd h; exact ⟨j, by omega, hj, e⟩, fun ⟨j, hj0, hj, e⟩ => e ▸ rd_mem (by omega) hj⟩
    obtain ⟨e1, e2⟩ := octo_congr (l := l) (ns := ns) (ns' := bk) (by omega) hm
    have h60 := octo_length (l := l) (ns := bk)
    refine Ev.step (fun k_ => by rw [changeforgelaw3_MergebaseSymmetric.l0]) ?_
    refine ev_neg (by omega) (ev_bind (octopus_ev hp) (ev_bind (octopus_ev hp) (ev_bind (ints_same (by omega)) (ev_pos rfl (ev_bind (ints_same (by omega)) (ev_pos rfl (ev_pos e2 ?_)))))))
    rw [e1]
    exact ev_bind (ints_same (by omega)) (ev_now _)
  | succ m ih =>
    intro i bk hi hil hl hb
    refine Ev.step (fun k_ => by rw [changeforgelaw3_MergebaseSymmetric.l0]) ?_
    refine ev_pos (by omega) (ev_pos (by omega) (ev_pos (by omega) (ev_pos (by omega) ?_)))
    rw [w64 (by omega)]
    refine ih (i - 1) _ (by omega) (by omega) (by rw [List.length_append, List.length_singleton]; omega) (fun v => ?_)
    rw [List.mem_append, hb v, List.mem_singleton]
    constructor
    · rintro (⟨j, h1, h2, h3⟩ | h)
      · exact ⟨j, by omega, h2, h3⟩
      · exact ⟨i, by omega, by omega, h.symm⟩
    · rintro ⟨j, h1, h2, h3⟩
      by_cases e : j = i
      · subst e; exact Or.inr h3.symm
      · exact Or.inl ⟨j, by omega, h2, h3⟩
theorem MergebaseSymmetric : changeforgelaw3_MergebaseSymmetric.Pure := by
  intro l a b ns hl ha hb hns
  refine ev_ex ?_
  have hp := hl.2
  obtain ⟨e1, e2⟩ := octo_congr (l := l) (ns := [b, a]) (ns' := [a, b]) (by simp) (by intro x; simp only [List.mem_cons, List.not_mem_nil, or_false]; omega)
  obtain ⟨e3, e4⟩ := octo_congr (l := l) (ns := [b, a, b]) (ns' := [a, b]) (by simp) (by intro x; simp only [List.mem_cons, List.not_mem_nil, or_false]; omega)
  have h60 := octo_length (l := l) (ns := [a, b])
  unfold changeforgelaw3_MergebaseSymmetric.f
  refine ev_bind mbexample_ev (ev_pos rfl (ev_bind (bases_ev hp) (ev_bind (bases_ev hp) (ev_bind (octopus_ev hp) ?_))))
  rw [e1, e3, e2, e4]
  by_cases h : (octo l [a, b]).2.1 = 0
  · refine ev_pos h (ev_pos h ?_)
    rw [h]
    refine Ev.step (fun k_ => by rw [changeforgelaw3_MergebaseSymmetric.j0]) ?_
    refine ev_neg (by decide) ?_
    rw [w64 (by omega)]
    exact sym_l0 hp (by omega) (by omega) ns.length _ _ (by omega) (by omega) (by simp) (fun v => ⟨fun h => by simp at h, fun ⟨j, h1, h2, _⟩ => by omega⟩)
  · refine ev_neg h ?_
    rw [octo_nil h]
    refine Ev.step (fun k_ => by rw [changeforgelaw3_MergebaseSymmetric.j0]) ?_
    refine ev_pos rfl (ev_pos (by simp [wrap64]) (ev_pos rfl ?_))
    rw [beq_self_eq_true]; exact ev_now _
end Go.Proofs.Ytojhnjgnpjoacaa.Pure
