/- The pure statement of MergebaseMatchesSpec. -/
import Derived.Test.YtojhnjgnpjoacaaHist6
import Derived.Test.YtojhnjgnpjoacaaP10
namespace Go.Proofs.Ytojhnjgnpjoacaa.Pure
open Go.RowKit Go.Proofs.YtojhnjgnpjoacaaW.PrintWords Go.Proofs.YtojhnjgnpjoacaaW.PrintEv Go.Proofs.Ytojhnjgnpjoacaa.P Go.Proofs.Ytojhnjgnpjoacaa.Hist
set_option linter.unusedVariables false
section
variable {l : List C} {a b : Int} {ns : List Int}
theorem ms_j8 (hv : Valid l) {y : List Int} {g1 g2 w1 w2 : Int} (h0 : w1 = 0 → g1 = 0 ∧ y = commons l ns ∧ (∀ x ∈ ns, 0 ≤ x ∧ x < l.length) ∧ (ns.length : Int) ≤ 60) (h1 : w1 ≠ 0 → g1 = w1 ∧ g2 = w2 ∧ y = []) :
    Ev (fun k => changeforgelaw3_MergebaseMatchesSpec.j8 k l ns y g1 g2 w1 w2) true := by
  have hv60 := hv.len
  refine Ev.step (fun k_ => by rw [changeforgelaw3_MergebaseMatchesSpec.j8]) ?_
  refine ev_cases (fun h => ?_) (fun h => ?_)
  · obtain ⟨e1, e2, e3, e4⟩ := h0 h
    have := commons_length (l := l) (ns := ns)
    subst e2
    refine ev_pos e1 (ev_bind (bestof_ev hv e3 (by omega)) (ev_bind (ints_same (by omega)) (ev_now _)))
  · obtain ⟨e1, e2, e3⟩ := h1 h
    subst e1 e2 e3
    refine ev_pos (by simp) ?_
    exact ev_now _
theorem ms_l0 (hv : Valid l) (hlen : (ns.length : Int) ≤ 60) {y : List Int} {g1 g2 : Int} (ho : (y, g1, g2) = if (obad l ns ns.length 0).1 ≠ 0 then ([], obad l ns ns.length 0) else (commons l ns, 0, 0)) :
    ∀ (m : Nat) (q : Int), 0 ≤ q → q + m = ns.length → obad l ns ns.length 0 = obad l ns m q → Ev (fun k => changeforgelaw3_MergebaseMatchesSpec.l0 k l ns y q g1 g2 0 0) true := by
  intro m
  induction m with
  | zero =>
    intro q hq0 hq hb
    have hb0 : (obad l ns ns.length 0).1 = 0 := by rw [hb]; rfl
    rw [if_neg (by simpa using hb0)] at ho
    refine Ev.step (fun k_ => by rw [changeforgelaw3_MergebaseMatchesSpec.l0]) ?_
    refine ev_neg (by omega) ?_
    refine Ev.step (fun k_ => by rw [changeforgelaw3_MergebaseMatchesSpec.j6]) ?_
    refine ev_neg (by decide) (ms_j8 hv (fun _ => ?_) (fun h => absurd rfl h))
    simp only [Prod.mk.injEq] at ho
    refine ⟨ho.2.1, ho.1, fun x hx => ?_, hlen⟩
    obtain ⟨j, hj0, hj, rfl⟩ := mem_rd hx
    exact (obad_zero hb0).2 j hj0 (by omega)
  | succ m ih =>
    intro q hq0 hq hb
    have hs : obad l ns (m + 1) q = (if rd ns q < 0 ∨ rd ns q ≥ l.length then (6, q) else obad l ns m (q + 1)) := rfl
    have hv60 := hv.len
    refine Ev.step (fun k_ => by rw [changeforgelaw3_MergebaseMatchesSpec.l0]) ?_
    refine ev_pos (by omega) ?_
    refine Ev.step (fun k_ => by rw [changeforgelaw3_MergebaseMatchesSpec.j6]) ?_
    refine ev_pos rfl ?_
    refine Ev.step (fun k_ => by rw [changeforgelaw3_MergebaseMatchesSpec.j7]) ?_
    refine ev_pos hq0 (ev_pos (by omega) ?_)
    rw [In_eq, w64 (x := (l.length : Int) - 1) (by omega), w64 (x := q + 1) (by omega)]
    refine ev_some (ev_cases (fun h => ?_) (fun h => ?_))
    · have h := of_decide_eq_true h
      rw [if_neg (by omega)] at hs
      exact ih (q + 1) (by omega) (by omega) (hb.trans hs)
    · have h : ¬ (0 ≤ rd ns q ∧ rd ns q ≤ (l.length : Int) - 1) := fun h' => h (decide_eq_true h')
      rw [if_pos (by omega)] at hs
      rw [hb, hs, if_pos (by simp)] at ho
      simp only [Prod.mk.injEq] at ho
      rw [Fault_eq]
      refine ev_some ?_
      refine Ev.step (fun k_ => by rw [changeforgelaw3_MergebaseMatchesSpec.l0]) ?_
      have hend : Ev (fun k => changeforgelaw3_MergebaseMatchesSpec.j8 k l ns y g1 g2 6 q) true := ms_j8 hv (fun h => absurd h (by decide)) (fun _ => ⟨ho.2.1, ho.2.2, ho.1⟩)
      refine ev_cases (fun _ => ?_) (fun _ => ?_)
      · refine Ev.step (fun k_ => by rw [changeforgelaw3_MergebaseMatchesSpec.j6]) ?_
        exact ev_neg (by simp) hend
      · refine Ev.step (fun k_ => by rw [changeforgelaw3_MergebaseMatchesSpec.j6]) ?_
        exact ev_neg (by simp) hend
theorem ms_j3 (hv : Valid l) (he : vf l = (0, 0)) : Ev (fun k => changeforgelaw3_MergebaseMatchesSpec.j3 k l ns (octo l ns).1 (octo l ns).2.1 (octo l ns).2.2) true := by
  have ho : octo l ns = if (ns.length : Int) = 0 ∨ (ns.length : Int) > 60 then ([], 9, -1) else if (obad l ns ns.length 0).1 ≠ 0 then ([], obad l ns ns.length 0) else (commons l ns, 0, 0) := by
    unfold octo
    rw [he, if_neg (by decide)]
  refine Ev.step (fun k_ => by rw [changeforgelaw3_MergebaseMatchesSpec.j3]) ?_
  rw [In_eq]
  refine ev_some (ev_cases (fun h => ?_) (fun h => ?_))
  · have h := of_decide_eq_true h
    rw [if_neg (by omega)] at ho
    refine Ev.step (fun k_ => by rw [changeforgelaw3_MergebaseMatchesSpec.j4]) ?_
    exact ms_l0 hv (by omega) ho ns.length 0 (by omega) (by omega) rfl
  · have h : ¬ (1 ≤ (ns.length : Int) ∧ (ns.length : Int) ≤ 60) := fun h' => h (decide_eq_true h')
    rw [if_pos (by omega)] at ho
    rw [ho, Fault_eq]
    refine ev_some ?_
    have hend : Ev (fun k => changeforgelaw3_MergebaseMatchesSpec.j8 k l ns [] 9 (-1) 9 (-1)) true := ms_j8 hv (fun h => absurd h (by decide)) (fun _ => ⟨rfl, rfl, rfl⟩)
    refine Ev.step (fun k_ => by rw [changeforgelaw3_MergebaseMatchesSpec.j4]) ?_
    refine Ev.step (fun k_ => by rw [changeforgelaw3_MergebaseMatchesSpec.l0]) ?_
    refine ev_cases (fun _ => ?_) (fun _ => ?_)
    · refine Ev.step (fun k_ => by rw [changeforgelaw3_MergebaseMatchesSpec.j6]) ?_
      exact ev_neg (by decide) hend
    · refine Ev.step (fun k_ => by rw [changeforgelaw3_MergebaseMatchesSpec.j6]) ?_
      exact ev_neg (by decide) hend
end
theorem MergebaseMatchesSpec : changeforgelaw3_MergebaseMatchesSpec.Pure := by
  intro l a b ns hl ha hb hns
  refine ev_ex ?_
  have hp := hl.2
  unfold changeforgelaw3_MergebaseMatchesSpec.f
  refine ev_bind mbexample_ev (ev_pos rfl ?_)
  refine Ev.step (fun k_ => by rw [changeforgelaw3_MergebaseMatchesSpec.j0]) ?_
  refine ev_bind (bases_ev hp) (ev_bind (octopus_ev hp) (ev_bind (isanc_ev hp) (ev_bind hfault_ev ?_)))
  refine ev_cases (fun h => ?_) (fun h => ?_)
  · obtain ⟨he, hv⟩ := vf_zero h
    have hv60 := hv.len
    have h3 := ms_j3 (ns := ns) hv he
    have ho : octo l [a, b] = if (obad l [a, b] 2 0).1 ≠ 0 then ([], obad l [a, b] 2 0) else (commons l [a, b], 0, 0) := by
      unfold octo
      rw [he, if_neg (by decide), if_neg (by simp)]; rfl
    have hob : obad l [a, b] 2 0 = if a < 0 ∨ a ≥ l.length then (6, 0) else if b < 0 ∨ b ≥ l.length then (6, 1) else (0, 0) := rfl
    have hi : isancR l a b = if a < 0 ∨ a ≥ l.length then (false, 6, 0) else if b < 0 ∨ b ≥ l.length then (false, 6, 1) else isancR l a b := by
      unfold isancR
      rw [he, if_neg (by decide)]
      by_cases c1 : a < 0 ∨ a ≥ l.length
      · rw [if_pos c1, if_pos c1]
      · rw [if_neg c1, if_neg c1]
        by_cases c2 : b < 0 ∨ b ≥ l.length
        · rw [if_pos c2, if_pos c2]
        · rw [if_neg c2, if_neg c2]
    have hbad : ∀ q : Int, octo l [a, b] = ([], 6, q) → isancR l a b = (false, 6, q) → Ev (fun k => changeforgelaw3_MergebaseMatchesSpec.j2 k l a b ns (octo l [a, b]).1 (octo l ns).1 (isancR l a b).1 (octo l [a, b]).2.1 (octo l [a, b]).2.2 (octo l ns).2.1 (octo l ns).2.2 (isancR l a b).2.1 (isancR l a b).2.2 6 q) true := by
      intro q e1 e2
      rw [e1, e2]
      refine Ev.step (fun k_ => by rw [changeforgelaw3_MergebaseMatchesSpec.j2]) ?_
      refine ev_neg (by decide) (ev_neg (by simp) (ev_neg (by simp) (ev_neg (by simp) (ev_neg (by simp) h3))))
    refine Ev.step (fun k_ => by rw [changeforgelaw3_MergebaseMatchesSpec.j1]) ?_
    rw [In_eq, In_eq, w64 (x := (l.length : Int) - 1) (by omega)]
    refine ev_some (ev_cases (fun c1 => ev_some (ev_cases (fun c2 => ?_) (fun c2 => ?_))) (fun c1 => ?_))
    · have c1 := of_decide_eq_true c1
      have c2 := of_decide_eq_true c2
      rw [if_neg (by omega), if_neg (by omega)] at hob
      rw [hob, if_neg (by decide)] at ho
      obtain ⟨hi1, hi2⟩ := isanc_ok (l := l) (a := a) (b := b) he (by omega) (by omega) (by omega) (by omega)
      have hcl := commons_length (l := l) (ns := [a, b])
      rw [ho]
      refine Ev.step (fun k_ => by rw [changeforgelaw3_MergebaseMatchesSpec.j2]) ?_
      refine ev_pos rfl (ev_pos rfl (ev_pos hi1 (ev_bind (bestof_ev hv (fun x hx => ?_) (by simp)) (ev_bind (ints_same (show ((commons l [a, b]).length : Int) ≤ _ by omega)) (ev_pos rfl (ev_bind (reach_ev hv) (ev_pos (by omega) (ev_pos (by rw [reach_length]; omega) (ev_pos (by omega) ?_)))))))))
      · simp only [List.mem_cons, List.not_mem_nil, or_false] at hx
        rcases hx with rfl | rfl <;> omega
      · rw [reach_rd (by omega) (by omega)]
        refine ev_pos (by rw [ancs_length]; omega) (ev_neg ?_ h3)
        have e : (isancR l a b).1 = rdOf false (ancs l b) a := by rw [Bool.eq_iff_iff, hi2, ancs_rd (by omega) (by omega)]
        rw [e]; simp
    · have c1 := of_decide_eq_true c1
      have c2 : ¬ (0 ≤ b ∧ b ≤ (l.length : Int) - 1) := fun h' => c2 (decide_eq_true h')
      rw [if_neg (by omega), if_pos (by omega)] at hob
      rw [hob, if_pos (by decide)] at ho
      rw [if_neg (by omega), if_pos (by omega)] at hi
      rw [Fault_eq]
      exact ev_some (hbad 1 ho hi)
    · have c1 : ¬ (0 ≤ a ∧ a ≤ (l.length : Int) - 1) := fun h' => c1 (decide_eq_true h')
      rw [if_pos (by omega)] at hob
      rw [hob, if_pos (by decide)] at ho
      rw [if_pos (by omega)] at hi
      rw [Fault_eq]
      exact ev_some (hbad 0 ho hi)
  · have ho : ∀ ns, octo l ns = ([], vf l) := fun ns => by unfold octo; rw [if_pos h]
    have hi : isancR l a b = (false, vf l) := by unfold isancR; rw [if_pos h]
    rw [ho, ho, hi]
    refine ev_pos (by simp) (ev_pos (by simp) (ev_pos (by simp) (ev_pos (by simp [wrap64]) ?_)))
    exact ev_now _
end Go.Proofs.Ytojhnjgnpjoacaa.Pure
