/- The pure statement of MergebaseCoversCommon. -/
import Derived.Test.YtojhnjgnpjoacaaHist4
import Derived.Test.YtojhnjgnpjoacaaP13
namespace Go.Proofs.Ytojhnjgnpjoacaa.Pure
open Go.RowKit Go.Proofs.YtojhnjgnpjoacaaW.PrintWords Go.Proofs.YtojhnjgnpjoacaaW.PrintEv Go.Proofs.Ytojhnjgnpjoacaa.P Go.Proofs.Ytojhnjgnpjoacaa.Hist
set_option linter.unusedVariables false
section
variable {l : List C} {a b c : Int} {p q : Bool}
theorem cov_l1 (hp : ∀ x ∈ l, S49.ok x) (he : vf l = (0, 0)) (hv : Valid l) {ns : List Int} {w : Bool} {i : Int} (hi0 : 0 ≤ i) (hi : i < (commons l ns).length) {R : Bool}
    (hR : Ev (fun k => changeforgelaw3_MergebaseCoversCommon.l0 k l c (commons l ns) p q w (i + 1)) R) :
    ∀ (m : Nat) (j : Int), 0 ≤ j → j + m = (commons l ns).length → Ev (fun k => changeforgelaw3_MergebaseCoversCommon.l1 k l c (commons l ns) p q w i j) R := by
  have hv60 := hv.len
  have hlen := commons_length (l := l) (ns := ns)
  intro m
  induction m with
  | zero =>
    intro j h0 hj
    refine Ev.step (fun k_ => by rw [changeforgelaw3_MergebaseCoversCommon.l1]) ?_
    refine ev_neg (by omega) ?_
    rw [w64 (by omega)]; exact hR
  | succ m ih =>
    intro j h0 hj
    obtain ⟨hx0, hx, hxb⟩ := mem_commons.1 (rd_mem hi0 hi)
    obtain ⟨hy0, hy, hyb⟩ := mem_commons.1 (rd_mem h0 (show j < (commons l ns).length by omega))
    obtain ⟨h1, h2⟩ := isanc_ok (l := l) he hx0 hx hy0 hy
    refine Ev.step (fun k_ => by rw [changeforgelaw3_MergebaseCoversCommon.l1]) ?_
    refine ev_pos (by omega) (ev_pos (by omega) (ev_pos (by omega) (ev_pos (by omega) (ev_bind (isanc_ev hp) (ev_pos h1 (ev_neg ?_ ?_))))))
    · have : (isancR l (rd (commons l ns) i) (rd (commons l ns) j)).1 = (i == j) := by
        rw [Bool.eq_iff_iff, h2, beq_iff_eq]
        constructor
        · intro h
          have := hxb.2 _ hy0 hy hyb.1 h
          exact (lst_inj (P := Bst l (Com l ns)) (n := l.length) (i := 0) hi0 hi h0 (by unfold commons at hj; omega) this.symm)
        · rintro rfl; exact Anc.refl _ _
      rw [this]; simp
    · rw [w64 (by omega)]
      exact ih (j + 1) (by omega) (by omega)
theorem cov_l0 (hp : ∀ x ∈ l, S49.ok x) (he : vf l = (0, 0)) (hv : Valid l) {ns : List Int} (hc0 : 0 ≤ c) (hc : c < l.length) (hpq : (p && q) = true ↔ Com l ns c) :
    ∀ (m : Nat) (i : Int) (w : Bool), 0 ≤ i → i + m = (commons l ns).length → (w = true ↔ ∃ j, 0 ≤ j ∧ j < i ∧ Anc l (rd (commons l ns) j) c) → Ev (fun k => changeforgelaw3_MergebaseCoversCommon.l0 k l c (commons l ns) p q w i) true := by
  have hv60 := hv.len
  have hlen := commons_length (l := l) (ns := ns)
  intro m
  induction m with
  | zero =>
    intro i w h0 hi hw
    have hw2 : w = (p && q) := by
      rw [Bool.eq_iff_iff, hpq, ← covers hv hc0 hc, hw]
      constructor
      · rintro ⟨j, h1, h2, h3⟩; exact ⟨_, rd_mem h1 (by omega), h3⟩
      · rintro ⟨x, hx, h3⟩
        obtain ⟨j, h1, h2, rfl⟩ := mem_rd hx
        exact ⟨j, h1, by omega, h3⟩
    refine Ev.step (fun k_ => by rw [changeforgelaw3_MergebaseCoversCommon.l0]) ?_
    refine ev_neg (by omega) (ev_cases (fun h => ?_) (fun h => ?_))
    · rw [hw2, h, Bool.true_and, beq_self_eq_true]; exact ev_now _
    · rw [hw2, show p = false by simpa using h, Bool.false_and]; exact ev_now _
  | succ m ih =>
    intro i w h0 hi hw
    obtain ⟨hx0, hx, hxb⟩ := mem_commons.1 (rd_mem h0 (show i < (commons l ns).length by omega))
    obtain ⟨h1, h2⟩ := isanc_ok (l := l) he hc0 hc hx0 hx
    have hnext : ∀ w', (w' = true ↔ (w = true ∨ Anc l (rd (commons l ns) i) c)) → Ev (fun k => changeforgelaw3_MergebaseCoversCommon.j2 k l c (commons l ns) p q w' i) true := by
      intro w' hw'
      refine Ev.step (fun k_ => by rw [changeforgelaw3_MergebaseCoversCommon.j2]) ?_
      refine cov_l1 hp he hv h0 (by omega) (ih (i + 1) w' (by omega) (by omega) ?_) (commons l ns).length 0 (by omega) (by omega)
      rw [hw', hw]
      constructor
      · rintro (⟨j, h3, h4, h5⟩ | h)
        · exact ⟨j, h3, by omega, h5⟩
        · exact ⟨i, h0, by omega, h⟩
      · rintro ⟨j, h3, h4, h5⟩
        by_cases e : j = i
        · subst e; exact Or.inr h5
        · exact Or.inl ⟨j, h3, by omega, h5⟩
    refine Ev.step (fun k_ => by rw [changeforgelaw3_MergebaseCoversCommon.l0]) ?_
    refine ev_pos (by omega) (ev_pos h0 (ev_bind (isanc_ev hp) (ev_pos h1 (ev_cases (fun h => hnext _ (by simp [h])) (fun h => hnext _ ?_)))))
    rw [h2]; simp [h]
end
theorem MergebaseCoversCommon : changeforgelaw3_MergebaseCoversCommon.Pure := by
  intro l a b c hl ha hb hc
  refine ev_ex ?_
  have hp := hl.2
  unfold changeforgelaw3_MergebaseCoversCommon.f
  refine ev_bind mbexample_ev (ev_pos rfl (ev_bind (bases_ev hp) (ev_bind (isanc_ev hp) (ev_bind (isanc_ev hp) ?_))))
  have hfail : ∀ p q : Bool, Ev (fun k => changeforgelaw3_MergebaseCoversCommon.j0 k l c (octo l [a, b]).1 p q true (octo l [a, b]).2.1 (octo l [a, b]).2.2) true := by
    intro p q
    refine Ev.step (fun k_ => by rw [changeforgelaw3_MergebaseCoversCommon.j0]) ?_
    refine ev_pos rfl (ev_cases (fun _ => ev_now _) (fun h => ?_))
    rw [octo_nil h]; exact ev_now _
  refine ev_cases (fun h1 => ev_cases (fun h2 => ?_) (fun _ => hfail _ _)) (fun _ => hfail _ _)
  by_cases h3 : (isancR l c b).2.1 = 0
  · obtain ⟨he, hv, hr, _, _, ho⟩ := octo_ok h1
    rw [h3, ho]
    rcases isanc_cases (l := l) (a := c) (b := a) with h | ⟨_, _, hc0, hcl, _, _, _, h4⟩
    · exact absurd h2 h.1
    rcases isanc_cases (l := l) (a := c) (b := b) with h | ⟨_, _, _, _, _, _, _, h5⟩
    · exact absurd h3 h.1
    refine Ev.step (fun k_ => by rw [changeforgelaw3_MergebaseCoversCommon.j0]) ?_
    refine ev_neg (by decide) ?_
    refine cov_l0 hp he hv hc0 hcl ?_ (commons l [a, b]).length 0 false (by omega) (by omega) ⟨fun h => by simp at h, fun ⟨j, h6, h7, _⟩ => by omega⟩
    rw [Bool.and_eq_true, h4, h5]
    constructor
    · rintro ⟨h6, h7⟩ n hn
      simp only [List.mem_cons, List.not_mem_nil, or_false] at hn
      rcases hn with rfl | rfl
      · exact h6
      · exact h7
    · intro h; exact ⟨h a (by simp), h b (by simp)⟩
  · have e : ((isancR l c b).2.1 != 0) = true := bne_iff_ne.2 h3
    rw [e]; exact hfail _ _
end Go.Proofs.Ytojhnjgnpjoacaa.Pure
