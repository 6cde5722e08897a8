/- The pure statement of MergebaseOfAncestor. -/
import Derived.Test.YtojhnjgnpjoacaaHist4
import Derived.Test.YtojhnjgnpjoacaaP11
namespace Go.Proofs.Ytojhnjgnpjoacaa.Pure
open Go.RowKit Go.Proofs.YtojhnjgnpjoacaaW.PrintWords Go.Proofs.YtojhnjgnpjoacaaW.PrintEv Go.Proofs.Ytojhnjgnpjoacaa.P Go.Proofs.Ytojhnjgnpjoacaa.Hist
set_option linter.unusedVariables false
theorem MergebaseOfAncestor : changeforgelaw3_MergebaseOfAncestor.Pure := by
  intro l a b hl ha hb
  refine ev_ex ?_
  have hp := hl.2
  unfold changeforgelaw3_MergebaseOfAncestor.f
  refine ev_bind mbexample_ev (ev_pos rfl (ev_bind (isanc_ev hp) (ev_bind (bases_ev hp) ?_)))
  rcases isanc_cases (l := l) (a := a) (b := b) with ⟨h1, h2⟩ | ⟨he, hv, ha0, hal, hb0, hbl, h1, h2⟩
  · refine ev_neg h1 ?_
    rw [h2]
    refine ev_neg (by decide) ?_
    have h3 : (octo l [a, b]).2.1 ≠ 0 := by
      intro h3
      obtain ⟨he, _, hr, _⟩ := octo_ok h3
      have ha := hr a (by simp)
      have hb := hr b (by simp)
      exact h1 (isanc_ok he ha.1 ha.2 hb.1 hb.2).1
    rw [octo_nil h3]
    exact ev_now _
  · have h3 : octo l [a, b] = (commons l [a, b], 0, 0) := by
      unfold octo
      rw [he, if_neg (by decide), if_neg (by simp)]
      rw [if_neg]
      intro h
      obtain ⟨x, hx, h⟩ := obad_iff.1 h
      simp only [List.mem_cons, List.not_mem_nil, or_false] at hx
      rcases hx with rfl | rfl <;> omega
    rw [h3]
    refine ev_pos h1 (ev_pos rfl ?_)
    have key : Anc l b a ↔ commons l [a, b] = [a] := by
      constructor
      · intro h
        unfold commons
        refine lst_single ha0 (by omega) (fun x hx0 hx => ?_)
        constructor
        · rintro ⟨h4, h5⟩
          have := h5 a ha0 hal (fun n hn => by
            simp only [List.mem_cons, List.not_mem_nil, or_false] at hn
            rcases hn with rfl | rfl
            · exact Anc.refl _ _
            · exact h) (h4 a (by simp))
          exact this.symm
        · rintro rfl
          refine ⟨fun n hn => ?_, fun j hj0 hj hjq ha => ?_⟩
          · simp only [List.mem_cons, List.not_mem_nil, or_false] at hn
            rcases hn with rfl | rfl
            · exact Anc.refl _ _
            · exact h
          · exact (hjq x (by simp)).antisymm hv ha |>.symm
      · intro h
        have : a ∈ commons l [a, b] := by rw [h]; simp
        exact (mem_commons.1 this).2.2.1 b (by simp)
    refine ev_cases (fun h4 => ev_pos (by omega) ?_) (fun h4 => ?_)
    · refine ev_cast (ev_now _) ?_
      rw [beq_iff_eq, Bool.eq_iff_iff, h2, key, beq_iff_eq]
      constructor
      · intro h; rw [h]; rfl
      · intro h
        match hc : commons l [a, b], h4 with
        | [x], _ => rw [hc] at h; have : x = a := h; rw [this]
        | [], h4 => exact absurd h4 (by simp)
        | x :: y :: r, h4 => simp at h4; omega
    · refine ev_cast (ev_now _) ?_
      have : (isancR l a b).1 = false := by
        by_cases c : (isancR l a b).1 = true
        · have := key.1 (h2.1 c)
          rw [this] at h4; exact absurd rfl h4
        · simpa using c
      rw [this]; rfl
end Go.Proofs.Ytojhnjgnpjoacaa.Pure
