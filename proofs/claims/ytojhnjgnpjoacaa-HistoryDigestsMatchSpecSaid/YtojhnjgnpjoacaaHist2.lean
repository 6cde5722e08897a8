/- Ancestors of a history: the relation, and what history.Ancestors comes to. -/
import Derived.Test.YtojhnjgnpjoacaaHist1
import Derived.Test.YtojhnjgnpjoacaaP3
namespace Go.Proofs.Ytojhnjgnpjoacaa.Hist
open Go.RowKit Go.Proofs.YtojhnjgnpjoacaaW.PrintWords Go.Proofs.YtojhnjgnpjoacaaW.PrintEv Go.Proofs.Ytojhnjgnpjoacaa.P
set_option linter.unusedVariables false

def Par (l : List C) (i p : Int) : Prop := 0 ≤ i ∧ i < l.length ∧ p ∈ (rd_T49 l i).f0
/-- m is an ancestor of n, or n itself: m lies in every set that holds n and the parents of what it holds. -/
def Anc (l : List C) (n m : Int) : Prop := ∀ S : Int → Prop, S n → (∀ i p, S i → Par l i p → S p) → S m

section
variable {l : List C} {n m i p a b c : Int}
theorem Anc.refl (l : List C) (n : Int) : Anc l n n := fun S h _ => h
theorem Anc.step (h : Anc l n i) (hp : Par l i p) : Anc l n p := fun S h0 hs => hs i p (h S h0 hs) hp
theorem Anc.trans (h : Anc l a b) (h2 : Anc l b c) : Anc l a c := fun S h0 hs => h2 S (h S h0 hs) hs
theorem Anc.par (h : Par l a b) : Anc l a b := (Anc.refl l a).step h
theorem Par.lt (hv : Valid l) (h : Par l i p) : 0 ≤ p ∧ p < i := by
  obtain ⟨h0, h1, h2⟩ := h
  obtain ⟨j, hj0, hj, rfl⟩ := mem_rd h2
  have := hv.par i j h0 h1 hj0 hj
  omega
theorem Anc.le (hv : Valid l) (h : Anc l n m) : m ≤ n := h (· ≤ n) (Int.le_refl _) (fun i p hi hp => by have := hp.lt hv; omega)
theorem Anc.nonneg (hv : Valid l) (h0 : 0 ≤ n) (h : Anc l n m) : 0 ≤ m := h (0 ≤ ·) h0 (fun i p hi hp => (hp.lt hv).1)
theorem Anc.last (h : Anc l n m) (hne : m ≠ n) : ∃ q, Anc l n q ∧ Par l q m := by
  have := h (fun x => x = n ∨ ∃ q, Anc l n q ∧ Par l q x) (Or.inl rfl) (fun i p hi hp => Or.inr ⟨i, by
    rcases hi with rfl | ⟨q, h1, h2⟩
    · exact Anc.refl _ _
    · exact h1.step h2, hp⟩)
  rcases this with h1 | h1
  · exact absurd h1 hne
  · exact h1
theorem Anc.first (h : Anc l n m) (hne : m ≠ n) : ∃ q, Par l n q ∧ Anc l q m := by
  have := h (fun x => x = n ∨ ∃ q, Par l n q ∧ Anc l q x) (Or.inl rfl) (fun i p hi hp => Or.inr (by
    rcases hi with rfl | ⟨q, h1, h2⟩
    · exact ⟨p, hp, Anc.refl _ _⟩
    · exact ⟨q, h1, h2.step hp⟩))
  rcases this with h1 | h1
  · exact absurd h1 hne
  · exact h1
theorem Anc.antisymm (hv : Valid l) (h : Anc l a b) (h' : Anc l b a) : a = b := by
  have := h.le hv
  have := h'.le hv
  omega
end

open Classical in
noncomputable def ancs (l : List C) (n : Int) : List Bool := (List.range l.length).map fun m : Nat => decide (Anc l n (m : Int))
theorem ancs_length (l : List C) (n : Int) : (ancs l n).length = l.length := by simp [ancs]
theorem ancs_rd {l : List C} {n m : Int} (h0 : 0 ≤ m) (h : m < l.length) : rdOf false (ancs l n) m = true ↔ Anc l n m := by
  obtain ⟨k, rfl⟩ := Int.eq_ofNat_of_zero_le h0
  rw [rdOf_nat false _ (by rw [ancs_length]; omega)]
  simp [ancs]

theorem anc_l1 {l : List C} {i : Int} {ps : List Int} {R : List Bool × Int × Int} (hpl : (ps.length : Int) ≤ 1000) (hps : ∀ j : Int, 0 ≤ j → j < ps.length → 0 ≤ rd ps j ∧ rd ps j < l.length) :
    ∀ (m : Nat) (q : Int) (o : List Bool), 0 ≤ q → q + m = ps.length → o.length = l.length →
      (∀ o' : List Bool, o'.length = l.length → (∀ x : Int, 0 ≤ x → (rdOf false o' x = true ↔ (rdOf false o x = true ∨ ∃ j : Int, q ≤ j ∧ j < ps.length ∧ rd ps j = x))) → Ev (fun k => history_Ancestors.l0 k l o' (wrap64 (i - 1))) R) →
      Ev (fun k => history_Ancestors.l1 k l o i ps (ps.length : Int) q) R := by
  intro m
  induction m with
  | zero =>
    intro q o h0 hq hl hR
    refine Ev.step (fun k_ => by rw [history_Ancestors.l1]) ?_
    refine ev_neg (by omega) ?_
    exact hR o hl (fun x hx => ⟨Or.inl, fun h => h.elim id (fun ⟨j, h1, h2, _⟩ => by omega)⟩)
  | succ m ih =>
    intro q o h0 hq hl hR
    have hb := hps q h0 (by omega)
    refine Ev.step (fun k_ => by rw [history_Ancestors.l1]) ?_
    (repeat (first | refine ev_pos (by first | assumption | omega) ?_ | refine ev_neg (by first | assumption | omega) ?_))
    rw [w64 (x := q + 1) (by omega)]
    refine ih (q + 1) _ (by omega) (by omega) (by rw [List.length_set]; exact hl) (fun o' hl' ho' => hR o' hl' (fun x hx => ?_))
    rw [ho' x hx, rdOf_set false o true hb.1 (by omega) hx]
    constructor
    · rintro (h | ⟨j, h1, h2, h3⟩)
      · by_cases e : x = rd ps q
        · exact Or.inr ⟨q, Int.le_refl _, by omega, e.symm⟩
        · rw [if_neg e] at h; exact Or.inl h
      · exact Or.inr ⟨j, by omega, h2, h3⟩
    · rintro (h | ⟨j, h1, h2, h3⟩)
      · refine Or.inl ?_
        by_cases e : x = rd ps q
        · rw [if_pos e]
        · rw [if_neg e]; exact h
      · by_cases e : j = q
        · subst e; exact Or.inl (by rw [if_pos h3.symm])
        · exact Or.inr ⟨j, by omega, h2, h3⟩

theorem anc_l0 {l : List C} {n : Int} (hv : Valid l) (hn0 : 0 ≤ n) (hn : n < l.length) :
    ∀ (m : Nat) (i : Int) (o : List Bool), i + 1 = m → i < l.length → o.length = l.length → (∀ x : Int, 0 ≤ x → x < l.length → rdOf false o x = true → Anc l n x) → rdOf false o n = true →
      (∀ j p, i < j → rdOf false o j = true → Par l j p → rdOf false o p = true) → Ev (fun k => history_Ancestors.l0 k l o i) (ancs l n, 0, 0) := by
  have hv60 := hv.len
  intro m
  induction m with
  | zero =>
    intro i o hi hil hl hs hself hc
    refine Ev.step (fun k_ => by rw [history_Ancestors.l0]) ?_
    refine ev_neg (by omega) ?_
    have e : o = ancs l n := by
      refine ext_rdOf (d := false) (by rw [hl, ancs_length]) (fun x hx0 hx => ?_)
      rw [Bool.eq_iff_iff, ancs_rd hx0 (by omega)]
      exact ⟨hs x hx0 (by omega), fun h => h (fun x => rdOf false o x = true) hself (fun i' p h1 h2 => hc i' p (by have := h2.1; omega) h1 h2)⟩
    rw [e]; exact ev_now _
  | succ m ih =>
    intro i o hi hil hl hs hself hc
    refine Ev.step (fun k_ => by rw [history_Ancestors.l0]) ?_
    (repeat (first | refine ev_pos (by first | assumption | omega) ?_ | refine ev_neg (by first | assumption | omega) ?_))
    refine ev_cases (fun h1 => ?_) (fun h1 => ?_)
    · refine ev_pos (by omega) ?_
      have hpl := hv.plen i (by omega) hil
      have hps : ∀ j : Int, 0 ≤ j → j < (rd_T49 l i).f0.length → 0 ≤ rd (rd_T49 l i).f0 j ∧ rd (rd_T49 l i).f0 j < l.length := fun j hj0 hj => by
        have := hv.par i j (by omega) hil hj0 hj
        omega
      refine anc_l1 (by omega) hps (rd_T49 l i).f0.length 0 o (by omega) (by simp) hl (fun o' hl' ho' => ?_)
      rw [w64 (by omega)]
      have hpar : ∀ x, (∃ j : Int, 0 ≤ j ∧ j < ((rd_T49 l i).f0.length : Int) ∧ rd (rd_T49 l i).f0 j = x) → Par l i x := fun x ⟨j, hj0, hj, he⟩ => ⟨by omega, hil, by rw [← he]; exact rd_mem hj0 hj⟩
      refine ih (i - 1) o' (by omega) (by omega) hl' (fun x hx0 hx h => ?_) ((ho' n hn0).2 (Or.inl hself)) (fun j p hj h hp => ?_)
      · rcases (ho' x hx0).1 h with h2 | h2
        · exact hs x hx0 hx h2
        · exact (hs i (by omega) hil h1).step (hpar x h2)
      · have hp0 := hp.lt hv
        by_cases e : j = i
        · subst e
          obtain ⟨q, hq0, hq, he⟩ := mem_rd hp.2.2
          exact (ho' p hp0.1).2 (Or.inr ⟨q, hq0, hq, he⟩)
        · rcases (ho' j hp.1).1 h with h2 | h2
          · exact (ho' p hp0.1).2 (Or.inl (hc j p (by omega) h2 hp))
          · exact absurd ((hpar j h2).lt hv) (by omega)
    · rw [w64 (by omega)]
      refine ih (i - 1) o (by omega) (by omega) hl hs hself (fun j p hj h hp => ?_)
      by_cases e : j = i
      · subst e; exact absurd h h1
      · exact hc j p (by omega) h hp

noncomputable def ancR (l : List C) (n : Int) : List Bool × Int × Int := if (vf l).1 ≠ 0 then ([], vf l) else if n < 0 ∨ n ≥ l.length then ([], 6, -1) else (ancs l n, 0, 0)

/-- What a caller asks of a fault. -/
theorem flt_yes {f : Int × Int} (h : f.1 ≠ 0) : (!(f.1 == 0) || (!(f.2 == 0))) = true := by
  have : (f.1 == 0) = false := beq_eq_false_iff_ne.2 h
  rw [this]; rfl

theorem ancestors_ev {l : List C} (hp : ∀ x ∈ l, S49.ok x) (n : Int) : Ev (fun k => history_Ancestors.f k l n) (ancR l n) := by
  unfold history_Ancestors.f ancR
  refine ev_bind (validate_ev hp) ?_
  by_cases h : (vf l).1 ≠ 0
  · rw [if_pos h]
    refine ev_pos (flt_yes h) ?_
    exact ev_now _
  · obtain ⟨e, hv⟩ := vf_zero (Decidable.not_not.1 h)
    have hv60 := hv.len
    rw [if_neg h, e]
    refine ev_neg (by decide) ?_
    refine ev_cases (fun h1 => ?_) (fun h1 => ?_)
    · refine Ev.step (fun k_ => by rw [history_Ancestors.j0]) ?_
      refine ev_pos rfl ?_
      rw [if_pos (Or.inl h1)]; exact ev_now _
    · refine Ev.step (fun k_ => by rw [history_Ancestors.j0]) ?_
      refine ev_cases (fun h2 => ?_) (fun h2 => ?_)
      · rw [if_pos (Or.inr (of_decide_eq_true h2))]; exact ev_now _
      · have h2' : ¬ n ≥ (l.length : Int) := by simpa using h2
        rw [if_neg (by omega)]
        refine ev_pos (by omega) (ev_pos (by omega) (ev_some (ev_pos (by omega) (ev_pos (by rw [List.length_replicate]; omega) ?_))))
        refine anc_l0 hv (by omega) (by omega) (n + 1).toNat n _ (by omega) (by omega) (by simp) (fun x hx0 hx hr => ?_) ?_ (fun j p hj hr hpj => ?_)
        · rw [rdOf_set false _ true (by omega) (by rw [List.length_replicate]; omega) hx0, rdOf_replicate] at hr
          by_cases e2 : x = n
          · subst e2; exact Anc.refl _ _
          · rw [if_neg e2] at hr; exact absurd hr (by decide)
        · rw [rdOf_set false _ true (by omega) (by rw [List.length_replicate]; omega) (by omega), if_pos rfl]
        · rw [rdOf_set false _ true (by omega) (by rw [List.length_replicate]; omega) hpj.1, rdOf_replicate, if_neg (by omega)] at hr
          exact absurd hr (by decide)
end Go.Proofs.Ytojhnjgnpjoacaa.Hist
