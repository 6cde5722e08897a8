/- What history.Heads comes to: the commits that have no child. -/
import Derived.Test.YtojhnjgnpjoacaaHist8
import Derived.Test.YtojhnjgnpjoacaaP26
namespace Go.Proofs.Ytojhnjgnpjoacaa.Hist
open Go.RowKit Go.Proofs.YtojhnjgnpjoacaaW.PrintWords Go.Proofs.YtojhnjgnpjoacaaW.PrintEv Go.Proofs.Ytojhnjgnpjoacaa.P
set_option linter.unusedVariables false

def headf (l : List C) (n : Nat) : List Int := (rng n).filter fun x => decide (cnt l [] x = 0)
def heads (l : List C) : List Int := headf l l.length
theorem mem_heads {l : List C} {x : Int} : x ∈ heads l ↔ 0 ≤ x ∧ x < l.length ∧ ∀ k, ¬ Par l k x := by
  unfold heads headf
  rw [List.mem_filter, mem_rng, decide_eq_true_eq, cnt_zero]
  constructor
  · rintro ⟨⟨h0, h1⟩, h⟩; exact ⟨h0, h1, fun k hk => absurd (h k hk) (by simp)⟩
  · rintro ⟨h0, h1, h⟩; exact ⟨⟨h0, h1⟩, fun k hk => absurd hk (h k)⟩
theorem heads_nodup (l : List C) : (heads l).Nodup := (rng_nodup l.length).filter _
theorem headf_length (l : List C) (n : Nat) : (headf l n).length ≤ n := by
  have := List.length_filter_le (fun x => decide (cnt l [] x = 0)) (rng n)
  rw [rng_length] at this
  exact this
theorem headf_yes {l : List C} {n : Nat} (h : cnt l [] (n : Int) = 0) : headf l (n + 1) = headf l n ++ [(n : Int)] := by
  unfold headf; rw [rng_snoc, List.filter_append]; simp [h]
theorem headf_no {l : List C} {n : Nat} (h : cnt l [] (n : Int) ≠ 0) : headf l (n + 1) = headf l n := by
  unfold headf; rw [rng_snoc, List.filter_append]; simp [h]
section
variable {l : List C} {R : List Int × Int × Int}
theorem heads_l1 (hv : Valid l) {i : Nat} (hi : i < l.length) {ps : List Int} (hps : ps = (rd_T49 l (i : Int)).f0) {B : Int → Prop} : ∀ (m : Nat) (q : Int) (o : List Bool), 0 ≤ q → q + m = ps.length → o.length = l.length →
      (∀ x : Int, 0 ≤ x → x < l.length → (rdOf false o x = true ↔ (B x ∨ ∃ j : Int, 0 ≤ j ∧ j < q ∧ rd ps j = x))) →
      (∀ o' : List Bool, o'.length = l.length → (∀ x : Int, 0 ≤ x → x < l.length → (rdOf false o' x = true ↔ (B x ∨ Par l (i : Int) x))) → Ev (fun k => history_Heads.l0 k o' l (l.length : Int) ((i + 1 : Nat) : Int)) R) →
      Ev (fun k => history_Heads.l1 k o l (l.length : Int) (i : Int) ps (ps.length : Int) q) R := by
  have hv60 := hv.len
  have hplen := hv.plen i (by omega) (by omega)
  rw [← hps] at hplen
  intro m
  induction m with
  | zero =>
    intro q o h0 hq hl ho hR
    refine Ev.step (fun k_ => by rw [history_Heads.l1]) ?_
    refine ev_neg (by omega) ?_
    rw [w64 (by omega)]
    refine hR o hl (fun x h1 h2 => ?_)
    rw [ho x h1 h2]
    constructor
    · rintro (h | ⟨j, hj0, hj, rfl⟩)
      · exact Or.inl h
      · exact Or.inr ⟨by omega, by omega, by rw [← hps]; exact rd_mem hj0 (by omega)⟩
    · rintro (h | h)
      · exact Or.inl h
      · obtain ⟨j, hj0, hj, e⟩ := mem_rd h.2.2
        rw [← hps] at hj e
        exact Or.inr ⟨j, hj0, by omega, e⟩
  | succ m ih =>
    intro q o h0 hq hl ho hR
    have hpar := hv.par i q (by omega) (by omega) h0 (by rw [← hps]; omega)
    rw [← hps] at hpar
    refine Ev.step (fun k_ => by rw [history_Heads.l1]) ?_
    refine ev_pos (by omega) (ev_pos h0 (ev_pos (by omega) (ev_pos hpar.1 (ev_pos (by omega) ?_))))
    rw [w64 (by omega)]
    refine ih (q + 1) _ (by omega) (by omega) (by rw [List.length_set]; exact hl) (fun x h1 h2 => ?_) hR
    rw [rdOf_set false o true hpar.1 (by omega) h1]
    by_cases e : x = rd ps q
    · rw [if_pos e]
      exact ⟨fun _ => Or.inr ⟨q, h0, by omega, e.symm⟩, fun _ => rfl⟩
    · rw [if_neg e, ho x h1 h2]
      constructor
      · rintro (h | ⟨j, hj0, hj, he⟩)
        · exact Or.inl h
        · exact Or.inr ⟨j, hj0, by omega, he⟩
      · rintro (h | ⟨j, hj0, hj, he⟩)
        · exact Or.inl h
        · by_cases e2 : j = q
          · subst e2; exact absurd he.symm e
          · exact Or.inr ⟨j, hj0, by omega, he⟩
theorem heads_l0 (hv : Valid l) (hR : ∀ o : List Bool, o.length = l.length → (∀ x : Int, 0 ≤ x → x < l.length → (rdOf false o x = true ↔ ∃ k, Par l k x)) → Ev (fun k => history_Heads.l2 k [] o (o.length : Int) 0) R) :
    ∀ (m i : Nat) (o : List Bool), i + m = l.length → o.length = l.length → (∀ x : Int, 0 ≤ x → x < l.length → (rdOf false o x = true ↔ ∃ k, k < (i : Int) ∧ Par l k x)) → Ev (fun k => history_Heads.l0 k o l (l.length : Int) (i : Int)) R := by
  have hv60 := hv.len
  intro m
  induction m with
  | zero =>
    intro i o hi hl ho
    refine Ev.step (fun k_ => by rw [history_Heads.l0]) ?_
    refine ev_neg (by omega) (hR o hl (fun x h0 h1 => ?_))
    rw [ho x h0 h1]
    exact ⟨fun ⟨k, _, h⟩ => ⟨k, h⟩, fun ⟨k, h⟩ => ⟨k, by have := h.2.1; omega, h⟩⟩
  | succ m ih =>
    intro i o hi hl ho
    refine Ev.step (fun k_ => by rw [history_Heads.l0]) ?_
    refine ev_pos (by omega) (ev_pos (by omega) (ev_pos (by omega) ?_))
    refine heads_l1 hv (by omega) rfl (B := fun x => ∃ k, k < (i : Int) ∧ Par l k x) (rd_T49 l (i : Int)).f0.length 0 o (by omega) (by simp) hl (fun x h0 h1 => ?_) (fun o' hl' ho' => ih (i + 1) o' (by omega) hl' (fun x h0 h1 => ?_))
    · rw [ho x h0 h1]
      exact ⟨Or.inl, fun h => h.elim id (fun ⟨j, h2, h3, _⟩ => by omega)⟩
    · rw [ho' x h0 h1]
      constructor
      · rintro (⟨k, h2, h3⟩ | h)
        · exact ⟨k, by omega, h3⟩
        · exact ⟨i, by omega, h⟩
      · rintro ⟨k, h2, h3⟩
        by_cases e : k = i
        · subst e; exact Or.inr h3
        · exact Or.inl ⟨k, by omega, h3⟩
theorem heads_l2 (hl : (l.length : Int) ≤ 60) {o : List Bool} (hol : o.length = l.length) (ho : ∀ x : Int, 0 ≤ x → x < l.length → (rdOf false o x = true ↔ ∃ k, Par l k x)) : ∀ (m i : Nat), i + m = l.length → Ev (fun k => history_Heads.l2 k (headf l i) o (o.length : Int) (i : Int)) (heads l, 0, 0) := by
  intro m
  induction m with
  | zero =>
    intro i hi
    refine Ev.step (fun k_ => by rw [history_Heads.l2]) ?_
    refine ev_neg (by omega) ?_
    rw [show i = l.length by omega]
    exact ev_now _
  | succ m ih =>
    intro i hi
    have ih' := ih (i + 1) (by omega)
    have hle := headf_length l i
    have hx := ho i (by omega) (by omega)
    refine Ev.step (fun k_ => by rw [history_Heads.l2]) ?_
    rw [w64 (by omega)]
    refine ev_pos (by omega) (ev_pos (by omega) (ev_pos (by omega) (ev_cases (fun h1 => ?_) (fun h1 => ev_pos (by omega) ?_))))
    · rw [headf_no] at ih'
      · exact ih'
      · intro h
        obtain ⟨k, hk⟩ := hx.1 h1
        exact absurd (cnt_zero.1 h k hk) (by simp)
    · rw [headf_yes] at ih'
      · exact ih'
      · exact cnt_zero.2 (fun k hk => absurd (hx.2 ⟨k, hk⟩) h1)
end
def headsR (l : List C) : List Int × Int × Int := if (vf l).1 ≠ 0 then ([], vf l) else (heads l, 0, 0)
theorem heads_ev {l : List C} (hp : ∀ x ∈ l, S49.ok x) : Ev (fun k => history_Heads.f k l) (headsR l) := by
  unfold history_Heads.f headsR
  refine ev_bind (validate_ev hp) ?_
  by_cases h : (vf l).1 ≠ 0
  · rw [if_pos h]
    refine ev_pos (flt_yes h) ?_
    exact ev_now _
  · obtain ⟨e, hv⟩ := vf_zero (Decidable.not_not.1 h)
    have hv60 := hv.len
    rw [if_neg h, e]
    refine ev_neg (by decide) (ev_pos (by omega) (ev_pos (by omega) ?_))
    refine heads_l0 hv (fun o hl ho => heads_l2 hv60 hl ho l.length 0 (by omega)) l.length 0 _ (by omega) (by simp) (fun x h0 h1 => ?_)
    rw [rdOf_replicate]
    exact ⟨fun h => absurd h (by decide), fun ⟨k, h2, h3⟩ => by have := h3.1; omega⟩
/-- Every commit lies under a head. -/
theorem under_head {l : List C} (hv : Valid l) : ∀ (n : Nat) (x : Int), 0 ≤ x → x < l.length → l.length ≤ x + n → ∃ h, h ∈ heads l ∧ Anc l h x := by
  intro n
  induction n with
  | zero => intro x h0 h1 h2; omega
  | succ n ih =>
    intro x h0 h1 h2
    by_cases h : ∀ k, ¬ Par l k x
    · exact ⟨x, mem_heads.2 ⟨h0, h1, h⟩, Anc.refl l x⟩
    · obtain ⟨k, hk⟩ := Classical.not_forall.1 h
      have hk := Classical.not_not.1 hk
      have := hk.lt hv
      obtain ⟨y, hy, ha⟩ := ih k hk.1 hk.2.1 (by omega)
      exact ⟨y, hy, ha.step hk⟩
end Go.Proofs.Ytojhnjgnpjoacaa.Hist
