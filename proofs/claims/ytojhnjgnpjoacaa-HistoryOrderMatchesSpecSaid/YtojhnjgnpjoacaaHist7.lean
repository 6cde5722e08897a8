/- The order of a history: the commits, the newest first, each behind all its children; it is one list alone, and it ends with every commit listed. -/
import Derived.Test.YtojhnjgnpjoacaaHist2
namespace Go.Proofs.Ytojhnjgnpjoacaa.Hist
open Go.RowKit Go.Proofs.YtojhnjgnpjoacaaW.PrintWords Go.Proofs.YtojhnjgnpjoacaaW.PrintEv Go.Proofs.Ytojhnjgnpjoacaa.P
set_option linter.unusedVariables false

/-! lists -/
theorem len_le_of_subset : ∀ {xs ys : List Int}, xs.Nodup → (∀ x ∈ xs, x ∈ ys) → xs.length ≤ ys.length
  | [], ys, _, _ => Nat.zero_le _
  | x :: xs, ys, hn, hs => by
    have hx := hs x (List.mem_cons_self ..)
    have hn' := List.nodup_cons.1 hn
    have := len_le_of_subset (xs := xs) (ys := ys.erase x) hn'.2 (fun y hy => (List.mem_erase_of_ne (fun (e : y = x) => hn'.1 (by rw [← e]; exact hy))).2 (hs y (List.mem_cons_of_mem _ hy)))
    rw [List.length_erase_of_mem hx] at this
    have : 0 < ys.length := List.length_pos_of_mem hx
    simp only [List.length_cons]
    omega
def rng (n : Nat) : List Int := (List.range n).map fun i : Nat => (i : Int)
theorem rng_length (n : Nat) : (rng n).length = n := by simp [rng]
theorem mem_rng {n : Nat} {x : Int} : x ∈ rng n ↔ 0 ≤ x ∧ x < n := by
  simp only [rng, List.mem_map, List.mem_range]
  constructor
  · rintro ⟨a, h, rfl⟩; omega
  · rintro ⟨h0, h⟩; exact ⟨x.toNat, by omega, by omega⟩
theorem rng_nodup (n : Nat) : (rng n).Nodup := by
  refine List.Pairwise.map _ (fun a b h => ?_) (List.nodup_range (n := n))
  intro e
  exact h (Int.ofNat.inj e)

/-! the order -/
def tm (l : List C) (i : Int) : Int := (rd_T49 l i).f2
def Rdy (l : List C) (o : List Int) (i : Int) : Prop := 0 ≤ i ∧ i < l.length ∧ i ∉ o ∧ ∀ k, Par l k i → k ∈ o
def Newest (l : List C) (o : List Int) (b : Int) : Prop := Rdy l o b ∧ ∀ i, Rdy l o i → tm l i < tm l b ∨ (tm l i = tm l b ∧ i ≤ b)
inductive Ord (l : List C) : List Int → Prop
  | nil : Ord l []
  | snoc {o : List Int} {b : Int} : Ord l o → Newest l o b → Ord l (o ++ [b])

section
variable {l : List C} {o o' : List Int} {b b' i k p : Int}
theorem Newest.uniq (h : Newest l o b) (h' : Newest l o b') : b = b' := by
  have h1 := h.2 b' h'.1
  have h2 := h'.2 b h.1
  omega
theorem Ord.uniq (h : Ord l o) : ∀ {o' : List Int}, Ord l o' → o.length = o'.length → o = o' := by
  induction h with
  | nil =>
    intro o' h' hl
    exact (List.eq_nil_of_length_eq_zero hl.symm).symm
  | snoc h hb ih =>
    intro o' h' hl
    cases h' with
    | nil => simp at hl
    | snoc h2 hb2 =>
      have e := ih h2 (by simpa using hl)
      subst e
      rw [hb.uniq hb2]
theorem Ord.good (h : Ord l o) : o.Nodup ∧ (∀ x ∈ o, 0 ≤ x ∧ x < l.length) ∧ ∀ x ∈ o, ∀ k, Par l k x → k ∈ o := by
  induction h with
  | nil => exact ⟨List.nodup_nil, fun x hx => absurd hx (by simp), fun x hx => absurd hx (by simp)⟩
  | @snoc o b h hb ih =>
    refine ⟨?_, fun x hx => ?_, fun x hx k hk => ?_⟩
    · rw [List.nodup_append]
      refine ⟨ih.1, by simp, fun a ha c hc => ?_⟩
      have : c = b := by simpa using hc
      subst this
      intro e
      exact hb.1.2.2.1 (e ▸ ha)
    · rcases List.mem_append.1 hx with h1 | h1
      · exact ih.2.1 x h1
      · have : x = b := by simpa using h1
        subst this
        exact ⟨hb.1.1, hb.1.2.1⟩
    · rcases List.mem_append.1 hx with h1 | h1
      · exact List.mem_append_left _ (ih.2.2 x h1 k hk)
      · have : x = b := by simpa using h1
        subst this
        exact List.mem_append_left _ (hb.1.2.2.2 k hk)
theorem Ord.len_le (h : Ord l o) : o.length ≤ l.length := by
  have := len_le_of_subset h.good.1 (ys := rng l.length) (fun x hx => mem_rng.2 (h.good.2.1 x hx))
  rwa [rng_length] at this
/-- Whoever isn't listed has a commit that is ready above it. -/
theorem rdy_above (hv : Valid l) : ∀ (n : Nat) (i : Int), 0 ≤ i → i < l.length → l.length ≤ i + n → i ∉ o → ∃ b, Rdy l o b := by
  intro n
  induction n with
  | zero => intro i h0 h1 h2; omega
  | succ n ih =>
    intro i h0 h1 h2 hi
    by_cases h : ∀ k, Par l k i → k ∈ o
    · exact ⟨i, h0, h1, hi, h⟩
    · obtain ⟨k, hk⟩ := Classical.not_forall.1 h
      obtain ⟨hp, hk⟩ := Classical.not_imp.1 hk
      have := hp.lt hv
      exact ih k hp.1 hp.2.1 (by omega) hk
theorem Ord.ready (hv : Valid l) (h : Ord l o) (hl : o.length < l.length) : ∃ b, Rdy l o b := by
  by_cases h1 : ∀ i, 0 ≤ i → i < (l.length : Int) → i ∈ o
  · have := len_le_of_subset (rng_nodup l.length) (ys := o) (fun x hx => h1 x (mem_rng.1 hx).1 (mem_rng.1 hx).2)
    rw [rng_length] at this
    omega
  · obtain ⟨i, h1⟩ := Classical.not_forall.1 h1
    obtain ⟨h0, h1⟩ := Classical.not_imp.1 h1
    obtain ⟨h2, h3⟩ := Classical.not_imp.1 h1
    exact rdy_above hv l.length i h0 h2 (by omega) h3
theorem Ord.full (h : Ord l o) (hl : o.length = l.length) (h0 : 0 ≤ i) (h1 : i < l.length) : i ∈ o := by
  by_cases hi : i ∈ o
  · exact hi
  · have := len_le_of_subset (xs := i :: o) (ys := rng l.length) (List.nodup_cons.2 ⟨hi, h.good.1⟩) (fun x hx => by
      rcases List.mem_cons.1 hx with rfl | hx
      · exact mem_rng.2 ⟨h0, h1⟩
      · exact mem_rng.2 (h.good.2.1 x hx))
    rw [rng_length, List.length_cons] at this
    omega
/-- A commit stands ahead of its parents. -/
theorem Ord.before (h : Ord l o) : ∀ {a c : Int}, 0 ≤ a → a < o.length → Par l k (rd o a) → rd o c = k → 0 ≤ c → c < o.length → c < a := by
  induction h with
  | nil => intro a c h0 h1; simp at h1; omega
  | @snoc o b h hb ih =>
    intro a c ha0 ha hp hc hc0 hcl
    have hg := (Ord.snoc h hb).good
    rw [List.length_append, List.length_singleton] at ha hcl
    by_cases h1 : a < o.length
    · rw [rd_append_left ha0 h1] at hp
      by_cases h2 : c < o.length
      · rw [rd_append_left hc0 h2] at hc
        exact ih ha0 h1 hp hc hc0 h2
      · have : c = o.length := by omega
        subst this
        rw [rd_append_last] at hc
        subst hc
        exact absurd (h.good.2.2 _ (rd_mem ha0 h1) _ hp) hb.1.2.2.1
    · have : a = o.length := by omega
      subst this
      by_cases h2 : c < o.length
      · exact h2
      · have : c = o.length := by omega
        subst this
        rw [rd_append_last] at hc hp
        subst hc
        exact absurd (hb.1.2.2.2 _ hp) hb.1.2.2.1
end
/-- The list from o on: what is ready and best, one by one. -/
theorem ord_ex {l : List C} (hv : Valid l) : ∀ (n : Nat), n ≤ l.length → ∃ o, Ord l o ∧ o.length = n := by
  intro n
  induction n with
  | zero => intro _; exact ⟨[], .nil, rfl⟩
  | succ n ih =>
    intro hn
    obtain ⟨o, ho, hl⟩ := ih (by omega)
    have hr := ho.ready hv (by omega)
    have : ∃ b, Newest l o b := by
      have key : ∀ m : Nat, (∃ b, Rdy l o b ∧ b < m) → ∃ b, Rdy l o b ∧ b < m ∧ ∀ i, Rdy l o i → i < m → tm l i < tm l b ∨ (tm l i = tm l b ∧ i ≤ b) := by
        intro m
        induction m with
        | zero => rintro ⟨b, hb, h⟩; have := hb.1; omega
        | succ m ihm =>
          intro hm
          by_cases h1 : ∃ b, Rdy l o b ∧ b < m
          · obtain ⟨b, hb, hbm, hbb⟩ := ihm h1
            by_cases h2 : Rdy l o m ∧ tm l b ≤ tm l m
            · refine ⟨m, h2.1, by omega, fun i hi him => ?_⟩
              by_cases e : i = m
              · subst e; omega
              · have := hbb i hi (by omega)
                have := h2.2
                omega
            · refine ⟨b, hb, by omega, fun i hi him => ?_⟩
              by_cases e : i = m
              · subst e
                have : ¬ tm l b ≤ tm l (m : Int) := fun h => h2 ⟨hi, h⟩
                omega
              · exact hbb i hi (by omega)
          · obtain ⟨b, hb, h⟩ := hm
            have hbm : b = m := by
              have : ¬ b < m := fun h' => h1 ⟨b, hb, h'⟩
              omega
            subst hbm
            refine ⟨m, hb, by omega, fun i hi him => ?_⟩
            have : ¬ i < m := fun h' => h1 ⟨i, hi, h'⟩
            have e : i = m := by omega
            subst e; omega
      obtain ⟨b, hb⟩ := hr
      obtain ⟨c, hc, _, h⟩ := key l.length ⟨b, hb, hb.2.1⟩
      exact ⟨c, hc, fun i hi => h i hi hi.2.1⟩
    obtain ⟨b, hb⟩ := this
    exact ⟨o ++ [b], .snoc ho hb, by simp [hl]⟩
noncomputable def ordr (l : List C) : List Int := open Classical in if h : ∃ o, Ord l o ∧ o.length = l.length then h.choose else []
theorem ordr_ord {l : List C} (hv : Valid l) : Ord l (ordr l) ∧ (ordr l).length = l.length := by
  have h := ord_ex hv l.length (Nat.le_refl _)
  unfold ordr
  rw [dif_pos h]
  exact h.choose_spec
theorem Ord.eq {l : List C} {o : List Int} (hv : Valid l) (h : Ord l o) (hl : o.length = l.length) : o = ordr l := h.uniq (ordr_ord hv).1 (by rw [hl, (ordr_ord hv).2])
end Go.Proofs.Ytojhnjgnpjoacaa.Hist
