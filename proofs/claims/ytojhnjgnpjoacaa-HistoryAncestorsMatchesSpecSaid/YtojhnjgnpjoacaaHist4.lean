/- Best common ancestors: plain laws on them; two equal lists compared. -/
import Derived.Test.YtojhnjgnpjoacaaHist3
import Derived.Test.YtojhnjgnpjoacaaP7
namespace Go.Proofs.Ytojhnjgnpjoacaa.Hist
open Go.RowKit Go.Proofs.YtojhnjgnpjoacaaW.PrintWords Go.Proofs.YtojhnjgnpjoacaaW.PrintEv Go.Proofs.Ytojhnjgnpjoacaa.P
set_option linter.unusedVariables false

theorem ints_l0 {a : List Int} (ha : (a.length : Int) ≤ 140737488351232) : ∀ (m : Nat) (i : Int), 0 ≤ i → i + m = a.length → Ev (fun k => changeforgeref3_Ints.l0 k a a i) true := by
  intro m
  induction m with
  | zero =>
    intro i h0 hi
    refine Ev.step (fun k_ => by rw [changeforgeref3_Ints.l0]) ?_
    refine ev_neg (by omega) ?_
    exact ev_now _
  | succ m ih =>
    intro i h0 hi
    refine Ev.step (fun k_ => by rw [changeforgeref3_Ints.l0]) ?_
    refine ev_pos (by omega) (ev_pos (by omega) (ev_pos (by omega) (ev_pos rfl ?_)))
    rw [w64 (by omega)]
    exact ih (i + 1) (by omega) (by omega)
theorem ints_same {a : List Int} (ha : (a.length : Int) ≤ 140737488351232) : Ev (fun k => changeforgeref3_Ints.f k a a) true := by
  unfold changeforgeref3_Ints.f
  exact ev_pos rfl (ints_l0 ha a.length 0 (by omega) (by omega))

theorem lst_single {P : Int → Prop} {a : Int} : ∀ {n : Nat} {i : Int}, i ≤ a → a < i + n → (∀ x, i ≤ x → x < i + n → (P x ↔ x = a)) → lst P n i = [a]
  | 0, i, h1, h2, _ => by omega
  | n + 1, i, h1, h2, h => by
    by_cases e : i = a
    · subst e
      have e2 : lst P n (i + 1) = [] := by
        apply List.eq_nil_iff_forall_not_mem.2
        intro x hx
        obtain ⟨h3, h4, h5⟩ := mem_lst.1 hx
        have := (h x (by omega) (by omega)).1 h5
        omega
      rw [lst_yes ((h i h1 h2).2 rfl), e2]
    · rw [lst_no (fun hp => e ((h i (Int.le_refl _) (by omega)).1 hp))]
      exact lst_single (by omega) (by omega) (fun x hx hx' => h x (by omega) (by omega))
/-- The list rises. -/
theorem lst_rises {P : Int → Prop} : ∀ {n : Nat} {i : Int}, (lst P n i).Pairwise (· < ·)
  | 0, i => List.Pairwise.nil
  | n + 1, i => by
    have ih := lst_rises (P := P) (n := n) (i := i + 1)
    by_cases c : P i
    · rw [lst_yes c]
      refine List.Pairwise.cons (fun x hx => ?_) ih
      have := (mem_lst.1 hx).1
      omega
    · rw [lst_no c]; exact ih
theorem lst_inj {P : Int → Prop} {n : Nat} {i j k : Int} (hj0 : 0 ≤ j) (hj : j < (lst P n i).length) (hk0 : 0 ≤ k) (hk : k < (lst P n i).length) (h : rd (lst P n i) j = rd (lst P n i) k) : j = k := by
  obtain ⟨a, rfl⟩ := Int.eq_ofNat_of_zero_le hj0
  obtain ⟨b, rfl⟩ := Int.eq_ofNat_of_zero_le hk0
  rw [rd_nat _ (by omega), rd_nat _ (by omega)] at h
  have hr := List.pairwise_iff_getElem.1 (lst_rises (P := P) (n := n) (i := i))
  rcases Nat.lt_trichotomy a b with c | c | c
  · have := hr a b (by omega) (by omega) c; omega
  · omega
  · have := hr b a (by omega) (by omega) c; omega

theorem obad_iff {l : List C} {ns : List Int} : (obad l ns ns.length 0).1 ≠ 0 ↔ ∃ x ∈ ns, x < 0 ∨ x ≥ l.length := by
  constructor
  · intro h
    obtain ⟨_, j, h1, h2, h3⟩ := obad_six h
    exact ⟨rd ns j, rd_mem h1 (by omega), h3⟩
  · rintro ⟨x, hx, h⟩ h0
    obtain ⟨j, hj0, hj, rfl⟩ := mem_rd hx
    have := (obad_zero h0).2 j hj0 (by omega)
    omega
theorem com_congr {l : List C} {ns ns' : List Int} (hm : ∀ x, x ∈ ns ↔ x ∈ ns') : commons l ns = commons l ns' := by
  have e : Com l ns = Com l ns' := by
    funext x
    exact propext ⟨fun h n hn => h n ((hm n).2 hn), fun h n hn => h n ((hm n).1 hn)⟩
  unfold commons
  rw [e]
theorem octo_congr {l : List C} {ns ns' : List Int} (hl : ((ns.length : Int) = 0 ∨ (ns.length : Int) > 60) ↔ ((ns'.length : Int) = 0 ∨ (ns'.length : Int) > 60)) (hm : ∀ x, x ∈ ns ↔ x ∈ ns') :
    (octo l ns).1 = (octo l ns').1 ∧ (octo l ns).2.1 = (octo l ns').2.1 := by
  unfold octo
  by_cases h1 : (vf l).1 ≠ 0
  · rw [if_pos h1, if_pos h1]; exact ⟨rfl, rfl⟩
  · rw [if_neg h1, if_neg h1]
    by_cases h2 : (ns.length : Int) = 0 ∨ (ns.length : Int) > 60
    · rw [if_pos h2, if_pos (hl.1 h2)]; exact ⟨rfl, rfl⟩
    · rw [if_neg h2, if_neg (fun h => h2 (hl.2 h))]
      have hb : (obad l ns ns.length 0).1 ≠ 0 ↔ (obad l ns' ns'.length 0).1 ≠ 0 := by
        rw [obad_iff, obad_iff]
        exact ⟨fun ⟨x, hx, h⟩ => ⟨x, (hm x).1 hx, h⟩, fun ⟨x, hx, h⟩ => ⟨x, (hm x).2 hx, h⟩⟩
      by_cases h3 : (obad l ns ns.length 0).1 ≠ 0
      · rw [if_pos h3, if_pos (hb.1 h3)]
        exact ⟨rfl, (obad_six h3).1.trans (obad_six (hb.1 h3)).1.symm⟩
      · rw [if_neg h3, if_neg (fun h => h3 (hb.2 h))]
        exact ⟨com_congr hm, rfl⟩
theorem octo_nil {l : List C} {ns : List Int} (h : (octo l ns).2.1 ≠ 0) : (octo l ns).1 = [] := by
  unfold octo at h ⊢
  by_cases h1 : (vf l).1 ≠ 0
  · rw [if_pos h1]
  · rw [if_neg h1] at h ⊢
    by_cases h2 : (ns.length : Int) = 0 ∨ (ns.length : Int) > 60
    · rw [if_pos h2]
    · rw [if_neg h2] at h ⊢
      by_cases h3 : (obad l ns ns.length 0).1 ≠ 0
      · rw [if_pos h3]
      · rw [if_neg h3] at h; exact absurd rfl h
theorem octo_ok {l : List C} {ns : List Int} (h : (octo l ns).2.1 = 0) : vf l = (0, 0) ∧ Valid l ∧ (∀ x ∈ ns, 0 ≤ x ∧ x < l.length) ∧ 0 < ns.length ∧ (ns.length : Int) ≤ 60 ∧ octo l ns = (commons l ns, 0, 0) := by
  unfold octo at h ⊢
  by_cases h1 : (vf l).1 ≠ 0
  · rw [if_pos h1] at h; exact absurd h h1
  · obtain ⟨e, hv⟩ := vf_zero (Decidable.not_not.1 h1)
    rw [if_neg h1] at h ⊢
    by_cases h2 : (ns.length : Int) = 0 ∨ (ns.length : Int) > 60
    · rw [if_pos h2] at h; exact absurd h (by decide)
    · rw [if_neg h2] at h ⊢
      by_cases h3 : (obad l ns ns.length 0).1 ≠ 0
      · rw [if_pos h3] at h; exact absurd h h3
      · rw [if_neg h3]
        refine ⟨e, hv, fun x hx => ?_, by omega, by omega, rfl⟩
        have : ¬ (x < 0 ∨ x ≥ l.length) := fun h' => h3 (obad_iff.2 ⟨x, hx, h'⟩)
        omega
theorem commons_length {l : List C} {ns : List Int} : ((commons l ns).length : Int) ≤ l.length := by
  have := lst_length (P := Bst l (Com l ns)) (n := l.length) (i := 0)
  unfold commons
  omega
theorem octo_length {l : List C} {ns : List Int} : ((octo l ns).1.length : Int) ≤ 60 := by
  by_cases h : (octo l ns).2.1 = 0
  · obtain ⟨_, hv, _, _, _, e⟩ := octo_ok h
    have := hv.len
    have := commons_length (l := l) (ns := ns)
    rw [e]
    show ((commons l ns).length : Int) ≤ 60
    omega
  · rw [octo_nil h]; decide
theorem isanc_cases {l : List C} {a b : Int} : (isancR l a b).2.1 ≠ 0 ∧ (isancR l a b).1 = false ∨ vf l = (0, 0) ∧ Valid l ∧ 0 ≤ a ∧ a < l.length ∧ 0 ≤ b ∧ b < l.length ∧ (isancR l a b).2.1 = 0 ∧ ((isancR l a b).1 = true ↔ Anc l b a) := by
  unfold isancR
  by_cases h1 : (vf l).1 ≠ 0
  · rw [if_pos h1]; exact Or.inl ⟨h1, rfl⟩
  · obtain ⟨e, hv⟩ := vf_zero (Decidable.not_not.1 h1)
    rw [if_neg h1]
    by_cases h2 : a < 0 ∨ a ≥ l.length
    · rw [if_pos h2]; exact Or.inl ⟨by decide, rfl⟩
    · rw [if_neg h2]
      by_cases h3 : b < 0 ∨ b ≥ l.length
      · rw [if_pos h3]; exact Or.inl ⟨by decide, rfl⟩
      · rw [if_neg h3]; exact Or.inr ⟨e, hv, by omega, by omega, by omega, by omega, rfl, by simp⟩
theorem isanc_ok {l : List C} {a b : Int} (he : vf l = (0, 0)) (ha0 : 0 ≤ a) (ha : a < l.length) (hb0 : 0 ≤ b) (hb : b < l.length) : (isancR l a b).2.1 = 0 ∧ ((isancR l a b).1 = true ↔ Anc l b a) := by
  rcases isanc_cases (l := l) (a := a) (b := b) with h | h
  · unfold isancR at h
    rw [he, if_neg (by decide), if_neg (by omega), if_neg (by omega)] at h
    exact absurd rfl h.1
  · exact h.2.2.2.2.2.2

theorem mem_commons {l : List C} {ns : List Int} {x : Int} : x ∈ commons l ns ↔ 0 ≤ x ∧ x < l.length ∧ Bst l (Com l ns) x := by
  unfold commons
  rw [mem_lst]
  constructor
  · rintro ⟨h1, h2, h3⟩; exact ⟨h1, by omega, h3⟩
  · rintro ⟨h1, h2, h3⟩; exact ⟨h1, by omega, h3⟩
/-- Some number that fulfils P is the greatest below N. -/
theorem exists_max {P : Int → Prop} {N : Int} : ∀ (d : Nat) (c : Int), P c → c < N → N - c ≤ d → ∃ m, P m ∧ c ≤ m ∧ m < N ∧ ∀ j, P j → j < N → j ≤ m := by
  intro d
  induction d with
  | zero => intro c hc hN hd; omega
  | succ d ih =>
    intro c hc hN hd
    by_cases h : ∃ c', P c' ∧ c' < N ∧ c < c'
    · obtain ⟨c', h1, h2, h3⟩ := h
      obtain ⟨m, hm1, hm2, hm3, hm4⟩ := ih c' h1 h2 (by omega)
      exact ⟨m, hm1, by omega, hm3, hm4⟩
    · refine ⟨c, hc, Int.le_refl _, hN, fun j hj hjN => ?_⟩
      have : ¬ c < j := fun h' => h ⟨j, hj, hjN, h'⟩
      omega
theorem covers {l : List C} {ns : List Int} {c : Int} (hv : Valid l) (h0 : 0 ≤ c) (hc : c < l.length) : (∃ x ∈ commons l ns, Anc l x c) ↔ Com l ns c := by
  constructor
  · rintro ⟨x, hx, ha⟩ n hn
    exact ((mem_commons.1 hx).2.2.1 n hn).trans ha
  · intro h
    obtain ⟨m, ⟨h1, h2⟩, h3, h4, h5⟩ := exists_max (P := fun y => Com l ns y ∧ Anc l y c) (N := l.length) ((l.length : Int) - c).toNat c ⟨h, Anc.refl _ _⟩ hc (by omega)
    refine ⟨m, mem_commons.2 ⟨by omega, h4, h1, fun j hj0 hj hjq ha => ?_⟩, h2⟩
    have := h5 j ⟨hjq, ha.trans h2⟩ hj
    have := ha.le hv
    omega
end Go.Proofs.Ytojhnjgnpjoacaa.Hist
