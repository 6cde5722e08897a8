/- Best common ancestors: what mergebase.Octopus, Bases and IsAncestor come to. -/
import Derived.Test.YtojhnjgnpjoacaaHist2
import Derived.Test.YtojhnjgnpjoacaaP4
import Derived.Test.YtojhnjgnpjoacaaP5
import Derived.Test.YtojhnjgnpjoacaaP6
namespace Go.Proofs.Ytojhnjgnpjoacaa.Hist
open Go.RowKit Go.Proofs.YtojhnjgnpjoacaaW.PrintWords Go.Proofs.YtojhnjgnpjoacaaW.PrintEv Go.Proofs.Ytojhnjgnpjoacaa.P
set_option linter.unusedVariables false

open Classical in
/-- The numbers from i on, n of them, that fulfil P. -/
noncomputable def lst (P : Int → Prop) : Nat → Int → List Int
  | 0, _ => []
  | n + 1, i => if P i then i :: lst P n (i + 1) else lst P n (i + 1)
theorem lst_yes {P : Int → Prop} {n : Nat} {i : Int} (h : P i) : lst P (n + 1) i = i :: lst P n (i + 1) := by simp only [lst]; rw [if_pos h]
theorem lst_no {P : Int → Prop} {n : Nat} {i : Int} (h : ¬ P i) : lst P (n + 1) i = lst P n (i + 1) := by simp only [lst]; rw [if_neg h]
theorem lst_congr {P Q : Int → Prop} : ∀ {n : Nat} {i : Int}, (∀ x, i ≤ x → x < i + n → (P x ↔ Q x)) → lst P n i = lst Q n i
  | 0, _, _ => rfl
  | n + 1, i, h => by
    have ih := lst_congr (P := P) (Q := Q) (n := n) (i := i + 1) (fun x h1 h2 => h x (by omega) (by omega))
    have hi := h i (Int.le_refl _) (by omega)
    by_cases c : P i
    · rw [lst_yes c, lst_yes (hi.1 c), ih]
    · rw [lst_no c, lst_no (fun h => c (hi.2 h)), ih]
theorem mem_lst {P : Int → Prop} : ∀ {n : Nat} {i x : Int}, x ∈ lst P n i ↔ i ≤ x ∧ x < i + n ∧ P x
  | 0, i, x => by simp [lst]; intro h1 h2; omega
  | n + 1, i, x => by
    have ih := mem_lst (P := P) (n := n) (i := i + 1) (x := x)
    by_cases c : P i
    · rw [lst_yes c, List.mem_cons, ih]
      constructor
      · rintro (rfl | ⟨h1, h2, h3⟩)
        · exact ⟨Int.le_refl _, by omega, c⟩
        · exact ⟨by omega, by omega, h3⟩
      · rintro ⟨h1, h2, h3⟩
        by_cases e : x = i
        · exact Or.inl e
        · exact Or.inr ⟨by omega, by omega, h3⟩
    · rw [lst_no c, ih]
      constructor
      · rintro ⟨h1, h2, h3⟩
        exact ⟨by omega, by omega, h3⟩
      · rintro ⟨h1, h2, h3⟩
        have : x ≠ i := fun e => c (e ▸ h3)
        exact ⟨by omega, by omega, h3⟩
theorem lst_length {P : Int → Prop} : ∀ {n : Nat} {i : Int}, (lst P n i).length ≤ n
  | 0, i => by simp [lst]
  | n + 1, i => by
    have ih := lst_length (P := P) (n := n) (i := i + 1)
    by_cases c : P i
    · rw [lst_yes c, List.length_cons]; omega
    · rw [lst_no c]; omega
theorem lst_snoc {P : Int → Prop} : ∀ {n : Nat} {i : Int}, lst P (n + 1) i = lst P n i ++ lst P 1 (i + n)
  | 0, i => by
    show lst P 1 i = lst P 1 (i + ((0 : Nat) : Int))
    rw [show i + ((0 : Nat) : Int) = i by simp]
  | n + 1, i => by
    have ih := lst_snoc (P := P) (n := n) (i := i + 1)
    have e : i + 1 + (n : Int) = i + ((n + 1 : Nat) : Int) := by omega
    by_cases c : P i
    · rw [lst_yes c, ih, lst_yes (n := n) c, e]; rfl
    · rw [lst_no c, ih, lst_no (n := n) c, e]

/-- Of what fulfils Q: what is no ancestor of another one. -/
def Bst (l : List C) (Q : Int → Prop) (i : Int) : Prop := Q i ∧ ∀ j : Int, 0 ≤ j → j < l.length → Q j → Anc l j i → j = i

theorem best_l1 {l : List C} {inn : List Bool} {out : List Int} {i : Int} {ps : List Int} {R : List Int} (hpl : (ps.length : Int) ≤ 1000) (hps : ∀ j : Int, 0 ≤ j → j < ps.length → 0 ≤ rd ps j ∧ rd ps j < l.length) :
    ∀ (m : Nat) (q : Int) (o : List Bool), 0 ≤ q → q + m = ps.length → o.length = l.length →
      (∀ o' : List Bool, o'.length = l.length → (∀ x : Int, 0 ≤ x → (rdOf false o' x = true ↔ (rdOf false o x = true ∨ ∃ j : Int, q ≤ j ∧ j < ps.length ∧ rd ps j = x))) → Ev (fun k => mergebase_best.l0 k l inn o' out (wrap64 (i - 1))) R) →
      Ev (fun k => mergebase_best.l1 k l inn o out i ps (ps.length : Int) q) R := by
  intro m
  induction m with
  | zero =>
    intro q o h0 hq hl hR
    refine Ev.step (fun k_ => by rw [mergebase_best.l1]) ?_
    refine ev_neg (by omega) ?_
    exact hR o hl (fun x hx => ⟨Or.inl, fun h => h.elim id (fun ⟨j, h1, h2, _⟩ => by omega)⟩)
  | succ m ih =>
    intro q o h0 hq hl hR
    have hb := hps q h0 (by omega)
    refine Ev.step (fun k_ => by rw [mergebase_best.l1]) ?_
    (repeat (first | refine ev_pos (by first | assumption | omega) ?_ | refine ev_neg (by first | assumption | omega) ?_))
    rw [w64 (x := q + 1) (by omega)]
    refine ih (q + 1) _ (by omega) (by omega) (by rw [List.length_set]; exact hl) (fun o' hl' ho' => hR o' hl' (fun x hx => ?_))
    rw [ho' x hx, rdOf_set false o true hb.1 (by omega) hx]
    constructor
    · rintro (h | ⟨j, h1, h2, h3⟩)
      · by_cases e : x = rd ps q
        · exact Or.inr ⟨q, Int.le_refl _, by omega, e.symm⟩
        · rw [if_neg e] at h; exact Or.inl h
      · exact Or.inr ⟨j, by omega, h2, h3⟩
    · rintro (h | ⟨j, h1, h2, h3⟩)
      · refine Or.inl ?_
        by_cases e : x = rd ps q
        · rw [if_pos e]
        · rw [if_neg e]; exact h
      · by_cases e : j = q
        · subst e; exact Or.inl (by rw [if_pos h3.symm])
        · exact Or.inr ⟨j, by omega, h2, h3⟩

theorem best_j2 {l : List C} {inn o : List Bool} {out : List Int} {i : Int} {R : List Int} (hv : Valid l) (hil : (inn.length : Int) = l.length) (h0 : 0 ≤ i) (hi : i < l.length) (hl : o.length = l.length)
    (hR : ∀ o' : List Bool, o'.length = l.length → (∀ x : Int, 0 ≤ x → (rdOf false o' x = true ↔ (rdOf false o x = true ∨ ((rdOf false inn i = true ∨ rdOf false o i = true) ∧ Par l i x)))) → Ev (fun k => mergebase_best.l0 k l inn o' out (wrap64 (i - 1))) R) :
    Ev (fun k => mergebase_best.j2 k l inn o out i) R := by
  have hpl := hv.plen i h0 hi
  have hps : ∀ j : Int, 0 ≤ j → j < (rd_T49 l i).f0.length → 0 ≤ rd (rd_T49 l i).f0 j ∧ rd (rd_T49 l i).f0 j < l.length := fun j hj0 hj => by
    have := hv.par i j h0 hi hj0 hj
    omega
  have hyes : (rdOf false inn i = true ∨ rdOf false o i = true) → Ev (fun k => mergebase_best.j3 k l inn o out i true) R := by
    intro h
    refine Ev.step (fun k_ => by rw [mergebase_best.j3]) ?_
    refine ev_pos rfl (ev_pos h0 (ev_pos hi ?_))
    refine best_l1 (by omega) hps (rd_T49 l i).f0.length 0 o (by omega) (by simp) hl (fun o' hl' ho' => hR o' hl' (fun x hx => ?_))
    rw [ho' x hx]
    constructor
    · rintro (h1 | ⟨j, hj0, hj, he⟩)
      · exact Or.inl h1
      · exact Or.inr ⟨h, h0, hi, by rw [← he]; exact rd_mem hj0 hj⟩
    · rintro (h1 | ⟨_, _, _, h2⟩)
      · exact Or.inl h1
      · exact Or.inr (mem_rd h2)
  refine Ev.step (fun k_ => by rw [mergebase_best.j2]) ?_
  refine ev_pos h0 (ev_pos (by omega) (ev_cases (fun h1 => hyes (Or.inl h1)) (fun h1 => ev_pos (by omega) ?_)))
  by_cases h2 : rdOf false o i = true
  · rw [h2]; exact hyes (Or.inr h2)
  · have h2' : rdOf false o i = false := by simpa using h2
    rw [h2']
    refine Ev.step (fun k_ => by rw [mergebase_best.j3]) ?_
    refine ev_neg (by decide) ?_
    exact hR o hl (fun x hx => ⟨Or.inl, fun h => h.elim id (fun h => h.1.elim (fun h => absurd h h1) (fun h => absurd h h2))⟩)

theorem best_l0 {l : List C} {inn : List Bool} (hv : Valid l) (hil : inn.length = l.length) :
    ∀ (m : Nat) (i : Int) (o : List Bool), i + 1 = m → i < l.length → o.length = l.length →
      (∀ x : Int, 0 ≤ x → x < l.length → rdOf false o x = true → ∃ j : Int, 0 ≤ j ∧ j < l.length ∧ rdOf false inn j = true ∧ j ≠ x ∧ Anc l j x) →
      (∀ j p, i < j → (rdOf false inn j = true ∨ rdOf false o j = true) → Par l j p → rdOf false o p = true) →
      Ev (fun k => mergebase_best.l0 k l inn o (lst (Bst l (fun x => rdOf false inn x = true)) ((l.length : Int) - 1 - i).toNat (i + 1)) i) (lst (Bst l (fun x => rdOf false inn x = true)) l.length 0) := by
  have hv60 := hv.len
  intro m
  induction m with
  | zero =>
    intro i o hi hilt hl hs hc
    refine Ev.step (fun k_ => by rw [mergebase_best.l0]) ?_
    refine ev_neg (by omega) ?_
    have e : i + 1 = 0 := by omega
    have e2 : ((l.length : Int) - 1 - i).toNat = l.length := by omega
    rw [e, e2]; exact ev_now _
  | succ m ih =>
    intro i o hi hilt hl hs hc
    have h0 : 0 ≤ i := by omega
    have hbelow : rdOf false o i = true ↔ ∃ j : Int, 0 ≤ j ∧ j < l.length ∧ rdOf false inn j = true ∧ j ≠ i ∧ Anc l j i := by
      constructor
      · exact hs i h0 hilt
      · rintro ⟨j, hj0, hj, hjin, hne, ha⟩
        obtain ⟨q, hq, hqp⟩ := ha.last (Ne.symm hne)
        have hqi := (hqp.lt hv).2
        have hS := hq (fun x => x ≤ i ∨ x = j ∨ rdOf false o x = true) (Or.inr (Or.inl rfl)) (fun a p h1 h2 => by
          have hap := (h2.lt hv).2
          by_cases c : a ≤ i
          · exact Or.inl (by omega)
          · rcases h1 with h1 | h1 | h1
            · omega
            · subst h1; exact Or.inr (Or.inr (hc a p (by omega) (Or.inl hjin) h2))
            · exact Or.inr (Or.inr (hc a p (by omega) (Or.inr h1) h2)))
        rcases hS with h1 | h1 | h1
        · omega
        · subst h1; exact hc q i (by omega) (Or.inl hjin) hqp
        · exact hc q i (by omega) (Or.inr h1) hqp
    have hnext : ∀ out, out = lst (Bst l (fun x => rdOf false inn x = true)) ((l.length : Int) - 1 - (i - 1)).toNat (i - 1 + 1) → Ev (fun k => mergebase_best.j2 k l inn o out i) (lst (Bst l (fun x => rdOf false inn x = true)) l.length 0) := by
      intro out hout
      refine best_j2 hv (by omega) h0 hilt hl (fun o' hl' ho' => ?_)
      rw [w64 (by omega), hout]
      refine ih (i - 1) o' (by omega) (by omega) hl' (fun x hx0 hx h => ?_) (fun j p hj h hp => ?_)
      · rcases (ho' x hx0).1 h with h2 | ⟨h2, h3⟩
        · exact hs x hx0 hx h2
        · have hlt := (h3.lt hv).2
          rcases h2 with h2 | h2
          · exact ⟨i, h0, hilt, h2, by omega, Anc.par h3⟩
          · obtain ⟨j, hj0, hj, hjin, hne, ha⟩ := hs i h0 hilt h2
            have := ha.le hv
            exact ⟨j, hj0, hj, hjin, by omega, ha.step h3⟩
      · have hp0 := hp.lt hv
        refine (ho' p hp0.1).2 ?_
        by_cases e : j = i
        · subst e
          refine Or.inr ⟨?_, hp⟩
          rcases h with h | h
          · exact Or.inl h
          · rcases (ho' j hp.1).1 h with h2 | ⟨h2, h3⟩
            · exact Or.inr h2
            · exact h2
        · rcases h with h | h
          · exact Or.inl (hc j p (by omega) (Or.inl h) hp)
          · rcases (ho' j hp.1).1 h with h2 | ⟨h2, h3⟩
            · exact Or.inl (hc j p (by omega) (Or.inr h2) hp)
            · have := (h3.lt hv).2; omega
    have e1 : ((l.length : Int) - 1 - (i - 1)).toNat = ((l.length : Int) - 1 - i).toNat + 1 := by omega
    have e2 : i - 1 + 1 = i := by omega
    have hlen := lst_length (P := Bst l (fun x => rdOf false inn x = true)) (n := ((l.length : Int) - 1 - i).toNat) (i := i + 1)
    refine Ev.step (fun k_ => by rw [mergebase_best.l0]) ?_
    refine ev_pos (by omega) (ev_pos (by omega) (ev_pos (by omega) (ev_cases (fun h1 => ev_pos (by omega) ?_) (fun h1 => ?_))))
    · refine Ev.step (fun k_ => by rw [mergebase_best.j1]) ?_
      by_cases h2 : rdOf false o i = true
      · rw [h2]
        refine ev_neg (by decide) ?_
        refine hnext _ ?_
        rw [e1, e2, lst_no]
        rintro ⟨_, h3⟩
        obtain ⟨j, hj0, hj, hjin, hne, ha⟩ := hbelow.1 h2
        exact hne (h3 j hj0 hj hjin ha)
      · have h2' : rdOf false o i = false := by simpa using h2
        rw [h2']
        refine ev_pos rfl (ev_some (ev_pos (by rw [List.length_singleton]; omega) ?_))
        refine hnext _ ?_
        rw [e1, e2, lst_yes]; rfl
        refine ⟨h1, fun j hj0 hj hjin ha => ?_⟩
        refine Classical.byContradiction (fun hne => h2 (hbelow.2 ⟨j, hj0, hj, hjin, hne, ha⟩))
    · refine Ev.step (fun k_ => by rw [mergebase_best.j1]) ?_
      refine ev_neg (by decide) ?_
      refine hnext _ ?_
      rw [e1, e2, lst_no]
      exact fun h => h1 h.1

theorem best_ev {l : List C} {inn : List Bool} (hv : Valid l) (hil : inn.length = l.length) : Ev (fun k => mergebase_best.f k l inn) (lst (Bst l (fun x => rdOf false inn x = true)) l.length 0) := by
  have hv60 := hv.len
  unfold mergebase_best.f
  refine ev_pos (by omega) (ev_pos (by omega) ?_)
  rw [w64 (by omega)]
  have := best_l0 hv hil l.length ((l.length : Int) - 1) (List.replicate (l.length : Int).toNat false) (by omega) (by omega) (by simp) (fun x hx0 hx h => by rw [rdOf_replicate] at h; exact absurd h (by decide)) (fun j p hj h hp => by have := hp.2.1; omega)
  have e : ((l.length : Int) - 1 - ((l.length : Int) - 1)).toNat = 0 := by omega
  rw [e] at this
  exact this

/-- The first of a list's numbers that is no commit. -/
def obad (l : List C) (ns : List Int) : Nat → Int → Int × Int
  | 0, _ => (0, 0)
  | n + 1, q => if rd ns q < 0 ∨ rd ns q ≥ l.length then (6, q) else obad l ns n (q + 1)
theorem obad_zero {l : List C} {ns : List Int} : ∀ {n : Nat} {q : Int}, (obad l ns n q).1 = 0 → obad l ns n q = (0, 0) ∧ ∀ j, q ≤ j → j < q + n → 0 ≤ rd ns j ∧ rd ns j < l.length
  | 0, q, _ => ⟨rfl, fun j h1 h2 => by omega⟩
  | n + 1, q, h => by
    unfold obad at h ⊢
    by_cases c : rd ns q < 0 ∨ rd ns q ≥ l.length
    · rw [if_pos c] at h; exact absurd h (by simp)
    · rw [if_neg c] at h ⊢
      obtain ⟨h1, h2⟩ := obad_zero h
      refine ⟨h1, fun j hj hj' => ?_⟩
      by_cases e : j = q
      · subst e; omega
      · exact h2 j (by omega) (by omega)
theorem obad_six {l : List C} {ns : List Int} : ∀ {n : Nat} {q : Int}, (obad l ns n q).1 ≠ 0 → (obad l ns n q).1 = 6 ∧ ∃ j, q ≤ j ∧ j < q + n ∧ (rd ns j < 0 ∨ rd ns j ≥ l.length)
  | 0, q, h => absurd rfl h
  | n + 1, q, h => by
    unfold obad at h ⊢
    by_cases c : rd ns q < 0 ∨ rd ns q ≥ l.length
    · rw [if_pos c]; exact ⟨rfl, q, Int.le_refl _, by omega, c⟩
    · rw [if_neg c] at h ⊢
      obtain ⟨h1, j, h2, h3, h4⟩ := obad_six h
      exact ⟨h1, j, by omega, by omega, h4⟩

/-- A common ancestor of all of a list's commits. -/
def Com (l : List C) (ns : List Int) (x : Int) : Prop := ∀ n ∈ ns, Anc l n x
noncomputable def commons (l : List C) (ns : List Int) : List Int := lst (Bst l (Com l ns)) l.length 0
noncomputable def octo (l : List C) (ns : List Int) : List Int × Int × Int :=
  if (vf l).1 ≠ 0 then ([], vf l) else if (ns.length : Int) = 0 ∨ (ns.length : Int) > 60 then ([], 9, -1) else if (obad l ns ns.length 0).1 ≠ 0 then ([], obad l ns ns.length 0) else (commons l ns, 0, 0)

theorem oct_l2 {l : List C} {ns : List Int} {i2 : List Bool} {q : Int} {R : List Int × Int × Int} (hlen : (l.length : Int) ≤ 60) (h2 : i2.length = l.length) :
    ∀ (m : Nat) (i : Int) (o : List Bool), 0 ≤ i → i + m = l.length → o.length = l.length →
      (∀ o' : List Bool, o'.length = l.length → (∀ x : Int, 0 ≤ x → x < l.length → (rdOf false o' x = true ↔ (rdOf false o x = true ∧ (i ≤ x → rdOf false i2 x = true)))) → Ev (fun k => mergebase_Octopus.l1 k l o' ns (ns.length : Int) (wrap64 (q + 1))) R) →
      Ev (fun k => mergebase_Octopus.l2 k l o i2 ns (ns.length : Int) q (l.length : Int) i) R := by
  intro m
  induction m with
  | zero =>
    intro i o h0 hi hl hR
    refine Ev.step (fun k_ => by rw [mergebase_Octopus.l2]) ?_
    refine ev_neg (by omega) ?_
    exact hR o hl (fun x hx0 hx => ⟨fun h => ⟨h, fun h' => by omega⟩, fun h => h.1⟩)
  | succ m ih =>
    intro i o h0 hi hl hR
    refine Ev.step (fun k_ => by rw [mergebase_Octopus.l2]) ?_
    refine ev_pos (by omega) (ev_pos (by omega) (ev_pos (by omega) ?_))
    rw [w64 (x := i + 1) (by omega)]
    have key : ∀ b : Bool, b = (rdOf false o i && rdOf false i2 i) → Ev (fun k => mergebase_Octopus.l2 k l (o.set i.toNat b) i2 ns (ns.length : Int) q (l.length : Int) (i + 1)) R := by
      intro b hb
      refine ih (i + 1) _ (by omega) (by omega) (by rw [List.length_set]; exact hl) (fun o' hl' ho' => hR o' hl' (fun x hx0 hx => ?_))
      rw [ho' x hx0 hx, rdOf_set false o b h0 (by omega) hx0]
      by_cases e : x = i
      · subst e
        rw [if_pos rfl, hb, Bool.and_eq_true]
        exact ⟨fun h => ⟨h.1.1, fun _ => h.1.2⟩, fun h => ⟨⟨h.1, h.2 (Int.le_refl _)⟩, fun h' => by omega⟩⟩
      · rw [if_neg e]
        exact ⟨fun h => ⟨h.1, fun h' => h.2 (by omega)⟩, fun h => ⟨h.1, fun h' => h.2 (by omega)⟩⟩
    refine ev_cases (fun h1 => ev_pos (by omega) ?_) (fun h1 => ?_)
    · exact key _ (by rw [h1, Bool.true_and])
    · exact key _ (by rw [show rdOf false o i = false by simpa using h1, Bool.false_and])

theorem oct_l1 {l : List C} {ns : List Int} (hp : ∀ x ∈ l, S49.ok x) (hv : Valid l) (hvz : vf l = (0, 0)) (hns : (ns.length : Int) ≤ 60) :
    ∀ (m : Nat) (q : Int) (o : List Bool), 0 ≤ q → q + m = ns.length → o.length = l.length → (∀ x : Int, 0 ≤ x → x < l.length → (rdOf false o x = true ↔ ∀ j, 0 ≤ j → j < q → Anc l (rd ns j) x)) →
      Ev (fun k => mergebase_Octopus.l1 k l o ns (ns.length : Int) q) (if (obad l ns m q).1 ≠ 0 then ([], obad l ns m q) else (commons l ns, 0, 0)) := by
  have hv60 := hv.len
  intro m
  induction m with
  | zero =>
    intro q o h0 hq hl ho
    refine Ev.step (fun k_ => by rw [mergebase_Octopus.l1]) ?_
    refine ev_neg (by omega) ?_
    refine ev_bind (best_ev hv hl) ?_
    rw [if_neg (by simp [obad])]
    have e : lst (Bst l (fun x => rdOf false o x = true)) l.length 0 = commons l ns := by
      have hQ : ∀ x : Int, 0 ≤ x → x < l.length → (rdOf false o x = true ↔ Com l ns x) := fun x hx0 hx => by
        rw [ho x hx0 hx]
        constructor
        · intro h n hn
          obtain ⟨j, hj0, hj, rfl⟩ := mem_rd hn
          exact h j hj0 (by omega)
        · intro h j hj0 hj
          exact h _ (rd_mem hj0 (by omega))
      refine lst_congr (fun x hx0 hx => ?_)
      constructor
      · rintro ⟨h1, h2⟩
        exact ⟨(hQ x hx0 (by omega)).1 h1, fun j hj0 hj hjq ha => h2 j hj0 hj ((hQ j hj0 hj).2 hjq) ha⟩
      · rintro ⟨h1, h2⟩
        exact ⟨(hQ x hx0 (by omega)).2 h1, fun j hj0 hj hjq ha => h2 j hj0 hj ((hQ j hj0 hj).1 hjq) ha⟩
    rw [e]; exact ev_now _
  | succ m ih =>
    intro q o h0 hq hl ho
    refine Ev.step (fun k_ => by rw [mergebase_Octopus.l1]) ?_
    refine ev_pos (by omega) (ev_pos (by omega) (ev_pos (by omega) ?_))
    refine ev_bind (ancestors_ev hp _) ?_
    unfold ancR
    rw [hvz, if_neg (by decide)]
    by_cases c : rd ns q < 0 ∨ rd ns q ≥ l.length
    · rw [if_pos c]
      refine ev_pos (by decide) ?_
      have e : obad l ns (m + 1) q = (6, q) := by simp only [obad]; rw [if_pos c]
      rw [e]; exact ev_now _
    · have e : obad l ns (m + 1) q = obad l ns m (q + 1) := by
        show (if rd ns q < 0 ∨ rd ns q ≥ l.length then (6, q) else obad l ns m (q + 1)) = _
        rw [if_neg c]
      rw [if_neg c, e]
      refine ev_neg (by simp) ?_
      have hol : (o.length : Int) = l.length := by omega
      rw [hol]
      refine oct_l2 (by omega) (ancs_length _ _) l.length 0 o (by omega) (by omega) hl (fun o' hl' ho' => ?_)
      rw [w64 (by omega)]
      refine ih (q + 1) o' (by omega) (by omega) hl' (fun x hx0 hx => ?_)
      rw [ho' x hx0 hx, ho x hx0 hx]
      have ha : rdOf false (ancs l (rd ns q)) x = true ↔ Anc l (rd ns q) x := ancs_rd hx0 hx
      constructor
      · rintro ⟨h1, h2⟩ j hj0 hj
        by_cases e : j = q
        · subst e; exact ha.1 (h2 hx0)
        · exact h1 j hj0 (by omega)
      · intro h
        exact ⟨fun j hj0 hj => h j hj0 (by omega), fun _ => ha.2 (h q h0 (by omega))⟩

theorem oct_l0 {l : List C} {ns : List Int} {R : List Int × Int × Int} (hlen : (l.length : Int) ≤ 60) (hR : ∀ o' : List Bool, o'.length = l.length → (∀ x : Int, 0 ≤ x → x < l.length → rdOf false o' x = true) → Ev (fun k => mergebase_Octopus.l1 k l o' ns (ns.length : Int) 0) R) :
    ∀ (m : Nat) (q : Int) (o : List Bool), 0 ≤ q → q + m = l.length → o.length = l.length → (∀ x : Int, 0 ≤ x → x < q → rdOf false o x = true) → Ev (fun k => mergebase_Octopus.l0 k l ns o (l.length : Int) q) R := by
  intro m
  induction m with
  | zero =>
    intro q o h0 hq hl ho
    refine Ev.step (fun k_ => by rw [mergebase_Octopus.l0]) ?_
    refine ev_neg (by omega) ?_
    exact hR o hl (fun x hx0 hx => ho x hx0 (by omega))
  | succ m ih =>
    intro q o h0 hq hl ho
    refine Ev.step (fun k_ => by rw [mergebase_Octopus.l0]) ?_
    refine ev_pos (by omega) (ev_pos (by omega) (ev_pos (by omega) ?_))
    rw [w64 (by omega)]
    refine ih (q + 1) _ (by omega) (by omega) (by rw [List.length_set]; exact hl) (fun x hx0 hx => ?_)
    rw [rdOf_set false o true h0 (by omega) hx0]
    by_cases e : x = q
    · rw [if_pos e]
    · rw [if_neg e]; exact ho x hx0 (by omega)

theorem octopus_ev {l : List C} {ns : List Int} (hp : ∀ x ∈ l, S49.ok x) : Ev (fun k => mergebase_Octopus.f k l ns) (octo l ns) := by
  unfold mergebase_Octopus.f octo
  refine ev_bind (validate_ev hp) ?_
  by_cases h : (vf l).1 ≠ 0
  · rw [if_pos h]
    refine ev_pos (flt_yes h) ?_
    exact ev_now _
  · obtain ⟨e, hv⟩ := vf_zero (Decidable.not_not.1 h)
    have hv60 := hv.len
    rw [if_neg h, e]
    refine ev_neg (by decide) ?_
    refine ev_cases (fun h1 => ?_) (fun h1 => ?_)
    · refine Ev.step (fun k_ => by rw [mergebase_Octopus.j0]) ?_
      refine ev_pos rfl ?_
      rw [if_pos (Or.inl h1)]; exact ev_now _
    · refine Ev.step (fun k_ => by rw [mergebase_Octopus.j0]) ?_
      refine ev_cases (fun h2 => ?_) (fun h2 => ?_)
      · rw [if_pos (Or.inr (of_decide_eq_true h2))]; exact ev_now _
      · have h2' : ¬ (ns.length : Int) > 60 := by simpa using h2
        rw [if_neg (by omega)]
        refine ev_pos (by omega) (ev_pos (by omega) (ev_some ?_))
        have hlr : ((List.replicate (l.length : Int).toNat false).length : Int) = l.length := by simp
        rw [hlr]
        refine oct_l0 (by omega) (fun o' hl' ho' => ?_) l.length 0 _ (by omega) (by omega) (by simp) (fun x hx0 hx => by omega)
        exact oct_l1 hp hv e (by omega) ns.length 0 o' (by omega) (by omega) hl' (fun x hx0 hx => ⟨fun _ j hj0 hj => by omega, fun _ => ho' x hx0 hx⟩)

theorem bases_ev {l : List C} {a b : Int} (hp : ∀ x ∈ l, S49.ok x) : Ev (fun k => mergebase_Bases.f k l a b) (octo l [a, b]) := by
  unfold mergebase_Bases.f
  exact ev_bind (octopus_ev hp) (ev_now _)

open Classical in
noncomputable def isancR (l : List C) (a b : Int) : Bool × Int × Int :=
  if (vf l).1 ≠ 0 then (false, vf l) else if a < 0 ∨ a ≥ l.length then (false, 6, 0) else if b < 0 ∨ b ≥ l.length then (false, 6, 1) else (decide (Anc l b a), 0, 0)

open Classical in
theorem isanc_ev {l : List C} {a b : Int} (hp : ∀ x ∈ l, S49.ok x) : Ev (fun k => mergebase_IsAncestor.f k l a b) (isancR l a b) := by
  unfold mergebase_IsAncestor.f isancR
  refine ev_bind (validate_ev hp) ?_
  by_cases h : (vf l).1 ≠ 0
  · rw [if_pos h]
    refine ev_pos (flt_yes h) ?_
    exact ev_now _
  · obtain ⟨e, hv⟩ := vf_zero (Decidable.not_not.1 h)
    rw [if_neg h, e]
    refine ev_neg (by decide) ?_
    refine ev_cases (fun h1 => ?_) (fun h1 => ?_)
    · refine Ev.step (fun k_ => by rw [mergebase_IsAncestor.j0]) ?_
      refine ev_pos rfl ?_
      rw [if_pos (Or.inl h1)]; exact ev_now _
    · refine Ev.step (fun k_ => by rw [mergebase_IsAncestor.j0]) ?_
      refine ev_cases (fun h2 => ?_) (fun h2 => ?_)
      · rw [if_pos (Or.inr (of_decide_eq_true h2))]; exact ev_now _
      · have h2' : ¬ a ≥ (l.length : Int) := by simpa using h2
        rw [if_neg (by omega)]
        refine ev_bind (ancestors_ev hp _) ?_
        unfold ancR
        rw [e, if_neg (show ¬ ((0, 0) : Int × Int).1 ≠ 0 by decide)]
        by_cases c : b < 0 ∨ b ≥ l.length
        · rw [if_pos c, if_pos c]
          refine ev_pos (by decide) ?_
          exact ev_now _
        · rw [if_neg c, if_neg c]
          refine ev_neg (by simp) (ev_pos (by omega) (ev_pos (by rw [ancs_length]; omega) ?_))
          have ha := ancs_rd (l := l) (n := b) (m := a) (by omega) (by omega)
          have e3 : rdOf false (ancs l b) a = decide (Anc l b a) := by
            rw [Bool.eq_iff_iff, ha, decide_eq_true_eq]
          rw [e3]; exact ev_now _

theorem mbexample_ev : Ev (fun k => changeforgelaw3_mergebaseExample.f k) true :=
  Ev.of (fun k => changeforgelaw3_mergebaseExample.mono k) (k := 120) (by decide +kernel)
end Go.Proofs.Ytojhnjgnpjoacaa.Hist
