/- Texts of the proofs of 3 statements: what the printed functions come to, plain laws, rows (no condition beyond the statements' own). -/
import Derived.Test.YtnmkmamobhkcbaaGObj4
/- Stores as sets: what an accepted Put does. -/
namespace Go.Proofs.Ytnmkmamobhkcbaa.Obj
open Go.RowKit Go.Proofs.YtnmkmamobhkcbaaW.PrintWords Go.Proofs.YtnmkmamobhkcbaaW.PrintEv Go.Proofs.Ytnmkmamobhkcbaa.P Go.Proofs.Ytnmkmamobhkcbaa.Dig
set_option linter.unusedVariables false

theorem bytes_inj {a b : List Int} (ha : Bytes a) (hb : Bytes b) (h : ((strOfNums a).toList == (strOfNums b).toList) = true) : a = b := by
  have h := eq_of_beq h
  rw [Lib.strOfNums_toList, Lib.strOfNums_toList] at h
  have key : ∀ {l : List Int}, Bytes l → (l.map fun n => UInt8.ofNat n.toNat).map (fun b => (b.toNat : Int)) = l := by
    intro l hl
    rw [List.map_map]
    conv => rhs; rw [← List.map_id l]
    apply List.map_congr_left
    intro x hx
    have := hl x hx
    simp [UInt8.toNat_ofNat']
    omega
  have h2 : (a.map fun n => UInt8.ofNat n.toNat) = (b.map fun n => UInt8.ofNat n.toNat) := h
  rw [← key ha, ← key hb, h2]
theorem same_eq {a b : O} (ha : Bytes a.f2) (hb : Bytes b.f2) (h : sameO a b = true) : a = b := by
  unfold sameO same at h
  simp only [Bool.and_eq_true, decide_eq_true_eq] at h
  obtain ⟨h1, h2, h3⟩ := h
  have h4 := bytes_inj ha hb h3
  cases a
  cases b
  simp only at h1 h2 h4
  subst h1 h2 h4
  rfl
section
variable {l r : List SO} {o p : O}
theorem at_nat {l : List SO} {n : Nat} (h : n < l.length) : at_ l (n : Int) = l[n] := rdOf_nat _ l h
theorem mem_at {l : List SO} {x : SO} (h : x ∈ l) : ∃ j : Int, 0 ≤ j ∧ j < l.length ∧ at_ l j = x := by
  obtain ⟨n, hn, rfl⟩ := List.mem_iff_getElem.1 h
  exact ⟨n, by omega, by omega, at_nat hn⟩
theorem pw_of (hs : Store l) : l.Pairwise (fun a b => a.f0 < b.f0) := by
  rw [List.pairwise_iff_getElem]
  intro i j hi hj hij
  rw [← at_nat hi, ← at_nat hj]
  exact asc_all hs (by omega) (by omega) (by omega)
/-- Two rising lists that hold the same are one list. -/
theorem sorted_eq : ∀ {a b : List SO}, a.Pairwise (fun x y => x.f0 < y.f0) → b.Pairwise (fun x y => x.f0 < y.f0) → (∀ x, x ∈ a ↔ x ∈ b) → a = b
  | [], [], _, _, _ => rfl
  | [], y :: b, _, _, h => by have := (h y).2 List.mem_cons_self; cases this
  | x :: a, [], _, _, h => by have := (h x).1 List.mem_cons_self; cases this
  | x :: a, y :: b, ha, hb, h => by
    obtain ⟨ha1, ha2⟩ := List.pairwise_cons.1 ha
    obtain ⟨hb1, iV⟩ := List.pairwise_cons.1 hb
    have e : x = y := by
      rcases List.mem_cons.1 ((h x).1 List.mem_cons_self) with e | e
      · exact e
      · rcases List.mem_cons.1 ((h y).2 List.mem_cons_self) with e2 | e2
        · exact e2.symm
        · have := hb1 x e
          have := ha1 y e2
          omega
    subst e
    rw [sorted_eq ha2 iV (fun z => ?_)]
    have hz := h z
    constructor
    · intro hm
      rcases List.mem_cons.1 (hz.1 (List.mem_cons_of_mem _ hm)) with e | e
      · subst e
        have := ha1 z hm
        omega
      · exact e
    · intro hm
      rcases List.mem_cons.1 (hz.2 (List.mem_cons_of_mem _ hm)) with e | e
      · subst e
        have := hb1 z hm
        omega
      · exact e
theorem store_of (hl : (l.length : Int) ≤ 40) (hg : ∀ x ∈ l, bS0 x ∧ od1 x = x.f0) (hp : l.Pairwise (fun a b => a.f0 < b.f0)) : Store l := by
  refine ⟨hl, fun i h0 h1 => hg _ (at_mem h0 h1), fun i h0 h1 => ?_⟩
  obtain ⟨n, rfl⟩ := Int.eq_ofNat_of_zero_le (show 0 ≤ i by omega)
  have := List.pairwise_iff_getElem.1 hp (n - 1) n (by omega) (by omega) (by omega)
  rw [← at_nat (l := l) (n := n - 1) (by omega), ← at_nat (l := l) (n := n) (by omega)] at this
  rwa [show ((n - 1 : Nat) : Int) = (n : Int) - 1 by omega] at this
theorem good_mem (hs : Store l) {x : SO} (hx : x ∈ l) : bS0 x ∧ od1 x = x.f0 := by
  obtain ⟨j, h0, h1, rfl⟩ := mem_at hx
  exact hs.good j h0 h1
theorem dig_inj (hs : Store l) {x y : SO} (hx : x ∈ l) (hy : y ∈ l) (h : x.f0 = y.f0) : x = y := by
  obtain ⟨i, h0, h1, rfl⟩ := mem_at hx
  obtain ⟨j, g0, g1, rfl⟩ := mem_at hy
  rcases Int.lt_trichotomy i j with c | c | c
  · have := asc_all hs h0 c g1; omega
  · rw [c]
  · have := asc_all hs g0 c h1; omega
/-- The stored form of an object. -/
def new_ (o : O) : SO := mk1 (odo o) o
/-- An object may be put into a store. -/
def Can (l : List SO) (o : O) : Prop := (∀ y ∈ l, y.f0 = odo o → y = new_ o) ∧ (new_ o ∈ l ∨ (l.length : Int) < 40)
/-- A store with an object put in. -/
structure Puts (l : List SO) (o : O) (r : List SO) : Prop where
  store : Store r
  mem : ∀ y, y ∈ r ↔ y ∈ l ∨ y = new_ o
  len : (new_ o ∈ l → r.length = l.length) ∧ (new_ o ∉ l → r.length = l.length + 1)
theorem ins_pw (hs : Store l) {i : Nat} (hf : Found l (odo o) i false) : (l.take i ++ [new_ o] ++ l.drop i).Pairwise (fun a b => a.f0 < b.f0) := by
  have hd := odg_lt o.f0 o.f1 o.f2
  have hle := hf.le
  have low : ∀ x ∈ l.take i, x.f0 < odo o := fun x hx => by
    obtain ⟨n, hn, rfl⟩ := List.mem_iff_getElem.1 hx
    have hn' : n < i ∧ n < l.length := by rw [List.length_take] at hn; omega
    rw [List.getElem_take, ← at_nat hn'.2]
    exact hf.low hd.1 hd.2 (n : Int) (by omega) (by omega)
  have high : ∀ x ∈ l.drop i, odo o < x.f0 := fun x hx => by
    obtain ⟨n, hn, rfl⟩ := List.mem_iff_getElem.1 hx
    have hn' : i + n < l.length := by rw [List.length_drop] at hn; omega
    rw [List.getElem_drop, ← at_nat hn']
    have h1 := hf.high hd.1 hd.2 ((i + n : Nat) : Int) (by omega) (by omega)
    have h2 := hf.no rfl ((i + n : Nat) : Int) (by omega) (by omega)
    have : odo o ≤ (at_ l ((i + n : Nat) : Int)).f0 := h1
    have : (at_ l ((i + n : Nat) : Int)).f0 ≠ odo o := h2
    omega
  have hp := pw_of hs
  rw [← List.take_append_drop i l] at hp
  obtain ⟨p1, p2, p3⟩ := List.pairwise_append.1 hp
  rw [List.append_assoc]
  refine List.pairwise_append.2 ⟨p1, List.pairwise_append.2 ⟨List.pairwise_singleton _ _, p2, fun a ha b hb => ?_⟩, fun a ha b hb => ?_⟩
  · obtain rfl := List.mem_singleton.1 ha
    exact high b hb
  · rcases List.mem_append.1 hb with hb | hb
    · obtain rfl := List.mem_singleton.1 hb
      exact low a ha
    · exact p3 a ha b hb
theorem put_can (hp : ∀ x ∈ l, fB.ok x) (hb : Bytes o.f2) (hs : Store l) (g : Good o.f0 o.f1 o.f2) {i : Nat} {b : Bool} (hf : Found l (odo o) i b) :
    (Can l o ∧ (putF l o i b).2.2.1 = 0 ∧ (putF l o i b).2.1 = odo o ∧ Puts l o (putF l o i b).1) ∨ (¬ Can l o ∧ (putF l o i b).2.2.1 ≠ 0 ∧ (putF l o i b).1 = []) := by
  have hl := hs.len
  unfold putF
  cases b with
  | true =>
    obtain ⟨hy, hd⟩ := hf.yes rfl
    have hm : at_ l (i : Int) ∈ l := at_mem (by omega) (by omega)
    rw [if_pos rfl]
    by_cases hsm : sameO (at_ l (i : Int)).f1 o = true
    · have e : at_ l (i : Int) = new_ o := by
        have e1 := same_eq (ok_bytes (hp _ hm)) hb hsm
        show at_ l (i : Int) = ⟨odo o, o⟩
        rw [← hd, ← e1]
      have hin : new_ o ∈ l := e ▸ hm
      rw [if_pos hsm]
      refine .inl ⟨⟨fun y hy he => dig_inj hs hy hin he, .inl hin⟩, rfl, rfl, hs, fun y => ⟨fun h => .inl h, fun h => h.elim id (fun h => h ▸ hin)⟩, fun _ => rfl, fun h => absurd hin h⟩
    · rw [if_neg hsm]
      refine .inr ⟨fun hc => hsm ?_, show ¬ (19 : Int) = 0 by decide, rfl⟩
      rw [hc.1 _ hm hd]
      exact same_refl _ _ _
  | false =>
    have hni : new_ o ∉ l := fun h => by
      obtain ⟨j, h0, h1, e⟩ := mem_at h
      exact hf.no rfl j h0 h1 (by rw [e]; rfl)
    rw [if_neg (by decide)]
    by_cases c : (l.length : Int) = 40
    · rw [if_pos c]
      exact .inr ⟨fun hc => hc.2.elim hni (fun h => by omega), show ¬ (14 : Int) = 0 by decide, rfl⟩
    · rw [if_neg c]
      have hlen : (l.take i ++ [new_ o] ++ l.drop i).length = l.length + 1 := by
        have := hf.le
        simp only [List.length_append, List.length_take, List.length_drop, List.length_cons, List.length_nil]
        omega
      have hmem : ∀ y, y ∈ l.take i ++ [new_ o] ++ l.drop i ↔ y ∈ l ∨ y = new_ o := fun y => by
        have : y ∈ l ↔ y ∈ l.take i ∨ y ∈ l.drop i := by
          conv => lhs; rw [← List.take_append_drop i l]
          exact List.mem_append
        rw [this, List.mem_append, List.mem_append, List.mem_singleton]
        constructor
        · rintro ((h | h) | h)
          · exact .inl (.inl h)
          · exact .inr h
          · exact .inl (.inr h)
        · rintro ((h | h) | h)
          · exact .inl (.inl h)
          · exact .inr h
          · exact .inl (.inr h)
      refine .inl ⟨⟨fun y hy he => ?_, .inr (by omega)⟩, rfl, rfl, store_of (by show ((l.take i ++ [new_ o] ++ l.drop i).length : Int) ≤ 40; omega) (fun x hx => ?_) (ins_pw hs hf), hmem, fun h => absurd h hni, fun _ => hlen⟩
      · obtain ⟨j, h0, h1, e⟩ := mem_at hy
        exact absurd (e ▸ he) (hf.no rfl j h0 h1)
      · rcases (hmem x).1 hx with h | h
        · exact good_mem hs h
        · subst h; exact ⟨g, rfl⟩
theorem puts_eq {r' : List SO} {l1 l2 : List SO} {o1 o2 : O} (h1 : Puts l1 o1 r) (h2 : Puts l2 o2 r') (h : ∀ y, (y ∈ l1 ∨ y = new_ o1) ↔ (y ∈ l2 ∨ y = new_ o2)) : r = r' :=
  sorted_eq (pw_of h1.store) (pw_of h2.store) (fun x => by rw [h1.mem, h2.mem]; exact h x)
/-- Two objects that may be put one after the other may be put in the other order. -/
theorem can_swap {a : List SO} (h1 : Can l o) (ha : Puts l o a) (h2 : Can a p) : Can l p ∧ ∀ c, Puts l p c → Can c o := by
  have hlo := ha.len
  refine ⟨⟨fun y hy he => h2.1 y ((ha.mem y).2 (.inl hy)) he, ?_⟩, fun c hc => ⟨fun y hy he => ?_, ?_⟩⟩
  · by_cases hpl : new_ p ∈ l
    · exact .inl hpl
    · right
      by_cases hol : new_ o ∈ l
      · have := hlo.1 hol
        rcases h2.2 with h | h
        · rcases (ha.mem _).1 h with h | h
          · exact absurd h hpl
          · exact absurd (h ▸ hol) hpl
        · omega
      · rcases h1.2 with h | h
        · exact absurd h hol
        · exact h
  · rcases (hc.mem y).1 hy with h | h
    · exact h1.1 y h he
    · subst h
      exact (h2.1 (new_ o) ((ha.mem _).2 (.inr rfl)) he.symm).symm
  · by_cases hol : new_ o ∈ l
    · exact .inl ((hc.mem _).2 (.inl hol))
    · by_cases e : new_ o = new_ p
      · exact .inl ((hc.mem _).2 (.inr e))
      · right
        have h3 := hlo.2 hol
        by_cases hpl : new_ p ∈ l
        · have := hc.len.1 hpl
          rcases h1.2 with h | h
          · exact absurd h hol
          · omega
        · have := hc.len.2 hpl
          rcases h2.2 with h | h
          · rcases (ha.mem _).1 h with h | h
            · exact absurd h hpl
            · exact absurd h.symm e
          · omega
theorem ok_new (ho : S44.ok o) : fB.ok (new_ o) := by
  refine ⟨?_, ho⟩
  have := odg_lt o.f0 o.f1 o.f2
  show (Lit.int .i64 (odg o.f0 o.f1 o.f2)).wf = true
  simp [Lit.wf, IntKind.min, IntKind.max, IntKind.bits, IntKind.signed]
  omega
theorem puts_ok (hp : ∀ x ∈ l, fB.ok x) (ho : S44.ok o) (h : Puts l o r) : ∀ x ∈ r, fB.ok x := fun x hx => by
  rcases (h.mem x).1 hx with h | h
  · exact hp x h
  · exact h ▸ ok_new ho
theorem store_sf (hp : ∀ x ∈ l, fB.ok x) (hs : Store l) : sf l = (0, 0) := by
  have key : ∀ (m : Nat) (i : Int), 0 ≤ i → i + m = l.length → sfl l m i = (0, 0) := by
    intro m
    induction m with
    | zero => intro i _ _; rfl
    | succ m ih =>
      intro i h0 hi
      obtain ⟨g, e⟩ := hs.good i h0 (by omega)
      have hof : of1 (at_ l i) = (0, 0) := by
        unfold of1 oflt
        have g1 := g.kind
        have g2 := g.nl
        have g3 := g.nd
        rw [if_neg (by omega), if_neg (by omega), if_neg (by omega), if_neg (fun h => by have := g.blob h.1; rw [this] at h; simp at h)]
        have lk : ∀ (ls : List Int) (q : Int), (∀ x ∈ ls, 0 ≤ x ∧ x < 2305843009213693951) → lflt ls q = (0, 0) := by
          intro ls
          induction ls with
          | nil => intro q _; rfl
          | cons y ls ih2 =>
            intro q hq
            have := hq y List.mem_cons_self
            unfold lflt
            rw [if_neg (by omega)]
            exact ih2 _ (fun x hx => hq x (List.mem_cons_of_mem _ hx))
        exact lk _ 0 g.link
      unfold sfl
      rw [hof, if_neg (by simp), if_neg (not_not_intro e), if_neg (fun h => by have := hs.asc i h.1 (by omega); omega)]
      exact ih (i + 1) (by omega) (by omega)
  have hl := hs.len
  unfold sf
  rw [if_neg (by omega)]
  exact key l.length 0 (by omega) (by omega)
theorem obj_bytes (ho : S44.ok o) : Bytes o.f2 := by
  intro b hb
  have := ho.2.2.2 b hb
  simp [Lit.wf, IntKind.min, IntKind.max, IntKind.bits, IntKind.signed] at this
  omega
/-- Put: refused, or accepted. -/
theorem put_sum (hp : ∀ x ∈ l, fB.ok x) (ho : S44.ok o) :
    (∃ c q, c ≠ 0 ∧ Ev (fun k => objects_Put.f k l o.f0 o.f1 o.f2) ([], 0, c, q) ∧ ¬ (Store l ∧ Good o.f0 o.f1 o.f2 ∧ Can l o)) ∨
    (∃ r, Store l ∧ Good o.f0 o.f1 o.f2 ∧ Can l o ∧ Puts l o r ∧ Ev (fun k => objects_Put.f k l o.f0 o.f1 o.f2) (r, odo o, 0, 0)) := by
  have hb := obj_bytes ho
  rcases put_ev (o := o) hp hb with ⟨h, he⟩ | ⟨e, hv, h2, he⟩ | ⟨e, hv, e2, g, i, b, hf, he⟩
  · refine .inl ⟨(sf l).1, (sf l).2, h, he, fun hh => h ?_⟩
    rw [store_sf hp hh.1]
  · refine .inl ⟨(ofo o).1, -1, h2, he, fun hh => h2 ?_⟩
    have := store_sf (l := [new_ o]) (fun x hx => by rw [List.mem_singleton.1 hx]; exact ok_new ho) (store_of (by simp) (fun x hx => by rw [List.mem_singleton.1 hx]; exact ⟨hh.2.1, rfl⟩) (List.pairwise_singleton _ _))
    have h3 : sfl [new_ o] 1 0 = (0, 0) := this
    unfold sfl at h3
    by_cases c : (of1 (at_ [new_ o] 0)).1 ≠ 0
    · rw [if_pos c] at h3
      exact absurd (congrArg Prod.fst h3) c
    · exact Decidable.not_not.1 c
  · rcases put_can hp hb hv g hf with ⟨h1, h2, h3, h4⟩ | ⟨h1, h2, h3⟩
    · refine .inr ⟨_, hv, g, h1, h4, ?_⟩
      have e4 : putF l o i b = ((putF l o i b).1, odo o, 0, 0) := by
        have : (putF l o i b).2.2.2 = 0 := by
          unfold putF at h2 ⊢
          split at h2 <;> rename_i c
          · split at h2 <;> rename_i c2
            · rw [if_pos c, if_pos c2]
            · exact absurd h2 (show ¬ (19 : Int) = 0 by decide)
          · split at h2 <;> rename_i c2
            · exact absurd h2 (show ¬ (14 : Int) = 0 by decide)
            · rw [if_neg c, if_neg c2]
        exact Prod.ext rfl (Prod.ext h3 (Prod.ext h2 this))
      rw [e4] at he
      exact he
    · refine .inl ⟨(putF l o i b).2.2.1, (putF l o i b).2.2.2, h2, ?_, fun hh => h1 hh.2.2⟩
      have e4 : putF l o i b = ([], 0, (putF l o i b).2.2.1, (putF l o i b).2.2.2) := by
        have : (putF l o i b).2.1 = 0 := by
          unfold putF at h2 ⊢
          split at h2 <;> rename_i c
          · split at h2 <;> rename_i c2
            · exact absurd rfl h2
            · rw [if_pos c, if_neg c2]
          · split at h2 <;> rename_i c2
            · rw [if_neg c, if_pos c2]
            · exact absurd rfl h2
        exact Prod.ext h3 (Prod.ext this rfl)
      rw [e4] at he
      exact he
end
end Go.Proofs.Ytnmkmamobhkcbaa.Obj
