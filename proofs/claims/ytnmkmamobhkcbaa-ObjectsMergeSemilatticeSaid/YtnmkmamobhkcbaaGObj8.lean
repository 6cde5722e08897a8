/- Texts of the proofs of ObjectsMergeMatchesSpec, ObjectsMergeSemilattice: what the printed functions come to, plain laws, rows (no condition beyond the statements' own). -/
import Derived.Test.YtnmkmamobhkcbaaGObj6
import Derived.Test.YtnmkmamobhkcbaaGP68
/- Stores merged: what the program's Merge comes to. -/
namespace Go.Proofs.Ytnmkmamobhkcbaa.Obj
open Go.RowKit Go.Proofs.YtnmkmamobhkcbaaW.PrintWords Go.Proofs.YtnmkmamobhkcbaaW.PrintEv Go.Proofs.Ytnmkmamobhkcbaa.P Go.Proofs.Ytnmkmamobhkcbaa.Dig
open Go.Proofs.YtnmkmamobhkcbaaW.PrintMore
set_option linter.unusedVariables false

/-- A rising list that may be longer than a store. -/
structure Big (l : List SO) : Prop where
  len : (l.length : Int) ≤ 100
  dig : ∀ x ∈ l, 0 ≤ x.f0 ∧ x.f0 < 2305843009213693951
  pw : l.Pairwise (fun x y => x.f0 < y.f0)
section
variable {l a b : List SO}
theorem Big.at_dig (hs : Big l) {i : Int} (h0 : 0 ≤ i) (h : i < l.length) : 0 ≤ (at_ l i).f0 ∧ (at_ l i).f0 < 2305843009213693951 := hs.dig _ (at_mem h0 h)
theorem Big.asc (hs : Big l) {i j : Int} (h0 : 0 ≤ i) (h : i < j) (hj : j < l.length) : (at_ l i).f0 < (at_ l j).f0 := by
  obtain ⟨n, rfl⟩ := Int.eq_ofNat_of_zero_le h0
  obtain ⟨m, rfl⟩ := Int.eq_ofNat_of_zero_le (show 0 ≤ j by omega)
  have := List.pairwise_iff_getElem.1 hs.pw n m (by omega) (by omega) (by omega)
  rwa [← at_nat (l := l) (n := n) (by omega), ← at_nat (l := l) (n := m) (by omega)] at this
theorem dNu (hs : Big l) {d : Int} (hd : -9223372036854775808 ≤ d ∧ d ≤ 9223372036854775807) : ∀ (m i j : Nat), j - i ≤ m → i ≤ j → j ≤ l.length →
    (0 ≤ d → d < 2305843009213693951 → ∀ q : Int, 0 ≤ q → q < i → (at_ l q).f0 < d) → (0 ≤ d → d < 2305843009213693951 → ∀ q : Int, (j : Int) ≤ q → q < l.length → d ≤ (at_ l q).f0) →
    ∃ (i' : Nat) (b : Bool), Ev (fun k => api_StoredObject_int.l0 k l d (l.length : Int) (i : Int) (j : Int)) ((i' : Int), b) ∧ Found l d i' b := by
  have hl := hs.len
  intro m
  induction m with
  | zero =>
    intro i j hm hij hj h1 h2
    have e : i = j := by omega
    subst e
    by_cases hn : i < l.length
    · have hx := hs.at_dig (i := (i : Int)) (by omega) (by omega)
      refine ⟨i, (wrap64 ((at_ l (i : Int)).f0 - d) == 0), ?_, by omega, fun hb => ⟨hn, (wrap_zero hx hd).1 (by simpa using hb)⟩, fun hb q q0 q1 he => ?_, h1, h2⟩
      · refine Ev.step (fun k_ => by rw [api_StoredObject_int.l0]) ?_
        refine ev_neg (by omega) (ev_pos (by omega) (ev_pos (by omega) (ev_pos (by omega) ?_)))
        exact ev_some (ev_now _)
      · have hq := hs.at_dig q0 q1
        rcases Int.lt_trichotomy q (i : Int) with c | c | c
        · have := h1 (by omega) (by omega) q q0 c; omega
        · subst c
          have := (wrap_zero hx hd).2 he
          rw [this] at hb
          simp at hb
        · have := hs.asc (i := (i : Int)) (j := q) (by omega) c q1
          have := h2 (by omega) (by omega) (i : Int) (by omega) (by omega)
          omega
    · refine ⟨i, false, ?_, by omega, fun hb => (by cases hb), fun hb q q0 q1 he => ?_, h1, h2⟩
      · refine Ev.step (fun k_ => by rw [api_StoredObject_int.l0]) ?_
        exact ev_neg (by omega) (ev_neg (by omega) (ev_now _))
      · have hq := hs.at_dig q0 q1
        have := h1 (by omega) (by omega) q q0 (by omega)
        omega
  | succ m ih =>
    intro i j hm hij hj h1 h2
    by_cases hlt : i < j
    · have hh : wrap64 ((IntKind.u64.wrap (wrap64 ((i : Int) + (j : Int)))) / 2) = (((i + j) / 2 : Nat) : Int) := by
        rw [w64 (x := (i : Int) + (j : Int)) (by omega), wu (x := (i : Int) + (j : Int)) (by omega), w64 (by omega)]
        omega
      have hx := hs.at_dig (i := (((i + j) / 2 : Nat) : Int)) (by omega) (by omega)
      by_cases hc : wrap64 ((at_ l (((i + j) / 2 : Nat) : Int)).f0 - d) < 0
      · obtain ⟨i', b, he, hf⟩ := ih ((i + j) / 2 + 1) j (by omega) (by omega) hj (fun d0 d1 q q0 q1 => by
          have hw : (at_ l (((i + j) / 2 : Nat) : Int)).f0 < d := by rw [w64 (by omega)] at hc; omega
          by_cases e : q = (((i + j) / 2 : Nat) : Int)
          · rw [e]; exact hw
          · have := hs.asc (i := q) (j := (((i + j) / 2 : Nat) : Int)) q0 (by omega) (by omega)
            omega) h2
        refine ⟨i', b, ?_, hf⟩
        refine Ev.step (fun k_ => by rw [api_StoredObject_int.l0]) ?_
        rw [hh, w64 (x := (((i + j) / 2 : Nat) : Int) + 1) (by omega)]
        exact ev_pos (by omega) (ev_pos (by omega) (ev_pos (by omega) (ev_some (ev_pos hc he))))
      · obtain ⟨i', b, he, hf⟩ := ih i ((i + j) / 2) (by omega) (by omega) (by omega) h1 (fun d0 d1 q q0 q1 => by
          have hw : d ≤ (at_ l (((i + j) / 2 : Nat) : Int)).f0 := by rw [w64 (by omega)] at hc; omega
          by_cases e : q = (((i + j) / 2 : Nat) : Int)
          · rw [e]; exact hw
          · have := hs.asc (i := (((i + j) / 2 : Nat) : Int)) (j := q) (by omega) (by omega) q1
            omega)
        refine ⟨i', b, ?_, hf⟩
        refine Ev.step (fun k_ => by rw [api_StoredObject_int.l0]) ?_
        rw [hh]
        exact ev_pos (by omega) (ev_pos (by omega) (ev_pos (by omega) (ev_some (ev_neg hc he))))
    · exact ih i j (by omega) hij hj h1 h2
theorem bigfind_ev (hs : Big l) {d : Int} (hd : -9223372036854775808 ≤ d ∧ d ≤ 9223372036854775807) : ∃ (i : Nat) (b : Bool), Ev (fun k => objects_find.f k l d) ((i : Int), b) ∧ Found l d i b := by
  obtain ⟨i, b, he, hf⟩ := dNu hs hd l.length 0 l.length (by omega) (by omega) (by omega) (fun _ _ q q0 q1 => by omega) (fun _ _ q q0 q1 => by omega)
  refine ⟨i, b, ?_, hf⟩
  unfold objects_find.f api_StoredObject_int.f
  exact ev_bind he (ev_now _)
theorem big_ins {y : SO} (hs : Big l) (hl : (l.length : Int) < 100) (hy : 0 ≤ y.f0 ∧ y.f0 < 2305843009213693951) {i : Nat} (hf : Found l y.f0 i false) :
    Big (l.take i ++ [y] ++ l.drop i) ∧ (∀ x, x ∈ l.take i ++ [y] ++ l.drop i ↔ x ∈ l ∨ x = y) ∧ (l.take i ++ [y] ++ l.drop i).length = l.length + 1 := by
  have hle := hf.le
  have low : ∀ x ∈ l.take i, x.f0 < y.f0 := fun x hx => by
    obtain ⟨n, hn, rfl⟩ := List.mem_iff_getElem.1 hx
    have hn' : n < i ∧ n < l.length := by rw [List.length_take] at hn; omega
    rw [List.getElem_take, ← at_nat hn'.2]
    exact hf.low hy.1 hy.2 (n : Int) (by omega) (by omega)
  have high : ∀ x ∈ l.drop i, y.f0 < x.f0 := fun x hx => by
    obtain ⟨n, hn, rfl⟩ := List.mem_iff_getElem.1 hx
    have hn' : i + n < l.length := by rw [List.length_drop] at hn; omega
    rw [List.getElem_drop, ← at_nat hn']
    have h1 := hf.high hy.1 hy.2 ((i + n : Nat) : Int) (by omega) (by omega)
    have h2 := hf.no rfl ((i + n : Nat) : Int) (by omega) (by omega)
    have : y.f0 ≤ (at_ l ((i + n : Nat) : Int)).f0 := h1
    have : (at_ l ((i + n : Nat) : Int)).f0 ≠ y.f0 := h2
    omega
  have hlen : (l.take i ++ [y] ++ l.drop i).length = l.length + 1 := by
    simp only [List.length_append, List.length_take, List.length_drop, List.length_cons, List.length_nil]
    omega
  have hmem : ∀ x, x ∈ l.take i ++ [y] ++ l.drop i ↔ x ∈ l ∨ x = y := fun x => by
    have : x ∈ l ↔ x ∈ l.take i ∨ x ∈ l.drop i := by
      conv => lhs; rw [← List.take_append_drop i l]
      exact List.mem_append
    rw [this, List.mem_append, List.mem_append, List.mem_singleton]
    constructor
    · rintro ((h | h) | h)
      · exact .inl (.inl h)
      · exact .inr h
      · exact .inl (.inr h)
    · rintro ((h | h) | h)
      · exact .inl (.inl h)
      · exact .inr h
      · exact .inl (.inr h)
  refine ⟨⟨by omega, fun x hx => ?_, ?_⟩, hmem, hlen⟩
  · rcases (hmem x).1 hx with h | h
    · exact hs.dig x h
    · rw [h]; exact hy
  · have hp := hs.pw
    rw [← List.take_append_drop i l] at hp
    obtain ⟨p1, p2, p3⟩ := List.pairwise_append.1 hp
    rw [List.append_assoc]
    refine List.pairwise_append.2 ⟨p1, List.pairwise_append.2 ⟨List.pairwise_singleton _ _, p2, fun a ha b hb => ?_⟩, fun a ha b hb => ?_⟩
    · obtain rfl := List.mem_singleton.1 ha
      exact high b hb
    · rcases List.mem_append.1 hb with hb | hb
      · obtain rfl := List.mem_singleton.1 hb
        exact low a ha
      · exact p3 a ha b hb
/-- The elements ahead of a place. -/
def Upto (l : List SO) (i : Int) (x : SO) : Prop := ∃ j : Int, 0 ≤ j ∧ j < i ∧ j < l.length ∧ at_ l j = x
theorem upto_next {i : Int} (h0 : 0 ≤ i) (h : i < l.length) (x : SO) : Upto l (i + 1) x ↔ Upto l i x ∨ x = at_ l i := by
  constructor
  · rintro ⟨j, j0, j1, j2, rfl⟩
    by_cases e : j = i
    · exact .inr (by rw [e])
    · exact .inl ⟨j, j0, by omega, j2, rfl⟩
  · rintro (⟨j, j0, j1, j2, rfl⟩ | rfl)
    · exact ⟨j, j0, by omega, j2, rfl⟩
    · exact ⟨i, h0, by omega, h, rfl⟩
theorem upto_all (x : SO) : Upto l (l.length : Int) x ↔ x ∈ l := by
  constructor
  · rintro ⟨j, j0, j1, j2, rfl⟩
    exact at_mem j0 j2
  · intro h
    obtain ⟨j, j0, j1, e⟩ := mem_at h
    exact ⟨j, j0, j1, j1, e⟩
theorem upto_none (x : SO) : ¬ Upto l 0 x := fun ⟨j, j0, j1, _⟩ => by omega
/-- An element whose digest is another's in a store. -/
def Bad (a : List SO) (y : SO) : Prop := ∃ x ∈ a, x.f0 = y.f0 ∧ x ≠ y
/-- The first conflict. -/
def Confl (a b : List SO) (q : Int) : Prop := 0 ≤ q ∧ q < b.length ∧ Bad a (at_ b q) ∧ ∀ j : Int, 0 ≤ j → j < q → ¬ Bad a (at_ b j)
def NoConf (a b : List SO) : Prop := ∀ j : Int, 0 ≤ j → j < b.length → ¬ Bad a (at_ b j)
theorem confl_eq {q q' : Int} (h : Confl a b q) (h' : Confl a b q') : q = q' := by
  rcases Int.lt_trichotomy q q' with c | c | c
  · exact absurd h.2.2.1 (h'.2.2.2 q h.1 c)
  · exact c
  · exact absurd h'.2.2.1 (h.2.2.2 q' h'.1 c)
theorem confl_no {q : Int} (h : Confl a b q) (h' : NoConf a b) : False := h' q h.1 h.2.1 h.2.2.1
/-- The union of two stores. -/
structure Un (a b r : List SO) : Prop where
  pw : r.Pairwise (fun x y => x.f0 < y.f0)
  mem : ∀ x, x ∈ r ↔ x ∈ a ∨ x ∈ b
theorem un_eq {a' b' r r' : List SO} (h : Un a b r) (h' : Un a' b' r') (e : ∀ x, (x ∈ a ∨ x ∈ b) ↔ (x ∈ a' ∨ x ∈ b')) : r = r' :=
  sorted_eq h.pw h'.pw (fun x => by rw [h.mem, h'.mem]; exact e x)
theorem fRk (ha : Store a) (hb : Store b) (oa : ∀ x ∈ a, fB.ok x) (ob : ∀ x ∈ b, fB.ok x) : ∀ (m i : Nat) (out : List SO), i + m = b.length → Big out → (out.length : Int) ≤ a.length + i →
    (∀ x, x ∈ out ↔ x ∈ a ∨ Upto b i x) → (∀ j : Int, 0 ≤ j → j < i → ¬ Bad a (at_ b j)) →
    (∃ q : Int, Confl a b q ∧ Ev (fun k => objects_Merge.l1 k b (b.length : Int) (i : Int) out) ([], 19, q)) ∨
    (NoConf a b ∧ ∃ r, Un a b r ∧ Ev (fun k => objects_Merge.l1 k b (b.length : Int) (i : Int) out) (if (r.length : Int) > 40 then ([], 14, -1) else (r, 0, 0))) := by
  have hla := ha.len
  have hlb := hb.len
  intro m
  induction m with
  | zero =>
    intro i out hi hbig hlen hmem hno
    have e : (i : Int) = b.length := by omega
    refine .inr ⟨fun j h0 h1 => hno j h0 (by omega), out, ⟨hbig.pw, fun x => by rw [hmem, e, upto_all]⟩, ?_⟩
    refine Ev.step (fun k_ => by rw [objects_Merge.l1]) ?_
    exact ev_neg (by omega) (ev_ite (fun _ => ev_now _) (fun _ => ev_now _))
  | succ m ih =>
    intro i out hi hbig hlen hmem hno
    have hyb : at_ b (i : Int) ∈ b := at_mem (by omega) (by omega)
    have hy := dig_at hb (i := (i : Int)) (by omega) (by omega)
    obtain ⟨i', fb, hfe, hf⟩ := bigfind_ev hbig (d := (at_ b (i : Int)).f0) (by omega)
    have hle := hf.le
    have hgood : ∀ x ∈ out, bS0 x := fun x hx => by
      rcases (hmem x).1 hx with h | ⟨j, j0, j1, j2, rfl⟩
      · exact (good_mem ha h).1
      · exact (hb.good j j0 j2).1
    have hok : ∀ x ∈ out, fB.ok x := fun x hx => by
      rcases (hmem x).1 hx with h | ⟨j, j0, j1, j2, rfl⟩
      · exact oa x h
      · exact ob _ (at_mem j0 j2)
    have notb : ∀ j : Int, 0 ≤ j → j < i → j < b.length → (at_ b j).f0 ≠ (at_ b (i : Int)).f0 := fun j j0 j1 j2 => by
      have := asc_all hb (i := j) (j := (i : Int)) j0 j1 (by omega)
      omega
    have next : ∀ out', Big out' → (out'.length : Int) ≤ a.length + i + 1 → (∀ x, x ∈ out' ↔ x ∈ out ∨ x = at_ b (i : Int)) → ¬ Bad a (at_ b (i : Int)) →
        (∃ q : Int, Confl a b q ∧ Ev (fun k => objects_Merge.l1 k b (b.length : Int) ((i : Int) + 1) out') ([], 19, q)) ∨
        (NoConf a b ∧ ∃ r, Un a b r ∧ Ev (fun k => objects_Merge.l1 k b (b.length : Int) ((i : Int) + 1) out') (if (r.length : Int) > 40 then ([], 14, -1) else (r, 0, 0))) := fun out' h1 h2 h3 h4 => by
      have := ih (i + 1) out' (by omega) h1 (by omega) (fun x => by
        rw [show ((i + 1 : Nat) : Int) = (i : Int) + 1 by omega, h3, hmem, upto_next (by omega) (by omega), or_assoc]) (fun j j0 j1 => by
        by_cases e : j = (i : Int)
        · rw [e]; exact h4
        · exact hno j j0 (by omega))
      rwa [show ((i + 1 : Nat) : Int) = (i : Int) + 1 by omega] at this
    cases fb with
    | true =>
      obtain ⟨hy1, hy2⟩ := hf.yes rfl
      have hxo : at_ out (i' : Int) ∈ out := at_mem (by omega) (by omega)
      have hxa : at_ out (i' : Int) ∈ a := by
        rcases (hmem _).1 hxo with h | ⟨j, j0, j1, j2, e⟩
        · exact h
        · exact absurd (by rw [e]; exact hy2) (notb j j0 j1 j2)
      have hse := same_ev (k1 := (at_ out (i' : Int)).f1.f0) (l1 := (at_ out (i' : Int)).f1.f1) (d1 := (at_ out (i' : Int)).f1.f2) (k2 := (at_ b (i : Int)).f1.f0) (l2 := (at_ b (i : Int)).f1.f1) (d2 := (at_ b (i : Int)).f1.f2) (by
        have := (hgood _ hxo).nl
        omega)
      by_cases hsm : sameO (at_ out (i' : Int)).f1 (at_ b (i : Int)).f1 = true
      · have e1 := same_eq (ok_bytes (oa _ hxa)) (ok_bytes (ob _ hyb)) hsm
        have e : at_ out (i' : Int) = at_ b (i : Int) := by
          cases h1 : at_ out (i' : Int)
          cases h2 : at_ b (i : Int)
          rw [h1, h2] at hy2 e1
          simp only at hy2 e1
          rw [hy2, e1]
        have hn := next out hbig (by omega) (fun x => ⟨.inl, fun h => h.elim id (fun h => by rw [h, ← e]; exact hxo)⟩) (fun ⟨x, hx, h1, h2⟩ => h2 ((dig_inj ha hx hxa (by rw [h1, hy2])).trans e))
        rcases hn with ⟨q, hq, he⟩ | ⟨hc, r, hr, he⟩
        · refine .inl ⟨q, hq, ?_⟩
          refine Ev.step (fun k_ => by rw [objects_Merge.l1]) ?_
          rw [w64 (x := (i : Int) + 1) (by omega)]
          exact ev_pos (by omega) (ev_pos (by omega) (ev_pos (by omega) (ev_bind hfe (ev_pos rfl (ev_pos (by omega) (ev_pos (by show (i' : Int) < _; omega) (ev_bind hse (ev_pos hsm he))))))))
        · refine .inr ⟨hc, r, hr, ?_⟩
          refine Ev.step (fun k_ => by rw [objects_Merge.l1]) ?_
          rw [w64 (x := (i : Int) + 1) (by omega)]
          exact ev_pos (by omega) (ev_pos (by omega) (ev_pos (by omega) (ev_bind hfe (ev_pos rfl (ev_pos (by omega) (ev_pos (by show (i' : Int) < _; omega) (ev_bind hse (ev_pos hsm he))))))))
      · refine .inl ⟨i, ⟨by omega, by omega, ⟨_, hxa, hy2, fun e => hsm (by rw [e]; exact same_refl _ _ _)⟩, hno⟩, ?_⟩
        refine Ev.step (fun k_ => by rw [objects_Merge.l1]) ?_
        exact ev_pos (by omega) (ev_pos (by omega) (ev_pos (by omega) (ev_bind hfe (ev_pos rfl (ev_pos (by omega) (ev_pos (by show (i' : Int) < _; omega) (ev_bind hse (ev_neg hsm (ev_now _)))))))))
    | false =>
      obtain ⟨b1, b2, b3⟩ := big_ins (y := at_ b (i : Int)) hbig (by omega) hy hf
      have hn := next _ b1 (by omega) b2 (fun ⟨x, hx, h1, h2⟩ => by
        obtain ⟨j, j0, j1, e⟩ := mem_at ((hmem x).2 (.inl hx))
        exact hf.no rfl j j0 j1 (by rw [e]; exact h1))
      rcases hn with ⟨q, hq, he⟩ | ⟨hc, r, hr, he⟩
      · refine .inl ⟨q, hq, ?_⟩
        refine Ev.step (fun k_ => by rw [objects_Merge.l1]) ?_
        rw [w64 (x := (i : Int) + 1) (by omega)]
        exact ev_pos (by omega) (ev_pos (by omega) (ev_pos (by omega) (ev_bind hfe (ev_neg Bool.false_ne_true (ev_pos (by omega) (ev_pos (by show (i' : Int) ≤ _; omega) (ev_pos (by omega) he)))))))
      · refine .inr ⟨hc, r, hr, ?_⟩
        refine Ev.step (fun k_ => by rw [objects_Merge.l1]) ?_
        rw [w64 (x := (i : Int) + 1) (by omega)]
        exact ev_pos (by omega) (ev_pos (by omega) (ev_pos (by omega) (ev_bind hfe (ev_neg Bool.false_ne_true (ev_pos (by omega) (ev_pos (by show (i' : Int) ≤ _; omega) (ev_pos (by omega) he)))))))
theorem store_big (ha : Store a) : Big a := ⟨by have := ha.len; omega, fun x hx => by
  obtain ⟨j, j0, j1, rfl⟩ := mem_at hx
  exact dig_at ha j0 j1, pw_of ha⟩
theorem dHt (ha : Store a) (hb : Store b) (oa : ∀ x ∈ a, fB.ok x) (ob : ∀ x ∈ b, fB.ok x) :
    (∃ q : Int, Confl a b q ∧ Ev (fun k => objects_Merge.l1 k b (b.length : Int) 0 a) ([], 19, q)) ∨
    (NoConf a b ∧ ∃ r, Un a b r ∧ Ev (fun k => objects_Merge.l1 k b (b.length : Int) 0 a) (if (r.length : Int) > 40 then ([], 14, -1) else (r, 0, 0))) :=
  fRk ha hb oa ob b.length 0 a (by omega) (store_big ha) (by omega) (fun x => ⟨.inl, fun h => h.elim id (fun h => absurd h (upto_none x))⟩) (fun j j0 j1 => by omega)
/-- What Merge comes to, of two stores: where its first loop ends. -/
theorem dHu (oa : ∀ x ∈ a, fB.ok x) (ob : ∀ x ∈ b, fB.ok x) {R : List SO × Int × Int} (ha : sf a = (0, 0)) (hb : sf b = (0, 0)) (sa : Store a) (sb : Store b)
    (he : Ev (fun k => objects_Merge.l1 k b (b.length : Int) 0 a) R) : Ev (fun k => objects_Merge.f k a b) R := by
  have va := val_ev oa
  have vb := val_ev ob
  rw [ha] at va
  rw [hb] at vb
  unfold objects_Merge.f
  refine ev_some ?_
  refine Ev.step (fun k_ => by rw [objects_Merge.l0]) ?_
  rw [w64 (x := (0 : Int) + 1) (by omega)]
  refine ev_pos (show (0 : Int) < 2 by decide) (ev_pos (by decide) (ev_pos (show (0 : Int) < 2 by decide) (ev_bind va (ev_neg (by decide) ?_))))
  refine Ev.step (fun k_ => by rw [objects_Merge.l0]) ?_
  rw [w64 (x := (0 : Int) + 1 + 1) (by omega)]
  refine ev_pos (show (0 + 1 : Int) < 2 by decide) (ev_pos (by decide) (ev_pos (show (0 + 1 : Int) < 2 by decide) (ev_bind vb (ev_neg (by decide) ?_))))
  refine Ev.step (fun k_ => by rw [objects_Merge.l0]) ?_
  exact ev_neg (show ¬ (0 + 1 + 1 : Int) < 2 by decide) (ev_bind (copied_ev sa) (ev_bind (copied_ev sb) he))
theorem merge_a (oa : ∀ x ∈ a, fB.ok x) (h : (sf a).1 ≠ 0) : Ev (fun k => objects_Merge.f k a b) ([], sf a) := by
  unfold objects_Merge.f
  refine ev_some ?_
  refine Ev.step (fun k_ => by rw [objects_Merge.l0]) ?_
  refine ev_pos (show (0 : Int) < 2 by decide) (ev_pos (by decide) (ev_pos (show (0 : Int) < 2 by decide) (ev_bind (val_ev oa) (ev_pos ?_ (ev_now _)))))
  have : ((sf a).1 == 0) = false := beq_eq_false_iff_ne.2 h
  show (!((sf a).1 == 0) || !((sf a).2 == 0)) = true
  simp [this]
theorem merge_b (oa : ∀ x ∈ a, fB.ok x) (ob : ∀ x ∈ b, fB.ok x) (ha : sf a = (0, 0)) (h : (sf b).1 ≠ 0) : Ev (fun k => objects_Merge.f k a b) ([], sf b) := by
  have va := val_ev oa
  rw [ha] at va
  unfold objects_Merge.f
  refine ev_some ?_
  refine Ev.step (fun k_ => by rw [objects_Merge.l0]) ?_
  rw [w64 (x := (0 : Int) + 1) (by omega)]
  refine ev_pos (show (0 : Int) < 2 by decide) (ev_pos (by decide) (ev_pos (show (0 : Int) < 2 by decide) (ev_bind va (ev_neg (by decide) ?_))))
  refine Ev.step (fun k_ => by rw [objects_Merge.l0]) ?_
  refine ev_pos (show (0 + 1 : Int) < 2 by decide) (ev_pos (by decide) (ev_pos (show (0 + 1 : Int) < 2 by decide) (ev_bind (val_ev ob) (ev_pos ?_ (ev_now _)))))
  have : ((sf b).1 == 0) = false := beq_eq_false_iff_ne.2 h
  show (!((sf b).1 == 0) || !((sf b).2 == 0)) = true
  simp [this]
/-- What a merge of two stores comes to. -/
def Res (a b : List SO) (R : List SO × Int × Int) : Prop := (∃ q : Int, Confl a b q ∧ R = ([], 19, q)) ∨ (NoConf a b ∧ ∃ r, Un a b r ∧ R = if (r.length : Int) > 40 then ([], 14, -1) else (r, 0, 0))
theorem res_eq {R R' : List SO × Int × Int} (h : Res a b R) (h' : Res a b R') : R = R' := by
  rcases h with ⟨q, hq, rfl⟩ | ⟨hc, r, hr, rfl⟩
  · rcases h' with ⟨q', hq', rfl⟩ | ⟨hc', _, _, _⟩
    · rw [confl_eq hq hq']
    · exact (confl_no hq hc').elim
  · rcases h' with ⟨q', hq', rfl⟩ | ⟨hc', r', hr', rfl⟩
    · exact (confl_no hq' hc).elim
    · rw [un_eq hr hr' (fun x => Iff.rfl)]
/-- What Merge comes to. -/
theorem merge_ev (oa : ∀ x ∈ a, fB.ok x) (ob : ∀ x ∈ b, fB.ok x) :
    ((sf a).1 ≠ 0 ∧ Ev (fun k => objects_Merge.f k a b) ([], sf a)) ∨ (sf a = (0, 0) ∧ Store a ∧ (sf b).1 ≠ 0 ∧ Ev (fun k => objects_Merge.f k a b) ([], sf b)) ∨
    (sf a = (0, 0) ∧ Store a ∧ sf b = (0, 0) ∧ Store b ∧ ∃ R, Res a b R ∧ Ev (fun k => objects_Merge.f k a b) R) := by
  by_cases h : (sf a).1 ≠ 0
  · exact .inl ⟨h, merge_a oa h⟩
  · obtain ⟨e, sa⟩ := sf_zero (Decidable.not_not.1 h)
    by_cases h2 : (sf b).1 ≠ 0
    · exact .inr (.inl ⟨e, sa, h2, merge_b oa ob e h2⟩)
    · obtain ⟨e2, sb⟩ := sf_zero (Decidable.not_not.1 h2)
      refine .inr (.inr ⟨e, sa, e2, sb, ?_⟩)
      rcases dHt sa sb oa ob with ⟨q, hq, he⟩ | ⟨hc, r, hr, he⟩
      · exact ⟨_, .inl ⟨q, hq, rfl⟩, dHu oa ob e e2 sa sb he⟩
      · exact ⟨_, .inr ⟨hc, r, hr, rfl⟩, dHu oa ob e e2 sa sb he⟩
end
end Go.Proofs.Ytnmkmamobhkcbaa.Obj
