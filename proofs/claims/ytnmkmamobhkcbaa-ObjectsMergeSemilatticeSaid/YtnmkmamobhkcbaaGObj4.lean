/- Texts of the proofs of 8 statements: what the printed functions come to, plain laws, rows (no condition beyond the statements' own). -/
import Derived.Test.YtnmkmamobhkcbaaGObj2
import Derived.Test.YtnmkmamobhkcbaaGP35
import Derived.Test.YtnmkmamobhkcbaaGP51
import Derived.Test.YtnmkmamobhkcbaaGP60
/- Objects compared, copied and found: what the program's and the reference's functions come to. -/
namespace Go.Proofs.Ytnmkmamobhkcbaa.Obj
open Go.RowKit Go.Proofs.YtnmkmamobhkcbaaW.PrintWords Go.Proofs.YtnmkmamobhkcbaaW.PrintEv Go.Proofs.Ytnmkmamobhkcbaa.P Go.Proofs.Ytnmkmamobhkcbaa.Dig
open Go.Proofs.YtnmkmamobhkcbaaW.PrintMore
set_option linter.unusedVariables false

theorem drop_eq {xs ys : List Int} (hl : xs.length = ys.length) {i : Nat} (hi : i < xs.length) : (xs.drop i = ys.drop i) ↔ rd xs (i : Int) = rd ys (i : Int) ∧ xs.drop (i + 1) = ys.drop (i + 1) := by
  rw [drop_cons_rd hi, drop_cons_rd (xs := ys) (by omega), List.cons.injEq]
theorem equal_ev {a b : List Int} (ha : (a.length : Int) ≤ 140737488351232) : Ev (fun k => slices_Equal_int_int.f k a b) (decide (a = b)) := by
  have loop : a.length = b.length → ∀ (m i : Nat), i + m = a.length → Ev (fun k => slices_Equal_int_int.l0 k a b (a.length : Int) (i : Int)) (decide (a.drop i = b.drop i)) := by
    intro hl m
    induction m with
    | zero =>
      intro i hi
      refine Ev.step (fun k_ => by rw [slices_Equal_int_int.l0]) ?_
      rw [List.drop_eq_nil_of_le (by omega), List.drop_eq_nil_of_le (by omega)]
      exact ev_neg (by omega) (ev_now _)
    | succ m ih =>
      intro i hi
      have next := ih (i + 1) (by omega)
      rw [show ((i + 1 : Nat) : Int) = (i : Int) + 1 by omega] at next
      have he := drop_eq hl (i := i) (by omega)
      refine Ev.step (fun k_ => by rw [slices_Equal_int_int.l0]) ?_
      rw [w64 (x := (i : Int) + 1) (by omega)]
      refine ev_pos (by omega) (ev_pos (by omega) (ev_pos (by omega) (ev_pos (by omega) (ev_cases (fun c => ?_) (fun c => ?_)))))
      · refine ev_cast next ?_
        rw [decide_eq_decide, he]
        exact ⟨fun h => ⟨c, h⟩, fun h => h.2⟩
      · rw [decide_eq_false (fun h => c (he.1 h).1)]
        exact ev_now _
  unfold slices_Equal_int_int.f
  refine ev_cases (fun c => ?_) (fun c => ?_)
  · have := loop (by omega) a.length 0 (by omega)
    rw [List.drop_zero, List.drop_zero] at this
    exact this
  · rw [decide_eq_false (fun h => c (by rw [h]))]
    exact ev_now _
theorem ints_ev {a b : List Int} (ha : (a.length : Int) ≤ 140737488351232) : Ev (fun k => dI.f k a b) (decide (a = b)) := by
  have loop : a.length = b.length → ∀ (m i : Nat), i + m = a.length → Ev (fun k => dI.l0 k a b (i : Int)) (decide (a.drop i = b.drop i)) := by
    intro hl m
    induction m with
    | zero =>
      intro i hi
      refine Ev.step (fun k_ => by rw [dI.l0]) ?_
      rw [List.drop_eq_nil_of_le (by omega), List.drop_eq_nil_of_le (by omega)]
      exact ev_neg (by omega) (ev_now _)
    | succ m ih =>
      intro i hi
      have next := ih (i + 1) (by omega)
      rw [show ((i + 1 : Nat) : Int) = (i : Int) + 1 by omega] at next
      have he := drop_eq hl (i := i) (by omega)
      refine Ev.step (fun k_ => by rw [dI.l0]) ?_
      rw [w64 (x := (i : Int) + 1) (by omega)]
      refine ev_pos (by omega) (ev_pos (by omega) (ev_pos (by omega) (ev_cases (fun c => ?_) (fun c => ?_))))
      · refine ev_cast next ?_
        rw [decide_eq_decide, he]
        exact ⟨fun h => ⟨c, h⟩, fun h => h.2⟩
      · rw [decide_eq_false (fun h => c (he.1 h).1)]
        exact ev_now _
  unfold dI.f
  refine ev_cases (fun c => ?_) (fun c => ?_)
  · have := loop (by omega) a.length 0 (by omega)
    rw [List.drop_zero, List.drop_zero] at this
    exact this
  · rw [decide_eq_false (fun h => c (by rw [h]))]
    exact ev_now _
/-- Are two objects the same? -/
def same (k1 : Int) (l1 d1 : List Int) (k2 : Int) (l2 d2 : List Int) : Bool := decide (k1 = k2) && (decide (l1 = l2) && ((strOfNums d1).toList == (strOfNums d2).toList))
theorem same_refl (k : Int) (l d : List Int) : same k l d k l d = true := by simp [same]
theorem same_ev {k1 k2 : Int} {l1 d1 l2 d2 : List Int} (h : (l1.length : Int) ≤ 140737488351232) : Ev (fun k => objects_Same.f k k1 l1 d1 k2 l2 d2) (same k1 l1 d1 k2 l2 d2) := by
  unfold objects_Same.f same
  refine ev_cases (fun c => ?_) (fun c => ?_)
  · rw [decide_eq_true c, Bool.true_and]
    refine ev_bind (equal_ev h) (ev_cases (fun c2 => ?_) (fun c2 => ?_))
    · rw [c2, Bool.true_and]; exact ev_now _
    · rw [Bool.eq_false_iff.2 c2, Bool.false_and]; exact ev_now _
  · rw [decide_eq_false c, Bool.false_and]; exact ev_now _
theorem robjects_ev {k1 k2 : Int} {l1 d1 l2 d2 : List Int} (h : (l1.length : Int) ≤ 140737488351232) : Ev (fun k => aU.f k k1 l1 d1 k2 l2 d2) (same k1 l1 d1 k2 l2 d2) := by
  unfold aU.f same
  refine ev_cases (fun c => ?_) (fun c => ?_)
  · rw [decide_eq_true c, Bool.true_and]
    refine ev_bind (ints_ev h) (ev_cases (fun c2 => ?_) (fun c2 => ?_))
    · rw [c2, Bool.true_and]; exact ev_now _
    · rw [Bool.eq_false_iff.2 c2, Bool.false_and]; exact ev_now _
  · rw [decide_eq_false c, Bool.false_and]; exact ev_now _
theorem stores_ev {l : List SO} (hl : (l.length : Int) ≤ 140737488351232) (hp : ∀ x ∈ l, (x.f1.f1.length : Int) ≤ 140737488351232) : Ev (fun k => aI.f k l l) true := by
  have loop : ∀ (m i : Nat), i + m = l.length → Ev (fun k => aI.l0 k (i : Int) l l) true := by
    intro m
    induction m with
    | zero =>
      intro i hi
      refine Ev.step (fun k_ => by rw [aI.l0]) ?_
      exact ev_neg (by omega) (ev_now _)
    | succ m ih =>
      intro i hi
      have next := ih (i + 1) (by omega)
      rw [show ((i + 1 : Nat) : Int) = (i : Int) + 1 by omega] at next
      refine Ev.step (fun k_ => by rw [aI.l0]) ?_
      rw [w64 (x := (i : Int) + 1) (by omega)]
      refine ev_pos (by omega) (ev_pos (by omega) (ev_pos (by omega) (ev_pos rfl (ev_bind (robjects_ev (hp _ (at_mem (i := (i : Int)) (by omega) (by omega)))) (ev_pos (same_refl _ _ _) next)))))
  unfold aI.f
  exact ev_pos rfl (loop l.length 0 (by omega))
theorem clone_eq {kd : Int} {ls ds : List Int} (hl : ls.length ≤ 100000) (hd : ds.length ≤ 100000) : objects_Clone.f kd ls ds = some (kd, ls, ds) := by
  unfold objects_Clone.f slices_Clone_int_int.f bytes_Clone.f
  simp only [Option.bind_some, List.length_nil, List.nil_append, Nat.zero_add]
  rw [if_pos (by omega), Option.bind_some, if_pos (by omega), Option.bind_some]
section
variable {l : List SO}
theorem take_at {i : Nat} (h : i < l.length) : l.take (i + 1) = l.take i ++ [at_ l (i : Int)] := by
  show _ = l.take i ++ [rdOf _ l (i : Int)]
  rw [rdOf_nat _ l h]
  exact List.take_succ_eq_append_getElem h
theorem copied_ev (hs : Store l) : Ev (fun k => objects_copied.f k l) l := by
  have hl := hs.len
  have loop : ∀ (m i : Nat), i + m = l.length → Ev (fun k => objects_copied.l0 k l (l.length : Int) (i : Int) (l.take i)) l := by
    intro m
    induction m with
    | zero =>
      intro i hi
      refine Ev.step (fun k_ => by rw [objects_copied.l0]) ?_
      rw [List.take_of_length_le (by omega)]
      exact ev_neg (by omega) (ev_now _)
    | succ m ih =>
      intro i hi
      have next := ih (i + 1) (by omega)
      rw [show ((i + 1 : Nat) : Int) = (i : Int) + 1 by omega, take_at (by omega)] at next
      have hg := (hs.good (i : Int) (by omega) (by omega)).1
      have h1 := hg.nl
      have h2 := hg.nd
      refine Ev.step (fun k_ => by rw [objects_copied.l0]) ?_
      rw [w64 (x := (i : Int) + 1) (by omega)]
      refine ev_pos (by omega) (ev_pos (by omega) (ev_pos (by omega) (ev_const (clone_eq (by show (at_ l (i : Int)).f1.f1.length ≤ _; omega) (by show (at_ l (i : Int)).f1.f2.length ≤ _; omega)) (ev_pos (by rw [List.length_take]; omega) ?_))))
      exact next
  unfold objects_copied.f
  exact loop l.length 0 (by omega)
theorem asc_lt (hs : Store l) : ∀ (m : Nat) (i : Int), 0 ≤ i → i + 1 + m < l.length → (at_ l i).f0 < (at_ l (i + 1 + m)).f0
  | 0, i, h0, h => by
    have := hs.asc (i + 1 + ((0 : Nat) : Int)) (by omega) h
    rwa [show i + 1 + ((0 : Nat) : Int) - 1 = i by omega] at this
  | m + 1, i, h0, h => by
    have h1 := asc_lt hs m i h0 (by omega)
    have h2 := hs.asc (i + 1 + ((m + 1 : Nat) : Int)) (by omega) h
    rw [show i + 1 + ((m + 1 : Nat) : Int) - 1 = i + 1 + (m : Int) by omega] at h2
    omega
theorem asc_all (hs : Store l) {i j : Int} (h0 : 0 ≤ i) (h : i < j) (hj : j < l.length) : (at_ l i).f0 < (at_ l j).f0 := by
  have := asc_lt hs (j - i - 1).toNat i h0 (by omega)
  rwa [show i + 1 + ((j - i - 1).toNat : Int) = j by omega] at this
theorem dig_at (hs : Store l) {i : Int} (h0 : 0 ≤ i) (h : i < l.length) : 0 ≤ (at_ l i).f0 ∧ (at_ l i).f0 < 2305843009213693951 := by
  rw [← (hs.good i h0 h).2]
  exact odg_lt _ _ _
/-- Where a digest stands, or would stand. -/
structure Found (l : List SO) (d : Int) (i : Nat) (b : Bool) : Prop where
  le : i ≤ l.length
  yes : b = true → i < l.length ∧ (at_ l (i : Int)).f0 = d
  no : b = false → ∀ j : Int, 0 ≤ j → j < l.length → (at_ l j).f0 ≠ d
  low : 0 ≤ d → d < 2305843009213693951 → ∀ j : Int, 0 ≤ j → j < i → (at_ l j).f0 < d
  high : 0 ≤ d → d < 2305843009213693951 → ∀ j : Int, (i : Int) ≤ j → j < l.length → d ≤ (at_ l j).f0
theorem wrap_zero {x d : Int} (hx : 0 ≤ x ∧ x < 2305843009213693951) (hd : -9223372036854775808 ≤ d ∧ d ≤ 9223372036854775807) : wrap64 (x - d) = 0 ↔ x = d := by
  unfold wrap64; omega
theorem fHb (hs : Store l) {d : Int} (hd : -9223372036854775808 ≤ d ∧ d ≤ 9223372036854775807) : ∀ (m i j : Nat), j - i ≤ m → i ≤ j → j ≤ l.length →
    (0 ≤ d → d < 2305843009213693951 → ∀ q : Int, 0 ≤ q → q < i → (at_ l q).f0 < d) → (0 ≤ d → d < 2305843009213693951 → ∀ q : Int, (j : Int) ≤ q → q < l.length → d ≤ (at_ l q).f0) →
    ∃ (i' : Nat) (b : Bool), Ev (fun k => api_StoredObject_int.l0 k l d (l.length : Int) (i : Int) (j : Int)) ((i' : Int), b) ∧ Found l d i' b := by
  have hl := hs.len
  intro m
  induction m with
  | zero =>
    intro i j hm hij hj h1 h2
    have e : i = j := by omega
    subst e
    by_cases hn : i < l.length
    · have hx := dig_at hs (i := (i : Int)) (by omega) (by omega)
      refine ⟨i, (wrap64 ((at_ l (i : Int)).f0 - d) == 0), ?_, by omega, fun hb => ⟨hn, (wrap_zero hx hd).1 (by simpa using hb)⟩, fun hb q q0 q1 he => ?_, h1, h2⟩
      · refine Ev.step (fun k_ => by rw [api_StoredObject_int.l0]) ?_
        refine ev_neg (by omega) (ev_pos (by omega) (ev_pos (by omega) (ev_pos (by omega) ?_)))
        exact ev_some (ev_now _)
      · have hq := dig_at hs q0 q1
        rcases Int.lt_trichotomy q (i : Int) with c | c | c
        · have := h1 (by omega) (by omega) q q0 c; omega
        · subst c
          have := (wrap_zero hx hd).2 he
          rw [this] at hb
          simp at hb
        · have := asc_all hs (i := (i : Int)) (j := q) (by omega) c q1
          have := h2 (by omega) (by omega) (i : Int) (by omega) (by omega)
          omega
    · refine ⟨i, false, ?_, by omega, fun hb => (by cases hb), fun hb q q0 q1 he => ?_, h1, h2⟩
      · refine Ev.step (fun k_ => by rw [api_StoredObject_int.l0]) ?_
        exact ev_neg (by omega) (ev_neg (by omega) (ev_now _))
      · have hq := dig_at hs q0 q1
        have := h1 (by omega) (by omega) q q0 (by omega)
        omega
  | succ m ih =>
    intro i j hm hij hj h1 h2
    by_cases hlt : i < j
    · have hh : wrap64 ((IntKind.u64.wrap (wrap64 ((i : Int) + (j : Int)))) / 2) = (((i + j) / 2 : Nat) : Int) := by
        rw [w64 (x := (i : Int) + (j : Int)) (by omega), wu (x := (i : Int) + (j : Int)) (by omega), w64 (by omega)]
        omega
      have hx := dig_at hs (i := (((i + j) / 2 : Nat) : Int)) (by omega) (by omega)
      by_cases hc : wrap64 ((at_ l (((i + j) / 2 : Nat) : Int)).f0 - d) < 0
      · obtain ⟨i', b, he, hf⟩ := ih ((i + j) / 2 + 1) j (by omega) (by omega) hj (fun d0 d1 q q0 q1 => by
          have hw : (at_ l (((i + j) / 2 : Nat) : Int)).f0 < d := by rw [w64 (by omega)] at hc; omega
          by_cases e : q = (((i + j) / 2 : Nat) : Int)
          · rw [e]; exact hw
          · have := asc_all hs (i := q) (j := (((i + j) / 2 : Nat) : Int)) q0 (by omega) (by omega)
            omega) h2
        refine ⟨i', b, ?_, hf⟩
        refine Ev.step (fun k_ => by rw [api_StoredObject_int.l0]) ?_
        rw [hh, w64 (x := (((i + j) / 2 : Nat) : Int) + 1) (by omega)]
        exact ev_pos (by omega) (ev_pos (by omega) (ev_pos (by omega) (ev_some (ev_pos hc he))))
      · obtain ⟨i', b, he, hf⟩ := ih i ((i + j) / 2) (by omega) (by omega) (by omega) h1 (fun d0 d1 q q0 q1 => by
          have hw : d ≤ (at_ l (((i + j) / 2 : Nat) : Int)).f0 := by rw [w64 (by omega)] at hc; omega
          by_cases e : q = (((i + j) / 2 : Nat) : Int)
          · rw [e]; exact hw
          · have := asc_all hs (i := (((i + j) / 2 : Nat) : Int)) (j := q) (by omega) (by omega) q1
            omega)
        refine ⟨i', b, ?_, hf⟩
        refine Ev.step (fun k_ => by rw [api_StoredObject_int.l0]) ?_
        rw [hh]
        exact ev_pos (by omega) (ev_pos (by omega) (ev_pos (by omega) (ev_some (ev_neg hc he))))
    · exact ih i j (by omega) hij hj h1 h2
theorem find_ev (hs : Store l) {d : Int} (hd : -9223372036854775808 ≤ d ∧ d ≤ 9223372036854775807) : ∃ (i : Nat) (b : Bool), Ev (fun k => objects_find.f k l d) ((i : Int), b) ∧ Found l d i b := by
  obtain ⟨i, b, he, hf⟩ := fHb hs hd l.length 0 l.length (by omega) (by omega) (by omega) (fun _ _ q q0 q1 => by omega) (fun _ _ q q0 q1 => by omega)
  refine ⟨i, b, ?_, hf⟩
  unfold objects_find.f api_StoredObject_int.f
  exact ev_bind he (ev_now _)
theorem at_ev (hs : Store l) {d : Int} {i : Nat} {b : Bool} (hf : Found l d i b) : Ev (fun k => bH.f k l d) (if b = true then (i : Int) else -1) := by
  have hl := hs.len
  have loop : ∀ (m q : Nat), q + m = l.length → (b = true → q ≤ i) → Ev (fun k => bH.l0 k d (q : Int) l) (if b = true then (i : Int) else -1) := by
    intro m
    induction m with
    | zero =>
      intro q hq hb
      refine Ev.step (fun k_ => by rw [bH.l0]) ?_
      cases hbb : b with
      | true =>
        have := (hf.yes hbb).1
        have := hb hbb
        omega
      | false => exact ev_neg (by omega) (ev_now _)
    | succ m ih =>
      intro q hq hb
      refine Ev.step (fun k_ => by rw [bH.l0]) ?_
      rw [w64 (x := (q : Int) + 1) (by omega)]
      refine ev_pos (by omega) (ev_pos (by omega) (ev_cases (fun c => ?_) (fun c => ?_)))
      · have c : (at_ l (q : Int)).f0 = d := c
        cases hbb : b with
        | true =>
          obtain ⟨y1, y2⟩ := hf.yes hbb
          have y3 := hb hbb
          have e : q = i := by
            rcases Nat.lt_or_ge q i with h | h
            · have := asc_all hs (i := (q : Int)) (j := (i : Int)) (by omega) (by omega) (by omega)
              omega
            · omega
          subst e
          exact ev_now _
        | false => exact absurd c (hf.no hbb (q : Int) (by omega) (by omega))
      · have c : ¬ (at_ l (q : Int)).f0 = d := c
        have next := ih (q + 1) (by omega) (fun hbb => by
          have y3 := hb hbb
          have : q ≠ i := fun e => c (e ▸ (hf.yes hbb).2)
          omega)
        rw [show ((q + 1 : Nat) : Int) = (q : Int) + 1 by omega] at next
        exact next
  unfold bH.f
  exact loop l.length 0 (by omega) (fun _ => by omega)
end
end Go.Proofs.Ytnmkmamobhkcbaa.Obj

/- Put, Has, Get: what the program's and the reference's functions come to. -/
namespace Go.Proofs.Ytnmkmamobhkcbaa.Obj
open Go.RowKit Go.Proofs.YtnmkmamobhkcbaaW.PrintWords Go.Proofs.YtnmkmamobhkcbaaW.PrintEv Go.Proofs.Ytnmkmamobhkcbaa.P Go.Proofs.Ytnmkmamobhkcbaa.Dig
open Go.Proofs.YtnmkmamobhkcbaaW.PrintMore
set_option linter.unusedVariables false

def mk1 (d : Int) (o : O) : SO := ⟨d, o⟩
def odo (o : O) : Int := odg o.f0 o.f1 o.f2
abbrev ofo (o : O) : Int × Int := oflt o.f0 o.f1 o.f2
def sameO (a b : O) : Bool := same a.f0 a.f1 a.f2 b.f0 b.f1 b.f2
/-- What Put comes to where the store and the object have no fault; i, b: what find told. -/
def putF (l : List SO) (o : O) (i : Nat) (b : Bool) : List SO × Int × Int × Int :=
  if b = true then (if sameO (at_ l (i : Int)).f1 o = true then (l, odo o, 0, 0) else ([], 0, 19, -1)) else if (l.length : Int) = 40 then ([], 0, 14, -1) else (l.take i ++ [mk1 (odo o) o] ++ l.drop i, odo o, 0, 0)
section
variable {l : List SO} {o : O}
theorem putF_true {i : Nat} : putF l o i true = if sameO (at_ l (i : Int)).f1 o = true then (l, odo o, 0, 0) else ([], 0, 19, -1) := if_pos rfl
theorem putF_false {i : Nat} : putF l o i false = if (l.length : Int) = 40 then ([], 0, 14, -1) else (l.take i ++ [mk1 (odo o) o] ++ l.drop i, odo o, 0, 0) := if_neg (by decide)
theorem fHa (x : Int) (h : 0 ≤ x ∧ x < 2305843009213693951) : -9223372036854775808 ≤ x ∧ x ≤ 9223372036854775807 := by omega
theorem put_good (hp : ∀ x ∈ l, fB.ok x) (hb : Bytes o.f2) (hs : Store l) (e : sf l = (0, 0)) (g : Good o.f0 o.f1 o.f2) (e2 : ofo o = (0, 0)) :
    ∃ i b, Found l (odo o) i b ∧ Ev (fun k => objects_Put.f k l o.f0 o.f1 o.f2) (putF l o i b) := by
  have hl := hs.len
  have g1 := g.nl
  have g2 := g.nd
  obtain ⟨i, b, hfe, hf⟩ := find_ev hs (d := odo o) (fHa _ (odg_lt _ _ _))
  refine ⟨i, b, hf, ?_⟩
  have hv := val_ev hp
  have hd := odigest_ev (kd := o.f0) (ls := o.f1) hb
  have ed : odR o.f0 o.f1 o.f2 = (odo o, 0, 0) := by
    unfold odR
    rw [if_neg (by rw [show oflt o.f0 o.f1 o.f2 = (0, 0) from e2]; simp)]
    rfl
  rw [e] at hv
  rw [ed] at hd
  unfold objects_Put.f
  refine ev_bind hv (ev_neg (by decide) (ev_bind hd (ev_neg (by simp) (ev_bind (copied_ev hs) (ev_bind hfe ?_)))))
  cases b with
  | true =>
    rw [putF_true]
    have hy := (hf.yes rfl).1
    refine ev_pos rfl (ev_pos (by omega) (ev_pos (by omega) (ev_bind (same_ev (by
      have := (hs.good (i : Int) (by omega) (by omega)).1.nl
      show ((at_ l (i : Int)).f1.f1.length : Int) ≤ _
      omega)) ?_)))
    refine Ev.step (fun k_ => by rw [objects_Put.j0]) ?_
    cases hsm : sameO (at_ l (i : Int)).f1 o with
    | true =>
      have hsm : same (aA l (i : Int)).f1.f0 (aA l (i : Int)).f1.f1 (aA l (i : Int)).f1.f2 o.f0 o.f1 o.f2 = true := hsm
      exact ev_neg (by show ¬ (!same _ _ _ _ _ _) = true; rw [hsm]; decide) (ev_pos rfl (ev_now _))
    | false =>
      have hsm : same (aA l (i : Int)).f1.f0 (aA l (i : Int)).f1.f1 (aA l (i : Int)).f1.f2 o.f0 o.f1 o.f2 = false := hsm
      exact ev_pos (by show (!same _ _ _ _ _ _) = true; rw [hsm]; decide) (ev_now _)
  | false =>
    rw [putF_false]
    refine ev_neg Bool.false_ne_true ?_
    refine Ev.step (fun k_ => by rw [objects_Put.j0]) ?_
    refine ev_neg (by decide) (ev_neg Bool.false_ne_true (ev_ite (fun _ => ev_now _) (fun hc => ?_)))
    refine ev_const (clone_eq (by omega) (by omega)) (ev_pos (by omega) (ev_pos (by have := hf.le; omega) (ev_pos (by omega) ?_)))
    exact ev_now _
/-- What Put comes to. -/
theorem put_ev (hp : ∀ x ∈ l, fB.ok x) (hb : Bytes o.f2) :
    ((sf l).1 ≠ 0 ∧ Ev (fun k => objects_Put.f k l o.f0 o.f1 o.f2) ([], 0, sf l)) ∨ (sf l = (0, 0) ∧ Store l ∧ (ofo o).1 ≠ 0 ∧ Ev (fun k => objects_Put.f k l o.f0 o.f1 o.f2) ([], 0, (ofo o).1, -1)) ∨
    (sf l = (0, 0) ∧ Store l ∧ ofo o = (0, 0) ∧ Good o.f0 o.f1 o.f2 ∧ ∃ i b, Found l (odo o) i b ∧ Ev (fun k => objects_Put.f k l o.f0 o.f1 o.f2) (putF l o i b)) := by
  by_cases h : (sf l).1 ≠ 0
  · refine .inl ⟨h, ?_⟩
    unfold objects_Put.f
    refine ev_bind (val_ev hp) (ev_pos ?_ (ev_now _))
    have : ((sf l).1 == 0) = false := beq_eq_false_iff_ne.2 h
    simp [this]
  · obtain ⟨e, hs⟩ := sf_zero (Decidable.not_not.1 h)
    by_cases h2 : (ofo o).1 ≠ 0
    · refine .inr (.inl ⟨e, hs, h2, ?_⟩)
      have hv := val_ev hp
      have hd := odigest_ev (kd := o.f0) (ls := o.f1) hb
      have ed : odR o.f0 o.f1 o.f2 = (0, ofo o) := by unfold odR; rw [if_pos h2]
      rw [e] at hv
      rw [ed] at hd
      unfold objects_Put.f
      refine ev_bind hv (ev_neg (by decide) (ev_bind hd (ev_pos ?_ (ev_now _))))
      have : ((ofo o).1 == 0) = false := beq_eq_false_iff_ne.2 h2
      simp [this]
    · obtain ⟨e2, g⟩ := oflt_zero (Decidable.not_not.1 h2)
      exact .inr (.inr ⟨e, hs, e2, g, put_good hp hb hs e g e2⟩)

theorem eSv (hp : ∀ x ∈ l, fB.ok x) {d : Int} (hd : -9223372036854775808 ≤ d ∧ d ≤ 9223372036854775807) :
    ((sf l).1 ≠ 0 ∧ Ev (fun k => objects_Has.f k l d) (false, sf l)) ∨ (sf l = (0, 0) ∧ Store l ∧ ∃ i b, Found l d i b ∧ Ev (fun k => objects_Has.f k l d) (b, 0, 0)) := by
  by_cases h : (sf l).1 ≠ 0
  · have : ((sf l).1 == 0) = false := beq_eq_false_iff_ne.2 h
    refine .inl ⟨h, ?_⟩
    unfold objects_Has.f
    exact ev_bind (val_ev hp) (ev_pos (by simp [this]) (ev_now _))
  · obtain ⟨e, hs⟩ := sf_zero (Decidable.not_not.1 h)
    obtain ⟨i, b, hfe, hf⟩ := find_ev hs hd
    have hv := val_ev hp
    rw [e] at hv
    refine .inr ⟨e, hs, i, b, hf, ?_⟩
    unfold objects_Has.f
    exact ev_bind hv (ev_neg (by decide) (ev_bind hfe (ev_now _)))
end
end Go.Proofs.Ytnmkmamobhkcbaa.Obj
