/- The delta of two byte strings: what deltachain.Encode and the reference's EncodeDelta come to, and that they are one. -/
import Derived.Test.YtgmpnghgmcgghaaDelta1
import Derived.Test.YtgmpnghgmcgghaaP4
import Derived.Test.YtgmpnghgmcgghaaP8
import Derived.Test.YtgmpnghgmcgghaaP9
namespace Go.Proofs.Ytgmpnghgmcgghaa.Delta
open Go.RowKit Go.Proofs.YtgmpnghgmcgghaaW.PrintWords Go.Proofs.YtgmpnghgmcgghaaW.PrintEv Go.Proofs.Ytgmpnghgmcgghaa.P
set_option linter.unusedVariables false

/-- The last operation gets one byte more. -/
def more (out : List D) (x : Int) : List D := out.set (out.length - 1) ⟨(rd_T37 out ((out.length : Int) - 1)).f0, (rd_T37 out ((out.length : Int) - 1)).f1, (rd_T37 out ((out.length : Int) - 1)).f2 ++ [x]⟩
/-- The delta, step by step; n: steps at most. -/
noncomputable def enc (b : List Int) : Nat → List Int → List D → Bool → List D
  | 0, _, out, _ => out
  | n + 1, t, out, op =>
    if t.length = 0 then out
    else if 4 ≤ mLen b t then enc b n (t.drop (mLen b t)) (out ++ [⟨(mAt b t : Int), (mLen b t : Int), []⟩]) false
    else if op = true then enc b n (t.drop 1) (more out (rd t 0)) true
    else enc b n (t.drop 1) (out ++ [⟨0, 0, [rd t 0]⟩]) true
theorem more_length (out : List D) (x : Int) : (more out x).length = out.length := by simp [more]
/-- What is kept of the operations: how long the last one's data are. -/
def Room (n : Nat) (out : List D) (op : Bool) : Prop := out.length + n ≤ 1000 ∧ (op = true → 0 < out.length ∧ (rd_T37 out ((out.length : Int) - 1)).f2.length + n ≤ 1000)
theorem rdT_last (out : List D) (d : D) : rd_T37 (out ++ [d]) (((out ++ [d]).length : Int) - 1) = d := by
  have e : (((out ++ [d]).length : Int) - 1).toNat = out.length := by rw [List.length_append, List.length_singleton]; omega
  unfold rd_T37
  rw [e, List.getD_eq_getElem?_getD]
  simp
theorem rdT_set_last (out : List D) (d : D) (h : 0 < out.length) : rd_T37 (out.set (out.length - 1) d) (((out.set (out.length - 1) d).length : Int) - 1) = d := by
  have e : (((out.set (out.length - 1) d).length : Int) - 1).toNat = out.length - 1 := by rw [List.length_set]; omega
  unfold rd_T37
  rw [e, List.getD_eq_getElem?_getD, List.getElem?_set_self (by omega)]
  rfl
theorem more_last (out : List D) (x : Int) (h : 0 < out.length) : (rd_T37 (more out x) (((more out x).length : Int) - 1)).f2.length = (rd_T37 out ((out.length : Int) - 1)).f2.length + 1 := by
  unfold more
  rw [rdT_set_last out _ h]
  simp
theorem Room.copy {n : Nat} {out : List D} {op : Bool} {d : D} (h : Room (n + 1) out op) : Room n (out ++ [d]) false := ⟨by rw [List.length_append, List.length_singleton]; have := h.1; omega, fun h => by cases h⟩
theorem Room.data {n : Nat} {out : List D} {op : Bool} {x : Int} (hn : n ≤ 999) (h : Room (n + 1) out op) : Room n (out ++ [⟨0, 0, [x]⟩]) true := by
  refine ⟨by rw [List.length_append, List.length_singleton]; have := h.1; omega, fun _ => ⟨by simp, ?_⟩⟩
  rw [rdT_last]
  simp; omega
theorem Room.more {n : Nat} {out : List D} {x : Int} (h : Room (n + 1) out true) : Room n (more out x) true := by
  obtain ⟨h1, h2⟩ := h
  obtain ⟨h3, h4⟩ := h2 rfl
  exact ⟨by rw [more_length]; omega, fun _ => ⟨by rw [more_length]; omega, by rw [more_last out x h3]; omega⟩⟩
theorem Room.less {n m : Nat} {out : List D} {op : Bool} (hm : m ≤ n) (h : Room n out op) : Room m out op := ⟨by have := h.1; omega, fun e => by have := h.2 e; omega⟩

theorem encode_l0 {b : List Int} (hb : (b.length : Int) ≤ 1000) : ∀ (n : Nat) (t : List Int) (out : List D) (op : Bool), t.length ≤ n → n ≤ 1000 → Room n out op → Ev (fun k => deltachain_Encode.l0 k b t out op) (enc b (n + 1) t out op, 0, 0) := by
  intro n
  induction n with
  | zero =>
    intro t out op ht hn hr
    have e : enc b 1 t out op = out := by simp only [enc]; rw [if_pos (by omega)]
    rw [e]
    refine Ev.step (fun k_ => by rw [deltachain_Encode.l0]) ?_
    refine ev_neg (by omega) ?_
    exact ev_now _
  | succ n ih =>
    intro t out op ht hn hr
    by_cases h0 : t.length = 0
    · have e : enc b (n + 1 + 1) t out op = out := by simp only [enc]; rw [if_pos h0]
      rw [e]
      refine Ev.step (fun k_ => by rw [deltachain_Encode.l0]) ?_
      refine ev_neg (by omega) ?_
      exact ev_now _
    have hml := mLen_le b t
    have hr1 := hr.1
    have hs : enc b (n + 1 + 1) t out op = (if 4 ≤ mLen b t then enc b (n + 1) (t.drop (mLen b t)) (out ++ [⟨(mAt b t : Int), (mLen b t : Int), []⟩]) false
      else if op = true then enc b (n + 1) (t.drop 1) (more out (rd t 0)) true else enc b (n + 1) (t.drop 1) (out ++ [⟨0, 0, [rd t 0]⟩]) true) := by
      rw [enc, if_neg h0]
    have e1 : ((1 : Int)).toNat = 1 := rfl
    have hd1 : (t.drop 1).length ≤ n := by rw [List.length_drop]; omega
    refine Ev.step (fun k_ => by rw [deltachain_Encode.l0]) ?_
    refine ev_pos (by omega) (ev_bind (match_ev hb (by omega)) (ev_cases (fun h1 => ev_pos (by omega) (ev_pos (by omega) (ev_pos (by omega) ?_))) (fun h1 => ?_)))
    · rw [if_pos (by omega)] at hs
      rw [hs]
      have e2 : ((mLen b t : Int)).toNat = mLen b t := by omega
      rw [e2]
      exact ih (t.drop (mLen b t)) _ false (by rw [List.length_drop]; omega) (by omega) hr.copy
    · rw [if_neg (by omega)] at hs
      refine ev_cases (fun h2 => ?_) (fun h2 => ?_)
      · rw [if_pos h2] at hs
        subst h2
        obtain ⟨h3, h4⟩ := hr.2 rfl
        rw [w64 (x := (out.length : Int) - 1) (by omega), hs]
        refine ev_pos (by omega) (ev_pos (by omega) (ev_pos (by omega) (ev_pos (by omega) (ev_pos (by omega) ?_))))
        rw [e1, show ((out.length : Int) - 1).toNat = out.length - 1 by omega]
        exact ih (t.drop 1) _ true hd1 (by omega) hr.more
      · rw [if_neg h2] at hs
        rw [hs]
        refine ev_pos (by omega) (ev_pos (by omega) (ev_pos (by omega) ?_))
        rw [e1]
        exact ih (t.drop 1) _ true hd1 (by omega) (hr.data (by omega))

noncomputable def encR (a b : List Int) : List D × Int × Int := if (a.length : Int) > 1000 then ([], 10, 0) else if (b.length : Int) > 1000 then ([], 10, 1) else (enc a (b.length + 1) b [] false, 0, 0)
theorem encode_ev {a b : List Int} : Ev (fun k => deltachain_Encode.f k a b) (encR a b) := by
  unfold deltachain_Encode.f encR
  refine ev_bind sized_ev1 (ev_cases (fun h => ?_) (fun h => ?_))
  · have h := of_decide_eq_true h
    rw [if_neg (by omega)]
    refine ev_bind sized_ev1 (ev_cases (fun h2 => ?_) (fun h2 => ?_))
    · have h2 := of_decide_eq_true h2
      rw [if_neg (by omega)]
      exact encode_l0 (by omega) b.length b [] false (Nat.le_refl _) (by omega) ⟨by simp; omega, fun h => by cases h⟩
    · have h2 : ¬ (b.length : Int) ≤ 1000 := fun h' => h2 (decide_eq_true h')
      rw [if_pos (by omega)]; exact ev_now _
  · have h : ¬ (a.length : Int) ≤ 1000 := fun h' => h (decide_eq_true h')
    rw [if_pos (by omega)]; exact ev_now _

/-- The reference's table, one row: what is in common from place i of the base and place k of the target on. -/
def RowAt (b t : List Int) (k : Nat) (row : List Int) : Prop := row.length = b.length + 1 ∧ ∀ i : Nat, i ≤ b.length → rd row (i : Int) = (lcp (b.drop i) (t.drop k) : Int)
/-- The best of the places from i on. -/
def BestTo (b t : List Int) (k i : Nat) (a m : Int) : Prop :=
  (m = 0 ∧ a = 0 ∧ ∀ j, i ≤ j → j < b.length → lcp (b.drop j) (t.drop k) = 0) ∨
  (0 < m ∧ ∃ j : Nat, a = j ∧ i ≤ j ∧ j < b.length ∧ (lcp (b.drop j) (t.drop k) : Int) = m ∧ (∀ q, i ≤ q → q < b.length → (lcp (b.drop q) (t.drop k) : Int) ≤ m) ∧ ∀ q, i ≤ q → q < j → (lcp (b.drop q) (t.drop k) : Int) < m)
theorem BestTo.done {b t : List Int} {k : Nat} {a m : Int} (h : BestTo b t k 0 a m) : a = mAt b (t.drop k) ∧ m = mLen b (t.drop k) := by
  have hs := mt_spec b (t.drop k)
  rcases h with ⟨h1, h2, h3⟩ | ⟨h1, j, h2, h3, h4, h5, h6, h7⟩
  · have := IsMatch.unique hs (Or.inl ⟨rfl, rfl, fun i hi => h3 i (by omega) hi⟩)
    omega
  · have := IsMatch.unique hs (Or.inr ⟨show 0 < m.toNat by omega, h4, by omega, fun i hi => by have := h6 i (by omega) hi; omega, fun i hi => by have := h7 i (by omega) hi; omega⟩)
    omega
theorem BestTo.step_yes {b t : List Int} {k i : Nat} {a m : Int} (h : BestTo b t k (i + 1) a m) (hi : i < b.length) (h0 : 0 < lcp (b.drop i) (t.drop k)) (hm : m ≤ (lcp (b.drop i) (t.drop k) : Int)) : BestTo b t k i (i : Int) (lcp (b.drop i) (t.drop k) : Int) := by
  refine Or.inr ⟨by omega, i, rfl, Nat.le_refl _, hi, rfl, fun q h1 h2 => ?_, fun q h1 h2 => by omega⟩
  by_cases e : q = i
  · subst e; exact Int.le_refl _
  · rcases h with ⟨g1, g2, g3⟩ | ⟨g1, j, g2, g3, g4, g5, g6, g7⟩
    · have := g3 q (by omega) h2; omega
    · have := g6 q (by omega) h2; omega
theorem BestTo.step_no {b t : List Int} {k i : Nat} {a m : Int} (h : BestTo b t k (i + 1) a m) (hc : lcp (b.drop i) (t.drop k) = 0 ∨ (lcp (b.drop i) (t.drop k) : Int) < m) : BestTo b t k i a m := by
  rcases h with ⟨g1, g2, g3⟩ | ⟨g1, j, g2, g3, g4, g5, g6, g7⟩
  · refine Or.inl ⟨g1, g2, fun q h1 h2 => ?_⟩
    by_cases e : q = i
    · subst e; omega
    · exact g3 q (by omega) h2
  · refine Or.inr ⟨g1, j, g2, by omega, g4, g5, fun q h1 h2 => ?_, fun q h1 h2 => ?_⟩
    · by_cases e : q = i
      · subst e; omega
      · exact g6 q (by omega) h2
    · by_cases e : q = i
      · subst e; omega
      · exact g7 q (by omega) h2

theorem lcp_drop_step {b t : List Int} {i k : Nat} (hi : i < b.length) (hk : k < t.length) : lcp (b.drop i) (t.drop k) = if rd b (i : Int) = rd t (k : Int) then lcp (b.drop (i + 1)) (t.drop (k + 1)) + 1 else 0 := by
  rw [drop_cons_rd hi, drop_cons_rd hk]; rfl

/-- What the tables hold behind the reference's first loop. -/
def Table (b t : List Int) (k : Nat) (best first : List Int) : Prop := best.length = t.length + 1 ∧ first.length = t.length + 1 ∧ (∀ q : Nat, k ≤ q → q < t.length → rd first (q : Int) = mAt b (t.drop q) ∧ rd best (q : Int) = mLen b (t.drop q)) ∧ ∀ q : Nat, q < k → rd first (q : Int) = 0 ∧ rd best (q : Int) = 0

theorem ed_l1 {b t : List Int} (hb : (b.length : Int) ≤ 1000) (ht : (t.length : Int) ≤ 1000) {k : Nat} (hk : k < t.length) {below : List Int} (hbl : RowAt b t (k + 1) below) {R : List D}
    (hR : ∀ row best first, RowAt b t k row → Table b t k best first → Ev (fun n => changeforgeref3_EncodeDelta.l0 n b t best first row (wrap64 ((k : Int) - 1))) R) :
    ∀ (d : Nat) (i : Int) (best first row : List Int), i + 1 = d → i < b.length → row.length = b.length + 1 → (∀ j : Nat, i < j → j < b.length → rd row (j : Int) = (lcp (b.drop j) (t.drop k) : Int)) → (∀ j : Nat, (j : Int) ≤ i ∨ j = b.length → rd row (j : Int) = 0) →
      best.length = t.length + 1 → first.length = t.length + 1 → BestTo b t k d (rd first (k : Int)) (rd best (k : Int)) → (∀ q : Nat, k < q → q < t.length → rd first (q : Int) = mAt b (t.drop q) ∧ rd best (q : Int) = mLen b (t.drop q)) → (∀ q : Nat, q < k → rd first (q : Int) = 0 ∧ rd best (q : Int) = 0) →
      Ev (fun n => changeforgeref3_EncodeDelta.l1 n b t best first below (k : Int) row i) R := by
  intro d
  induction d with
  | zero =>
    intro i best first row hi hib hl hrow hrow0 hbe hfi hbest hup hlow
    refine Ev.step (fun k_ => by rw [changeforgeref3_EncodeDelta.l1]) ?_
    refine ev_neg (by omega) ?_
    refine hR row best first ⟨hl, fun j hj => ?_⟩ ⟨hbe, hfi, fun q h1 h2 => ?_, hlow⟩
    · by_cases e : j = b.length
      · rw [hrow0 j (Or.inr e), show b.drop j = [] from List.drop_eq_nil_of_le (by omega)]; rfl
      · exact hrow j (by omega) (by omega)
    · by_cases e : q = k
      · subst e; exact hbest.done
      · exact hup q (by omega) h2
  | succ d ih =>
    intro i best first row hi hib hl hrow hrow0 hbe hfi hbest hup hlow
    obtain ⟨p, rfl⟩ : ∃ p : Nat, i = p := ⟨i.toNat, by omega⟩
    have hpd : p = d := by omega
    subst hpd
    have hstep := lcp_drop_step (b := b) (t := t) (i := p) (k := k) (by omega) hk
    have hle := lcp_le_left (b.drop p) (t.drop k)
    rw [List.length_drop] at hle
    -- what follows, whatever the row has become
    have hnext : ∀ row' : List Int, row'.length = b.length + 1 → rd row' (p : Int) = (lcp (b.drop p) (t.drop k) : Int) → (∀ j : Nat, j ≠ p → rd row' (j : Int) = rd row (j : Int)) →
        Ev (fun n => if (rd row' (p : Int)) > 0 then (if (k : Int) < (best.length : Int) then (if (rd row' (p : Int)) ≥ (rd best (k : Int)) then (if (k : Int) < (first.length : Int) then (changeforgeref3_EncodeDelta.l1 n b t (best.set (k : Int).toNat (rd row' (p : Int))) (first.set (k : Int).toNat (p : Int)) below (k : Int) row' (wrap64 ((p : Int) - 1))) else (none)) else (changeforgeref3_EncodeDelta.l1 n b t best first below (k : Int) row' (wrap64 ((p : Int) - 1)))) else (none)) else (changeforgeref3_EncodeDelta.l1 n b t best first below (k : Int) row' (wrap64 ((p : Int) - 1)))) R := by
      intro row' hl' hp' ho'
      rw [w64 (x := (p : Int) - 1) (by omega)]
      have hno : lcp (b.drop p) (t.drop k) = 0 ∨ (lcp (b.drop p) (t.drop k) : Int) < rd best (k : Int) → Ev (fun n => changeforgeref3_EncodeDelta.l1 n b t best first below (k : Int) row' ((p : Int) - 1)) R := by
        intro hc
        refine ih ((p : Int) - 1) best first row' (by omega) (by omega) hl' (fun j h1 h2 => ?_) (fun j h1 => ?_) hbe hfi (hbest.step_no hc) hup hlow
        · by_cases e : j = p
          · subst e; exact hp'
          · rw [ho' j e]; exact hrow j (by omega) h2
        · rw [ho' j (by omega)]; exact hrow0 j (by omega)
      refine ev_cases (fun h1 => ev_pos (by omega) (ev_cases (fun h2 => ev_pos (by omega) ?_) (fun h2 => ?_))) (fun h1 => ?_)
      · have hk0 : (0 : Int) ≤ k := by omega
        refine ih ((p : Int) - 1) _ _ row' (by omega) (by omega) hl' (fun j h3 h4 => ?_) (fun j h3 => ?_) (by rw [List.length_set]; exact hbe) (by rw [List.length_set]; exact hfi) ?_ (fun q h3 h4 => ?_) (fun q h3 => ?_)
        · by_cases e : j = p
          · subst e; exact hp'
          · rw [ho' j e]; exact hrow j (by omega) h4
        · rw [ho' j (by omega)]; exact hrow0 j (by omega)
        · rw [rd_set best _ hk0 (by omega) hk0, rd_set first _ hk0 (by omega) hk0, if_pos rfl, if_pos rfl, hp']
          exact hbest.step_yes (by omega) (by omega) (by omega)
        · rw [rd_set best _ hk0 (by omega) (by omega), rd_set first _ hk0 (by omega) (by omega), if_neg (by omega), if_neg (by omega)]
          exact hup q h3 h4
        · rw [rd_set best _ hk0 (by omega) (by omega), rd_set first _ hk0 (by omega) (by omega), if_neg (by omega), if_neg (by omega)]
          exact hlow q h3
      · exact hno (by omega)
      · exact hno (by omega)
    refine Ev.step (fun k_ => by rw [changeforgeref3_EncodeDelta.l1]) ?_
    refine ev_pos (by omega) (ev_pos (by omega) (ev_pos (by omega) (ev_pos (by omega) (ev_pos (by omega) ?_))))
    have hbl1 := hbl.1
    refine ev_cases (fun h1 => ?_) (fun h1 => ?_)
    · rw [if_pos h1] at hstep
      rw [w64 (x := (p : Int) + 1) (by omega)]
      have hbv := hbl.2 (p + 1) (by omega)
      rw [show ((p + 1 : Nat) : Int) = (p : Int) + 1 by omega] at hbv
      have hle2 := lcp_le_left (b.drop (p + 1)) (t.drop (k + 1))
      rw [List.length_drop] at hle2
      rw [hbv, w64 (by omega)]
      refine ev_pos (by omega) (ev_pos (by omega) (ev_pos (by omega) (ev_some ?_)))
      refine hnext _ (by rw [List.length_set]; exact hl) ?_ (fun j hj => ?_)
      · rw [rd_set row _ (by omega) (by omega) (by omega), if_pos rfl]; omega
      · rw [rd_set row _ (by omega) (by omega) (by omega), if_neg (by omega)]
    · rw [if_neg h1] at hstep
      refine ev_pos (by omega) ?_
      exact hnext row hl (by rw [hrow0 p (Or.inl (Int.le_refl _))]; omega) (fun j _ => rfl)
theorem ed_l2 {b t best first : List Int} (hb : (b.length : Int) ≤ 1000) (ht : (t.length : Int) ≤ 1000) (hT : Table b t 0 best first) :
    ∀ (n k : Nat) (out : List D) (op : Bool), t.length ≤ k + n → k ≤ t.length → n ≤ 1000 → Room n out op → Ev (fun j => changeforgeref3_EncodeDelta.l2 j t best first out op (k : Int)) (enc b (n + 1) (t.drop k) out op) := by
  obtain ⟨hbe, hfi, hTv, _⟩ := hT
  intro n
  induction n with
  | zero =>
    intro k out op hk hk2 hn hr
    have e : enc b 1 (t.drop k) out op = out := by simp only [enc]; rw [if_pos (by rw [List.length_drop]; omega)]
    rw [e]
    refine Ev.step (fun k_ => by rw [changeforgeref3_EncodeDelta.l2]) ?_
    refine ev_neg (by omega) ?_
    exact ev_now _
  | succ n ih =>
    intro k out op hk hk2 hn hr
    by_cases h0 : k = t.length
    · have e : enc b (n + 1 + 1) (t.drop k) out op = out := by simp only [enc]; rw [if_pos (by rw [List.length_drop]; omega)]
      rw [e]
      refine Ev.step (fun k_ => by rw [changeforgeref3_EncodeDelta.l2]) ?_
      refine ev_neg (by omega) ?_
      exact ev_now _
    have hml := mLen_le b (t.drop k)
    rw [List.length_drop] at hml
    have hr1 := hr.1
    obtain ⟨hv1, hv2⟩ := hTv k (by omega) (by omega)
    have e0 : rd (t.drop k) 0 = rd t (k : Int) := by
      rw [drop_cons_rd (show k < t.length by omega)]; rfl
    have hs : enc b (n + 1 + 1) (t.drop k) out op = (if 4 ≤ mLen b (t.drop k) then enc b (n + 1) (t.drop (k + mLen b (t.drop k))) (out ++ [⟨(mAt b (t.drop k) : Int), (mLen b (t.drop k) : Int), []⟩]) false
      else if op = true then enc b (n + 1) (t.drop (k + 1)) (more out (rd t (k : Int))) true else enc b (n + 1) (t.drop (k + 1)) (out ++ [⟨0, 0, [rd t (k : Int)]⟩]) true) := by
      rw [enc, if_neg (by rw [List.length_drop]; omega), List.drop_drop, List.drop_drop, e0]
    refine Ev.step (fun k_ => by rw [changeforgeref3_EncodeDelta.l2]) ?_
    refine ev_pos (by omega) (ev_pos (by omega) (ev_pos (by omega) ?_))
    rw [hv1, hv2]
    refine ev_cases (fun h1 => ev_pos (by omega) (ev_pos (by omega) ?_)) (fun h1 => ?_)
    · rw [if_pos (by omega)] at hs
      rw [hs, w64 (by omega), show (k : Int) + (mLen b (t.drop k) : Int) = ((k + mLen b (t.drop k) : Nat) : Int) by omega]
      exact ih _ _ false (by omega) (by omega) (by omega) hr.copy
    · rw [if_neg (by omega)] at hs
      rw [w64 (x := (k : Int) + 1) (by omega), show (k : Int) + 1 = ((k + 1 : Nat) : Int) by omega]
      refine ev_cases (fun h2 => ?_) (fun h2 => ?_)
      · rw [if_pos h2] at hs
        subst h2
        obtain ⟨h3, h4⟩ := hr.2 rfl
        rw [w64 (x := (out.length : Int) - 1) (by omega), hs]
        refine ev_pos (by omega) (ev_pos (by omega) (ev_pos (by omega) ?_))
        rw [show ((out.length : Int) - 1).toNat = out.length - 1 by omega]
        exact ih _ _ true (by omega) (by omega) (by omega) hr.more
      · rw [if_neg h2] at hs
        rw [hs]
        refine ev_pos (by omega) (ev_some ?_)
        have hl1 : (out ++ [(⟨0, 0, []⟩ : D)]).length = out.length + 1 := by simp
        have hl2 : (((out ++ [(⟨0, 0, []⟩ : D)]).length : Int) - 1).toNat = out.length := by rw [hl1]; omega
        have hlast := rdT_last out (⟨0, 0, []⟩ : D)
        rw [w64 (x := ((out ++ [(⟨0, 0, []⟩ : D)]).length : Int) - 1) (by omega), hlast, hl2]
        have hset : (out ++ [(⟨0, 0, []⟩ : D)]).set out.length ⟨0, 0, [] ++ [rd t (k : Int)]⟩ = out ++ [⟨0, 0, [rd t (k : Int)]⟩] := by
          rw [List.set_append_right _ _ (Nat.le_refl _)]; simp
        refine ev_pos (by omega) (ev_pos (by omega) (ev_pos (by simp) ?_))
        show Ev (fun j => changeforgeref3_EncodeDelta.l2 j t best first ((out ++ [(⟨0, 0, []⟩ : D)]).set out.length ⟨0, 0, [] ++ [rd t (k : Int)]⟩) true ((k + 1 : Nat) : Int)) _
        rw [hset]
        exact ih _ _ true (by omega) (by omega) (by omega) (hr.data (by omega))
theorem ed_l0 {b t : List Int} (hb : (b.length : Int) ≤ 1000) (ht : (t.length : Int) ≤ 1000) :
    ∀ (d : Nat) (k : Int) (best first row : List Int), k + 1 = d → k < t.length → RowAt b t d row → Table b t d best first → Ev (fun j => changeforgeref3_EncodeDelta.l0 j b t best first row k) (enc b (t.length + 1) t [] false) := by
  intro d
  induction d with
  | zero =>
    intro k best first row hk hkt hrow hT
    refine Ev.step (fun k_ => by rw [changeforgeref3_EncodeDelta.l0]) ?_
    refine ev_neg (by omega) ?_
    have := ed_l2 hb ht hT t.length 0 [] false (by omega) (by omega) (by omega) ⟨by simp; omega, fun h => by cases h⟩
    exact this
  | succ d ih =>
    intro k best first row hk hkt hrow hT
    obtain ⟨p, rfl⟩ : ∃ p : Nat, k = p := ⟨k.toNat, by omega⟩
    have hpd : p = d := by omega
    subst hpd
    obtain ⟨hbe, hfi, hTv, hT0⟩ := hT
    refine Ev.step (fun k_ => by rw [changeforgeref3_EncodeDelta.l0]) ?_
    rw [w64 (x := (b.length : Int) + 1) (by omega), w64 (x := (b.length : Int) - 1) (by omega)]
    refine ev_pos (by omega) (ev_pos (by omega) (ev_pos (by omega) ?_))
    have hz : ∀ j : Nat, rd (List.replicate ((b.length : Int) + 1).toNat 0) (j : Int) = 0 := fun j => rdOf_replicate (0 : Int) _ _
    refine ed_l1 hb ht (by omega) hrow (fun row' best' first' h1 h2 => ?_) b.length ((b.length : Int) - 1) best first _ (by omega) (by omega) (by simp <;> omega) (fun j h1 h2 => by omega) (fun j _ => hz j) hbe hfi ?_ (fun q h1 h2 => hTv q (by omega) h2) (fun q h1 => hT0 q (by omega))
    · rw [w64 (by omega)]
      exact ih ((p : Int) - 1) best' first' row' (by omega) (by omega) h1 h2
    · obtain ⟨g1, g2⟩ := hT0 p (by omega)
      exact Or.inl ⟨g2, g1, fun j h1 h2 => by omega⟩
theorem encodedelta_ev {b t : List Int} (hb : (b.length : Int) ≤ 1000) (ht : (t.length : Int) ≤ 1000) : Ev (fun k => changeforgeref3_EncodeDelta.f k b t) (enc b (t.length + 1) t [] false) := by
  unfold changeforgeref3_EncodeDelta.f
  rw [w64 (x := (t.length : Int) + 1) (by omega), w64 (x := (b.length : Int) + 1) (by omega), w64 (x := (t.length : Int) - 1) (by omega)]
  refine ev_pos (by omega) (ev_pos (by omega) (ev_pos (by omega) (ev_pos (by omega) ?_)))
  have hz : ∀ (m : Nat) (j : Nat), rd (List.replicate m 0) (j : Int) = 0 := fun m j => rdOf_replicate (0 : Int) _ _
  refine ed_l0 hb ht t.length ((t.length : Int) - 1) _ _ _ (by omega) (by omega) ⟨by simp <;> omega, fun i hi => ?_⟩ ⟨by simp <;> omega, by simp <;> omega, fun q h1 h2 => by omega, fun q _ => ⟨hz _ q, hz _ q⟩⟩
  rw [hz, List.drop_length, lcp_nil_right]; rfl

theorem deltas_l0 {a : List D} (ha : (a.length : Int) ≤ 140737488351232) : ∀ (m : Nat) (i : Int), 0 ≤ i → i + m = a.length → Ev (fun k => changeforgeref3_Deltas.l0 k a a i) true := by
  intro m
  induction m with
  | zero =>
    intro i h0 hi
    refine Ev.step (fun k_ => by rw [changeforgeref3_Deltas.l0]) ?_
    refine ev_neg (by omega) ?_
    exact ev_now _
  | succ m ih =>
    intro i h0 hi
    refine Ev.step (fun k_ => by rw [changeforgeref3_Deltas.l0]) ?_
    refine ev_pos (by omega) (ev_pos (by omega) (ev_pos (by omega) (ev_pos rfl (ev_pos rfl (ev_pos rfl ?_)))))
    rw [w64 (by omega)]
    exact ih (i + 1) (by omega) (by omega)
theorem deltas_same {a : List D} (ha : (a.length : Int) ≤ 140737488351232) : Ev (fun k => changeforgeref3_Deltas.f k a a) true := by
  unfold changeforgeref3_Deltas.f
  exact ev_pos rfl (deltas_l0 ha a.length 0 (by omega) (by omega))
theorem enc_length {b : List Int} : ∀ (n : Nat) (t : List Int) (out : List D) (op : Bool), (enc b n t out op).length ≤ out.length + n
  | 0, t, out, op => by simp [enc]
  | n + 1, t, out, op => by
    have ih := fun t out op => enc_length (b := b) n t out op
    simp only [enc]
    split
    · omega
    · split
      · have := ih (t.drop (mLen b t)) (out ++ [⟨(mAt b t : Int), (mLen b t : Int), []⟩]) false
        rw [List.length_append, List.length_singleton] at this; omega
      · split
        · have := ih (t.drop 1) (more out (rd t 0)) true
          rw [more_length] at this; omega
        · have := ih (t.drop 1) (out ++ [⟨0, 0, [rd t 0]⟩]) true
          rw [List.length_append, List.length_singleton] at this; omega
end Go.Proofs.Ytgmpnghgmcgghaa.Delta
