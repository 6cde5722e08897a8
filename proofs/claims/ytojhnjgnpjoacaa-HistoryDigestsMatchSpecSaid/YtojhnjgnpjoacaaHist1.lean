/- What history.Validate (and the reference's HistoryFault) come to: the fault of a history; what a fault-free history is. -/
import Derived.Test.YtojhnjgnpjoacaaEv
import Derived.Test.YtojhnjgnpjoacaaP2
namespace Go.Proofs.Ytojhnjgnpjoacaa.Hist
open Go.RowKit Go.Proofs.YtojhnjgnpjoacaaW.PrintWords Go.Proofs.YtojhnjgnpjoacaaW.PrintEv Go.Proofs.Ytojhnjgnpjoacaa.P
set_option linter.unusedVariables false

abbrev C := S49

def pchk (i : Int) (ps : List Int) : Nat → Int → Int
  | 0, _ => 0
  | n + 1, k => if rd ps k < 0 ∨ rd ps k ≥ i then 3 else if k > 0 ∧ rd ps (k - 1) ≥ rd ps k then 5 else pchk i ps n (k + 1)
def bad (c : C) : Prop := c.f1 < 0 ∨ c.f1 > 7 ∨ c.f2 < 0 ∨ c.f2 > 100000 ∨ c.f3 < 0 ∨ c.f3 ≥ 2305843009213693951
instance (c : C) : Decidable (bad c) := by unfold bad; infer_instance
def chk (i : Int) (c : C) : Int :=
  if (c.f0.length : Int) > 3 then 2 else if pchk i c.f0 c.f0.length 0 ≠ 0 then pchk i c.f0 c.f0.length 0 else if bad c then 3 else if (c.f4.size : Int) > 80 then 10 else 0
def vfrom (l : List C) : Nat → Int → Int × Int
  | 0, _ => (0, 0)
  | n + 1, i => if chk i (rd_T49 l i) ≠ 0 then (chk i (rd_T49 l i), i) else vfrom l n (i + 1)
def vf (l : List C) : Int × Int := if (l.length : Int) > 60 then (2, -1) else vfrom l l.length 0

theorem pchk_zero {i : Int} {ps : List Int} : ∀ {n : Nat} {k : Int}, pchk i ps n k = 0 → ∀ j, k ≤ j → j < k + n → 0 ≤ rd ps j ∧ rd ps j < i ∧ (0 < j → rd ps (j - 1) < rd ps j)
  | 0, k, _, j, h1, h2 => by omega
  | n + 1, k, h, j, h1, h2 => by
    unfold pchk at h
    by_cases c1 : rd ps k < 0 ∨ rd ps k ≥ i
    · rw [if_pos c1] at h; omega
    · rw [if_neg c1] at h
      by_cases c2 : k > 0 ∧ rd ps (k - 1) ≥ rd ps k
      · rw [if_pos c2] at h; omega
      · rw [if_neg c2] at h
        by_cases e : j = k
        · subst e; omega
        · exact pchk_zero h j (by omega) (by omega)

/-- A history without fault. -/
structure Valid (l : List C) : Prop where
  len : (l.length : Int) ≤ 60
  plen : ∀ i : Int, 0 ≤ i → i < l.length → ((rd_T49 l i).f0.length : Int) ≤ 3
  par : ∀ i j : Int, 0 ≤ i → i < l.length → 0 ≤ j → j < ((rd_T49 l i).f0.length : Int) → 0 ≤ rd (rd_T49 l i).f0 j ∧ rd (rd_T49 l i).f0 j < i ∧ (0 < j → rd (rd_T49 l i).f0 (j - 1) < rd (rd_T49 l i).f0 j)
  good : ∀ i : Int, 0 ≤ i → i < l.length → ¬ bad (rd_T49 l i) ∧ ((rd_T49 l i).f4.size : Int) ≤ 80

theorem vfrom_zero {l : List C} : ∀ {n : Nat} {k : Int}, (vfrom l n k).1 = 0 → vfrom l n k = (0, 0) ∧ ∀ j, k ≤ j → j < k + n → chk j (rd_T49 l j) = 0
  | 0, k, _ => ⟨rfl, fun j h1 h2 => by omega⟩
  | n + 1, k, h => by
    unfold vfrom at h ⊢
    by_cases c : chk k (rd_T49 l k) ≠ 0
    · rw [if_pos c] at h; exact absurd h c
    · rw [if_neg c] at h ⊢
      obtain ⟨h1, h2⟩ := vfrom_zero h
      refine ⟨h1, fun j hj hj' => ?_⟩
      by_cases e : j = k
      · subst e; omega
      · exact h2 j (by omega) (by omega)
theorem vf_zero {l : List C} (h : (vf l).1 = 0) : vf l = (0, 0) ∧ Valid l := by
  unfold vf at h ⊢
  by_cases c : (l.length : Int) > 60
  · rw [if_pos c] at h; exact absurd h (by decide)
  · rw [if_neg c] at h ⊢
    obtain ⟨h1, h2⟩ := vfrom_zero h
    have key : ∀ i : Int, 0 ≤ i → i < l.length → ((rd_T49 l i).f0.length : Int) ≤ 3 ∧ pchk i (rd_T49 l i).f0 (rd_T49 l i).f0.length 0 = 0 ∧ ¬ bad (rd_T49 l i) ∧ ((rd_T49 l i).f4.size : Int) ≤ 80 := by
      intro i h0 hi
      have hc := h2 i h0 (by omega)
      unfold chk at hc
      by_cases c1 : ((rd_T49 l i).f0.length : Int) > 3
      · rw [if_pos c1] at hc; omega
      · rw [if_neg c1] at hc
        by_cases c2 : pchk i (rd_T49 l i).f0 (rd_T49 l i).f0.length 0 ≠ 0
        · rw [if_pos c2] at hc; exact absurd hc c2
        · rw [if_neg c2] at hc
          by_cases c3 : bad (rd_T49 l i)
          · rw [if_pos c3] at hc; omega
          · rw [if_neg c3] at hc
            by_cases c4 : ((rd_T49 l i).f4.size : Int) > 80
            · rw [if_pos c4] at hc; omega
            · exact ⟨by omega, by omega, c3, by omega⟩
    exact ⟨h1, ⟨by omega, fun i h0 hi => (key i h0 hi).1, fun i j h0 hi hj0 hj => pchk_zero (key i h0 hi).2.1 j hj0 (by omega), fun i h0 hi => (key i h0 hi).2.2⟩⟩

theorem val_j4 {l : List C} {n i : Int} {b : Bool} {ps : List Int} {au ti tr : Int} {ms : ByteArray} {R : Int × Int} (hR : Ev (fun k => history_Validate.l0 k l n (wrap64 (i + 1))) R) :
    Ev (fun k => history_Validate.j4 k i l n i b ps au ti tr ms) (if b = true then (3, i) else if (ms.size : Int) > 80 then (10, i) else R) := by
  refine Ev.step (fun k_ => by rw [history_Validate.j4]) ?_
  exact ev_ite (fun _ => ev_now _) (fun _ => ev_ite (fun _ => ev_now _) (fun _ => hR))
theorem val_j3 {l : List C} {n i : Int} {b : Bool} {ps : List Int} {au ti tr : Int} {ms : ByteArray} {R : Int × Int} (hR : Ev (fun k => history_Validate.l0 k l n (wrap64 (i + 1))) R) :
    Ev (fun k => history_Validate.j3 k i l n i b ps au ti tr ms) (if (b = true ∨ ti < 0 ∨ ti > 100000 ∨ tr < 0 ∨ tr ≥ 2305843009213693951) then (3, i) else if (ms.size : Int) > 80 then (10, i) else R) := by
  refine Ev.step (fun k_ => by rw [history_Validate.j3]) ?_
  refine ev_cases (fun h1 => ev_cast (val_j4 hR) ?_) (fun h1 => ev_cases (fun h2 => ev_cast (val_j4 hR) ?_) (fun h2 => ev_cases (fun h3 => ev_cast (val_j4 hR) ?_) (fun h3 => ev_cases (fun h4 => ev_cast (val_j4 hR) ?_) (fun h4 => ev_cast (val_j4 hR) ?_))))
  · rw [if_pos h1, if_pos (Or.inl h1)]
  · rw [if_pos rfl, if_pos (by omega)]
  · rw [if_pos (by simpa using h3), if_pos (by omega)]
  · rw [if_pos rfl, if_pos (by omega)]
  · by_cases h5 : tr ≥ 2305843009213693951
    · rw [if_pos (by simpa using h5), if_pos (by omega)]
    · have e : ¬ (b = true ∨ ti < 0 ∨ ti > 100000 ∨ tr < 0 ∨ tr ≥ 2305843009213693951) := fun h => h.elim h1 (fun h => by omega)
      rw [if_neg (by simpa using h5), if_neg e]
theorem val_l1 {l : List C} {n i : Int} {ps : List Int} {au ti tr : Int} {ms : ByteArray} {R : Int × Int} (hp : (ps.length : Int) ≤ 1000) (hR : Ev (fun k => history_Validate.l0 k l n (wrap64 (i + 1))) R) :
    ∀ (m : Nat) (q : Int), 0 ≤ q → q + m = ps.length → Ev (fun k => history_Validate.l1 k i l n i ps (ps.length : Int) q ps au ti tr ms)
      (if pchk i ps m q ≠ 0 then (pchk i ps m q, i) else if (au < 0 ∨ au > 7 ∨ ti < 0 ∨ ti > 100000 ∨ tr < 0 ∨ tr ≥ 2305843009213693951) then (3, i) else if (ms.size : Int) > 80 then (10, i) else R) := by
  intro m
  induction m with
  | zero =>
    intro q h0 hq
    refine Ev.step (fun k_ => by rw [history_Validate.l1]) ?_
    refine ev_neg (by omega) ?_
    rw [if_neg (by simp [pchk])]
    refine ev_cases (fun h1 => ev_cast (val_j3 hR) ?_) (fun h1 => ev_cast (val_j3 hR) ?_)
    · rw [if_pos (Or.inl rfl), if_pos (by omega)]
    · by_cases h2 : au > 7
      · rw [if_pos (Or.inl (by simpa using h2)), if_pos (by omega)]
      · have e : (decide (au > 7) = true ∨ ti < 0 ∨ ti > 100000 ∨ tr < 0 ∨ tr ≥ 2305843009213693951) ↔ (au < 0 ∨ au > 7 ∨ ti < 0 ∨ ti > 100000 ∨ tr < 0 ∨ tr ≥ 2305843009213693951) := by
          simp only [decide_eq_true_eq]; omega
        by_cases h3 : (au < 0 ∨ au > 7 ∨ ti < 0 ∨ ti > 100000 ∨ tr < 0 ∨ tr ≥ 2305843009213693951)
        · rw [if_pos h3, if_pos (e.2 h3)]
        · rw [if_neg h3, if_neg (fun h => h3 (e.1 h))]
  | succ m ih =>
    intro q h0 hq
    have ih' := ih (q + 1) (by omega) (by omega)
    refine Ev.step (fun k_ => by rw [history_Validate.l1]) ?_
    (repeat (first | refine ev_pos (by first | assumption | omega) ?_ | refine ev_neg (by first | assumption | omega) ?_))
    have tail : ¬ (rd ps q < 0 ∨ rd ps q ≥ i) → Ev (fun k => if q > 0 then (if 0 ≤ (wrap64 (q - 1)) then (if (wrap64 (q - 1)) < (ps.length : Int) then (if (rd ps (wrap64 (q - 1))) ≥ (rd ps q) then (some (5, i)) else (history_Validate.l1 k i l n i ps (ps.length : Int) (wrap64 (q + 1)) ps au ti tr ms)) else (none)) else (none)) else (history_Validate.l1 k i l n i ps (ps.length : Int) (wrap64 (q + 1)) ps au ti tr ms))
        (if pchk i ps (m + 1) q ≠ 0 then (pchk i ps (m + 1) q, i) else if (au < 0 ∨ au > 7 ∨ ti < 0 ∨ ti > 100000 ∨ tr < 0 ∨ tr ≥ 2305843009213693951) then (3, i) else if (ms.size : Int) > 80 then (10, i) else R) := by
      intro hn
      rw [w64 (x := q - 1) (by omega), w64 (x := q + 1) (by omega)]
      refine ev_cases (fun h1 => ?_) (fun h1 => ?_)
      · (repeat (first | refine ev_pos (by first | assumption | omega) ?_ | refine ev_neg (by first | assumption | omega) ?_))
        refine ev_cases (fun h2 => ?_) (fun h2 => ?_)
        · have e : pchk i ps (m + 1) q = 5 := by simp only [pchk]; rw [if_neg hn, if_pos ⟨h1, h2⟩]
          rw [e]; exact ev_now _
        · have e : pchk i ps (m + 1) q = pchk i ps m (q + 1) := by
            show (if rd ps q < 0 ∨ rd ps q ≥ i then 3 else if q > 0 ∧ rd ps (q - 1) ≥ rd ps q then 5 else pchk i ps m (q + 1)) = _
            rw [if_neg hn, if_neg (by omega)]
          rw [e]; exact ih'
      · have e : pchk i ps (m + 1) q = pchk i ps m (q + 1) := by
          show (if rd ps q < 0 ∨ rd ps q ≥ i then 3 else if q > 0 ∧ rd ps (q - 1) ≥ rd ps q then 5 else pchk i ps m (q + 1)) = _
          rw [if_neg hn, if_neg (by omega)]
        rw [e]; exact ih'
    refine ev_cases (fun h1 => ?_) (fun h1 => ?_)
    · refine Ev.step (fun k_ => by rw [history_Validate.j2]) ?_
      refine ev_pos rfl ?_
      have e : pchk i ps (m + 1) q = 3 := by simp only [pchk]; rw [if_pos (Or.inl h1)]
      rw [e]; exact ev_now _
    · refine Ev.step (fun k_ => by rw [history_Validate.j2]) ?_
      refine ev_cases (fun h2 => ?_) (fun h2 => ?_)
      · have h2' : rd ps q ≥ i := by simpa using h2
        have e : pchk i ps (m + 1) q = 3 := by simp only [pchk]; rw [if_pos (Or.inr h2')]
        rw [e]; exact ev_now _
      · have h2' : ¬ rd ps q ≥ i := by simpa using h2
        exact tail (by omega)
theorem val_l0 {l : List C} (hl : (l.length : Int) ≤ 60) (hp : ∀ x ∈ l, (x.f0.length * 8 : Nat) ≤ 140737488351232) : ∀ (n : Nat) (i : Int), 0 ≤ i → i + n = l.length → Ev (fun k => history_Validate.l0 k l (l.length : Int) i) (vfrom l n i) := by
  intro n
  induction n with
  | zero =>
    intro i h0 hi
    refine Ev.step (fun k_ => by rw [history_Validate.l0]) ?_
    refine ev_neg (by omega) ?_
    exact ev_now _
  | succ n ih =>
    intro i h0 hi
    refine Ev.step (fun k_ => by rw [history_Validate.l0]) ?_
    (repeat (first | refine ev_pos (by first | assumption | omega) ?_ | refine ev_neg (by first | assumption | omega) ?_))
    have hR : Ev (fun k => history_Validate.l0 k l (l.length : Int) (wrap64 (i + 1))) (vfrom l n (i + 1)) := by
      rw [w64 (by omega)]; exact ih (i + 1) (by omega) (by omega)
    refine ev_cases (fun h1 => ?_) (fun h1 => ?_)
    · have e : vfrom l (n + 1) i = (2, i) := by
        have e2 : chk i (rd_T49 l i) = 2 := by unfold chk; rw [if_pos h1]
        show (if chk i (rd_T49 l i) ≠ 0 then (chk i (rd_T49 l i), i) else vfrom l n (i + 1)) = _
        rw [e2]; rfl
      rw [e]; exact ev_now _
    · refine ev_cast (val_l1 (by omega) hR (rd_T49 l i).f0.length 0 (by omega) (by simp)) ?_
      show _ = (if chk i (rd_T49 l i) ≠ 0 then (chk i (rd_T49 l i), i) else vfrom l n (i + 1))
      have e : chk i (rd_T49 l i) = (if pchk i (rd_T49 l i).f0 (rd_T49 l i).f0.length 0 ≠ 0 then pchk i (rd_T49 l i).f0 (rd_T49 l i).f0.length 0 else if bad (rd_T49 l i) then 3 else if ((rd_T49 l i).f4.size : Int) > 80 then 10 else 0) := by
        unfold chk; rw [if_neg h1]
      rw [e]
      by_cases c1 : pchk i (rd_T49 l i).f0 (rd_T49 l i).f0.length 0 ≠ 0
      · rw [if_pos c1, if_pos c1, if_pos c1]
      · rw [if_neg c1, if_neg c1]
        by_cases c2 : bad (rd_T49 l i)
        · rw [if_pos c2, if_pos (show (3 : Int) ≠ 0 by decide)]
          exact if_pos c2
        · rw [if_neg c2, if_neg (show ¬ ((rd_T49 l i).f1 < 0 ∨ (rd_T49 l i).f1 > 7 ∨ (rd_T49 l i).f2 < 0 ∨ (rd_T49 l i).f2 > 100000 ∨ (rd_T49 l i).f3 < 0 ∨ (rd_T49 l i).f3 ≥ 2305843009213693951) from c2)]
          by_cases c3 : ((rd_T49 l i).f4.size : Int) > 80
          · rw [if_pos c3, if_pos c3]; rfl
          · rw [if_neg c3, if_neg c3]; rfl
theorem validate_ev {l : List C} (hp : ∀ x ∈ l, S49.ok x) : Ev (fun k => history_Validate.f k l) (vf l) := by
  unfold history_Validate.f vf
  refine ev_ite (fun _ => ev_now _) (fun h => ?_)
  exact val_l0 (by omega) (fun x hx => (hp x hx).1.1) l.length 0 (by omega) (by omega)
end Go.Proofs.Ytojhnjgnpjoacaa.Hist
