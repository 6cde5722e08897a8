/- The longest prefix of a target that occurs in a base: what deltachain.match comes to. -/
import Derived.Test.YtgmpnghgmcgghaaEv
import Derived.Test.YtgmpnghgmcgghaaP2
import Derived.Test.YtgmpnghgmcgghaaP3
namespace Go.Proofs.Ytgmpnghgmcgghaa.Delta
open Go.RowKit Go.Proofs.YtgmpnghgmcgghaaW.PrintWords Go.Proofs.YtgmpnghgmcgghaaW.PrintEv Go.Proofs.Ytgmpnghgmcgghaa.P
set_option linter.unusedVariables false

abbrev D := S37

/-- How many elements two lists have in common from the front. -/
def lcp : List Int → List Int → Nat
  | x :: xs, y :: ys => if x = y then lcp xs ys + 1 else 0
  | _, _ => 0
theorem lcp_nil_right : ∀ xs : List Int, lcp xs [] = 0
  | [] => rfl
  | _ :: _ => rfl
theorem lcp_le_left : ∀ xs ys : List Int, lcp xs ys ≤ xs.length
  | [], ys => by simp [lcp]
  | x :: xs, [] => by simp [lcp]
  | x :: xs, y :: ys => by
    have := lcp_le_left xs ys
    simp only [lcp]
    split <;> simp <;> omega
theorem lcp_le_right : ∀ xs ys : List Int, lcp xs ys ≤ ys.length
  | [], ys => by simp [lcp]
  | x :: xs, [] => by simp [lcp]
  | x :: xs, y :: ys => by
    have := lcp_le_right xs ys
    simp only [lcp]
    split <;> simp <;> omega
theorem lcp_self : ∀ xs : List Int, lcp xs xs = xs.length
  | [] => rfl
  | x :: xs => by simp only [lcp, if_true, lcp_self xs, List.length_cons]
/-- What is common is the same text. -/
theorem lcp_take : ∀ xs ys : List Int, xs.take (lcp xs ys) = ys.take (lcp xs ys)
  | [], ys => by simp [lcp]
  | x :: xs, [] => by simp [lcp]
  | x :: xs, y :: ys => by
    simp only [lcp]
    split
    · rename_i h
      subst h
      simp [lcp_take xs ys]
    · rfl

/-- at, most: the longest prefix of t in b, its first place; (0, 0) where there is none. -/
def IsMatch (b t : List Int) (a m : Nat) : Prop :=
  (m = 0 ∧ a = 0 ∧ ∀ i, i < b.length → lcp (b.drop i) t = 0) ∨
  (0 < m ∧ a < b.length ∧ lcp (b.drop a) t = m ∧ (∀ i, i < b.length → lcp (b.drop i) t ≤ m) ∧ ∀ i, i < a → lcp (b.drop i) t < m)
theorem IsMatch.unique {b t : List Int} {a m a' m' : Nat} (h : IsMatch b t a m) (h' : IsMatch b t a' m') : a = a' ∧ m = m' := by
  rcases h with ⟨h1, h2, h3⟩ | ⟨h1, h2, h3, h4, h5⟩ <;> rcases h' with ⟨g1, g2, g3⟩ | ⟨g1, g2, g3, g4, g5⟩
  · omega
  · have := h3 a' g2; omega
  · have := g3 a h2; omega
  · have e1 := h4 a' g2
    have e2 := g4 a h2
    have e : m = m' := by omega
    subst e
    refine ⟨?_, rfl⟩
    rcases Nat.lt_trichotomy a a' with c | c | c
    · have := g5 a c; omega
    · exact c
    · have := h5 a' c; omega
/-- The places below i alone. -/
def MatchTo (b t : List Int) (i a m : Nat) : Prop :=
  (m = 0 ∧ a = 0 ∧ ∀ j, j < i → lcp (b.drop j) t = 0) ∨
  (0 < m ∧ a < i ∧ lcp (b.drop a) t = m ∧ (∀ j, j < i → lcp (b.drop j) t ≤ m) ∧ ∀ j, j < a → lcp (b.drop j) t < m)
theorem MatchTo.step_yes {b t : List Int} {i a m : Nat} (h : MatchTo b t i a m) (hc : m < lcp (b.drop i) t) : MatchTo b t (i + 1) i (lcp (b.drop i) t) := by
  refine Or.inr ⟨by omega, by omega, rfl, fun j hj => ?_, fun j hj => ?_⟩
  · by_cases e : j = i
    · subst e; exact Nat.le_refl _
    · rcases h with ⟨h1, h2, h3⟩ | ⟨h1, h2, h3, h4, h5⟩
      · have := h3 j (by omega); omega
      · have := h4 j (by omega); omega
  · rcases h with ⟨h1, h2, h3⟩ | ⟨h1, h2, h3, h4, h5⟩
    · have := h3 j hj; omega
    · have := h4 j hj; omega
theorem MatchTo.step_no {b t : List Int} {i a m : Nat} (h : MatchTo b t i a m) (hc : ¬ m < lcp (b.drop i) t) : MatchTo b t (i + 1) a m := by
  rcases h with ⟨h1, h2, h3⟩ | ⟨h1, h2, h3, h4, h5⟩
  · refine Or.inl ⟨h1, h2, fun j hj => ?_⟩
    by_cases e : j = i
    · subst e; omega
    · exact h3 j (by omega)
  · refine Or.inr ⟨h1, by omega, h3, fun j hj => ?_, h5⟩
    by_cases e : j = i
    · subst e; omega
    · exact h4 j (by omega)

theorem match_l1 {b t : List Int} (hb : (b.length : Int) ≤ 1000) (ht : (t.length : Int) ≤ 1000) {i : Nat} {a m : Int} {R : Int × Int}
    (hR : Ev (fun k => if ((lcp (b.drop i) t : Nat) : Int) > m then deltachain_match.l0 k b t (i : Int) ((lcp (b.drop i) t : Nat) : Int) (b.length : Int) (wrap64 ((i : Int) + 1)) else deltachain_match.l0 k b t a m (b.length : Int) (wrap64 ((i : Int) + 1))) R) :
    ∀ (d j : Nat), j + d = t.length → lcp (b.drop i) t = j + lcp (b.drop (i + j)) (t.drop j) → i < b.length → Ev (fun k => deltachain_match.l1 k b t a m (i : Int) (j : Int) (b.length : Int) (i : Int)) R := by
  intro d
  induction d with
  | zero =>
    intro j hj hl hi
    have e : lcp (b.drop i) t = j := by rw [hl, show t.drop j = [] from List.drop_eq_nil_of_le (by omega), lcp_nil_right]; omega
    rw [e] at hR
    refine Ev.step (fun k_ => by rw [deltachain_match.l1]) ?_
    exact ev_neg (by omega) hR
  | succ d ih =>
    intro j hj hl hi
    have hjl : j < t.length := by omega
    refine Ev.step (fun k_ => by rw [deltachain_match.l1]) ?_
    rw [w64 (x := (i : Int) + (j : Int)) (by omega), w64 (x := (j : Int) + 1) (by omega)]
    refine ev_pos (by omega) ?_
    rw [drop_cons_rd hjl] at hl
    by_cases c : i + j < b.length
    · rw [drop_cons_rd c] at hl
      refine ev_pos (by omega) (ev_pos (by omega) (ev_pos (by omega) ?_))
      have e2 : ((i : Int) + (j : Int)) = ((i + j : Nat) : Int) := by omega
      rw [e2]
      by_cases c2 : rd b ((i + j : Nat) : Int) = rd t (j : Int)
      · refine ev_pos c2 ?_
        have := ih (j + 1) (by omega) (by
          rw [hl]
          simp only [lcp]
          rw [if_pos c2, show i + (j + 1) = i + j + 1 by omega]; omega) hi
        rw [show ((j + 1 : Nat) : Int) = (j : Int) + 1 by omega] at this
        exact this
      · have e : lcp (b.drop i) t = j := by
          rw [hl]
          simp only [lcp]
          rw [if_neg c2]; omega
        rw [e] at hR
        exact ev_neg c2 hR
    · have e : lcp (b.drop i) t = j := by
        rw [hl, show b.drop (i + j) = [] from List.drop_eq_nil_of_le (by omega)]
        simp [lcp]
      rw [e] at hR
      exact ev_neg (by omega) hR
theorem match_l0 {b t : List Int} (hb : (b.length : Int) ≤ 1000) (ht : (t.length : Int) ≤ 1000) {A M : Nat} (hM : IsMatch b t A M) :
    ∀ (d i : Nat) (a m : Nat), i + d = b.length → MatchTo b t i a m → Ev (fun k => deltachain_match.l0 k b t (a : Int) (m : Int) (b.length : Int) (i : Int)) ((A : Int), (M : Int)) := by
  intro d
  induction d with
  | zero =>
    intro i a m hi hm
    have hi' : i = b.length := by omega
    subst hi'
    obtain ⟨rfl, rfl⟩ := IsMatch.unique hM hm
    refine Ev.step (fun k_ => by rw [deltachain_match.l0]) ?_
    refine ev_neg (by omega) ?_
    exact ev_now _
  | succ d ih =>
    intro i a m hi hm
    refine Ev.step (fun k_ => by rw [deltachain_match.l0]) ?_
    refine ev_pos (by omega) ?_
    refine match_l1 hb ht ?_ t.length 0 (by omega) (by simp) (by omega)
    rw [w64 (x := (i : Int) + 1) (by omega), show (i : Int) + 1 = ((i + 1 : Nat) : Int) by omega]
    refine ev_cases (fun h => ?_) (fun h => ?_)
    · exact ih (i + 1) i _ (by omega) (hm.step_yes (by omega))
    · exact ih (i + 1) a m (by omega) (hm.step_no (by omega))
theorem isMatch_exists (b t : List Int) : ∃ a m, IsMatch b t a m := by
  have : ∀ i, i ≤ b.length → ∃ a m, MatchTo b t i a m := by
    intro i
    induction i with
    | zero => intro _; exact ⟨0, 0, Or.inl ⟨rfl, rfl, fun j hj => by omega⟩⟩
    | succ i ih =>
      intro hi
      obtain ⟨a, m, h⟩ := ih (by omega)
      by_cases c : m < lcp (b.drop i) t
      · exact ⟨_, _, h.step_yes c⟩
      · exact ⟨_, _, h.step_no c⟩
  exact this b.length (Nat.le_refl _)
noncomputable def mAt (b t : List Int) : Nat := Classical.choose (isMatch_exists b t)
noncomputable def mLen (b t : List Int) : Nat := Classical.choose (Classical.choose_spec (isMatch_exists b t))
theorem mt_spec (b t : List Int) : IsMatch b t (mAt b t) (mLen b t) := Classical.choose_spec (Classical.choose_spec (isMatch_exists b t))
theorem match_ev {b t : List Int} (hb : (b.length : Int) ≤ 1000) (ht : (t.length : Int) ≤ 1000) : Ev (fun k => deltachain_match.f k b t) ((mAt b t : Int), (mLen b t : Int)) := by
  unfold deltachain_match.f
  exact match_l0 hb ht (mt_spec b t) b.length 0 0 0 (by omega) (Or.inl ⟨rfl, rfl, fun j hj => by omega⟩)
theorem mLen_le (b t : List Int) : mLen b t ≤ t.length := by
  rcases mt_spec b t with ⟨h1, _⟩ | ⟨h1, h2, h3, _⟩
  · omega
  · rw [← h3]; exact lcp_le_right _ _
/-- A copy is what it stands for. -/
theorem mt_copy (b t : List Int) (h : 0 < mLen b t) : mAt b t + mLen b t ≤ b.length ∧ (b.drop (mAt b t)).take (mLen b t) = t.take (mLen b t) := by
  rcases mt_spec b t with ⟨h1, _⟩ | ⟨h1, h2, h3, _⟩
  · omega
  · have := lcp_le_left (b.drop (mAt b t)) t
    rw [h3, List.length_drop] at this
    refine ⟨by omega, ?_⟩
    have := lcp_take (b.drop (mAt b t)) t
    rw [h3] at this
    exact this
theorem sized_ev1 {a : List Int} : Ev (fun k => deltachain_sized.f k [a]) (decide ((a.length : Int) ≤ 1000)) := by
  unfold deltachain_sized.f
  have e : rd_L1 [a] 0 = a := rfl
  refine Ev.step (fun k_ => by rw [deltachain_sized.l0]) ?_
  refine ev_pos (by simp) (ev_pos (by simp) (ev_pos (by simp) ?_))
  rw [e]
  refine ev_cases (fun h => ?_) (fun h => ?_)
  · rw [decide_eq_false (by omega)]; exact ev_now _
  · rw [decide_eq_true (by omega), w64 (by omega)]
    refine Ev.step (fun k_ => by rw [deltachain_sized.l0]) ?_
    refine ev_neg (by simp) ?_
    exact ev_now _
end Go.Proofs.Ytgmpnghgmcgghaa.Delta
