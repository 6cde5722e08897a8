/- How many children of a commit aren't listed yet ('cnt'): how the number falls, and when a commit is ready. -/
import Derived.Test.YtojhnjgnpjoacaaHist7
namespace Go.Proofs.Ytojhnjgnpjoacaa.Hist
open Go.RowKit Go.Proofs.YtojhnjgnpjoacaaW.PrintWords Go.Proofs.YtojhnjgnpjoacaaW.PrintEv Go.Proofs.Ytojhnjgnpjoacaa.P
set_option linter.unusedVariables false

instance (l : List C) (i p : Int) : Decidable (Par l i p) := by unfold Par; infer_instance
theorem rng_snoc (n : Nat) : rng (n + 1) = rng n ++ [(n : Int)] := by simp [rng, List.range_succ]

theorem count_one {P : Int → Bool} {b : Int} : ∀ {xs : List Int}, xs.Nodup → b ∈ xs → xs.countP P = xs.countP (fun k => P k && decide (k ≠ b)) + (if P b = true then 1 else 0)
  | [], _, h => absurd h (by simp)
  | x :: xs, hn, h => by
    have hn' := List.nodup_cons.1 hn
    rw [List.countP_cons, List.countP_cons]
    by_cases e : x = b
    · subst e
      have h1 : xs.countP (fun k => P k && decide (k ≠ x)) = xs.countP P := List.countP_congr (fun k hk => by
        have : k ≠ x := fun e => hn'.1 (e ▸ hk)
        simp [this])
      rw [h1]
      simp
    · have := count_one (P := P) hn'.2 ((List.mem_cons.1 h).resolve_left (fun e' => e e'.symm))
      rw [this]
      simp [e]
      omega

def cnt (l : List C) (o : List Int) (p : Int) : Int := ((rng l.length).countP (fun k => decide (Par l k p ∧ k ∉ o)) : Nat)
/-- How many of the first n commits are children. -/
def cni (l : List C) (n : Nat) (p : Int) : Int := ((rng n).countP (fun k => decide (Par l k p)) : Nat)
section
variable {l : List C} {o : List Int} {b p x : Int}
theorem cni_zero : cni l 0 p = 0 := rfl
theorem cni_succ (n : Nat) : cni l (n + 1) p = cni l n p + (if Par l (n : Int) p then 1 else 0) := by
  unfold cni
  rw [rng_snoc, List.countP_append]
  by_cases h : Par l (n : Int) p <;> simp [h]
theorem cni_all : cni l l.length p = cnt l [] p := by
  unfold cni cnt
  congr 1
  exact List.countP_congr (fun k _ => by simp)
theorem cni_nonneg (n : Nat) : 0 ≤ cni l n p := by unfold cni; omega
theorem cni_le (n : Nat) : cni l n p ≤ n := by
  unfold cni
  have := List.countP_le_length (p := fun k => decide (Par l k p)) (l := rng n)
  rw [rng_length] at this
  omega
theorem cnt_nonneg : 0 ≤ cnt l o p := by unfold cnt; omega
theorem cnt_le : cnt l o p ≤ l.length := by
  unfold cnt
  have := List.countP_le_length (p := fun k => decide (Par l k p ∧ k ∉ o)) (l := rng l.length)
  rw [rng_length] at this
  omega
theorem cnt_snoc (h0 : 0 ≤ b) (h1 : b < l.length) (hb : b ∉ o) : cnt l o x = cnt l (o ++ [b]) x + (if Par l b x then 1 else 0) := by
  unfold cnt
  rw [count_one (P := fun k => decide (Par l k x ∧ k ∉ o)) (rng_nodup l.length) (mem_rng.2 ⟨h0, h1⟩)]
  have e : (rng l.length).countP (fun k => decide (Par l k x ∧ k ∉ o) && decide (k ≠ b)) = (rng l.length).countP (fun k => decide (Par l k x ∧ k ∉ o ++ [b])) := List.countP_congr (fun k _ => by
    simp only [Bool.and_eq_true, decide_eq_true_eq, List.mem_append, List.mem_singleton]
    constructor
    · rintro ⟨⟨h, h2⟩, h3⟩; exact ⟨h, fun h4 => h4.elim h2 h3⟩
    · rintro ⟨h, h2⟩; exact ⟨⟨h, fun h3 => h2 (Or.inl h3)⟩, fun h3 => h2 (Or.inr h3)⟩)
  rw [e]
  by_cases h : Par l b x
  · simp [h, hb]
  · simp [h]
theorem cnt_zero : cnt l o x = 0 ↔ ∀ k, Par l k x → k ∈ o := by
  unfold cnt
  rw [show (((rng l.length).countP (fun k => decide (Par l k x ∧ k ∉ o)) : Nat) : Int) = 0 ↔ (rng l.length).countP (fun k => decide (Par l k x ∧ k ∉ o)) = 0 by omega, List.countP_eq_zero]
  constructor
  · intro h k hk
    have := h k (mem_rng.2 ⟨hk.1, hk.2.1⟩)
    simp only [decide_eq_true_eq, not_and, Classical.not_not] at this
    exact this hk
  · intro h k _
    simp only [decide_eq_true_eq, not_and, Classical.not_not]
    exact h k
theorem rdy_iff : Rdy l o x ↔ 0 ≤ x ∧ x < l.length ∧ x ∉ o ∧ cnt l o x = 0 := by
  unfold Rdy
  rw [cnt_zero]
theorem par_nodup (hv : Valid l) {i j j' : Int} (h0 : 0 ≤ i) (h1 : i < l.length) (hj0 : 0 ≤ j) (hjj : j < j') (hj' : j' < (rd_T49 l i).f0.length) : rd (rd_T49 l i).f0 j < rd (rd_T49 l i).f0 j' := by
  have key : ∀ n : Nat, j + 1 + n < (rd_T49 l i).f0.length → rd (rd_T49 l i).f0 j < rd (rd_T49 l i).f0 (j + 1 + n) := by
    intro n
    induction n with
    | zero =>
      intro h
      have := (hv.par i (j + 1) h0 h1 (by omega) (by omega)).2.2 (by omega)
      rw [show j + 1 - 1 = j by omega] at this
      simpa using this
    | succ n ih =>
      intro h
      have h2 := ih (by omega)
      have := (hv.par i (j + 1 + (n + 1 : Nat)) h0 h1 (by omega) h).2.2 (by omega)
      rw [show j + 1 + ((n + 1 : Nat) : Int) - 1 = j + 1 + n by omega] at this
      omega
  have := key (j' - (j + 1)).toNat (by omega)
  rwa [show j + 1 + ((j' - (j + 1)).toNat : Int) = j' by omega] at this
end
end Go.Proofs.Ytojhnjgnpjoacaa.Hist
