/- The reference's view of a chain: its versions, its depths, its fault. -/
import Derived.Test.YtgmpnghgmcgghaaDelta4
import Derived.Test.YtgmpnghgmcgghaaDelta6
import Derived.Test.YtgmpnghgmcgghaaP22
import Derived.Test.YtgmpnghgmcgghaaP23
import Derived.Test.YtgmpnghgmcgghaaP24
namespace Go.Proofs.Ytgmpnghgmcgghaa.Delta
open Go.RowKit Go.Proofs.YtgmpnghgmcgghaaW.PrintWords Go.Proofs.YtgmpnghgmcgghaaW.PrintEv Go.Proofs.Ytgmpnghgmcgghaa.P
set_option linter.unusedVariables false
section
variable {l : List E}
theorem in_dec (a b c : Int) : changeforgeref3_In.f a b c = some (decide (b ≤ a ∧ a ≤ c)) := by
  unfold changeforgeref3_In.f
  split
  · congr 1; simp; omega
  · congr 1; simp; omega
theorem chver_ev (hp : OkL l) {n : Nat} (hn : n ≤ l.length) (hf : Fine l n) : ∀ (m i : Nat), i < m → i < n → Ev (fun k => changeforgeref3_ChainVersion.f k l (i : Int)) (vA (vers l n) (i : Int)) := by
  intro m
  induction m with
  | zero => intro i h; omega
  | succ m ih =>
    intro i hi hin
    have hc := cf1_ok (hf i hin)
    rw [vers_at l hin]
    unfold ver1
    refine Ev.step (fun k_ => by rw [changeforgeref3_ChainVersion.f]) ?_
    refine ev_pos (by omega) (ev_pos (by omega) (ev_cases (fun h => ?_) (fun h => ?_)))
    · have h : (eA l (i : Int)).f0 < 0 := h
      rw [if_pos h]
      exact ev_now _
    · have h : ¬ (eA l (i : Int)).f0 < 0 := h
      rw [if_neg h]
      obtain ⟨b, hb⟩ := Int.eq_ofNat_of_zero_le (show 0 ≤ (eA l (i : Int)).f0 by omega)
      have h2 := ih b (by omega) (by omega)
      obtain ⟨d, rfl⟩ : ∃ d, n = i + d := ⟨n - i, by omega⟩
      rw [vers_keep l (by omega) d i (by omega), ← hb] at h2
      exact ev_bind h2 (ev_bind (applydelta_ev (hp i (by omega))) (ev_now _))
theorem chdep_ev {n : Nat} (hn : n ≤ l.length) (hf : Fine l n) : ∀ (m i : Nat) (a : Int), i < m → i < n → 0 ≤ a → a + i ≤ 1000 → Ev (fun k => changeforgeref3_ChainDepth.l0 k l (i : Int) a) (a + rd (deps l n) (i : Int)) := by
  intro m
  induction m with
  | zero => intro i a h; omega
  | succ m ih =>
    intro i a hi hin ha0 ha
    have hc := cf1_ok (hf i hin)
    rw [deps_at l hin]
    unfold dep1
    refine Ev.step (fun k_ => by rw [changeforgeref3_ChainDepth.l0]) ?_
    refine ev_pos (by omega) (ev_pos (by omega) (ev_cases (fun h => ?_) (fun h => ?_)))
    · have h : (eA l (i : Int)).f0 ≥ 0 := h
      rw [if_neg (by omega), w64 (by omega)]
      obtain ⟨b, hb⟩ := Int.eq_ofNat_of_zero_le (show 0 ≤ (eA l (i : Int)).f0 by omega)
      have h2 := ih b (a + 1) (by omega) (by omega) (by omega) (by omega)
      obtain ⟨d, rfl⟩ : ∃ d, n = i + d := ⟨n - i, by omega⟩
      rw [deps_keep l (by omega) d i (by omega), ← hb] at h2
      exact ev_cast h2 (by omega)
    · have h : ¬ (eA l (i : Int)).f0 ≥ 0 := h
      rw [if_pos (by omega)]
      exact ev_cast (ev_now _) (by omega)
theorem chdepth_ev {n i : Nat} (hl : (l.length : Int) ≤ 20) (hn : n ≤ l.length) (hf : Fine l n) (hi : i < n) : Ev (fun k => changeforgeref3_ChainDepth.f k l (i : Int)) (rd (deps l n) (i : Int)) := by
  unfold changeforgeref3_ChainDepth.f
  exact ev_cast (chdep_ev hn hf (i + 1) i 0 (by omega) hi (by omega) (by omega)) (by omega)
theorem cf_j1 (hl : (l.length : Int) ≤ 20) (hp : OkL l) {i n : Nat} (hi : i < l.length) (hf : Fine l i) {x : Bool} {c : E} (hc : c = eA l (i : Int)) (h1 : ¬ (c.f0 < -1 ∨ c.f0 ≥ (i : Int))) (hx : x = true ↔ (c.f0 = -1 ∧ 0 < c.f2.length) ∨ (0 ≤ c.f0 ∧ 0 < c.f1.length))
    (ih : cf1 (vers l i) i (eA l (i : Int)) = 0 → Ev (fun k => changeforgeref3_ChainFault.l0 k l ((i + 1 : Nat) : Int)) (cfrom l n (i + 1))) :
    Ev (fun k => changeforgeref3_ChainFault.j1 k l (i : Int) x c.f0 c.f1 c.f2) (cfrom l (n + 1) i) := by
  have hcf : cf1 (vers l i) i (eA l (i : Int)) = if (c.f0 = -1 ∧ 0 < c.f2.length) ∨ (0 ≤ c.f0 ∧ 0 < c.f1.length) then 5 else if (c.f1.length : Int) > 1000 then 10 else if c.f0 = -1 then 0 else (apR (vA (vers l i) c.f0) c.f2).2.1 := by
    rw [← hc]; unfold cf1; rw [if_neg h1]
  have bad : ∀ v : Int, cf1 (vers l i) i (eA l (i : Int)) = v → v ≠ 0 → cfrom l (n + 1) i = (v, (i : Int)) := fun v h hv => by
    simp only [cfrom]; rw [h, if_pos hv]
  have good : cf1 (vers l i) i (eA l (i : Int)) = 0 → Ev (fun k => changeforgeref3_ChainFault.l0 k l (wrap64 ((i : Int) + 1))) (cfrom l (n + 1) i) := fun h => by
    rw [w64 (by omega), show cfrom l (n + 1) i = cfrom l n (i + 1) by simp only [cfrom]; rw [h]; rfl]
    exact ih h
  refine Ev.step (fun k_ => by rw [changeforgeref3_ChainFault.j1]) ?_
  refine ev_cases (fun hx1 => ?_) (fun hx1 => ev_cases (fun h2 => ?_) (fun h2 => ev_cases (fun h3 => ?_) (fun h3 => ?_)))
  · rw [if_pos (hx.1 hx1)] at hcf
    rw [bad 5 hcf (by decide), fault_eq]
    exact ev_some (ev_now _)
  · rw [if_neg (fun h => hx1 (hx.2 h)), if_pos h2] at hcf
    rw [bad 10 hcf (by decide), fault_eq]
    exact ev_some (ev_now _)
  · rw [if_neg (fun h => hx1 (hx.2 h)), if_neg h2, if_neg (by omega)] at hcf
    obtain ⟨b, hb⟩ := Int.eq_ofNat_of_zero_le (show 0 ≤ c.f0 by omega)
    have hv := chver_ev hp (n := i) (by omega) hf (b + 1) b (by omega) (by omega)
    rw [← hb] at hv
    have hm : ∀ d ∈ c.f2, (d.f2.length : Int) ≤ 140737488351232 := by rw [hc]; exact hp i hi
    refine ev_bind hv (ev_bind (applydelta_ev hm) (ev_cases (fun h4 => ?_) (fun h4 => ?_)))
    · exact good (hcf.trans h4)
    · rw [bad _ hcf h4, fault_eq]
      exact ev_some (ev_now _)
  · rw [if_neg (fun h => hx1 (hx.2 h)), if_neg h2, if_pos (by omega)] at hcf
    exact good hcf
theorem cf_l0 (hl : (l.length : Int) ≤ 20) (hp : OkL l) : ∀ (n i : Nat), i + n = l.length → Fine l i → Ev (fun k => changeforgeref3_ChainFault.l0 k l (i : Int)) (cfrom l n i) := by
  intro n
  induction n with
  | zero =>
    intro i hi hf
    refine Ev.step (fun k_ => by rw [changeforgeref3_ChainFault.l0]) ?_
    refine ev_neg (by omega) ?_
    exact ev_now _
  | succ n ih =>
    intro i hi hf
    have ih' : cf1 (vers l i) i (eA l (i : Int)) = 0 → Ev (fun k => changeforgeref3_ChainFault.l0 k l ((i + 1 : Nat) : Int)) (cfrom l n (i + 1)) := fun h => ih (i + 1) (by omega) (fun j hj => by
      by_cases e : j = i
      · rw [e]; exact h
      · exact hf j (by omega))
    obtain ⟨c, hc⟩ : ∃ c, c = eA l (i : Int) := ⟨_, rfl⟩
    refine Ev.step (fun k_ => by rw [changeforgeref3_ChainFault.l0]) ?_
    rw [show rd_T45 l (i : Int) = c from hc.symm, in_dec, w64 (x := (i : Int) - 1) (by omega)]
    refine ev_pos (by omega) (ev_pos (by omega) (ev_some (ev_cases (fun h1 => ?_) (fun h1 => ?_))))
    · have h1 := of_decide_eq_true h1
      have h1' : ¬ (c.f0 < -1 ∨ c.f0 ≥ (i : Int)) := by omega
      refine ev_cases (fun h2 => ev_cases (fun h3 => ?_) (fun h3 => ev_neg (by omega) ?_)) (fun h2 => ev_pos (by omega) ?_)
      · exact cf_j1 hl hp (by omega) hf hc h1' (⟨fun _ => Or.inl ⟨by omega, by omega⟩, fun _ => rfl⟩) ih'
      · exact cf_j1 hl hp (by omega) hf hc h1' (⟨fun h => absurd h (by decide), fun h => h.elim (fun h => by omega) (fun h => by omega)⟩) ih'
      · exact cf_j1 hl hp (by omega) hf hc h1' (by rw [decide_eq_true_eq]; exact ⟨fun h => Or.inr ⟨by omega, by omega⟩, fun h => h.elim (fun h => by omega) (fun h => by omega)⟩) ih'
    · have h1 : ¬ (-1 ≤ c.f0 ∧ c.f0 ≤ (i : Int) - 1) := fun h => h1 (decide_eq_true h)
      have : cf1 (vers l i) i (eA l (i : Int)) = 3 := by rw [← hc]; unfold cf1; rw [if_pos (by omega)]
      have e : cfrom l (n + 1) i = (3, (i : Int)) := by simp only [cfrom]; rw [this]; rfl
      rw [e, fault_eq]
      exact ev_some (ev_now _)
theorem chfault_ev (hp : OkL l) : Ev (fun k => changeforgeref3_ChainFault.f k l) (chF l) := by
  unfold changeforgeref3_ChainFault.f chF
  refine ev_ite (fun h => ?_) (fun h => ?_)
  · rw [fault_eq]
    exact ev_some (ev_now _)
  · exact cf_l0 (by omega) hp l.length 0 (by omega) (fun j hj => by omega)
end
end Go.Proofs.Ytgmpnghgmcgghaa.Delta
