/- The pure statement of DeltachainReadMatchesSpec. -/
import Derived.Test.YtgmpnghgmcgghaaDelta7
import Derived.Test.YtgmpnghgmcgghaaP25
namespace Go.Proofs.Ytgmpnghgmcgghaa.Pure
open Go.RowKit Go.Proofs.YtgmpnghgmcgghaaW.PrintWords Go.Proofs.YtgmpnghgmcgghaaW.PrintEv Go.Proofs.Ytgmpnghgmcgghaa.P Go.Proofs.Ytgmpnghgmcgghaa.Delta
set_option linter.unusedVariables false
section
variable {l : List E}
theorem rms_j5 (hp : OkL l) (hl : (l.length : Int) ≤ 20) (h0 : (chF l).1 = 0) (hf : Fine l l.length) (i : Int) : Ev (fun k => changeforgelaw3_DeltachainReadMatchesSpec.j5 k l i (readR l i).1 (readR l i).2.1 (readR l i).2.2) true := by
  unfold readR
  rw [if_neg (by omega)]
  refine Ev.step (fun k_ => by rw [changeforgelaw3_DeltachainReadMatchesSpec.j5]) ?_
  rw [in_dec, w64 (by omega)]
  by_cases h : i < 0 ∨ i ≥ l.length
  · rw [if_pos h]
    refine ev_some (ev_neg (by simp; omega) ?_)
    rw [fault_eq]
    exact ev_some (ev_pos (by decide) (ev_now _))
  · rw [if_neg h]
    obtain ⟨b, hb⟩ := Int.eq_ofNat_of_zero_le (show 0 ≤ i by omega)
    subst hb
    refine ev_some (ev_pos (by simp; omega) (ev_pos rfl (ev_bind (chver_ev hp (Nat.le_refl _) hf (b + 1) b (by omega) (by omega)) ?_)))
    exact ev_cast (ev_now _) (by simp)
theorem rms_l0 (hp : OkL l) (hl : (l.length : Int) ≤ 20) (h0 : (chF l).1 = 0) (hf : Fine l l.length) (i : Int) : ∀ (n q : Nat), q + n = l.length → Ev (fun k => changeforgelaw3_DeltachainReadMatchesSpec.l0 k l i (readR l i).1 (deps l l.length) (q : Int) (readR l i).2.1 (readR l i).2.2) true := by
  have hdl := deps_length l l.length
  intro n
  induction n with
  | zero =>
    intro q hq
    refine Ev.step (fun k_ => by rw [changeforgelaw3_DeltachainReadMatchesSpec.l0]) ?_
    exact ev_neg (by omega) (rms_j5 hp hl h0 hf i)
  | succ n ih =>
    intro q hq
    refine Ev.step (fun k_ => by rw [changeforgelaw3_DeltachainReadMatchesSpec.l0]) ?_
    refine ev_pos (by omega) (ev_pos (by omega) (ev_bind (chdepth_ev hl (Nat.le_refl _) hf (by omega)) (ev_pos rfl ?_)))
    rw [w64 (by omega)]
    exact ih (q + 1) (by omega)
end
theorem DeltachainReadMatchesSpec : changeforgelaw3_DeltachainReadMatchesSpec.Pure := by
  intro l i hl hi
  refine ev_ex ?_
  have hp := ok_at hl.2
  unfold changeforgelaw3_DeltachainReadMatchesSpec.f
  refine ev_bind example_ev (ev_pos rfl ?_)
  refine Ev.step (fun k_ => by rw [changeforgelaw3_DeltachainReadMatchesSpec.j0]) ?_
  refine ev_bind (read_ev hp i) (ev_bind (depths_ev hp) (ev_bind (chfault_ev hp) ?_))
  by_cases h : (chF l).1 ≠ 0
  · have e1 : readR l i = ([], chF l) := by unfold readR; rw [if_pos h]
    have e2 : unpR l = ([], [], chF l) := by unfold unpR; rw [if_pos h]
    rw [e1, e2]
    refine ev_neg h (ev_pos (by simp) (ev_pos (by simp) (ev_pos rfl ?_)))
    exact ev_now _
  · have h := Decidable.not_not.1 h
    obtain ⟨e, hl20, hf⟩ := chF_zero h
    have e2 : unpR l = (vers l l.length, deps l l.length, 0, 0) := by unfold unpR; rw [if_neg (by omega)]
    have hdl := deps_length l l.length
    rw [e2]
    refine ev_pos h ?_
    refine Ev.step (fun k_ => by rw [changeforgelaw3_DeltachainReadMatchesSpec.j1]) ?_
    refine ev_pos rfl ?_
    refine Ev.step (fun k_ => by rw [changeforgelaw3_DeltachainReadMatchesSpec.j2]) ?_
    refine ev_neg (by simp [hdl]) ?_
    refine Ev.step (fun k_ => by rw [changeforgelaw3_DeltachainReadMatchesSpec.j3]) ?_
    exact rms_l0 hp hl20 h hf i l.length 0 (by omega)
end Go.Proofs.Ytgmpnghgmcgghaa.Pure
