/- The pure statement of DeltachainDepthBound. -/
import Derived.Test.YtgmpnghgmcgghaaDelta3
import Derived.Test.YtgmpnghgmcgghaaDelta5
import Derived.Test.YtgmpnghgmcgghaaDelta6
import Derived.Test.YtgmpnghgmcgghaaP26
namespace Go.Proofs.Ytgmpnghgmcgghaa.Pure
open Go.RowKit Go.Proofs.YtgmpnghgmcgghaaW.PrintWords Go.Proofs.YtgmpnghgmcgghaaW.PrintEv Go.Proofs.Ytgmpnghgmcgghaa.P Go.Proofs.Ytgmpnghgmcgghaa.Delta
set_option linter.unusedVariables false
theorem mod_up {n m : Nat} (hm : 0 < m) (h : (n + 1) % m ≠ 0) : (n + 1) % m = n % m + 1 := by
  have h1 := Nat.mod_add_mod n m 1
  have h2 := Nat.mod_lt n hm
  by_cases h3 : n % m + 1 = m
  · rw [h3, Nat.mod_self] at h1
    exact absurd h1.symm h
  · rw [← h1, Nat.mod_eq_of_lt (by omega)]
section
variable {vs : List (List Int)} {d : Nat} {out : List E}
theorem packed (hv : ∀ q : Nat, q < vs.length → ((vAt vs q).length : Int) ≤ 1000) (hl : out.length = vs.length) (he : ∀ q : Nat, q < vs.length → rd_T45 out (q : Int) = ent vs d q) :
    ∀ n : Nat, n ≤ vs.length → Fine out n ∧ ∀ i : Nat, i < n → vA (vers out n) (i : Int) = vAt vs i ∧ rd (deps out n) (i : Int) = ((i % (d + 1) : Nat) : Int) := by
  intro n
  induction n with
  | zero => intro _; exact ⟨fun i hi => by omega, fun i hi => by omega⟩
  | succ n ih =>
    intro hn
    obtain ⟨hf, hvd⟩ := ih (by omega)
    have hen := he n (by omega)
    have ht : Int.tmod (n : Int) ((d : Int) + 1) = ((n % (d + 1) : Nat) : Int) := by
      rw [show ((d : Int) + 1) = ((d + 1 : Nat) : Int) by omega]
      exact (Int.ofNat_tmod n (d + 1)).symm
    have hvn := hv n (by omega)
    have key : cf1 (vers out n) n (eA out (n : Int)) = 0 ∧ ver1 (vers out n) (eA out (n : Int)) = vAt vs n ∧ dep1 (deps out n) (eA out (n : Int)) = ((n % (d + 1) : Nat) : Int) := by
      by_cases h : n % (d + 1) = 0
      · have e : eA out (n : Int) = ⟨-1, vAt vs n, []⟩ := by
          rw [show eA out (n : Int) = _ from hen]; unfold ent; rw [ht, if_pos (by omega)]
        rw [e]
        refine ⟨?_, ?_, ?_⟩
        · unfold cf1
          rw [if_neg (by show ¬ ((-1 : Int) < -1 ∨ (-1 : Int) ≥ (n : Int)); omega), if_neg (by simp), if_neg (by show ¬ ((vAt vs n).length : Int) > 1000; omega), if_pos rfl]
        · unfold ver1; rw [if_pos (by show (-1 : Int) < 0; decide)]
        · unfold dep1; rw [if_pos (by show (-1 : Int) < 0; decide)]; omega
      · have hn0 : n ≠ 0 := fun e => h (by rw [e]; exact Nat.zero_mod _)
        obtain ⟨b, rfl⟩ : ∃ b, n = b + 1 := ⟨n - 1, by omega⟩
        have e : eA out ((b + 1 : Nat) : Int) = ⟨((b + 1 : Nat) : Int) - 1, [], enc (vAt vs (((b + 1 : Nat) : Int) - 1)) ((vAt vs ((b + 1 : Nat) : Int)).length + 1) (vAt vs ((b + 1 : Nat) : Int)) [] false⟩ := by
          rw [show eA out ((b + 1 : Nat) : Int) = _ from hen]; unfold ent; rw [ht, if_neg (by omega)]
        have eb : (((b + 1 : Nat) : Int) - 1) = (b : Int) := by omega
        rw [eb] at e
        have htr := trip (a := vAt vs (b : Int)) (b := vAt vs ((b + 1 : Nat) : Int)) (hv b (by omega)) hvn
        have hvb := (hvd b (by omega)).1
        rw [e]
        refine ⟨?_, ?_, ?_⟩
        · unfold cf1
          rw [if_neg (by show ¬ ((b : Int) < -1 ∨ (b : Int) ≥ ((b + 1 : Nat) : Int)); omega), if_neg (by first | (simp; done) | (simp; omega)), if_neg (by simp), if_neg (by show ¬ ((b : Int) = -1); omega)]
          show (apR (vA (vers out (b + 1)) (b : Int)) _).2.1 = 0
          rw [hvb, htr]
        · unfold ver1
          rw [if_neg (by show ¬ ((b : Int) < 0); omega)]
          show (apR (vA (vers out (b + 1)) (b : Int)) _).1 = _
          rw [hvb, htr]
        · unfold dep1
          rw [if_neg (by show ¬ ((b : Int) < 0); omega)]
          show rd (deps out (b + 1)) (b : Int) + 1 = _
          rw [(hvd b (by omega)).2, mod_up (by omega) h]
          omega
    refine ⟨fun i hi => ?_, fun i hi => ?_⟩
    · by_cases e : i = n
      · rw [e]; exact key.1
      · exact hf i (by omega)
    · by_cases e : i = n
      · subst e
        rw [vers_at out (by omega), deps_at out (by omega)]
        exact key.2
      · rw [vers_keep out (by omega) 1 n (by omega), deps_keep out (by omega) 1 n (by omega)]
        exact hvd i (by omega)
end
theorem chF_fine {l : List E} (hl : (l.length : Int) ≤ 20) (hf : Fine l l.length) : chF l = (0, 0) := by
  have key : ∀ n i : Nat, i + n = l.length → cfrom l n i = (0, 0) := by
    intro n
    induction n with
    | zero => intro i _; rfl
    | succ n ih =>
      intro i hi
      simp only [cfrom]
      rw [if_neg (fun h => h (hf i (by omega)))]
      exact ih (i + 1) (by omega)
  unfold chF
  rw [if_neg (by omega)]
  exact key l.length 0 (by omega)
theorem db_l0 {vs : List (List Int)} {d : Nat} {out : List E} (hp : OkL out) (hl20 : (out.length : Int) ≤ 20) (hl : out.length = vs.length) (hf : Fine out out.length) (hvd : ∀ i : Nat, i < out.length → vA (vers out out.length) (i : Int) = vAt vs i ∧ rd (deps out out.length) (i : Int) = ((i % (d + 1) : Nat) : Int)) :
    ∀ (n i : Nat), i + n = out.length → Ev (fun k => changeforgelaw3_DeltachainDepthBound.l0 k vs (d : Int) out (deps out out.length) (i : Int)) true := by
  have hdl := deps_length out out.length
  have h0 := chF_fine hl20 hf
  intro n
  induction n with
  | zero =>
    intro i hi
    refine Ev.step (fun k_ => by rw [changeforgelaw3_DeltachainDepthBound.l0]) ?_
    refine ev_neg (by omega) ?_
    exact ev_now _
  | succ n ih =>
    intro i hi
    obtain ⟨h1, h2⟩ := hvd i (by omega)
    have hm := Nat.mod_lt i (show 0 < d + 1 by omega)
    have e : readR out (i : Int) = (vAt vs i, 0, 0) := by
      unfold readR
      rw [h0, if_neg (by decide), if_neg (by omega), h1]
    refine Ev.step (fun k_ => by rw [changeforgelaw3_DeltachainDepthBound.l0]) ?_
    refine ev_pos (by omega) (ev_bind (read_ev hp (i : Int)) ?_)
    rw [e]
    refine ev_pos rfl (ev_pos (by omega) (ev_neg (by omega) (ev_pos (by omega) (ev_pos rfl ?_))))
    rw [w64 (by omega)]
    exact ih (i + 1) (by omega)
theorem enc_data {a b : List Int} (hb : (b.length : Int) ≤ 1000) : ∀ d ∈ enc a (b.length + 1) b [] false, (d.f2.length : Int) ≤ 140737488351232 := fun d hd => by
  obtain ⟨_, h, _⟩ := enc_good (b := a) (b.length + 1) b [] false (by omega) (fun d h => absurd h (by simp)) (fun h => absurd h (by decide))
  have h2 := cat_part (b := a) hd
  rw [h] at h2
  have : (seg a d).length = (if 0 < d.f1 then (a.drop d.f0.toNat).take d.f1.toNat else []).length + d.f2.length := by unfold seg; rw [List.length_append]
  simp [cat] at h2
  omega
theorem DeltachainDepthBound : changeforgelaw3_DeltachainDepthBound.Pure := by
  intro vs d hl hd
  refine ev_ex ?_
  unfold changeforgelaw3_DeltachainDepthBound.f
  refine ev_bind example_ev (ev_pos rfl ?_)
  rcases pack_ev (vs := vs) (d := d) with ⟨_, h⟩ | ⟨_, _, h⟩ | ⟨hv20, hd20, R, hR, h⟩
  · exact ev_bind h (ev_neg (by decide) (ev_now _))
  · exact ev_bind h (ev_neg (by decide) (ev_now _))
  · refine ev_bind h ?_
    rcases hR with ⟨j, _, _, _, e⟩ | ⟨hv, out, hol, hoe, e⟩
    · rw [e]
      exact ev_neg (show ¬ ((10 : Int) = 0) by decide) (ev_now _)
    · rw [e]
      obtain ⟨m, rfl⟩ := Int.eq_ofNat_of_zero_le hd20.1
      obtain ⟨hf, hvd⟩ := packed hv hol hoe vs.length (Nat.le_refl _)
      rw [← hol] at hf hvd
      have hp : OkL out := fun i hi x hx => by
        rw [show eA out (i : Int) = _ from hoe i (by omega)] at hx
        unfold ent at hx
        split at hx
        · exact absurd hx (by simp)
        · exact enc_data (hv i (by omega)) x hx
      have h0 := chF_fine (by omega) hf
      have e2 : unpR out = (vers out out.length, deps out out.length, 0, 0) := by unfold unpR; rw [h0, if_neg (by decide)]
      have hdl := deps_length out out.length
      refine ev_pos rfl (ev_bind (depths_ev hp) ?_)
      rw [e2]
      refine ev_pos rfl ?_
      refine Ev.step (fun k_ => by rw [changeforgelaw3_DeltachainDepthBound.j0]) ?_
      refine ev_neg (by have h_ : ((deps out out.length).length : Int) = (vs.length : Int) := by omega
                        simp [h_]) ?_
      exact db_l0 hp (by omega) hol hf hvd out.length 0 (by omega)
end Go.Proofs.Ytgmpnghgmcgghaa.Pure
