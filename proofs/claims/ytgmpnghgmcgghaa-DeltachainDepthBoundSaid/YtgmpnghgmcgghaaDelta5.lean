/- Versions packed: what deltachain.Pack comes to. -/
import Derived.Test.YtgmpnghgmcgghaaDelta2
import Derived.Test.YtgmpnghgmcgghaaDeltaEx
import Derived.Test.YtgmpnghgmcgghaaP16
import Derived.Test.YtgmpnghgmcgghaaP17
namespace Go.Proofs.Ytgmpnghgmcgghaa.Delta
open Go.RowKit Go.Proofs.YtgmpnghgmcgghaaW.PrintWords Go.Proofs.YtgmpnghgmcgghaaW.PrintEv Go.Proofs.Ytgmpnghgmcgghaa.P
set_option linter.unusedVariables false

abbrev G := S45
def vAt (vs : List (List Int)) (i : Int) : List Int := rd_L1 vs i
/-- What an entry of the chain is. -/
noncomputable def ent (vs : List (List Int)) (d : Int) (i : Int) : G :=
  if Int.tmod i (d + 1) = 0 then ⟨-1, vAt vs i, []⟩ else ⟨i - 1, [], enc (vAt vs (i - 1)) ((vAt vs i).length + 1) (vAt vs i) [] false⟩
/-- The first version that is too large, or the chain. -/
def IsPack (vs : List (List Int)) (d : Int) (R : List G × Int × Int) : Prop :=
  (∃ j : Nat, j < vs.length ∧ (∀ q : Nat, q < j → ((vAt vs q).length : Int) ≤ 1000) ∧ ((vAt vs j).length : Int) > 1000 ∧ R = ([], 10, (j : Int))) ∨
  ((∀ q : Nat, q < vs.length → ((vAt vs q).length : Int) ≤ 1000) ∧ ∃ out : List G, out.length = vs.length ∧ (∀ q : Nat, q < vs.length → rd_T45 out (q : Int) = ent vs d q) ∧ R = (out, 0, 0))
theorem clone_eq {a : List Int} (h : (a.length : Int) ≤ 1000) : bytes_Clone.f a = some a := by
  unfold bytes_Clone.f
  rw [Option.bind_some, if_pos (by simp; omega), List.nil_append]
theorem encR_ok {a b : List Int} (ha : (a.length : Int) ≤ 1000) (hb : (b.length : Int) ≤ 1000) : encR a b = (enc a (b.length + 1) b [] false, 0, 0) := by
  unfold encR
  rw [if_neg (by omega), if_neg (by omega)]
theorem rdG_left {xs : List G} {d : G} {i : Nat} (h : i < xs.length) : rd_T45 (xs ++ [d]) (i : Int) = rd_T45 xs (i : Int) := by
  simp [rd_T45, List.getD_eq_getElem?_getD, List.getElem?_append_left h]
theorem rdG_last {xs : List G} {d : G} : rd_T45 (xs ++ [d]) (xs.length : Int) = d := by
  simp [rd_T45, List.getD_eq_getElem?_getD]
theorem pack_l0 {vs : List (List Int)} {d : Int} (hv : (vs.length : Int) ≤ 20) (hd : 0 ≤ d ∧ d ≤ 20) :
    ∀ (n i : Nat) (out : List G), i + n = vs.length → out.length = i → (∀ q : Nat, q < i → ((vAt vs q).length : Int) ≤ 1000) → (∀ q : Nat, q < i → rd_T45 out (q : Int) = ent vs d q) → ∃ R, IsPack vs d R ∧ Ev (fun k => deltachain_Pack.l0 k vs d out vs (vs.length : Int) (i : Int)) R := by
  intro n
  induction n with
  | zero =>
    intro i out hi ho hs he
    have hi' : i = vs.length := by omega
    subst hi'
    refine ⟨(out, 0, 0), Or.inr ⟨hs, out, ho, he, rfl⟩, ?_⟩
    refine Ev.step (fun k_ => by rw [deltachain_Pack.l0]) ?_
    exact ev_neg (by omega) (ev_now _)
  | succ n ih =>
    intro i out hi ho hs he
    by_cases hl : ((vAt vs i).length : Int) ≤ 1000
    · -- the entry goes in
      have hs' : ∀ q : Nat, q < i + 1 → ((vAt vs q).length : Int) ≤ 1000 := fun q hq => by
        by_cases e : q = i
        · subst e; exact hl
        · exact hs q (by omega)
      have he' : ∀ q : Nat, q < i + 1 → rd_T45 (out ++ [ent vs d i]) (q : Int) = ent vs d q := fun q hq => by
        by_cases e : q = i
        · subst e; rw [← ho]; exact rdG_last
        · rw [rdG_left (by omega)]; exact he q (by omega)
      obtain ⟨R, hR, hE⟩ := ih (i + 1) (out ++ [ent vs d i]) (by omega) (by rw [List.length_append, List.length_singleton]; omega) hs' he'
      refine ⟨R, hR, ?_⟩
      rw [show ((i + 1 : Nat) : Int) = (i : Int) + 1 by omega] at hE
      refine Ev.step (fun k_ => by rw [deltachain_Pack.l0]) ?_
      rw [w64 (x := d + 1) (by omega), w64 (x := (i : Int) + 1) (by omega)]
      refine ev_pos (by omega) (ev_pos (by omega) (ev_pos (by omega) (ev_bind sized_ev1 (ev_pos (decide_eq_true hl) (ev_neg (by omega) ?_)))))
      unfold ent at hE
      refine ev_cases (fun h => ?_) (fun h => ?_)
      · rw [if_pos h] at hE
        exact ev_const (clone_eq hl) (ev_pos (by omega) hE)
      · rw [if_neg h] at hE
        have hi0 : 0 < i := by
          rcases Nat.eq_zero_or_pos i with e | e
          · subst e; exact absurd (by simp) h
          · exact e
        rw [w64 (x := (i : Int) - 1) (by omega)]
        have hpl : ((vAt vs ((i : Int) - 1)).length : Int) ≤ 1000 := by
          have := hs (i - 1) (by omega)
          rw [show ((i - 1 : Nat) : Int) = (i : Int) - 1 by omega] at this
          exact this
        refine ev_pos (by omega) (ev_pos (by omega) (ev_bind encode_ev ?_))
        have e3 := encR_ok hpl hl
        unfold vAt at e3 hE
        rw [e3]
        exact ev_pos (by omega) hE
    · refine ⟨([], 10, (i : Int)), Or.inl ⟨i, by omega, hs, by omega, rfl⟩, ?_⟩
      refine Ev.step (fun k_ => by rw [deltachain_Pack.l0]) ?_
      refine ev_pos (by omega) (ev_pos (by omega) (ev_pos (by omega) (ev_bind sized_ev1 (ev_neg (fun h => hl (of_decide_eq_true h)) (ev_now _)))))
theorem pack_ev {vs : List (List Int)} {d : Int} : (((vs.length : Int) > 20 ∧ Ev (fun k => deltachain_Pack.f k vs d) ([], 2, -1)) ∨ ((vs.length : Int) ≤ 20 ∧ ¬ (0 ≤ d ∧ d ≤ 20) ∧ Ev (fun k => deltachain_Pack.f k vs d) ([], 3, -1)) ∨ ((vs.length : Int) ≤ 20 ∧ (0 ≤ d ∧ d ≤ 20) ∧ ∃ R, IsPack vs d R ∧ Ev (fun k => deltachain_Pack.f k vs d) R)) := by
  unfold deltachain_Pack.f
  by_cases h1 : (vs.length : Int) > 20
  · exact Or.inl ⟨h1, ev_pos h1 (ev_now _)⟩
  · by_cases h2 : 0 ≤ d ∧ d ≤ 20
    · obtain ⟨R, hR, hE⟩ := pack_l0 (vs := vs) (d := d) (by omega) h2 vs.length 0 [] (by omega) rfl (fun q hq => by omega) (fun q hq => by omega)
      refine Or.inr (Or.inr ⟨by omega, h2, R, hR, ev_neg h1 (ev_neg (by omega) ?_)⟩)
      rw [decide_eq_false (by omega)]
      refine Ev.step (fun k_ => by rw [deltachain_Pack.j0]) ?_
      exact ev_neg (by decide) hE
    · refine Or.inr (Or.inl ⟨by omega, h2, ev_neg h1 ?_⟩)
      refine ev_cases (fun h => ?_) (fun h => ?_)
      · refine Ev.step (fun k_ => by rw [deltachain_Pack.j0]) ?_
        exact ev_pos rfl (ev_now _)
      · rw [decide_eq_true (by omega)]
        refine Ev.step (fun k_ => by rw [deltachain_Pack.j0]) ?_
        exact ev_pos rfl (ev_now _)
end Go.Proofs.Ytgmpnghgmcgghaa.Delta
