/- The pure statement of DeltachainPackMatchesSpec. -/
import Derived.Test.YtgmpnghgmcgghaaDelta5
import Derived.Test.YtgmpnghgmcgghaaP12
import Derived.Test.YtgmpnghgmcgghaaP7
namespace Go.Proofs.Ytgmpnghgmcgghaa.Pure
open Go.RowKit Go.Proofs.YtgmpnghgmcgghaaW.PrintWords Go.Proofs.YtgmpnghgmcgghaaW.PrintEv Go.Proofs.Ytgmpnghgmcgghaa.P Go.Proofs.Ytgmpnghgmcgghaa.Delta
set_option linter.unusedVariables false
theorem pms_l1 {vs : List (List Int)} {d : Int} {out : List G} (hv : (vs.length : Int) ≤ 20) (hd : 0 ≤ d ∧ d ≤ 20) (hs : ∀ q : Nat, q < vs.length → ((vAt vs q).length : Int) ≤ 1000) (ho : out.length = vs.length) (he : ∀ q : Nat, q < vs.length → rd_T45 out (q : Int) = ent vs d q) :
    ∀ (n i : Nat), i + n = vs.length → Ev (fun k => changeforgelaw3_DeltachainPackMatchesSpec.l1 k vs d out (i : Int)) true := by
  intro n
  induction n with
  | zero =>
    intro i hi
    refine Ev.step (fun k_ => by rw [changeforgelaw3_DeltachainPackMatchesSpec.l1]) ?_
    exact ev_neg (by omega) (ev_now _)
  | succ n ih =>
    intro i hi
    have hE := ih (i + 1) (by omega)
    rw [show ((i + 1 : Nat) : Int) = (i : Int) + 1 by omega] at hE
    have hq := he i (by omega)
    unfold ent at hq
    refine Ev.step (fun k_ => by rw [changeforgelaw3_DeltachainPackMatchesSpec.l1]) ?_
    rw [w64 (x := d + 1) (by omega), w64 (x := (i : Int) + 1) (by omega)]
    refine ev_pos (by omega) (ev_neg (by omega) (ev_cases (fun h => ev_pos (by omega) ?_) (fun h => ev_pos (by omega) ?_)))
    · rw [if_pos h] at hq
      rw [hq]
      exact ev_pos rfl (ev_pos (by omega) (ev_pos rfl (ev_neg (by simp) hE)))
    · rw [if_neg h] at hq
      have hi0 : 0 < i := by
        rcases Nat.eq_zero_or_pos i with e | e
        · subst e; exact absurd (by simp) h
        · exact e
      rw [hq, w64 (x := (i : Int) - 1) (by omega)]
      have hpl := hs (i - 1) (by omega)
      rw [show ((i - 1 : Nat) : Int) = (i : Int) - 1 by omega] at hpl
      have hl := hs i (by omega)
      have hlen := enc_length (b := vAt vs ((i : Int) - 1)) ((vAt vs i).length + 1) (vAt vs i) [] false
      simp only [List.length_nil] at hlen
      have hlen2 : ((enc (vAt vs ((i : Int) - 1)) ((vAt vs i).length + 1) (vAt vs i) [] false).length : Int) ≤ 140737488351232 := by omega
      exact ev_pos rfl (ev_neg (by simp) (ev_pos (by omega) (ev_pos (by omega) (ev_pos (by omega) (ev_bind (encodedelta_ev hpl hl) (ev_bind (deltas_same hlen2) (ev_pos rfl hE)))))))
/-- The reference's own look for a version that is too large. -/
theorem pms_l0 {vs : List (List Int)} {d : Int} {c : List G} {f1 f2 : Int} {R : Bool} (hv : (vs.length : Int) ≤ 20)
    (hbad : ∀ j : Nat, j < vs.length → (∀ q : Nat, q < j → ((vAt vs q).length : Int) ≤ 1000) → ((vAt vs j).length : Int) > 1000 → Ev (fun k => changeforgelaw3_DeltachainPackMatchesSpec.j2 k vs d c ((j : Int) + 1) false f1 f2 10 (j : Int)) R)
    (hgood : (∀ q : Nat, q < vs.length → ((vAt vs q).length : Int) ≤ 1000) → Ev (fun k => changeforgelaw3_DeltachainPackMatchesSpec.j2 k vs d c (vs.length : Int) false f1 f2 0 0) R) :
    ∀ (n i : Nat), i + n = vs.length → (∀ q : Nat, q < i → ((vAt vs q).length : Int) ≤ 1000) → Ev (fun k => changeforgelaw3_DeltachainPackMatchesSpec.l0 k vs d c (i : Int) f1 f2 0 0) R := by
  intro n
  induction n with
  | zero =>
    intro i hi hs
    have hi' : i = vs.length := by omega
    subst hi'
    refine Ev.step (fun k_ => by rw [changeforgelaw3_DeltachainPackMatchesSpec.l0]) ?_
    exact ev_neg (by omega) (hgood hs)
  | succ n ih =>
    intro i hi hs
    refine Ev.step (fun k_ => by rw [changeforgelaw3_DeltachainPackMatchesSpec.l0]) ?_
    refine ev_pos (by omega) ?_
    refine Ev.step (fun k_ => by rw [changeforgelaw3_DeltachainPackMatchesSpec.j2]) ?_
    refine ev_pos rfl (ev_pos (by omega) (ev_pos (by omega) ?_))
    rw [w64 (x := (i : Int) + 1) (by omega)]
    refine ev_cases (fun h => ?_) (fun h => ?_)
    · refine ev_const (fault_eq _ _) ?_
      refine Ev.step (fun k_ => by rw [changeforgelaw3_DeltachainPackMatchesSpec.l0]) ?_
      exact ev_cases (fun _ => hbad i (by omega) hs h) (fun _ => hbad i (by omega) hs h)
    · have := ih (i + 1) (by omega) (fun q hq => by
        by_cases e : q = i
        · subst e; unfold vAt; omega
        · exact hs q (by omega))
      rw [show ((i + 1 : Nat) : Int) = (i : Int) + 1 by omega] at this
      exact this
/-- A fault that is told ahead of all. -/
theorem pms_early {vs : List (List Int)} {d w1 w2 : Int} (h : w1 ≠ 0) : Ev (fun k => changeforgelaw3_DeltachainPackMatchesSpec.j0 k vs d [] w1 w2 w1 w2) true := by
  have hj : ∀ x8, Ev (fun k => changeforgelaw3_DeltachainPackMatchesSpec.j2 k vs d [] x8 false w1 w2 w1 w2) true := fun x8 => by
    refine Ev.step (fun k_ => by rw [changeforgelaw3_DeltachainPackMatchesSpec.j2]) ?_
    exact ev_neg (by decide) (ev_neg h (ev_pos (by simp) (ev_now _)))
  refine Ev.step (fun k_ => by rw [changeforgelaw3_DeltachainPackMatchesSpec.j0]) ?_
  refine Ev.step (fun k_ => by rw [changeforgelaw3_DeltachainPackMatchesSpec.l0]) ?_
  rw [beq_eq_false_iff_ne.2 h]
  exact ev_cases (fun _ => hj _) (fun _ => hj _)
theorem DeltachainPackMatchesSpec : changeforgelaw3_DeltachainPackMatchesSpec.Pure := by
  intro vs d hvs hd
  refine ev_ex ?_
  unfold changeforgelaw3_DeltachainPackMatchesSpec.f
  refine ev_bind example_ev (ev_pos rfl ?_)
  rcases pack_ev (vs := vs) (d := d) with ⟨h1, hE⟩ | ⟨h1, h2, hE⟩ | ⟨h1, h2, R, hR, hE⟩
  · exact ev_bind hE (ev_pos h1 (ev_const (fault_eq _ _) (pms_early (by decide))))
  · refine ev_bind hE (ev_neg (by omega) (ev_const (a := false) ?_ (ev_neg (by decide) (ev_const (fault_eq _ _) (pms_early (by decide))))))
    unfold changeforgeref3_In.f
    split
    · rw [decide_eq_false (by omega)]
    · rfl
  · refine ev_bind hE (ev_neg (by omega) (ev_const (a := true) ?_ (ev_pos rfl ?_)))
    · unfold changeforgeref3_In.f
      rw [if_pos (by omega), decide_eq_true (by omega)]
    refine Ev.step (fun k_ => by rw [changeforgelaw3_DeltachainPackMatchesSpec.j0]) ?_
    refine pms_l0 h1 (fun j hj hb hl => ?_) (fun hg => ?_) vs.length 0 (by omega) (fun q hq => by omega)
    · rcases hR with ⟨j', g1, g2, g3, g4⟩ | ⟨g1, _⟩
      · have ej : j = j' := by
          rcases Nat.lt_trichotomy j j' with c | c | c
          · have := g2 j c; omega
          · exact c
          · have := hb j' c; omega
        subst ej
        rw [g4]
        refine Ev.step (fun k_ => by rw [changeforgelaw3_DeltachainPackMatchesSpec.j2]) ?_
        exact ev_neg (by decide) (ev_neg (by decide) (ev_pos (by simp) (ev_now _)))
      · have := g1 j hj; omega
    · rcases hR with ⟨j', g1, g2, g3, g4⟩ | ⟨g1, out, g2, g3, g4⟩
      · have := hg j' g1; omega
      · rw [g4]
        refine Ev.step (fun k_ => by rw [changeforgelaw3_DeltachainPackMatchesSpec.j2]) ?_
        refine ev_neg (by decide) (ev_pos rfl (ev_pos rfl ?_))
        rw [show ((out.length : Int) != (vs.length : Int)) = false by rw [bne_eq_false_iff_eq]; omega]
        refine Ev.step (fun k_ => by rw [changeforgelaw3_DeltachainPackMatchesSpec.j3]) ?_
        exact ev_neg (by decide) (pms_l1 h1 h2 g1 g2 g3 vs.length 0 (by omega))
end Go.Proofs.Ytgmpnghgmcgghaa.Pure
