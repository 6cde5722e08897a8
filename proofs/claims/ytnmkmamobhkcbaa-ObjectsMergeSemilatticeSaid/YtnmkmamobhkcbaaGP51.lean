/- Texts of the proofs of 8 statements: what the printed functions come to, plain laws, rows (no condition beyond the statements' own). -/
import Derived.Test.YtnmkmamobhkcbaaGP0
import Derived.Test.YtnmkmamobhkcbaaGP35
namespace Go.Proofs.Ytnmkmamobhkcbaa.P
open Go.RowKit Go.Proofs.YtnmkmamobhkcbaaW.PrintWords Go.Proofs.YtnmkmamobhkcbaaW.PrintLast Go.Proofs.YtnmkmamobhkcbaaW.PrintMore
attribute [local go_sem] max2_int min2_int max_two min_two max_three min_three max_four min_four   -- for this text's walks alone
set_option linter.unusedVariables false
set_option linter.unusedSimpArgs false
def objects_copied.l0 : Nat → List (fB) → Int → Int → List (fB) → Option ((List (fB)))
  | 0, _, _, _, _ => none
  | k + 1, x8, x9, x10, cXw => if x10 < x9 then (if 0 ≤ x10 then (if x10 < (x8.length : Int) then ((objects_Clone.f ((aA x8 x10).f1.f0) ((aA x8 x10).f1.f1) ((aA x8 x10).f1.f2)).bind fun eEd => (if cXw.length < 2199023255552 then (objects_copied.l0 k x8 x9 (wrap64 (x10 + 1)) (cXw ++ [(⟨(aA x8 x10).f0, (⟨eEd.1, eEd.2.1, eEd.2.2⟩ : S44)⟩ : fB)])) else (none))) else (none)) else (none)) else (some cXw)
def objects_copied.f (k : Nat) (aD : List (fB)) : Option ((List (fB))) := objects_copied.l0 k aD (aD.length : Int) 0 ([] : List (fB))
theorem objects_copied.mono_l : ∀ k, (∀ y0 y1 y2 y3, LeO (objects_copied.l0 k y0 y1 y2 y3) (objects_copied.l0 (k + 1) y0 y1 y2 y3))
  | 0 => fun _ _ _ _ r h => by simp [objects_copied.l0] at h
  | k + 1 => by
    have mU := objects_copied.mono_l k
    · intro y0 y1 y2 y3
      unfold objects_copied.l0
      repeat' first | (with_reducible first | exact mU _ _ _ _ | exact LeO.refl _ | exact LeO.none _ | refine LeO.ite ?_ ?_ | refine LeO.bind ?_ (fun _ => ?_)) | exact mU _ _ _ _ | exact LeO.none _ | refine LeO.ite ?_ ?_ | refine LeO.bind ?_ (fun _ => ?_)
theorem objects_copied.mono : ∀ a0 k, LeO (objects_copied.f k a0) (objects_copied.f (k + 1) a0) := by
  intro a0 k
  have mU := objects_copied.mono_l k
  unfold objects_copied.f
  repeat' first | (with_reducible first | exact mU _ _ _ _ | exact LeO.refl _ | exact LeO.none _ | refine LeO.ite ?_ ?_ | refine LeO.bind ?_ (fun _ => ?_)) | exact mU _ _ _ _ | exact LeO.none _ | refine LeO.ite ?_ ?_ | refine LeO.bind ?_ (fun _ => ?_)
def objects_copied.T5 : Bool × List (List Nat × List Nat) := (true, [([], []), ([0], [0]), ([], []), ([2], [2]), ([], []), ([4], [4]), ([5], [5]), ([3, 6], [3, 6]), ([7], [7]), ([1, 8, 6], [1, 8]), ([0, 1, 2, 3, 4, 5, 6, 7, 8, 9], []), ([10, 9, 9, 0, 1, 2, 3, 4, 5, 6, 7, 8, 9], [9, 10])])
def objects_copied.B5 : List Nat := [0, 1, 0, 4, 0, 16, 48, 124, 252, 511, 1023, 2047]
theorem objects_copied.tab5 : rtab .any (opsOf Try.f47 5) = objects_copied.T5 := by kernel_rfl
theorem objects_copied.bits5 : waitsOk objects_copied.T5.2 objects_copied.B5 = true := by kernel_rfl
abbrev objects_copied.Z1 : Array Bool := #[U,U,U,U,U,U,U,U,U,U,U,U]
abbrev objects_copied.Z2 : Array Bool := #[J,U,U,U,U,U,U,U,U,U,U,U]
abbrev objects_copied.Z3 : Array Bool := #[J,U,J,U,U,U,U,U,U,U,U,U]
abbrev objects_copied.Z4 : Array Bool := #[J,U,J,U,J,U,U,U,U,U,U,U]
abbrev objects_copied.Z5 : Array Bool := #[J,J,J,U,J,U,U,U,U,U,U,U]
abbrev objects_copied.Z6 : Array Bool := #[J,J,J,J,J,U,U,U,U,U,U,U]
abbrev objects_copied.Z7 : Array Bool := #[J,J,J,J,J,J,U,U,U,U,U,U]
abbrev objects_copied.Z8 : Array Bool := #[J,J,J,J,J,J,J,U,U,U,U,U]
abbrev objects_copied.Z9 : Array Bool := #[J,J,J,J,J,J,J,J,U,U,U,U]
abbrev objects_copied.Z10 : Array Bool := #[J,J,J,J,J,J,J,J,J,U,U,U]
abbrev objects_copied.Z11 : Array Bool := #[J,J,J,J,J,J,J,J,J,J,U,U]
abbrev objects_copied.Z12 : Array Bool := #[J,J,J,J,J,J,J,J,J,J,J,U]
abbrev objects_copied.Z13 : Array Bool := #[J,J,J,J,J,J,J,J,J,J,J,J]
set_option maxHeartbeats 8000000 in
set_option maxRecDepth 100000 in
theorem objects_copied.calls (k : Nat) (bP : Option Addr) (bK : Nat) (aD : List (fB)) (r : List (fB)) (w : World) (mZ : Kd.C qL w bP aD.length aD) (nA : aD.length ≤ bK) (h : objects_copied.f k aD = some r) :
  Calls Try.prog 47 #[.agg #[.slice bP aD.length bK]] w fun e w' => ∃ v0_ : Value, e = .returned (.agg #[v0_]) ∧ Kd.S qL 46 w' w.heap.size (fun _ => True) v0_ r ∧ Below w.heap.size w w' := by
  have aP7 := Try.underlying24
  have cRq := Try.underlying46
  have aQf := Try.underlying44
  have fI := aZ mZ
  have lC := aZ nA
  clear mZ nA
  have HB := aZ (Below.refl w.heap.size w)
  have H : (objects_copied.l0 k aD (aD.length : Int) 0 ([] : List (fB))) = some r := h
  clear h
  have H' := aZ H
  clear H
  go_enter Try.func47, Try.ntmps47
  go_wp2_with (first | ((with_reducible refine gate_dst (N := 1) rfl ?_); refine box_event ?hg (N := 1) ?hd (cs := #[.slice bP aD.length bK]) (t := 24) ?hr ?_; (case hd => rfl); (case hg => rfl); (case hr => first | (go_simp; done) | (go_simp; rfl)); intro dR0 hg w2 hbox hb; have aEa := aZ (hbox); have iBx := xgh hg HB; have dR1 := xgh hg HB; replace HB := xhl HB hb; clear hb hbox hg) | ((with_reducible refine gate_dst (N := 2) rfl ?_); refine box_event ?hg (N := 2) ?hd (cs := #[.slice none 0 0]) (t := 24) ?hr ?_; (case hd => rfl); (case hg => rfl); (case hr => first | (go_simp; done) | (go_simp; rfl)); intro cS6 hg w3 hbox hb; have aFl := aZ (hbox); have iBy := xgh hg HB; have dR2 := xgh hg HB; replace HB := xhl HB hb; have cS7 := xnl hg aEa; have cS8 := xng hg aEa; replace aEa := xbb aEa hb; clear hb hbox hg) | ((with_reducible refine gate_dst (N := 3) rfl ?_); refine box_event ?hg (N := 3) ?hd (cs := #[.slice none 0 0]) (t := 24) ?hr ?_; (case hd => rfl); (case hg => rfl); (case hr => first | (go_simp; done) | (go_simp; rfl)); intro cHl hg w4 hbox hb; have aDq := aZ (hbox); have iBz := xgh hg HB; have dR3 := xgh hg HB; replace HB := xhl HB hb; have cDo := xnl hg aEa; have cDp := xng hg aEa; replace aEa := xbb aEa hb; have cDq := xnl hg aFl; have cDr := xng hg aFl; replace aFl := xbb aFl hb; clear hb hbox hg; have fYh := cDp.out; have fYi := cDo.out; have eP0 := cDr.out; have eP1 := cDq.out; have bD1 : w4.cell? ⟨cHl, 0, none⟩ = some (.slice none 0 0) := (blk_cell aDq.out 0).trans rfl; have bIr := blk_frozen aDq.out 0; have dYw := cS7.out; have dYx := cS8.out; have cCg : w4.cell? ⟨dR0, 0, none⟩ = some (.slice bP aD.length bK) := (blk_cell aEa.out 0).trans rfl; have cCh := blk_frozen aEa.out 0))
  go_loopg [10] k (fun kq v10 w' => ∃ (jO : Int) (aEv : List (fB)) (u626000 : Value), v10 = .int .i64 jO ∧ Aside0 (objects_copied.l0 kq aD (aD.length : Int) jO aEv = some r) ∧ Aside0 (kq ≤ k) ∧ Aside0 (Kd.S qL 46 w' w.heap.size (fun _ => True) u626000 aEv) ∧ Aside0 (w'.heap[dR0]? = some (.cells #[(.slice bP aD.length bK)] 24 (0, 0))) ∧ Aside0 (w'.heap[cS6]? = some (.cells #[(.slice none 0 0)] 24 (0, 0))) ∧ Aside0 (w'.heap[cHl]? = some (.cells #[u626000] 24 (0, 0))) ∧ Aside0 (Below w.heap.size w w'))
  case atStart => exact ⟨(0), (([] : List (fB))), (.slice none 0 0), xrs, H', ⟨Nat.le_refl _⟩, ⟨by first | exact Kd.S_nil _ _ _ _ _ | exact Kd.N_nil _ _ _ _ _ | exact Kd.V_nil _ _ _ _ _ | exact Kd.Q_nil _ _ _ _ _ | exact Kd.R_nil _ _ _ _ _⟩, xk aEa, xk aFl, ⟨by (with_reducible repeat (first | refine bN ?_ _ | refine bD ?_ | refine bA ?_ _)); refine blk_put (cs := #[.slice none 0 0]) ?_ 0 _ rfl; (with_reducible repeat (first | refine bN ?_ _ | refine bD ?_ | refine bA ?_ _)); exact aDq.out⟩, xb HB⟩
  case round =>
   clear H'
   (try clear bD1); (try clear cCg); (try clear bIr); (try clear cCh)
   obtain ⟨jO, aEv, u626000, rfl, HA, yS, sS, aEa, aFl, aDq, HB⟩ := hrel
   cases gk with
   | zero => exact absurd HA.out (by simp [objects_copied.l0])
   | succ k1 =>
    have H := HA.out
    clear HA
    simp only [objects_copied.l0] at H
    by_cases c10 : jO < (aD.length : Int)
    rotate_left
    · rw [if_neg c10] at H
      have dR4 : decide (jO < (aD.length : Int)) = false := decide_eq_false c10
      clear c10
      obtain rfl := Option.some.inj H
      have bV9 := cDp.out
      have bWa := cDo.out
      have bVx := cDr.out
      have bVy := cDq.out
      have bI0 : wr.cell? ⟨cHl, 0, none⟩ = some (u626000) := (blk_cell aDq.out 0).trans rfl
      have bI1 := blk_frozen aDq.out 0
      obtain ⟨dKv, dFm, fG5⟩ := Kd.S_slice sS.out
      subst fG5
      have dEl := cS8.out
      have dEm := cS7.out
      have cXx : wr.cell? ⟨cS6, 0, none⟩ = some (.slice none 0 0) := (blk_cell aFl.out 0).trans rfl
      have cXy := blk_frozen aFl.out 0
      go_wp2
      refine bodyPost_ret (results_cell_row rfl _ _ cS6 24 #[.slice dKv aEv.length dFm] (0, 0) _ rfl (by (with_reducible repeat (first | refine bN ?_ _ | refine bD ?_ | refine bA ?_ _)); refine blk_put (cs := #[.slice none 0 0]) ?_ 0 _ rfl; (with_reducible repeat (first | refine bN ?_ _ | refine bD ?_ | refine bA ?_ _)); exact aFl.out) Try.underlying24 rfl (by kernel_rfl)) rfl ?_
      exact ⟨_, xre, by (with_reducible repeat (first | apply Kd.S_alloc | apply Kd.S_drewN | apply Kd.S_drew)); exact Kd.S_mono (Kd.S_far (p := ⟨cS6, 0, none⟩) (Kd.S_types sS.out aFl.out (by decide)) (fun _ hk => hk.2) (.slice dKv aEv.length dFm)) (fun _ hk => trivial), xq HB⟩

    rw [if_pos c10] at H
    have dR4 : decide (jO < (aD.length : Int)) = true := decide_eq_true c10
    clear c10
    by_cases c11 : 0 ≤ jO
    rotate_left
    · rw [if_neg c11] at H
      exact absurd H (by simp)
    rw [if_pos c11] at H
    have cG6 : decide (0 ≤ jO) = true := decide_eq_true c11
    clear c11
    by_cases c12 : jO < (aD.length : Int)
    rotate_left
    · rw [if_neg c12] at H
      exact absurd H (by simp)
    rw [if_pos c12] at H
    have cS3 : decide (jO < (aD.length : Int)) = true := decide_eq_true c12
    clear c12
    replace H := Option.bind_eq_some_iff.mp H
    obtain ⟨⟨dY1, dKw, dKx⟩, eEe, H⟩ := H
    replace H : (if aEv.length < 2199023255552 then (objects_copied.l0 k1 aD (aD.length : Int) (wrap64 (jO + 1)) (aEv ++ [(⟨(aA aD jO).f0, (⟨dY1, dKw, dKx⟩ : S44)⟩ : fB)])) else (none)) = some r := H
    have A13 := aZ eEe
    clear eEe
    by_cases c14 : aEv.length < 2199023255552
    rotate_left
    · rw [if_neg c14] at H
      exact absurd H (by simp)
    rw [if_pos c14] at H
    have eCe := aZ c14
    clear c14
    obtain ⟨eSh, dFn⟩ : ∃ y_ : List (fB), y_ = (aEv ++ [(⟨(aA aD jO).f0, (⟨dY1, dKw, dKx⟩ : S44)⟩ : fB)]) := ⟨_, rfl⟩
    replace H : (objects_copied.l0 k1 aD (aD.length : Int) (wrap64 (jO + 1)) eSh) = some r := by first | (rw [dFn]; with_reducible exact H) | (have qY := (Option.bind_some _ _).symm.trans H; rw [dFn]; with_reducible exact qY) | (have qY := (Option.bind_some _ _).symm.trans H; with_reducible exact qY) | with_reducible exact H | (rw [dFn]; exact H) | exact H
    have fYt := aZ dFn
    clear dFn
    have H' := aZ H
    clear H
    have fG6 : 0 ≤ (jO : Int) := of_decide_eq_true xas
    have fG7 : jO < (aD.length : Int) := of_decide_eq_true xas
    obtain ⟨fA2, aN8, aN9, aQp, aQq, hJt, dR5, dR6, dR7, dR8, dR9, dSa, dSb, dSc⟩ := gY fI.out jO fG6 fG7
    cases hJt
    replace dR5 := xcl HB dR5
    replace dR6 := xcl HB dR6
    replace dR7 := xcl HB dR7
    replace dR8 := xcl HB dR8
    have eSi := aZ dSa
    have eSj := aZ dR9
    clear dSa dR9
    have eSk := aZ dSc
    have eSl := aZ dSb
    clear dSc dSb
    replace fG6 := eq_true fG6
    replace fG7 := eq_true fG7
    try go_wp2_with (first | ((with_reducible refine gate_dst (N := 5) rfl ?_); refine box_event ?hg (N := 5) ?hd (cs := #[.int .i64 0, .int .i64 0, .slice none 0 0, .slice none 0 0]) (t := 46) ?hr ?_; (case hd => rfl); (case hg => rfl); (case hr => first | (go_simp; done) | (go_simp; rfl)); intro sU hg w15 hbox hb; replace sS := aZ (Kd.S_below (Kd.S_elderB (by (with_reducible repeat (first | apply Kd.S_alloc | apply Kd.S_drewN | apply Kd.S_drew)); exact sS.out) sU (Nat.le_of_eq hg.symm)) hb); have xO := aZ (hbox); have iB0 := xgh hg HB; have dSd := xgh hg HB; replace HB := xhl HB hb; have dY2 := xnl hg aEa; have dY3 := xng hg aEa; replace aEa := xbb aEa hb; have dY4 := xnl hg aFl; have dY5 := xng hg aFl; replace aFl := xbb aFl hb; have cS9 := xnl hg aDq; have cTa := xng hg aDq; replace aDq := xbb aDq hb; clear hb hbox hg; have dEj := dY3.out; have dEk := dY2.out; have cMx := dY5.out; have cMy := dY4.out; have cNa := cTa.out; have cNb := cS9.out; have bI4 : w15.cell? ⟨sU, 0, none⟩ = some (.int .i64 0) := (blk_cell xO.out 0).trans rfl; have bPp : w15.cell? ⟨sU, 1, none⟩ = some (.int .i64 0) := (blk_cell xO.out 1).trans rfl; have dPy : w15.cell? ⟨sU, 2, none⟩ = some (.slice none 0 0) := (blk_cell xO.out 2).trans rfl; have gX4 : w15.cell? ⟨sU, 3, none⟩ = some (.slice none 0 0) := (blk_cell xO.out 3).trans rfl; have bI5 := blk_frozen xO.out 0; have bPq := blk_frozen xO.out 1; have dPz := blk_frozen xO.out 2; have gX5 := blk_frozen xO.out 3))
    replace sS : Aside0 (Kd.S qL 46 ((((w15.setCell ⟨sU, 0, none⟩ (.int .i64 ((aA aD jO).f0))).setCell ⟨sU, 1, none⟩ (.int .i64 ((aA aD jO).f1.f0))).setCell ⟨sU, 2, none⟩ (.slice aN8 ((aA aD jO).f1.f1).length aN9)).setCell ⟨sU, 3, none⟩ (.slice aQp ((aA aD jO).f1.f2).length aQq)) w.heap.size (fun k_ => k_ ≠ sU) u626000 aEv) := ⟨by (with_reducible repeat (first | apply Kd.S_alloc | apply Kd.S_drewN | apply Kd.S_drew)); exact Kd.S_mono (Kd.S_far (p := ⟨sU, 3, none⟩) (Kd.S_far (p := ⟨sU, 2, none⟩) (Kd.S_far (p := ⟨sU, 1, none⟩) (Kd.S_far (p := ⟨sU, 0, none⟩) (Kd.S_mono sS.out (fun k_ hk => (⟨hk, hk.2⟩ : _ ∧ k_ ≠ sU))) (fun _ hk => hk.2) (.int .i64 ((aA aD jO).f0))) (fun _ hk => hk.2) (.int .i64 ((aA aD jO).f1.f0))) (fun _ hk => hk.2) (.slice aN8 ((aA aD jO).f1.f1).length aN9)) (fun _ hk => hk.2) (.slice aQp ((aA aD jO).f1.f2).length aQq)) (fun _ hk => hk.1.2)⟩
    replace aEa : Aside0 (((((w15.setCell ⟨sU, 0, none⟩ (.int .i64 ((aA aD jO).f0))).setCell ⟨sU, 1, none⟩ (.int .i64 ((aA aD jO).f1.f0))).setCell ⟨sU, 2, none⟩ (.slice aN8 ((aA aD jO).f1.f1).length aN9)).setCell ⟨sU, 3, none⟩ (.slice aQp ((aA aD jO).f1.f2).length aQq)).heap[dR0]? = some (.cells #[.slice (some fA2) aD.length bK] 24 (0, 0))) := xk aEa
    replace aFl : Aside0 (((((w15.setCell ⟨sU, 0, none⟩ (.int .i64 ((aA aD jO).f0))).setCell ⟨sU, 1, none⟩ (.int .i64 ((aA aD jO).f1.f0))).setCell ⟨sU, 2, none⟩ (.slice aN8 ((aA aD jO).f1.f1).length aN9)).setCell ⟨sU, 3, none⟩ (.slice aQp ((aA aD jO).f1.f2).length aQq)).heap[cS6]? = some (.cells #[.slice none 0 0] 24 (0, 0))) := xk aFl
    replace aDq : Aside0 (((((w15.setCell ⟨sU, 0, none⟩ (.int .i64 ((aA aD jO).f0))).setCell ⟨sU, 1, none⟩ (.int .i64 ((aA aD jO).f1.f0))).setCell ⟨sU, 2, none⟩ (.slice aN8 ((aA aD jO).f1.f1).length aN9)).setCell ⟨sU, 3, none⟩ (.slice aQp ((aA aD jO).f1.f2).length aQq)).heap[cHl]? = some (.cells #[u626000] 24 (0, 0))) := xk aDq
    replace xO : Aside0 (((((w15.setCell ⟨sU, 0, none⟩ (.int .i64 ((aA aD jO).f0))).setCell ⟨sU, 1, none⟩ (.int .i64 ((aA aD jO).f1.f0))).setCell ⟨sU, 2, none⟩ (.slice aN8 ((aA aD jO).f1.f1).length aN9)).setCell ⟨sU, 3, none⟩ (.slice aQp ((aA aD jO).f1.f2).length aQq)).heap[sU]? = some (.cells #[.int .i64 ((aA aD jO).f0), .int .i64 ((aA aD jO).f1.f0), .slice aN8 ((aA aD jO).f1.f1).length aN9, .slice aQp ((aA aD jO).f1.f2).length aQq] 46 (0, 0))) := ⟨by (with_reducible repeat (first | refine bN ?_ _ | refine bD ?_ | refine bA ?_ _)); refine blk_put (cs := #[.int .i64 ((aA aD jO).f0), .int .i64 ((aA aD jO).f1.f0), .slice aN8 ((aA aD jO).f1.f1).length aN9, .slice none 0 0]) ?_ 3 _ rfl; (with_reducible repeat (first | refine bN ?_ _ | refine bD ?_ | refine bA ?_ _)); refine blk_put (cs := #[.int .i64 ((aA aD jO).f0), .int .i64 ((aA aD jO).f1.f0), .slice none 0 0, .slice none 0 0]) ?_ 2 _ rfl; (with_reducible repeat (first | refine bN ?_ _ | refine bD ?_ | refine bA ?_ _)); refine blk_put (cs := #[.int .i64 ((aA aD jO).f0), .int .i64 0, .slice none 0 0, .slice none 0 0]) ?_ 1 _ rfl; (with_reducible repeat (first | refine bN ?_ _ | refine bD ?_ | refine bA ?_ _)); refine blk_put (cs := #[.int .i64 0, .int .i64 0, .slice none 0 0, .slice none 0 0]) ?_ 0 _ rfl; (with_reducible repeat (first | refine bN ?_ _ | refine bD ?_ | refine bA ?_ _)); exact xO.out⟩
    replace HB : Aside0 (Below w.heap.size w ((((w15.setCell ⟨sU, 0, none⟩ (.int .i64 ((aA aD jO).f0))).setCell ⟨sU, 1, none⟩ (.int .i64 ((aA aD jO).f1.f0))).setCell ⟨sU, 2, none⟩ (.slice aN8 ((aA aD jO).f1.f1).length aN9)).setCell ⟨sU, 3, none⟩ (.slice aQp ((aA aD jO).f1.f2).length aQq))) := xb HB
    generalize ((((w15.setCell ⟨sU, 0, none⟩ (.int .i64 ((aA aD jO).f0))).setCell ⟨sU, 1, none⟩ (.int .i64 ((aA aD jO).f1.f0))).setCell ⟨sU, 2, none⟩ (.slice aN8 ((aA aD jO).f1.f1).length aN9)).setCell ⟨sU, 3, none⟩ (.slice aQp ((aA aD jO).f1.f2).length aQq)) = w20 at sS aEa aFl aDq xO HB ⊢
    replace sS := aZ (Kd.S_drew sS.out)
    replace aEa := aZ (bD aEa.out)
    replace aFl := aZ (bD aFl.out)
    replace aDq := aZ (bD aDq.out)
    replace xO := aZ (bD xO.out)
    replace HB := aZ (lD HB.out)
    refine start_ (n := 12) (S := fun w' => w'.cell? ⟨cHl, 0, none⟩ = some (u626000) ∧ w'.cell? ⟨sU, 0, none⟩ = some (.int .i64 ((aA aD jO).f0)) ∧ w'.cell? ⟨sU, 1, none⟩ = some (.int .i64 ((aA aD jO).f1.f0)) ∧ w'.cell? ⟨sU, 2, none⟩ = some (.slice aN8 ((aA aD jO).f1.f1).length aN9) ∧ w'.cell? ⟨sU, 3, none⟩ = some (.slice aQp ((aA aD jO).f1.f2).length aQq)) (ds := [11]) Z1 (by kernel_rfl) rfl rfl ⟨(blk_cell aDq.out 0).trans rfl, (blk_cell xO.out 0).trans rfl, (blk_cell xO.out 1).trans rfl, (blk_cell xO.out 2).trans rfl, (blk_cell xO.out 3).trans rfl⟩ (fun hHeld => ?_); refine with_tabW objects_copied.tab5 objects_copied.bits5 (fun HT_ HW_ => ?_)
    generalize w20.drew = w21 at sS aEa aFl aDq xO HB hHeld ⊢
    refine pu 0 14 Z2 HT_ rfl rfl (h := ?_)
    refine pu 2 16 Z3 HT_ rfl rfl (h := ?_)
    refine pu 4 18 Z4 HT_ rfl rfl (h := ?_)
    refine tk 1 15 Z5 HT_ HW_ rfl rfl hHeld (by rintro w' ⟨s0, s1, s2, s3, s4⟩; go_simp; with_reducible rfl) (h := ?_)
    refine tk 3 17 Z6 HT_ HW_ rfl rfl hHeld (by rintro w' ⟨s0, s1, s2, s3, s4⟩; go_simp; with_reducible rfl) (h := ?_)
    refine tk 5 19 Z7 HT_ HW_ rfl rfl hHeld (by rintro w' ⟨s0, s1, s2, s3, s4⟩; go_simp; with_reducible rfl) (h := ?_)
    refine one_ (i := 6) (N := some 20) Z8 rfl rfl (one_of HT_.out (by kernel_rfl)) (by decide) (fun K hK => ?_)
    refine goes_ Try.func51 (by kernel_rfl) rfl #[.agg #[.int .i64 ((aA aD jO).f1.f0), .slice aN8 ((aA aD jO).f1.f1).length aN9, .slice aQp ((aA aD jO).f1.f2).length aQq]] (by rfl) rfl rfl xmp ?_
    with_reducible refine (objects_Clone.calls ((aA aD jO).f1.f0) _ _ ((aA aD jO).f1.f1) _ _ ((aA aD jO).f1.f2) dY1 dKw dKx _ ?side1 ?side2 ?side3 ?side4 A13.out).mono ?_
    (case side1 => exact xcb eSi HB)
    (case side2 => exact eSj.out)
    (case side3 => exact xcb eSk HB)
    (case side4 => exact eSl.out)
    rintro e w22 ⟨iHo, iHp, rfl, gZ, ho1, hb⟩
    refine ⟨_, rfl, ?_⟩
    replace sS := aZ (Kd.S_mono (Kd.S_told (Kd.S_told (Kd.S_old (by (with_reducible repeat (first | apply Kd.S_alloc | apply Kd.S_drewN | apply Kd.S_drew)); exact sS.out) hb) (Kd.R_base gZ)) (Kd.R_base ho1)) (fun _ h_ => h_.1))
    have dSe := aZ (Kd.R_lower gZ (lZ (by repeat (first | (with_reducible first | exact HB.out | apply lA | apply lN | apply lD | refine lS ?_ dR1.out | refine lS ?_ dR2.out | refine lS ?_ dR3.out | refine lS ?_ dSd.out) | exact HB.out))))
    have dSf := aZ (Kd.R_lower ho1 (lZ (by repeat (first | (with_reducible first | exact HB.out | apply lA | apply lN | apply lD | refine lS ?_ dR1.out | refine lS ?_ dR2.out | refine lS ?_ dR3.out | refine lS ?_ dSd.out) | exact HB.out))))
    replace aEa := xbb aEa hb
    replace aFl := xbb aFl hb
    replace aDq := xbb aDq hb
    replace xO := aZ (blk_below (g := sU) (o := .cells #[.int .i64 ((aA aD jO).f0), .int .i64 ((aA aD jO).f1.f0), .slice aN8 ((aA aD jO).f1.f1).length aN9, .slice aQp ((aA aD jO).f1.f2).length aQq] 46 (0, 0)) (xkq xO) hb)
    replace HB := xhl HB hb
    (try clear hb)
    (try clear iV)
    (try clear hk)
    (try clear hi)
    (try clear gZ)
    (try clear ho1)
    obtain ⟨cWl, cRp, eQz⟩ := Kd.R_slice dSf.out
    (first | subst eQz | (injection eQz with f1_ f2_ f3_; have f4_ := f1_.symm; have f5_ := f3_.symm; clear f1_ f2_ f3_; subst f4_; subst f5_))
    obtain ⟨eSm, eSn, dY6⟩ := Kd.R_slice dSe.out
    (first | subst dY6 | (injection dY6 with f1_ f2_ f3_; have f4_ := f1_.symm; have f5_ := f3_.symm; clear f1_ f2_ f3_; subst f4_; subst f5_))
    refine hK.out _ _ ⟨(blk_cell aDq.out 0).trans rfl, (blk_cell xO.out 0).trans rfl, (blk_cell xO.out 1).trans rfl, (blk_cell xO.out 2).trans rfl, (blk_cell xO.out 3).trans rfl⟩ (fun hHeld => ?_)
    clear hK K
    refine norm_ (a' := ?_) ?_ ?_
    rotate_left
    · show Act.put _ (some 20) _ = _
      simp only [Act.put, List.setIfInBounds_toArray, List.set_cons_zero, List.set_cons_succ, i64_w, i32_w]
      rfl
    refine pu 7 21 Z9 HT_ rfl rfl (h := ?_)
    refine one_ (i := 8) (N := some 22) Z10 rfl rfl (one_of HT_.out (by kernel_rfl)) (by decide) (fun K hK => ?_)
    refine value_ (w1 := ?_) (v := ?_) (by rfl) rfl ?_ ?_
    rotate_left 2
    · go_simp
      constructor
      · rfl
      · rfl
    refine hK.out _ _ ⟨(blk_cell (bA aDq.out _) 0).trans rfl, (blk_cell (bA xO.out _) 0).trans rfl, (blk_cell (bA xO.out _) 1).trans rfl, (blk_cell (bA xO.out _) 2).trans rfl, (blk_cell (bA xO.out _) 3).trans rfl⟩ (fun hHeld => ?_)
    clear hK K
    refine norm_ (a' := ?_) ?_ ?_
    rotate_left
    · show Act.put _ (some 22) _ = _
      simp only [Act.put, List.setIfInBounds_toArray, List.set_cons_zero, List.set_cons_succ, i64_w, i32_w]
      rfl
    refine one_ (i := 9) (N := some 23) Z11 rfl rfl (one_of HT_.out (by kernel_rfl)) (by decide) (fun K hK => ?_)
    refine Kd.S_append_step qL (w0 := w) w.heap.size (by rfl) (.tmp 15) (.tmp 22) 22 46 (.agg #[(.int .i64 0), (.int .i64 0), (.slice none 0 0), (.slice none 0 0)]) 64 rfl Try.underlying22 aNg rfl (by decide) (by omega) u626000 aEv (⟨(aA aD jO).f0, (⟨dY1, dKw, dKx⟩ : S44)⟩ : fB) [.int .i64 ((aA aD jO).f0), .int .i64 dY1, .slice eSm dKw.length eSn, .slice cWl dKx.length cRp] (fun k_ => k_ ≠ sU) (fun k_ => some k_ = (.slice eSm dKw.length eSn : Value).ownBlock ∨ some k_ = (.slice cWl dKx.length cRp : Value).ownBlock) rfl rfl ?aP (fun k_ hk_ => hk_.elim (fun h_ => ((Kd.R_mono (ok' := fun k_ => ((fun k_ => k_ ≠ sU)) k_ ∧ some k_ ≠ (u626000 : Value).ownBlock) (Kd.R_types (Kd.R_apart' (dSe.out) (Kd.S_typed sS.out) (by decide)) xO.out (by decide)) (fun k_ hk => ⟨hk.2, hk.1.2⟩))).1 k_ h_.symm) (fun h_ => ((Kd.R_mono (ok' := fun k_ => ((fun k_ => k_ ≠ sU)) k_ ∧ some k_ ≠ (u626000 : Value).ownBlock) (Kd.R_types (Kd.R_apart' (dSf.out) (Kd.S_typed sS.out) (by decide)) xO.out (by decide)) (fun k_ hk => ⟨hk.2, hk.1.2⟩))).1 k_ h_.symm)) ?aF ?aO ?aB ?aS ?aL ?_
    (case aP => exact cJg _ _ _ (⟨(aA aD jO).f0, (⟨dY1, dKw, dKx⟩ : S44)⟩ : fB) (Kd.R_mono (Kd.R_tight rfl (Kd.R_mono (ok' := fun k_ => ((fun k_ => k_ ≠ sU)) k_ ∧ some k_ ≠ (u626000 : Value).ownBlock) (Kd.R_types (Kd.R_apart' (dSe.out) (Kd.S_typed sS.out) (by decide)) xO.out (by decide)) (fun k_ hk => ⟨hk.2, hk.1.2⟩))) (fun _ h_ => Or.inl h_)) (Kd.R_mono (Kd.R_tight rfl (Kd.R_mono (ok' := fun k_ => ((fun k_ => k_ ≠ sU)) k_ ∧ some k_ ≠ (u626000 : Value).ownBlock) (Kd.R_types (Kd.R_apart' (dSf.out) (Kd.S_typed sS.out) (by decide)) xO.out (by decide)) (fun k_ hk => ⟨hk.2, hk.1.2⟩))) (fun _ h_ => Or.inr (h_))))
    (case aB => exact (by repeat (first | (with_reducible first | exact HB.out | apply lA | apply lN | apply lD | refine lS ?_ dR1.out | refine lS ?_ dR2.out | refine lS ?_ dR3.out | refine lS ?_ dSd.out) | exact HB.out)))
    (case aF => exact (fun k_ hk => Kd.freshB (g := sU) (o := .cells #[.int .i64 ((aA aD jO).f0), .int .i64 ((aA aD jO).f1.f0), .slice aN8 ((aA aD jO).f1.f1).length aN9, .slice aQp ((aA aD jO).f1.f2).length aQq] 46 (0, 0)) (xkq xO) k_ hk))
    (case aO => exact (by (with_reducible repeat (first | apply Kd.S_alloc | apply Kd.S_drewN | apply Kd.S_drew)); exact Kd.S_mono sS.out (fun k_ hk => ⟨hk.1.1, fun e_ => e_.elim (fun h_ => hk.1.2 h_) (fun h_ => hk.2 h_)⟩)))
    (case aS => exact (lZ (by repeat (first | (with_reducible first | exact HB.out | apply lA | apply lN | apply lD | refine lS ?_ dR1.out | refine lS ?_ dR2.out | refine lS ?_ dR3.out | refine lS ?_ dSd.out) | exact HB.out))))
    (case aL => have := eCe.out; omega)
    intro iHq w25 ho hb hg hat
    rw [← fYt.out] at ho
    replace aEa := aZ (blk_grown (g := dR0) (o := .cells #[.slice (some fA2) aD.length bK] 24 (0, 0)) (xkq aEa) hg (Kd.S_ne sS.out aEa.out (by decide)))
    replace aFl := aZ (blk_grown (g := cS6) (o := .cells #[.slice none 0 0] 24 (0, 0)) (xkq aFl) hg (Kd.S_ne sS.out aFl.out (by decide)))
    replace aDq := aZ (blk_grown (g := cHl) (o := .cells #[u626000] 24 (0, 0)) (xkq aDq) hg (Kd.S_ne sS.out aDq.out (by decide)))
    replace xO := aZ (blk_grown (g := sU) (o := .cells #[.int .i64 ((aA aD jO).f0), .int .i64 ((aA aD jO).f1.f0), .slice aN8 ((aA aD jO).f1.f1).length aN9, .slice aQp ((aA aD jO).f1.f2).length aQq] 46 (0, 0)) (xkq xO) hg (Kd.S_away sS.out (fun _ hk => hk.1.1)))
    replace HB := aZ (hb)
    have fA3 := aZ (ho)
    clear sS
    clear dSe
    clear dSf
    clear ho hb hg hat
    obtain ⟨cDs, bW7, eSo⟩ := Kd.S_slice fA3.out
    (first | subst eSo | (injection eSo with f1_ f2_ f3_; have f4_ := f1_.symm; have f5_ := f3_.symm; clear f1_ f2_ f3_; subst f4_; subst f5_))
    refine hK.out _ _ ⟨(blk_cell aDq.out 0).trans rfl, (blk_cell xO.out 0).trans rfl, (blk_cell xO.out 1).trans rfl, (blk_cell xO.out 2).trans rfl, (blk_cell xO.out 3).trans rfl⟩ (fun hHeld => ?_)
    clear hK K
    refine norm_ (a' := ?_) ?_ ?_
    rotate_left
    · show Act.put _ (some 23) _ = _
      simp only [Act.put, List.setIfInBounds_toArray, List.set_cons_zero, List.set_cons_succ, i64_w, i32_w]
      rfl
    refine pu 10 24 Z12 HT_ rfl rfl (h := ?_)
    refine last_ (i := 11) (N := none) Z13 rfl rfl (one_of HT_.out (by kernel_rfl)) (by decide) (fun K hK => ?_)
    have iHr : w25.cell? ⟨cHl, 0, none⟩ = some (u626000) := (blk_cell aDq.out 0).trans rfl
    have iB1 := blk_frozen aDq.out 0
    have gX6 := cDo.out
    have gX7 := cDq.out
    have gX8 := cTa.out
    have gX9 := cDp.out
    have gYa := cDr.out
    have gYb := cS9.out
    refine skip_ (w1 := ?_) (by rfl) rfl ?_ ?_
    rotate_left
    · go_simp
      rfl
    refine hK.out _ _ ?_
    clear hK K
    refine done_ (done_of HT_.out (by kernel_rfl)) ?_
    try go_wp2
    go_roundg k1
    case measure => have := yS.out; omega
    case rel => exact ⟨(wrap64 (jO + 1)), (eSh), (.slice cDs eSh.length bW7), xrs, H', ⟨by have := yS.out; omega⟩, ⟨by (with_reducible repeat (first | apply Kd.S_alloc | apply Kd.S_drewN | apply Kd.S_drew)); exact Kd.S_mono (Kd.S_far (p := ⟨cHl, 0, none⟩) (Kd.S_types fA3.out aDq.out (by decide)) (fun _ hk => hk.2) (.slice cDs eSh.length bW7)) (fun _ hk => trivial)⟩, xk aEa, xk aFl, ⟨by (with_reducible repeat (first | refine bN ?_ _ | refine bD ?_ | refine bA ?_ _)); refine blk_put (cs := #[u626000]) ?_ 0 _ rfl; (with_reducible repeat (first | refine bN ?_ _ | refine bD ?_ | refine bA ?_ _)); exact aDq.out⟩, xb HB⟩
def slices_Equal_int_int.l0 : Nat → List Int → List Int → Int → Int → Option (Bool)
  | 0, _, _, _, _ => none
  | k + 1, x0, x1, x12, x13 => if x13 < x12 then (if 0 ≤ x13 then (if x13 < (x0.length : Int) then (if x13 < (x1.length : Int) then (if (rd x0 x13) = (rd x1 x13) then (slices_Equal_int_int.l0 k x0 x1 x12 (wrap64 (x13 + 1))) else (some false)) else (none)) else (none)) else (none)) else (some true)
def slices_Equal_int_int.f (k : Nat) (l0 : List Int) (l1 : List Int) : Option (Bool) := if (l0.length : Int) = (l1.length : Int) then (slices_Equal_int_int.l0 k l0 l1 (l0.length : Int) 0) else (some false)
theorem slices_Equal_int_int.mono_l : ∀ k, (∀ y0 y1 y2 y3, LeO (slices_Equal_int_int.l0 k y0 y1 y2 y3) (slices_Equal_int_int.l0 (k + 1) y0 y1 y2 y3))
  | 0 => fun _ _ _ _ r h => by simp [slices_Equal_int_int.l0] at h
  | k + 1 => by
    have mU := slices_Equal_int_int.mono_l k
    · intro y0 y1 y2 y3
      unfold slices_Equal_int_int.l0
      repeat' first | (with_reducible first | exact mU _ _ _ _ | exact LeO.refl _ | exact LeO.none _ | refine LeO.ite ?_ ?_ | refine LeO.bind ?_ (fun _ => ?_)) | exact mU _ _ _ _ | exact LeO.none _ | refine LeO.ite ?_ ?_ | refine LeO.bind ?_ (fun _ => ?_)
theorem slices_Equal_int_int.mono : ∀ a0 a1 k, LeO (slices_Equal_int_int.f k a0 a1) (slices_Equal_int_int.f (k + 1) a0 a1) := by
  intro a0 a1 k
  have mU := slices_Equal_int_int.mono_l k
  unfold slices_Equal_int_int.f
  repeat' first | (with_reducible first | exact mU _ _ _ _ | exact LeO.refl _ | exact LeO.none _ | refine LeO.ite ?_ ?_ | refine LeO.bind ?_ (fun _ => ?_)) | exact mU _ _ _ _ | exact LeO.none _ | refine LeO.ite ?_ ?_ | refine LeO.bind ?_ (fun _ => ?_)
set_option maxHeartbeats 8000000 in
set_option maxRecDepth 100000 in
theorem slices_Equal_int_int.calls (k : Nat) (A0 : Option Addr) (c0 : Nat) (l0 : List Int) (A1 : Option Addr) (c1 : Nat) (l1 : List Int) (r : Bool) (w : World) (hr0 : Kd.C (Kd.int .i64) w A0 l0.length l0) (hc0 : l0.length ≤ c0) (hr1 : Kd.C (Kd.int .i64) w A1 l1.length l1) (hc1 : l1.length ≤ c1) (h : slices_Equal_int_int.f k l0 l1 = some r) :
  Calls Try.prog 59 #[.slice A0 l0.length c0, .slice A1 l1.length c1] w fun e w' => e = .returned (.bool r) ∧ Drawn0 w w' := by
  have HR0 := aZ hr0
  have HC0 := aZ hc0
  clear hr0 hc0
  have HR1 := aZ hr1
  have HC1 := aZ hc1
  clear hr1 hc1
  have H : (if (l0.length : Int) = (l1.length : Int) then (slices_Equal_int_int.l0 k l0 l1 (l0.length : Int) 0) else (some false)) = some r := h
  clear h
  by_cases c3 : (l0.length : Int) = (l1.length : Int)
  rotate_left
  · rw [if_neg c3] at H
    have aNk : ((l0.length : Int) == (l1.length : Int)) = false := beq_eq_false_iff_ne.mpr c3
    have bNc : ((l0.length : Int) != (l1.length : Int)) = true := bne_iff_ne.mpr c3
    have cOc : (l0.length == l1.length) = false := by first | simpa using c3 | (simp at c3 ⊢; omega)
    obtain rfl := Option.some.inj H
    go_enter Try.func59, Try.ntmps59
    go_wp2
    repeat (go_quiet (fail); try go_wp2)
    go_ret
    exact ⟨by first | rfl | (simp; done) | (simp [*]; done), by repeat (first | exact Drawn0.refl _ | apply Drawn0.step)⟩

  rw [if_pos c3] at H
  have aNk : ((l0.length : Int) == (l1.length : Int)) = true := beq_iff_eq.mpr c3
  have bNc : ((l0.length : Int) != (l1.length : Int)) = false := bne_eq_false_iff_eq.mpr c3
  have cOc : (l0.length == l1.length) = true := by first | simpa using c3 | (simp at c3 ⊢; omega)
  clear c3
  have H' := aZ H
  clear H
  go_enter Try.func59, Try.ntmps59
  go_wp2
  repeat (go_quiet (fail); try go_wp2)
  go_loopg [13] k (fun kq v13 w' => ∃ (kV : Int), v13 = .int .i64 kV ∧ Aside0 (slices_Equal_int_int.l0 kq l0 l1 (l0.length : Int) kV = some r) ∧ Aside0 (kq ≤ k) ∧ Drawn0 w w')
  case atStart => exact ⟨(0), xrs, H', ⟨Nat.le_refl _⟩, by repeat (first | exact Drawn0.refl _ | apply Drawn0.step)⟩
  case round =>
   clear H'
   (try clear c1); (try clear c3); (try clear aNk); (try clear bNc); (try clear cOc)
   obtain ⟨kV, rfl, HA, yS, ⟨m1, rfl⟩⟩ := hrel
   cases gk with
   | zero => exact absurd HA.out (by simp [slices_Equal_int_int.l0])
   | succ k1 =>
    have H := HA.out
    clear HA
    simp only [slices_Equal_int_int.l0] at H
    by_cases c4 : kV < (l0.length : Int)
    rotate_left
    · rw [if_neg c4] at H
      have aJy : decide (kV < (l0.length : Int)) = false := decide_eq_false c4
      clear c4
      obtain rfl := Option.some.inj H
      go_wp2
      repeat (go_quiet (fail); try go_wp2)
      go_ret
      exact ⟨by first | rfl | (simp; done) | (simp [*]; done), by repeat (first | exact Drawn0.refl _ | apply Drawn0.step)⟩
    rw [if_pos c4] at H
    have aJy : decide (kV < (l0.length : Int)) = true := decide_eq_true c4
    clear c4
    by_cases c5 : 0 ≤ kV
    rotate_left
    · rw [if_neg c5] at H
      exact absurd H (by simp)
    rw [if_pos c5] at H
    have bAy : decide (0 ≤ kV) = true := decide_eq_true c5
    clear c5
    by_cases c6 : kV < (l0.length : Int)
    rotate_left
    · rw [if_neg c6] at H
      exact absurd H (by simp)
    rw [if_pos c6] at H
    have aWf : decide (kV < (l0.length : Int)) = true := decide_eq_true c6
    clear c6
    by_cases c7 : kV < (l1.length : Int)
    rotate_left
    · rw [if_neg c7] at H
      exact absurd H (by simp)
    rw [if_pos c7] at H
    have bTm : decide (kV < (l1.length : Int)) = true := decide_eq_true c7
    clear c7
    by_cases c8 : (rd l0 kV) = (rd l1 kV)
    rotate_left
    · rw [if_neg c8] at H
      have bTn : ((rd l0 kV) == (rd l1 kV)) = false := beq_eq_false_iff_ne.mpr c8
      have cWk : ((rd l0 kV) != (rd l1 kV)) = true := bne_iff_ne.mpr c8
      obtain rfl := Option.some.inj H
      have dKy : 0 ≤ (kV : Int) := of_decide_eq_true xas
      have dKz : kV < (l0.length : Int) := of_decide_eq_true xas
      obtain ⟨fYu, fG8, eSt⟩ := Kd.at_int HR0.out kV dKy dKz
      cases fG8
      replace dKy := eq_true dKy
      replace dKz := eq_true dKz
      have dK0 : 0 ≤ (kV : Int) := of_decide_eq_true xas
      have dK1 : kV < (l1.length : Int) := of_decide_eq_true xas
      obtain ⟨fYv, fG9, eSu⟩ := Kd.at_int HR1.out kV dK0 dK1
      cases fG9
      replace dK0 := eq_true dK0
      replace dK1 := eq_true dK1
      go_wp2
      repeat (go_quiet (fail); try go_wp2)
      go_ret
      exact ⟨by first | rfl | (simp; done) | (simp [*]; done), by repeat (first | exact Drawn0.refl _ | apply Drawn0.step)⟩
    rw [if_pos c8] at H
    have bTn : ((rd l0 kV) == (rd l1 kV)) = true := beq_iff_eq.mpr c8
    have cWk : ((rd l0 kV) != (rd l1 kV)) = false := bne_eq_false_iff_eq.mpr c8
    clear c8
    have H' := aZ H
    clear H
    have dKy : 0 ≤ (kV : Int) := of_decide_eq_true xas
    have dKz : kV < (l0.length : Int) := of_decide_eq_true xas
    obtain ⟨fYu, fG8, eSt⟩ := Kd.at_int HR0.out kV dKy dKz
    cases fG8
    replace dKy := eq_true dKy
    replace dKz := eq_true dKz
    have dK0 : 0 ≤ (kV : Int) := of_decide_eq_true xas
    have dK1 : kV < (l1.length : Int) := of_decide_eq_true xas
    obtain ⟨fYv, fG9, eSu⟩ := Kd.at_int HR1.out kV dK0 dK1
    cases fG9
    replace dK0 := eq_true dK0
    replace dK1 := eq_true dK1
    go_wp2
    repeat (go_quiet (fail); try go_wp2)
    go_roundg k1
    case measure => have := yS.out; omega
    case rel => exact ⟨(wrap64 (kV + 1)), xrs, H', ⟨by have := yS.out; omega⟩, by repeat (first | exact Drawn0.refl _ | apply Drawn0.step)⟩
def bytes_Equal.f (l0 : List Int) (l1 : List Int) : Option (Bool) := some ((strOfNums l0).toList == (strOfNums l1).toList)
set_option maxHeartbeats 8000000 in
set_option maxRecDepth 100000 in
theorem bytes_Equal.calls (A0 : Option Addr) (c0 : Nat) (l0 : List Int) (A1 : Option Addr) (c1 : Nat) (l1 : List Int) (r : Bool) (w : World) (hr0 : Kd.C (Kd.int .u8) w A0 l0.length l0) (hc0 : l0.length ≤ c0) (hr1 : Kd.C (Kd.int .u8) w A1 l1.length l1) (hc1 : l1.length ≤ c1) (h : bytes_Equal.f l0 l1 = some r) :
    Calls Try.prog 60 #[.slice A0 l0.length c0, .slice A1 l1.length c1] w fun e w' => e = .returned (.bool r) ∧ Drawn0 w w' := by
  have HR0 := aZ hr0
  have HC0 := aZ hc0
  clear hr0 hc0
  have HR1 := aZ hr1
  have HC1 := aZ hc1
  clear hr1 hc1
  have H : (some ((strOfNums l0).toList == (strOfNums l1).toList)) = some r := h
  clear h
  obtain rfl := Option.some.inj H
  have iHs := Kd.C_string (P := Try.prog) (A := A0) (c := c0) Try.underlying26 Try.underlying5 Try.underlying9 HR0.out
  have iHt := Kd.C_string (P := Try.prog) (A := A1) (c := c1) Try.underlying26 Try.underlying5 Try.underlying9 HR1.out
  go_enter Try.func60, Try.ntmps60
  go_wp2
  go_ret
  exact ⟨by first | rfl | (simp; done) | (simp [*]; done), by repeat (first | exact Drawn0.refl _ | apply Drawn0.step)⟩
def objects_Same.f (k : Nat) (dP : Int) (dA : List Int) (dZ : List Int) (dH : Int) (bX : List Int) (cO : List Int) : Option (Bool) := if dP = dH then ((slices_Equal_int_int.f k dA bX).bind fun dY7 => (if dY7 = true then ((bytes_Equal.f dZ cO).bind fun cRs => (some cRs)) else (some false))) else (some false)
theorem objects_Same.mono : ∀ a0 a1 a2 a3 a4 a5 k, LeO (objects_Same.f k a0 a1 a2 a3 a4 a5) (objects_Same.f (k + 1) a0 a1 a2 a3 a4 a5) := by
  intro a0 a1 a2 a3 a4 a5 k
  unfold objects_Same.f
  repeat' first | (with_reducible first | exact slices_Equal_int_int.mono _ _ _ | exact LeO.refl _ | exact LeO.none _ | refine LeO.ite ?_ ?_ | refine LeO.bind ?_ (fun _ => ?_)) | exact slices_Equal_int_int.mono _ _ _ | exact LeO.none _ | refine LeO.ite ?_ ?_ | refine LeO.bind ?_ (fun _ => ?_)
set_option maxHeartbeats 8000000 in
set_option maxRecDepth 100000 in
theorem objects_Same.calls (k : Nat) (dP : Int) (nK : Option Addr) (mY : Nat) (dA : List Int) (mE : Option Addr) (mF : Nat) (dZ : List Int) (dH : Int) (kW : Option Addr) (kX : Nat) (bX : List Int) (kR : Option Addr) (kS : Nat) (cO : List Int) (r : Bool) (w : World) (aFz : Kd.C (Kd.int .i64) w nK dA.length dA) (aFy : dA.length ≤ mY) (aD6 : Kd.C (Kd.int .u8) w mE dZ.length dZ) (aD5 : dZ.length ≤ mF) (aNp : Kd.C (Kd.int .i64) w kW bX.length bX) (aNq : bX.length ≤ kX) (aNr : Kd.C (Kd.int .u8) w kR cO.length cO) (aNs : cO.length ≤ kS) (h : objects_Same.f k dP dA dZ dH bX cO = some r) :
  Calls Try.prog 49 #[.agg #[.int .i64 dP, .slice nK dA.length mY, .slice mE dZ.length mF], .agg #[.int .i64 dH, .slice kW bX.length kX, .slice kR cO.length kS]] w fun e w' => e = .returned (.bool r) ∧ Below w.heap.size w w' := by
  have aQf := Try.underlying44
  have aCl := aZ aFz
  have aIz := aZ aFy
  clear aFz aFy
  have aF0 := aZ aD6
  have aNm := aZ aD5
  clear aD6 aD5
  have aDm := aZ aNp
  have aD8 := aZ aNq
  clear aNp aNq
  have aD9 := aZ aNr
  have aF2 := aZ aNs
  clear aNr aNs
  have HB := aZ (Below.refl w.heap.size w)
  have H : (if dP = dH then ((slices_Equal_int_int.f k dA bX).bind fun dY7 => (if dY7 = true then ((bytes_Equal.f dZ cO).bind fun cRs => (some cRs)) else (some false))) else (some false)) = some r := h
  clear h
  by_cases c3 : dP = dH
  rotate_left
  · rw [if_neg c3] at H
    have aNk : (dP == dH) = false := beq_eq_false_iff_ne.mpr c3
    have bNc : (dP != dH) = true := bne_iff_ne.mpr c3
    obtain rfl := Option.some.inj H
    go_enter Try.func49, Try.ntmps49
    go_wp2_with (first | ((with_reducible refine gate_dst (N := 2) rfl ?_); refine box_event ?hg (N := 2) ?hd (cs := #[.int .i64 dP, .slice nK dA.length mY, .slice mE dZ.length mF]) (t := 44) ?hr ?_; (case hd => rfl); (case hg => rfl); (case hr => first | (go_simp; done) | (go_simp; rfl)); intro bNd hg w17 hbox hb; have aBb := aZ (hbox); have fA4 := xgh hg HB; have dSg := xgh hg HB; replace HB := xhl HB hb; clear hb hbox hg) | ((with_reducible refine gate_dst (N := 3) rfl ?_); refine box_event ?hg (N := 3) ?hd (cs := #[.int .i64 dH, .slice kW bX.length kX, .slice kR cO.length kS]) (t := 44) ?hr ?_; (case hd => rfl); (case hg => rfl); (case hr => first | (go_simp; done) | (go_simp; rfl)); intro bNe hg w18 hbox hb; have aOn := aZ (hbox); have fA5 := xgh hg HB; have dSh := xgh hg HB; replace HB := xhl HB hb; have bEt := xnl hg aBb; have bEu := xng hg aBb; replace aBb := xbb aBb hb; clear hb hbox hg; have bMh := bEt.out; have bMi := bEu.out; have aJw : w18.cell? ⟨bNd, 0, none⟩ = some (.int .i64 dP) := (blk_cell aBb.out 0).trans rfl; have aW4 : w18.cell? ⟨bNd, 1, none⟩ = some (.slice nK dA.length mY) := (blk_cell aBb.out 1).trans rfl; have cJw : w18.cell? ⟨bNd, 2, none⟩ = some (.slice mE dZ.length mF) := (blk_cell aBb.out 2).trans rfl; have aJx := blk_frozen aBb.out 0; have aW5 := blk_frozen aBb.out 1; have cJx := blk_frozen aBb.out 2; have bPb : w18.cell? ⟨bNe, 0, none⟩ = some (.int .i64 dH) := (blk_cell aOn.out 0).trans rfl; have cJq : w18.cell? ⟨bNe, 1, none⟩ = some (.slice kW bX.length kX) := (blk_cell aOn.out 1).trans rfl; have eSp : w18.cell? ⟨bNe, 2, none⟩ = some (.slice kR cO.length kS) := (blk_cell aOn.out 2).trans rfl; have bPc := blk_frozen aOn.out 0; have cJr := blk_frozen aOn.out 1; have eSq := blk_frozen aOn.out 2))
    go_ret
    exact ⟨xre, xq HB⟩

  rw [if_pos c3] at H
  have aNk : (dP == dH) = true := beq_iff_eq.mpr c3
  have bNc : (dP != dH) = false := bne_eq_false_iff_eq.mpr c3
  clear c3
  replace H := Option.bind_eq_some_iff.mp H
  obtain ⟨dY7, A40, H⟩ := H
  replace H : (if dY7 = true then ((bytes_Equal.f dZ cO).bind fun cRs => (some cRs)) else (some false)) = some r := H
  have A4 := aZ A40
  clear A40
  by_cases c5 : dY7 = true
  rotate_left
  · replace c5 := Bool.eq_false_iff.mpr c5
    subst c5
    have H1 : (some false) = some r := by rw [if_neg (show ¬ (false = true) by decide)] at H; exact H
    clear H
    have H := H1
    clear H1
    obtain rfl := Option.some.inj H
    go_enter Try.func49, Try.ntmps49
    go_wp2_with (first | ((with_reducible refine gate_dst (N := 2) rfl ?_); refine box_event ?hg (N := 2) ?hd (cs := #[.int .i64 dP, .slice nK dA.length mY, .slice mE dZ.length mF]) (t := 44) ?hr ?_; (case hd => rfl); (case hg => rfl); (case hr => first | (go_simp; done) | (go_simp; rfl)); intro bNd hg w12 hbox hb; have aBb := aZ (hbox); have fA4 := xgh hg HB; have dSg := xgh hg HB; replace HB := xhl HB hb; clear hb hbox hg) | ((with_reducible refine gate_dst (N := 3) rfl ?_); refine box_event ?hg (N := 3) ?hd (cs := #[.int .i64 dH, .slice kW bX.length kX, .slice kR cO.length kS]) (t := 44) ?hr ?_; (case hd => rfl); (case hg => rfl); (case hr => first | (go_simp; done) | (go_simp; rfl)); intro bNe hg w13 hbox hb; have aOn := aZ (hbox); have fA5 := xgh hg HB; have dSh := xgh hg HB; replace HB := xhl HB hb; have bEt := xnl hg aBb; have bEu := xng hg aBb; replace aBb := xbb aBb hb; clear hb hbox hg; have cSb := bEt.out; have cSc := bEu.out; have bO9 : w13.cell? ⟨bNd, 0, none⟩ = some (.int .i64 dP) := (blk_cell aBb.out 0).trans rfl; have cJm : w13.cell? ⟨bNd, 1, none⟩ = some (.slice nK dA.length mY) := (blk_cell aBb.out 1).trans rfl; have eSr : w13.cell? ⟨bNd, 2, none⟩ = some (.slice mE dZ.length mF) := (blk_cell aBb.out 2).trans rfl; have bPa := blk_frozen aBb.out 0; have cJn := blk_frozen aBb.out 1; have eSs := blk_frozen aBb.out 2; have aQj : w13.cell? ⟨bNe, 0, none⟩ = some (.int .i64 dH) := (blk_cell aOn.out 0).trans rfl; have bIp : w13.cell? ⟨bNe, 1, none⟩ = some (.slice kW bX.length kX) := (blk_cell aOn.out 1).trans rfl; have cJo : w13.cell? ⟨bNe, 2, none⟩ = some (.slice kR cO.length kS) := (blk_cell aOn.out 2).trans rfl; have aQk := blk_frozen aOn.out 0; have bIq := blk_frozen aOn.out 1; have cJp := blk_frozen aOn.out 2) | (go_at_call 59; (with_reducible refine (slices_Equal_int_int.calls k _ _ dA _ _ bX false _ ?side1 ?side2 ?side3 ?side4 A4.out).mono ?_); (case side1 => exact xcb aCl HB); (case side2 => exact aIz.out); (case side3 => exact xcb aDm HB); (case side4 => exact aD8.out); rintro e w' ⟨rfl, ⟨nd, rfl⟩⟩))
    go_ret
    exact ⟨xre, xq HB⟩
  subst c5
  have H1 : ((bytes_Equal.f dZ cO).bind fun cRs => (some cRs)) = some r := by rw [if_pos rfl] at H; exact H
  clear H
  have H := H1
  clear H1
  replace H := Option.bind_eq_some_iff.mp H
  obtain ⟨cRs, A60, H⟩ := H
  replace H : (some cRs) = some r := H
  have A6 := aZ A60
  clear A60
  obtain rfl := Option.some.inj H
  go_enter Try.func49, Try.ntmps49
  go_wp2_with (first | ((with_reducible refine gate_dst (N := 2) rfl ?_); refine box_event ?hg (N := 2) ?hd (cs := #[.int .i64 dP, .slice nK dA.length mY, .slice mE dZ.length mF]) (t := 44) ?hr ?_; (case hd => rfl); (case hg => rfl); (case hr => first | (go_simp; done) | (go_simp; rfl)); intro bNd hg w7 hbox hb; have aBb := aZ (hbox); have fA4 := xgh hg HB; have dSg := xgh hg HB; replace HB := xhl HB hb; clear hb hbox hg) | ((with_reducible refine gate_dst (N := 3) rfl ?_); refine box_event ?hg (N := 3) ?hd (cs := #[.int .i64 dH, .slice kW bX.length kX, .slice kR cO.length kS]) (t := 44) ?hr ?_; (case hd => rfl); (case hg => rfl); (case hr => first | (go_simp; done) | (go_simp; rfl)); intro bNe hg w8 hbox hb; have aOn := aZ (hbox); have fA5 := xgh hg HB; have dSh := xgh hg HB; replace HB := xhl HB hb; have bEt := xnl hg aBb; have bEu := xng hg aBb; replace aBb := xbb aBb hb; clear hb hbox hg; have dJq := bEt.out; have dJr := bEu.out; have aA3 : w8.cell? ⟨bNd, 0, none⟩ = some (.int .i64 dP) := (blk_cell aBb.out 0).trans rfl; have bIv : w8.cell? ⟨bNd, 1, none⟩ = some (.slice nK dA.length mY) := (blk_cell aBb.out 1).trans rfl; have bPl : w8.cell? ⟨bNd, 2, none⟩ = some (.slice mE dZ.length mF) := (blk_cell aBb.out 2).trans rfl; have aA4 := blk_frozen aBb.out 0; have bIw := blk_frozen aBb.out 1; have bPm := blk_frozen aBb.out 2; have bO7 : w8.cell? ⟨bNe, 0, none⟩ = some (.int .i64 dH) := (blk_cell aOn.out 0).trans rfl; have dO6 : w8.cell? ⟨bNe, 1, none⟩ = some (.slice kW bX.length kX) := (blk_cell aOn.out 1).trans rfl; have ePu : w8.cell? ⟨bNe, 2, none⟩ = some (.slice kR cO.length kS) := (blk_cell aOn.out 2).trans rfl; have bO8 := blk_frozen aOn.out 0; have dO7 := blk_frozen aOn.out 1; have ePv := blk_frozen aOn.out 2) | (go_at_call 59; (with_reducible refine (slices_Equal_int_int.calls k _ _ dA _ _ bX true _ ?side1 ?side2 ?side3 ?side4 A4.out).mono ?_); (case side1 => exact xcb aCl HB); (case side2 => exact aIz.out); (case side3 => exact xcb aDm HB); (case side4 => exact aD8.out); rintro e w' ⟨rfl, ⟨nd, rfl⟩⟩) | (go_at_call 60; (with_reducible refine (bytes_Equal.calls _ _ dZ _ _ cO cRs _ ?side1 ?side2 ?side3 ?side4 A6.out).mono ?_); (case side1 => repeat (first | exact (Kd.C_below aF0.out (by repeat (first | (with_reducible first | exact HB.out | apply lA | apply lN | apply lD | refine lS ?_ dSg.out | refine lS ?_ dSh.out) | exact HB.out))) | (with_reducible refine Kd.C_alloc ?_ _) | (with_reducible refine Kd.C_drewN ?_ _) | (with_reducible refine Kd.C_drew ?_))); (case side2 => exact aNm.out); (case side3 => repeat (first | exact (Kd.C_below aD9.out (by repeat (first | (with_reducible first | exact HB.out | apply lA | apply lN | apply lD | refine lS ?_ dSg.out | refine lS ?_ dSh.out) | exact HB.out))) | (with_reducible refine Kd.C_alloc ?_ _) | (with_reducible refine Kd.C_drewN ?_ _) | (with_reducible refine Kd.C_drew ?_))); (case side4 => exact aF2.out); rintro e w' ⟨rfl, ⟨nd, rfl⟩⟩))
  go_ret
  exact ⟨xre, xq HB⟩
section
open Go.Lib Go.Proofs
theorem ins_copy {P : Program} (w : World) (dT sT ty elem : TypeId) (b o dLen dCap : Nat) (a : Addr) (sLen sCap k : Nat) (cs : List Value)
    (hu : P.underlying dT = some (.slice elem)) (hs : (P.info? elem).map (·.size) = some 4) (hk : k = Nat.min sLen dLen) (hn : cs.length = k * 4)
    (hsrc : ∀ j v, cs[j]? = some v → w.cell? (a.add j) = some v) (hc : ∀ j, j < cs.length → (w.cell? ⟨b, o + j, none⟩).isSome = true) (hf : ∀ j, j < cs.length → w.frozen? ⟨b, o + j, none⟩ = false) (h1 : ∀ v ∈ cs, v.oneCell' = true) :
    (Builtin.copy_ #[dT, sT] ty #[.slice (some ⟨b, o, none⟩) dLen dCap, .slice (some a) sLen sCap]).run P w = .ok (goInt k) (w.setCells b o cs) := by
  have hl := run_loadCells_list (P := P) w a cs hsrc
  have hst := run_storeCells_cells (P := P) b o cs 0 w (by simpa using hc) (by simpa using hf) h1
  cases hq : P.info? elem with
  | none => simp [hq] at hs
  | some i =>
    have hi : i.size = 4 := by simpa [hq] using hs
    rw [hn] at hl
    simp [Builtin.copy_, run_underlying hu, Builtin.lenOf, Builtin.firstCells, sizeOf, typeInfo, hq, hi, ← hk, hl, hst]
set_option maxHeartbeats 4000000 in
set_option maxRecDepth 100000 in
/-- There is room, i < len(s): in place. -/
theorem ins_shift (b off n c i vb voff m vc : Nat) (cs vs : List Value) (w : World) (hi : i < n) (hm : 0 < m) (hroom : n + m ≤ c) (iHu : c ≤ 9223372036854775807) (hvb : vb ≠ b)
    (hcl : cs.length = n * 4) (hvl : vs.length = m * 4)
    (hcs : ∀ j v, cs[j]? = some v → w.cell? ⟨b, off + j, none⟩ = some v) (hsp : ∀ j, j < (n + m) * 4 → (w.cell? ⟨b, off + j, none⟩).isSome = true) (hfz : ∀ j, j < (n + m) * 4 → w.frozen? ⟨b, off + j, none⟩ = false)
    (hvs : ∀ j v, vs[j]? = some v → w.cell? ⟨vb, voff + j, none⟩ = some v) (h1c : ∀ v ∈ cs, v.oneCell' = true) (h1v : ∀ v ∈ vs, v.oneCell' = true)
    (tA tB : TypeId) (kA kB : Nat) (hsa : w.shape? vb = some (tA, kA)) (hsb : w.shape? b = some (tB, kB)) (hkB : kB ≠ 0) (hfa : w.frozen? ⟨vb, voff, none⟩ = false) (hfe : w.frozen? ⟨vb, kA, none⟩ = false) :
    Calls Try.prog 50 #[.slice (some ⟨b, off, none⟩) n c, .int .i64 i, .slice (some ⟨vb, voff, none⟩) m vc] w fun e w' =>
      e = .returned (.slice (some ⟨b, off, none⟩) (n + m) c) ∧ w' = (w.drew.setCells b (off + (i + m) * 4) (cs.drop (i * 4))).setCells b (off + i * 4) vs := by
  have hz1 : ¬ ((m : Int) = 0) := by omega
  have mixed : Try.prog.follows Departure.mixedOrders = true := by kernel_rfl
  have hz2 : ¬ ((i : Int) = (n : Int)) := by omega
  have hsz : (Try.prog.info? 46).map (·.size) = some 4 := by
    obtain ⟨i0, hi0, h0, h1, h2⟩ := info_parts aNg
    rw [hi0]; simp [h1]
  have hov : ∀ lb cb, (callFunc 61 #[.slice (some ⟨vb, voff, none⟩) m vc, .slice (some ⟨b, off + (i + m) * 4, none⟩) lb cb]).run Try.prog w = .ok (.value (.bool false)) w := fun lb cb => by
    rw [run_callFunc_extern Try.func61 (by kernel_rfl) (by kernel_rfl) (by kernel_rfl) (e := Extern.SlicesOverlaps.overlaps #[22, 22] #[4]) (by kernel_rfl),
      Lib.run_overlaps_apart w 22 4 46 Try.underlying22 4 Try.sizeOf46 ⟨vb, voff, none⟩ ⟨b, off + (i + m) * 4, none⟩ m vc lb cb hvb tA tB kA kB hsa hsb hkB hfa hfe]
    rfl
  have hdl : (cs.drop (i * 4)).length = (n - i) * 4 := by rw [List.length_drop, hcl, Nat.sub_mul]
  have hw1 : IntKind.i64.wrap ((i : Int) + (m : Int)) = (i : Int) + (m : Int) := by rw [IntKind.wrap_i64]; omega
  have hb1 : (0 : Int) ≤ (i : Int) + (m : Int) := by omega
  have hin : i ≤ n := by omega
  have htn : ((i : Int) + (m : Int)).toNat = i + m := by omega
  have iV : ¬ (c = i + m) := by omega
  have hb3 : (i : Int) ≤ (n : Int) + (m : Int) := by omega
  have hb4 : ¬ (c = i) := by omega
  have fYw : ∀ ty dc sc, (Builtin.copy_ #[22, 22] ty #[.slice (some ⟨b, off + (i + m) * 4, none⟩) (n + m - (i + m)) dc, .slice (some ⟨b, off + i * 4, none⟩) (n + m - i) sc]).run Try.prog w.drew = .ok (goInt (n - i : Nat)) (w.drew.setCells b (off + (i + m) * 4) (cs.drop (i * 4))) := fun ty dc sc =>
    ins_copy w.drew _ _ ty 46 b (off + (i + m) * 4) (n + m - (i + m)) dc ⟨b, off + i * 4, none⟩ (n + m - i) sc (n - i) (cs.drop (i * 4)) Try.underlying22 hsz (by simp only [Nat.min_def]; split <;> omega) hdl
      (fun j v hj => by rw [Addr.add_lit, Nat.add_assoc]; exact hcs (i * 4 + j) v (by rwa [List.getElem?_drop] at hj))
      (fun j hj => by rw [Nat.add_assoc]; exact hsp _ (by omega)) (fun j hj => by rw [Nat.add_assoc]; exact hfz _ (by omega)) (fun v hv => h1c v (List.mem_of_mem_drop hv))
  obtain ⟨W1, hW1⟩ : ∃ W1, W1 = w.drew.setCells b (off + (i + m) * 4) (cs.drop (i * 4)) := ⟨_, rfl⟩
  have hJy : ∀ k, k < (n + m) * 4 → (W1.cell? ⟨b, off + k, none⟩).isSome = true := fun k hk => by
    rw [hW1]
    exact isSome_setCells b _ _ _ (fun j hj => by rw [Nat.add_assoc]; exact hsp _ (by omega)) _ (hsp k hk)
  have hJz : ∀ (W : World), (∀ x, W.cell? x = W1.cell? x) → (∀ x, W.frozen? x = W1.frozen? x) → ∀ ty dc, (Builtin.copy_ #[22, 22] ty #[.slice (some ⟨b, off + i * 4, none⟩) (n + m - i) dc, .slice (some ⟨vb, voff, none⟩) m vc]).run Try.prog W = .ok (goInt m) (W.setCells b (off + i * 4) vs) := fun W hWc hWf ty dc =>
    ins_copy W _ _ ty 46 b (off + i * 4) (n + m - i) dc ⟨vb, voff, none⟩ m vc m vs Try.underlying22 hsz (by simp only [Nat.min_def]; split <;> omega) hvl
      (fun j v hj => by
        rw [Addr.add_lit, hWc, hW1, World.cell?_setCells_out b _ _ _ _ (fun h _ => absurd h hvb)]
        exact hvs j v hj)
      (fun j hj => by rw [hWc, Nat.add_assoc]; exact hJy _ (by omega)) (fun j hj => by rw [hWf, hW1, World.frozen?_setCells, Nat.add_assoc]; exact hfz _ (by omega)) h1v
  rw [← hW1] at fYw
  go_enter Try.func50, Try.ntmps50
  go_wp2_with (simp only [hov])
  go_region_law_o (refine step_copy_runI rfl _ _ 22 22 rfl _ _ (by simp [Act.eval, Act.put]) (by simp [Act.eval, Act.put]) (fYw _ _ _) ?_)
  go_wp2_with (at_builtin; refine wpList_copy_runI _ rfl _ _ 22 22 rfl _ _ rfl rfl (hJz _ (fun _ => rfl) (fun _ => rfl) _ _) ?_)
  go_ret
  first | exact ⟨rfl, rfl⟩ | exact ⟨rfl, by rw [hW1]⟩
set_option maxHeartbeats 4000000 in
set_option maxRecDepth 100000 in
/-- At the end (i = len(s)): an append. -/
theorem ins_end (b : Nat) (base : Nat) (v : Value) (n voff m vc : Nat) (cs vs : List Value) (w : World) (hm : 0 < m) (hown : w.ownsRow base 46 4 v n cs)
    (hvl : vs.length = m * 4) (hvs : ∀ j v, vs[j]? = some v → w.cell? ⟨b, voff + j, none⟩ = some v) (h1v : ∀ v ∈ vs, v.oneCell' = true) (hbig : (n + m) * 64 ≤ 140737488355328) (hbase : base ≤ w.heap.size) :
    Calls Try.prog 50 #[v, .int .i64 n, .slice (some ⟨b, voff, none⟩) m vc] w fun e w' =>
      ∃ v1, e = .returned v1 ∧ w'.ownsRow base 46 4 v1 (n + m) (cs ++ vs) ∧ w.grownBy w' v.ownBlock ∧ (v1.ownBlock = v.ownBlock ∨ v1.ownBlock = some w.heap.size) := by
  obtain ⟨i0, hi0, hz0, hzs, hzb⟩ := info_parts aNg
  have hz1 : ¬ ((m : Int) = 0) := by omega
  have mixed : Try.prog.follows Departure.mixedOrders = true := by kernel_rfl
  rcases hown.2 with ⟨hv, h0⟩ | ⟨g, cap, cur, hv, _⟩
  · subst hv; subst h0
    go_enter Try.func50, Try.ntmps50
    go_wp2_with (at_builtin; refine wpList_append_own_at w rfl _ _ 22 rfl base 46 i0 _ 4 64 Try.underlying22 hi0 hz0 hzs hzb (by decide) (by decide) _ 0 cs rfl hown ⟨b, voff, none⟩ m vc vs rfl hvl (fun j u hj => by rw [Addr.add_lit]; exact hvs j u hj) h1v (by simp only [maxLen]; omega) hbig hbase ?_; intro v1 w1 ho hg _ hat)
    go_ret
    exact ⟨_, rfl, ho, hg, hat⟩
  · subst hv
    go_enter Try.func50, Try.ntmps50
    go_wp2_with (at_builtin; refine wpList_append_own_at w rfl _ _ 22 rfl base 46 i0 _ 4 64 Try.underlying22 hi0 hz0 hzs hzb (by decide) (by decide) _ n cs rfl hown ⟨b, voff, none⟩ m vc vs rfl hvl (fun j u hj => by rw [Addr.add_lit]; exact hvs j u hj) h1v (by simp only [maxLen]; omega) hbig hbase ?_; intro v1 w1 ho hg _ hat)
    all_goals (go_ret; exact ⟨_, rfl, ho, hg, hat⟩)
set_option maxHeartbeats 4000000 in
set_option maxRecDepth 100000 in
/-- i < len(s), no room: a new row. -/
theorem ins_grow (b off n c i vb voff m vc : Nat) (cs vs : List Value) (w : World) (hi : i < n) (hm : 0 < m) (hnc : n ≤ c) (hroom : c < n + m) (hbig : (n + m) * 64 ≤ 140737488355328)
    (hcl : cs.length = n * 4) (hvl : vs.length = m * 4)
    (hcs : ∀ j v, cs[j]? = some v → w.cell? ⟨b, off + j, none⟩ = some v)
    (hvs : ∀ j v, vs[j]? = some v → w.cell? ⟨vb, voff + j, none⟩ = some v) (h1c : ∀ v ∈ cs, v.oneCell' = true) (h1v : ∀ v ∈ vs, v.oneCell' = true) :
    Calls Try.prog 50 #[.slice (some ⟨b, off, none⟩) n c, .int .i64 i, .slice (some ⟨vb, voff, none⟩) m vc] w fun e w' =>
      e = .returned (.slice (some ⟨w.heap.size, 0, none⟩) (n + m) (grownCap w (n + m) c 46)) ∧
      w' = (((w.alloc (.cells ((cs.take (i * 4)).toArray ++ Builtin.zeroCells ((.agg #[(.int .i64 0), (.int .i64 0), (.slice none 0 0), (.slice none 0 0)]) : Value).cells (n + m - i) ++ Builtin.zeroCells ((.agg #[(.int .i64 0), (.int .i64 0), (.slice none 0 0), (.slice none 0 0)]) : Value).cells (grownCap w (n + m) c 46 - (n + m))) 46)).drew.setCells w.heap.size (i * 4) vs).drew).setCells w.heap.size ((i + m) * 4) (cs.drop (i * 4)) := by
  obtain ⟨i0, hi0, hz0, hzs, hzb⟩ := info_parts aNg
  have hz1 : ¬ ((m : Int) = 0) := by omega
  have mixed : Try.prog.follows Departure.mixedOrders = true := by kernel_rfl
  have hz2 : ¬ ((i : Int) = (n : Int)) := by omega
  have hz3 : (c : Int) < (n : Int) + (m : Int) := by omega
  have hsz : (Try.prog.info? 46).map (·.size) = some 4 := by rw [hi0]; simp [hzs]
  have hbw : b < w.heap.size := block_lt_of_cell (hcs 0 _ (List.getElem?_eq_getElem (by omega)))
  have hvw : vb < w.heap.size := block_lt_of_cell (hvs 0 _ (List.getElem?_eq_getElem (by omega)))
  have hkk : (n : Int) + (m : Int) - (i : Int) = ((n + m - i : Nat) : Int) := by omega
  have hik : i + (n + m - i) = n + m := by omega
  have hzz : ((.agg #[(.int .i64 0), (.int .i64 0), (.slice none 0 0), (.slice none 0 0)]) : Value).cells.size = 4 := by rfl
  have hold : (Builtin.firstCells i0.size i (.slice (some ⟨b, off, none⟩) i c)).run Try.prog w.drew = .ok (cs.take (i * 4)).toArray w.drew := by
    rw [hzs]
    exact run_firstCells_some w.drew 4 i ⟨b, off, none⟩ i c (cs.take (i * 4)) (by rw [List.length_take]; omega) (fun j v hj => by
      rw [Addr.add_lit]
      rw [List.getElem?_take] at hj
      split at hj
      · exact hcs j v hj
      · cases hj)
  have hrz : ∀ ty, (Builtin.append_ #[22, 3] ty #[.slice (some ⟨b, off, none⟩) i c, .int .i64 ((n : Int) + (m : Int) - (i : Int))]).run Try.prog w =
      .ok (.slice (some ⟨w.heap.size, 0, none⟩) (n + m) (grownCap w (n + m) c 46)) (w.drew.alloc (.cells ((cs.take (i * 4)).toArray ++ Builtin.zeroCells ((.agg #[(.int .i64 0), (.int .i64 0), (.slice none 0 0), (.slice none 0 0)]) : Value).cells (n + m - i) ++ Builtin.zeroCells ((.agg #[(.int .i64 0), (.int .i64 0), (.slice none 0 0), (.slice none 0 0)]) : Value).cells (grownCap w (n + m) c 46 - (n + m))) 46)) := fun ty => by
    have h := Lib.run_append_grow_zeros w 22 3 ty 46 i0 _ .i64 .i64 Try.underlying22 Try.underlying3 hi0 hz0 (some ⟨b, off, none⟩) i c (cs.take (i * 4)) hold (n + m - i) (by omega) (by omega) (by omega) (by omega) (by rw [hzb]; omega) (by rw [hzb, hik]; exact growslice_fits hroom hbig)
    rw [hik] at h
    rw [hkk]
    exact h
  obtain ⟨G, hG⟩ : ∃ G, G = grownCap w (n + m) c 46 := ⟨_, rfl⟩
  obtain ⟨ROW, hROW⟩ : ∃ ROW : Array Value, ROW = (cs.take (i * 4)).toArray ++ Builtin.zeroCells ((.agg #[(.int .i64 0), (.int .i64 0), (.slice none 0 0), (.slice none 0 0)]) : Value).cells (n + m - i) ++ Builtin.zeroCells ((.agg #[(.int .i64 0), (.int .i64 0), (.slice none 0 0), (.slice none 0 0)]) : Value).cells (G - (n + m)) := ⟨_, rfl⟩
  rw [← hG] at hrz ⊢
  rw [← hROW] at hrz ⊢
  have hRl : (n + m) * 4 ≤ ROW.size := by
    rw [hROW]
    simp only [Array.size_append, List.size_toArray, size_zeroCells, hzz, List.length_take, hcl]
    have h1 : Nat.min (i * 4) (n * 4) = i * 4 := Nat.min_eq_left (Nat.mul_le_mul_right _ (by omega))
    have h2 : (n + m - i) * 4 = (n + m) * 4 - i * 4 := Nat.sub_mul _ _ _
    omega
  obtain ⟨W1, hW1⟩ : ∃ W1, W1 = w.drew.alloc (.cells ROW 46) := ⟨_, rfl⟩
  rw [← hW1] at hrz
  have hN : ∀ j, j < (n + m) * 4 → (W1.cell? ⟨w.heap.size, j, none⟩).isSome = true := fun j hj => by
    rw [hW1, World.cell?_alloc_at (w := w.drew) ROW _ w.heap.size j rfl, Array.getElem?_eq_getElem (by omega)]; rfl
  have hNf : ∀ j, W1.frozen? ⟨w.heap.size, j, none⟩ = false := fun j => by rw [hW1]; exact World.frozen?_alloc_at (w := w.drew) ROW _ w.heap.size j rfl
  have hOb : ∀ j v, w.cell? ⟨b, j, none⟩ = some v → W1.cell? ⟨b, j, none⟩ = some v := fun j v h => by rw [hW1, World.cell?_alloc_past (w := w.drew) _ b j hbw]; exact h
  have hOv : ∀ j v, w.cell? ⟨vb, j, none⟩ = some v → W1.cell? ⟨vb, j, none⟩ = some v := fun j v h => by rw [hW1, World.cell?_alloc_past (w := w.drew) _ vb j hvw]; exact h
  have hcpA : ∀ (W : World), (∀ x, W.cell? x = W1.cell? x) → (∀ x, W.frozen? x = W1.frozen? x) → ∀ ty dc, (Builtin.copy_ #[22, 22] ty #[.slice (some ⟨w.heap.size, i * 4, none⟩) (n + m - i) dc, .slice (some ⟨vb, voff, none⟩) m vc]).run Try.prog W = .ok (goInt m) (W.setCells w.heap.size (i * 4) vs) := fun W hWc hWf ty dc =>
    ins_copy W _ _ ty 46 w.heap.size (i * 4) (n + m - i) dc ⟨vb, voff, none⟩ m vc m vs Try.underlying22 hsz (by simp only [Nat.min_def]; split <;> omega) hvl
      (fun j v hj => by rw [Addr.add_lit, hWc]; exact hOv _ v (hvs j v hj))
      (fun j hj => by rw [hWc]; exact hN _ (by omega)) (fun j hj => by rw [hWf]; exact hNf _) h1v
  have hGn : n + m ≤ G := by rw [hG]; exact grownCap_ge w _ _ _
  have iHx : G ≤ 9223372036854775807 := by
    have := grownCap_le_maxLen w (n + m) c 46 (by unfold maxLen; omega)
    rw [← hG] at this
    unfold maxLen at this
    omega
  have hGi : ¬ (G = i) := by omega
  have hGim : ¬ (G = i + m) := by omega
  have hci : ¬ (c = i) := by omega
  have hbN : b ≠ w.heap.size := by omega
  have hdl : (cs.drop (i * 4)).length = (n - i) * 4 := by rw [List.length_drop, hcl, Nat.sub_mul]
  have hcpB : ∀ (W : World), (∀ x, W.cell? x = (W1.setCells w.heap.size (i * 4) vs).cell? x) → (∀ x, W.frozen? x = (W1.setCells w.heap.size (i * 4) vs).frozen? x) → ∀ ty dc sc, (Builtin.copy_ #[22, 22] ty #[.slice (some ⟨w.heap.size, (i + m) * 4, none⟩) (n + m - (i + m)) dc, .slice (some ⟨b, off + i * 4, none⟩) (n - i) sc]).run Try.prog W = .ok (goInt (n - i : Nat)) (W.setCells w.heap.size ((i + m) * 4) (cs.drop (i * 4))) := fun W hWc hWf ty dc sc =>
    ins_copy W _ _ ty 46 w.heap.size ((i + m) * 4) (n + m - (i + m)) dc ⟨b, off + i * 4, none⟩ (n - i) sc (n - i) (cs.drop (i * 4)) Try.underlying22 hsz (by simp only [Nat.min_def]; split <;> omega) hdl
      (fun j v hj => by
        rw [Addr.add_lit, hWc, World.cell?_setCells_out _ _ _ _ _ (fun h _ => absurd h hbN), Nat.add_assoc]
        exact hOb _ v (hcs (i * 4 + j) v (by rwa [List.getElem?_drop] at hj)))
      (fun j hj => by rw [hWc]; exact isSome_setCells _ _ _ _ (fun t ht => hN _ (by omega)) _ (hN _ (by omega)))
      (fun j hj => by rw [hWf, World.frozen?_setCells]; exact hNf _) (fun v hv => h1c v (List.mem_of_mem_drop hv))
  subst hW1
  have hE1 : ∀ x, ((w.alloc (.cells ROW 46)).drew).cell? x = (w.drew.alloc (.cells ROW 46)).cell? x := fun x => rfl
  have hE2 : ∀ x, ((w.alloc (.cells ROW 46)).drew).frozen? x = (w.drew.alloc (.cells ROW 46)).frozen? x := fun x => rfl
  have hF1 : ∀ x, (((w.alloc (.cells ROW 46)).drew.setCells w.heap.size (i * 4) vs).drew).cell? x = ((w.drew.alloc (.cells ROW 46)).setCells w.heap.size (i * 4) vs).cell? x := fun x => rfl
  have hF2 : ∀ x, (((w.alloc (.cells ROW 46)).drew.setCells w.heap.size (i * 4) vs).drew).frozen? x = ((w.drew.alloc (.cells ROW 46)).setCells w.heap.size (i * 4) vs).frozen? x := fun x => rfl
  have hw1 : IntKind.i64.wrap ((i : Int) + (m : Int)) = (i : Int) + (m : Int) := by rw [IntKind.wrap_i64]; omega
  have hb1 : (0 : Int) ≤ (i : Int) + (m : Int) := by omega
  have hin : i ≤ n := by omega
  have htn : ((i : Int) + (m : Int)).toNat = i + m := by omega
  have hb3 : (i : Int) ≤ (n : Int) := by omega
  clear hkk hik hold hROW hG hRl
  go_enter Try.func50, Try.ntmps50
  go_wp2_with (first
    | (at_builtin; refine Lib.wpList_append_run _ rfl _ _ _ _ rfl _ _ rfl rfl _ _ (hrz _) ?_)
    | (at_builtin; refine wpList_copy_runI _ rfl _ _ 22 22 rfl _ _ rfl rfl (hcpA _ hE1 hE2 _ _) ?_)
    | (at_builtin; refine wpList_copy_runI _ rfl _ _ 22 22 rfl _ _ rfl rfl (hcpB _ (fun _ => rfl) (fun _ => rfl) _ _ _) ?_))
  go_region_law_o (refine step_copy_runI rfl _ _ 22 22 rfl (.slice (some ⟨w.heap.size, (i + m) * 4, none⟩) (n + m - (i + m)) (G - (i + m))) (.slice (some ⟨b, off + i * 4, none⟩) (n - i) (c - i)) (by simp [Act.eval, Act.put]) (by simp [Act.eval, Act.put]) (hcpB _ hF1 hF2 3 (G - (i + m)) (c - i)) ?_)
  go_wp2
  go_ret
  exact ⟨rfl, rfl⟩
theorem ins_blk {g : Nat} {t : TypeId} : ∀ (vs : List Value) (o : Nat) (w : World) (cur : Array Value), w.heap[g]? = some (.cells cur t (0, 0)) → ∃ cur' : Array Value, (w.setCells g o vs).heap[g]? = some (.cells cur' t (0, 0)) ∧ cur'.size = cur.size
  | [], _, w, cur, h => ⟨cur, h, rfl⟩
  | v :: r, o, w, cur, h => by
    obtain ⟨c, h1, h2⟩ := ins_blk r (o + 1) (w.setCell ⟨g, o, none⟩ v) _ (blk_set h o v)
    exact ⟨c, h1, by rw [h2]; simp⟩
theorem ins_other {g k : Nat} (hk : k ≠ g) : ∀ (vs : List Value) (o : Nat) (w : World), (w.setCells g o vs).heap[k]? = w.heap[k]?
  | [], _, _ => rfl
  | v :: r, o, w => by
    rw [World.setCells, ins_other hk r]
    exact Below.heap_setCell w ⟨g, o, none⟩ v k hk
theorem ins_below (g : Nat) : ∀ (vs : List Value) (o : Nat) (w : World), Below 0 w (w.setCells g o vs)
  | [], _, w => Below.refl 0 w
  | v :: r, o, w => ((Below.refl 0 w).setCell (p := ⟨g, o, none⟩) (Nat.zero_le _) v).trans (ins_below g r (o + 1) _)
theorem ins_owns {w : World} {base g n cap : Nat} {cur : Array Value} {L : List Value} (hb : w.heap[g]? = some (.cells cur 46 (0, 0))) (hbg : base ≤ g) (hn : n ≤ cap) (hm : cap ≤ maxLen) (hs : cur.size = cap * 4) (hL : L.length = n * 4)
    (h : ∀ j, j < n * 4 → w.cell? ⟨g, j, none⟩ = L[j]?) : w.ownsRow base 46 4 (.slice (some ⟨g, 0, none⟩) n cap) n L := by
  refine ⟨hL, .inr ⟨g, cap, cur, rfl, hbg, hb, hn, hm, hs, ?_⟩⟩
  apply List.ext_getElem?
  intro j
  by_cases hj : j < n * 4
  · rw [List.getElem?_take_of_lt hj, ← h j hj]
    simp [World.cell?, hb]
  · rw [List.getElem?_take_eq_none (by omega), List.getElem?_eq_none (by omega)]
theorem ins_list {inner cs : List Value} {n i j : Nat} (hi : i ≤ n) (hl : inner.length = n * 4) (hc : cs.length = 4) :
    (inner.take (i * 4) ++ cs ++ inner.drop (i * 4))[j]? = if j < i * 4 then inner[j]? else if j < (i + 1) * 4 then cs[j - i * 4]? else inner[j - 4]? := by
  have hlt : (inner.take (i * 4)).length = i * 4 := by rw [List.length_take]; omega
  by_cases h1 : j < i * 4
  · rw [if_pos h1, List.append_assoc, List.getElem?_append_left (by omega), List.getElem?_take_of_lt h1]
  · rw [if_neg h1]
    by_cases h2 : j < (i + 1) * 4
    · rw [if_pos h2, List.getElem?_append_left (by rw [List.length_append]; omega), List.getElem?_append_right (by omega), hlt]
    · rw [if_neg h2, List.getElem?_append_right (by rw [List.length_append]; omega), List.getElem?_drop, List.length_append, hlt, hc]
      congr 1
      omega
/-- Insert at a row of the call's own: what it comes to, whatever the road. -/
theorem ins_row {base : Nat} {W : World} {v : Value} {n i : Nat} {inner cs : List Value} (hown : W.ownsRow base 46 4 v n inner) (hi : i ≤ n) (hcs : cs.length = 4) (h1 : ∀ u ∈ cs, u.oneCell' = true) (h1i : ∀ u ∈ inner, u.oneCell' = true) (hbase : base ≤ W.heap.size) (hl : (n + 1) * 64 ≤ 140737488355328) :
    Calls Try.prog 50 #[v, .int .i64 i, .slice (some ⟨W.heap.size, 0, none⟩) 1 1] (W.alloc (.cells cs.toArray 46)) fun e w' => ∃ v1, e = .returned v1 ∧ w'.ownsRow base 46 4 v1 (n + 1) (inner.take (i * 4) ++ cs ++ inner.drop (i * 4)) ∧ W.grownBy w' v.ownBlock ∧ (v1.ownBlock = v.ownBlock ∨ ∃ b, v1.ownBlock = some b ∧ W.heap.size ≤ b) := by
  have hlen := hown.1
  have hbox : (W.alloc (.cells cs.toArray 46)).heap[W.heap.size]? = some (.cells cs.toArray 46 (0, 0)) := heap_alloc_new W (.cells cs.toArray 46)
  have hnews : ∀ j u, cs[j]? = some u → (W.alloc (.cells cs.toArray 46)).cell? ⟨W.heap.size, 0 + j, none⟩ = some u := fun j u hj => by
    rw [Nat.zero_add]
    simp only [World.cell?, hbox]
    simpa using hj
  have hga : W.grownBy (W.alloc (.cells cs.toArray 46)) v.ownBlock := World.grownBy_alloc W _ _
  by_cases he : i = n
  · subst he
    refine (ins_end W.heap.size base v i 0 1 1 inner cs (W.alloc (.cells cs.toArray 46)) (by omega) (hown.alloc _) (by rw [hcs]) hnews h1 hl (by simp; omega)).mono ?_
    rintro e w' ⟨v1, rfl, ho, hg, hat⟩
    refine ⟨v1, rfl, ?_, World.grownBy.trans hga hg, ?_⟩
    · rw [List.take_of_length_le (by omega), List.drop_eq_nil_of_le (by omega), List.append_nil]; exact ho
    · rcases hat with hat | hat
      · exact .inl hat
      · exact .inr ⟨_, hat, by simp⟩
  · rcases hown.2 with ⟨_, h0⟩ | ⟨g, cap, cur, rfl, hbg, hg, hnc, hcm, hcur, htk⟩
    · omega
    have hgl : g < W.heap.size := blk_lt hg
    have hg2 : (W.alloc (.cells cs.toArray 46)).heap[g]? = some (.cells cur 46 (0, 0)) := (heap_alloc_old W _ hgl).trans hg
    have hcells : ∀ j v, inner[j]? = some v → (W.alloc (.cells cs.toArray 46)).cell? ⟨g, 0 + j, none⟩ = some v := fun j v hj => by
      have hjl := (List.getElem?_eq_some_iff.1 hj).1
      rw [← htk, List.getElem?_take_of_lt (by omega)] at hj
      rw [Nat.zero_add]
      simpa [World.cell?, hg2] using hj
    by_cases hroom : n + 1 ≤ cap
    · refine (ins_shift g 0 n cap i W.heap.size 0 1 1 inner cs (W.alloc (.cells cs.toArray 46)) (by omega) (by omega) hroom (by unfold maxLen at hcm; omega) (by omega) hlen (by rw [hcs]) hcells
        (fun j hj => by rw [Nat.zero_add]; simp [World.cell?, hg2]; omega) (fun j hj => blk_frozen hg2 _) hnews h1i h1 46 46 4 cur.size (by simp only [World.shape?, hbox]; simp [hcs]) (by simp only [World.shape?, hg2]) (by omega) (blk_frozen hbox _) (blk_frozen hbox _)).mono ?_
      rintro e w' ⟨rfl, rfl⟩
      obtain ⟨c1, hb1, hs1⟩ := ins_blk (inner.drop (i * 4)) (0 + (i + 1) * 4) (W.alloc (.cells cs.toArray 46)).drew cur hg2
      obtain ⟨c2, iV, hs2⟩ := ins_blk cs (0 + i * 4) _ c1 hb1
      have B1 := ins_below g (inner.drop (i * 4)) (0 + (i + 1) * 4) (W.alloc (.cells cs.toArray 46)).drew
      have B2 := ins_below g cs (0 + i * 4) ((W.alloc (.cells cs.toArray 46)).drew.setCells g (0 + (i + 1) * 4) (inner.drop (i * 4)))
      have hdl : (inner.drop (i * 4)).length = (n - i) * 4 := by rw [List.length_drop, hlen, Nat.sub_mul]
      refine ⟨_, rfl, ins_owns iV hbg hroom hcm (by omega) (by simp only [List.length_append, List.length_take, hdl, hlen, hcs]; have := Nat.min_eq_left (show i * 4 ≤ n * 4 by omega); omega) (fun j hj => ?_), ⟨B2.os.trans B1.os, B2.tape.trans B1.tape, B2.output.trans B1.output, ?_, fun k hk hne => ?_⟩, .inl rfl⟩
      · rw [ins_list (n := n) (by omega) hlen hcs]
        have hd : ∀ x, (W.alloc (.cells cs.toArray 46)).drew.cell? x = (W.alloc (.cells cs.toArray 46)).cell? x := fun x => rfl
        have hJ1 : ∀ j, j < inner.length → (W.alloc (.cells cs.toArray 46)).cell? ⟨g, j, none⟩ = inner[j]? := fun j hj => by
          rw [List.getElem?_eq_getElem hj]
          have := hcells j _ (List.getElem?_eq_getElem hj)
          rwa [Nat.zero_add] at this
        have hsome : ∀ k, k < cap * 4 → ((W.alloc (.cells cs.toArray 46)).drew.cell? ⟨g, k, none⟩).isSome = true := fun k hk => by
          rw [hd]; simp [World.cell?, hg2]; omega
        by_cases h2 : j < i * 4
        · rw [if_pos h2, World.cell?_setCells_out g _ _ _ _ (fun _ _ => .inl (by show j < _; omega)), World.cell?_setCells_out g _ _ _ _ (fun _ _ => .inl (by show j < _; omega)), hd, hJ1 j (by omega)]
        · rw [if_neg h2]
          by_cases h3 : j < (i + 1) * 4
          · rw [if_pos h3]
            have := World.cell?_setCells_in g cs (0 + i * 4) ((W.alloc (.cells cs.toArray 46)).drew.setCells g (0 + (i + 1) * 4) (inner.drop (i * 4))) (fun q hq => isSome_setCells g _ _ _ (fun q' hq' => hsome _ (by omega)) _ (hsome _ (by omega))) (j - i * 4) (by omega)
            rw [show 0 + i * 4 + (j - i * 4) = j by omega] at this
            rw [this, List.getElem?_eq_getElem (by omega)]
          · rw [if_neg h3, World.cell?_setCells_out g _ _ _ _ (fun _ _ => .inr (by show 0 + i * 4 + cs.length ≤ j; omega))]
            have := World.cell?_setCells_in g (inner.drop (i * 4)) (0 + (i + 1) * 4) (W.alloc (.cells cs.toArray 46)).drew (fun q hq => hsome _ (by omega)) (j - (i + 1) * 4) (by omega)
            rw [show 0 + (i + 1) * 4 + (j - (i + 1) * 4) = j by omega] at this
            rw [this, ← List.getElem?_eq_getElem, List.getElem?_drop]
            congr 1
            omega
      · have := B1.size
        have := B2.size
        have h3 : W.heap.size ≤ (W.alloc (.cells cs.toArray 46)).drew.heap.size := hga.size
        omega
      · have hkg : k ≠ g := fun e => hne (by simp [Value.ownBlock, e])
        rw [ins_other hkg, ins_other hkg]
        exact hga.block k hk hne
    · refine (ins_grow g 0 n cap i W.heap.size 0 1 1 inner cs (W.alloc (.cells cs.toArray 46)) (by omega) (by omega) hnc (by omega) hl hlen (by rw [hcs]) hcells hnews h1i h1).mono ?_
      rintro e w' ⟨rfl, rfl⟩
      obtain ⟨V, hV⟩ : ∃ V, V = W.alloc (.cells cs.toArray 46) := ⟨_, rfl⟩
      rw [← hV] at hcells hga ⊢
      obtain ⟨G, hG⟩ : ∃ G, G = grownCap V (n + 1) cap 46 := ⟨_, rfl⟩
      have hGn : n + 1 ≤ G := by rw [hG]; exact grownCap_ge V _ _ _
      have hGm : G ≤ maxLen := by rw [hG]; exact grownCap_le_maxLen V (n + 1) cap 46 (by unfold maxLen; omega)
      rw [← hG]
      obtain ⟨ROW, hROW⟩ : ∃ ROW : Array Value, ROW = (inner.take (i * 4)).toArray ++ Builtin.zeroCells ((.agg #[(.int .i64 0), (.int .i64 0), (.slice none 0 0), (.slice none 0 0)]) : Value).cells (n + 1 - i) ++ Builtin.zeroCells ((.agg #[(.int .i64 0), (.int .i64 0), (.slice none 0 0), (.slice none 0 0)]) : Value).cells (G - (n + 1)) := ⟨_, rfl⟩
      rw [← hROW]
      have hzz : ((.agg #[(.int .i64 0), (.int .i64 0), (.slice none 0 0), (.slice none 0 0)]) : Value).cells.size = 4 := by rfl
      have hRs : ROW.size = G * 4 := by
        rw [hROW]
        simp only [Array.size_append, List.size_toArray, size_zeroCells, hzz, List.length_take, hlen]
        have h1 : Nat.min (i * 4) (n * 4) = i * 4 := Nat.min_eq_left (by omega)
        have h1' : min (i * 4) (n * 4) = i * 4 := h1
        have h2 : (n + 1 - i) * 4 = (n + 1) * 4 - i * 4 := Nat.sub_mul _ _ _
        have h3 : (G - (n + 1)) * 4 = G * 4 - (n + 1) * 4 := Nat.sub_mul _ _ _
        omega
      have hnew : (V.alloc (.cells ROW 46)).heap[V.heap.size]? = some (.cells ROW 46 (0, 0)) := heap_alloc_new V (.cells ROW 46)
      obtain ⟨X, hX⟩ : ∃ X, X = (V.alloc (.cells ROW 46)).drew := ⟨_, rfl⟩
      have hnewX : X.heap[V.heap.size]? = some (.cells ROW 46 (0, 0)) := by rw [hX]; exact hnew
      rw [← hX]
      obtain ⟨c1, hb1, hs1⟩ := ins_blk cs (i * 4) X ROW hnewX
      obtain ⟨c2, iV, hs2⟩ := ins_blk (inner.drop (i * 4)) ((i + 1) * 4) (X.setCells V.heap.size (i * 4) cs).drew c1 hb1
      have B1 := ins_below V.heap.size cs (i * 4) X
      have B2 := ins_below V.heap.size (inner.drop (i * 4)) ((i + 1) * 4) (X.setCells V.heap.size (i * 4) cs).drew
      have hdl : (inner.drop (i * 4)).length = (n - i) * 4 := by rw [List.length_drop, hlen, Nat.sub_mul]
      have hgV := hga.size
      have hXo : ∀ k, k < V.heap.size → X.heap[k]? = V.heap[k]? := fun k hk => by rw [hX]; exact heap_alloc_old V _ hk
      have hXs : V.heap.size ≤ X.heap.size := by rw [hX]; simp
      have hsome : ∀ k, k < G * 4 → (X.cell? ⟨V.heap.size, k, none⟩).isSome = true := fun k hk => by simp [World.cell?, hnewX]; omega
      refine ⟨_, rfl, ins_owns iV (by omega) hGn hGm (by omega) (by simp only [List.length_append, List.length_take, hdl, hlen, hcs]; have := Nat.min_eq_left (show i * 4 ≤ n * 4 by omega); omega) (fun j hj => ?_), ⟨?_, ?_, ?_, ?_, fun k hk hne => ?_⟩, .inr ⟨_, rfl, hgV⟩⟩
      · rw [ins_list (n := n) (by omega) hlen hcs]
        have hd : ∀ x, (X.setCells V.heap.size (i * 4) cs).drew.cell? x = (X.setCells V.heap.size (i * 4) cs).cell? x := fun x => rfl
        by_cases h2 : j < i * 4
        · rw [if_pos h2, World.cell?_setCells_out _ _ _ _ _ (fun _ _ => .inl (by show j < _; omega)), hd, World.cell?_setCells_out _ _ _ _ _ (fun _ _ => .inl (by show j < _; omega))]
          simp only [World.cell?, hnewX]
          rw [hROW]
          have hlt : (inner.take (i * 4)).length = i * 4 := by rw [List.length_take]; omega
          simp only [Array.append_assoc]
          rw [show (((inner.take (i * 4)).toArray ++ (Builtin.zeroCells ((.agg #[(.int .i64 0), (.int .i64 0), (.slice none 0 0), (.slice none 0 0)]) : Value).cells (n + 1 - i) ++ Builtin.zeroCells ((.agg #[(.int .i64 0), (.int .i64 0), (.slice none 0 0), (.slice none 0 0)]) : Value).cells (G - (n + 1))))[j]? : Option Value) = (inner.take (i * 4)).toArray[j]? from Array.getElem?_append_left (by simp only [List.size_toArray, hlt]; exact h2)]
          simp only [Option.isSome_none, Bool.false_eq_true, if_false, List.getElem?_toArray, List.getElem?_take_of_lt h2]
        · rw [if_neg h2]
          by_cases h3 : j < (i + 1) * 4
          · rw [if_pos h3, World.cell?_setCells_out _ _ _ _ _ (fun _ _ => .inl (by show j < _; omega)), hd]
            have := World.cell?_setCells_in V.heap.size cs (i * 4) X (fun q hq => hsome _ (by omega)) (j - i * 4) (by omega)
            rw [show i * 4 + (j - i * 4) = j by omega] at this
            rw [this, List.getElem?_eq_getElem (by omega)]
          · rw [if_neg h3]
            have := World.cell?_setCells_in V.heap.size (inner.drop (i * 4)) ((i + 1) * 4) (X.setCells V.heap.size (i * 4) cs).drew (fun q hq => by rw [hd]; exact isSome_setCells _ _ _ _ (fun q' hq' => hsome _ (by omega)) _ (hsome _ (by omega))) (j - (i + 1) * 4) (by omega)
            rw [show (i + 1) * 4 + (j - (i + 1) * 4) = j by omega] at this
            rw [this, ← List.getElem?_eq_getElem, List.getElem?_drop]
            congr 1
            omega
      · exact B2.os.trans (B1.os.trans (by rw [hX]; exact hga.os))
      · exact B2.tape.trans (B1.tape.trans (by rw [hX]; exact hga.tape))
      · exact B2.output.trans (B1.output.trans (by rw [hX]; exact hga.output))
      · have h3 : X.heap.size ≤ (X.setCells V.heap.size (i * 4) cs).heap.size := B1.size
        have h4 : (X.setCells V.heap.size (i * 4) cs).heap.size ≤ _ := B2.size
        omega
      · have hkg : k ≠ V.heap.size := by omega
        rw [ins_other hkg]
        show (X.setCells V.heap.size (i * 4) cs).heap[k]? = _
        rw [ins_other hkg, hXo k (by omega)]
        exact hga.block k hk hne
end
/-! the words for a walk: a row of the call's own, an element put in -/
def pp_ins {α : Type} (xs : List α) (i : Int) (ys : List α) : List α := xs.take i.toNat ++ ys ++ xs.drop i.toNat
theorem reps_app {α : Type} {R : α → List Value → Prop} {size : Nat} {ps ps' : List α} {cs cs' : List Value} (h : Reps R size ps cs) (h' : Reps R size ps' cs') : Reps R size (ps ++ ps') (cs ++ cs') := by
  refine ⟨by rw [List.length_append, h.1, h'.1, List.length_append, Nat.add_mul], fun j q hq => ?_⟩
  rcases Nat.lt_or_ge j ps.length with hj | hj
  · rw [List.getElem?_append_left hj] at hq
    have h1 : j * size + size ≤ cs.length := by rw [h.1, ← Nat.succ_mul]; exact Nat.mul_le_mul_right _ hj
    rw [List.drop_append_of_le_length (by omega), List.take_append_of_le_length (by rw [List.length_drop]; omega)]
    exact h.2 j q hq
  · rw [List.getElem?_append_right hj] at hq
    have h1 : cs.length ≤ j * size := by rw [h.1]; exact Nat.mul_le_mul_right _ hj
    have h2 : j * size - cs.length = (j - ps.length) * size := by rw [h.1, Nat.sub_mul]
    rw [List.drop_append, List.drop_eq_nil_of_le h1, List.nil_append, h2]
    exact h'.2 _ q hq
theorem reps_take {α : Type} {R : α → List Value → Prop} {size : Nat} {ps : List α} {cs : List Value} (h : Reps R size ps cs) (i : Nat) (hi : i ≤ ps.length) : Reps R size (ps.take i) (cs.take (i * size)) := by
  have hm : i * size ≤ ps.length * size := Nat.mul_le_mul_right _ hi
  refine ⟨by rw [List.length_take, List.length_take, h.1, Nat.min_eq_left hm, Nat.min_eq_left hi], fun j q hq => ?_⟩
  have hj : j < i := by
    have := (List.getElem?_eq_some_iff.1 hq).1
    rw [List.length_take] at this
    omega
  rw [List.getElem?_take_of_lt hj] at hq
  have h1 : j * size + size ≤ i * size := by rw [← Nat.succ_mul]; exact Nat.mul_le_mul_right _ hj
  rw [List.drop_take, List.take_take, Nat.min_eq_left (by omega)]
  exact h.2 j q hq
theorem reps_drop {α : Type} {R : α → List Value → Prop} {size : Nat} {ps : List α} {cs : List Value} (h : Reps R size ps cs) (i : Nat) : Reps R size (ps.drop i) (cs.drop (i * size)) := by
  refine ⟨by rw [List.length_drop, List.length_drop, h.1, Nat.sub_mul], fun j q hq => ?_⟩
  rw [List.getElem?_drop] at hq
  rw [List.drop_drop, ← Nat.add_mul]
  exact h.2 _ q hq
theorem reps_one {α : Type} {R : α → List Value → Prop} {size : Nat} {p : α} {c : List Value} (hp : R p c) (hc : c.length = size) : Reps R size [p] c := by
  have := Reps.snoc (Reps.none R size) hp hc
  simpa using this
theorem reps_cells {α : Type} {d : Kd α} {W : World} {base : Nat} {okk : Nat → Prop} {xs : List α} {inner : List Value} (h : Reps (d.M W base okk) d.sz xs inner) : ∀ u ∈ inner, u.oneCell' = true := by
  intro u hu
  obtain ⟨q, hq, rfl⟩ := List.mem_iff_getElem.1 hu
  have hl := h.1
  have hs : 0 < d.sz := by
    rcases Nat.eq_zero_or_pos d.sz with h0 | h0
    · rw [h0, Nat.mul_zero] at hl; omega
    · exact h0
  have hj : q / d.sz < xs.length := Nat.div_lt_of_lt_mul (by rw [Nat.mul_comm, ← hl]; exact hq)
  have hp := h.2 (q / d.sz) _ (List.getElem?_eq_getElem hj)
  refine d.K_one (d.K_of_M hp) _ (List.mem_iff_getElem?.2 ⟨q % d.sz, ?_⟩)
  rw [List.getElem?_take_of_lt (Nat.mod_lt _ hs), List.getElem?_drop, Nat.mul_comm, Nat.div_add_mod, List.getElem?_eq_getElem hq]
theorem Kd.R_inserted {α : Type} {d : Kd α} {e base : Nat} {ok okp : Nat → Prop} {W w1 : World} {v v1 : Value} {xs : List α} {p : α} {inner cs : List Value} {i : Nat} (hi : i ≤ xs.length) (h0 : ∀ k, v.ownBlock = some k → ok k) (hr : Reps (d.M W base (fun k => ok k ∧ some k ≠ v.ownBlock)) d.sz xs inner) (hp : d.M W base okp p cs) (hokp : ∀ k, okp k → ok k ∧ some k ≠ v.ownBlock) (hfresh : ∀ k, W.heap.size ≤ k → ok k)
    (hown : w1.ownsRow base e d.sz v1 (xs.length + 1) (inner.take (i * d.sz) ++ cs ++ inner.drop (i * d.sz))) (hg : W.grownBy w1 v.ownBlock) (hat : v1.ownBlock = v.ownBlock ∨ ∃ b, v1.ownBlock = some b ∧ W.heap.size ≤ b) : d.R e w1 base ok v1 (xs.take i ++ [p] ++ xs.drop i) := by
  have away : ∀ k, some k ≠ v.ownBlock → k < W.heap.size → some k ≠ v1.ownBlock := fun k hk hlt => by
    rcases hat with hat | ⟨b, hb, hle⟩
    · exact hat ▸ hk
    · rw [hb]; exact fun he => by injection he with he; omega
  have up : ∀ {q : α} {c : List Value} {o : Nat → Prop}, d.M W base o q c → (∀ k, o k → ok k ∧ some k ≠ v.ownBlock) → d.M w1 base (fun k => ok k ∧ some k ≠ v1.ownBlock) q c := fun hq ho =>
    d.M_mono (fun k hk => ⟨(ho k hk.1).1, away k (ho k hk.1).2 hk.2.2.1⟩) (d.M_move (w1 := w1) (fun k hk => hg.block k hk.2.2.1 (ho k hk.1).2) (d.M_bound hq))
  have hrr := hr.imp_ (R' := d.M w1 base (fun k => ok k ∧ some k ≠ v1.ownBlock)) (fun _ _ hq => up hq (fun _ hk => hk))
  refine ⟨fun k hk => ?_, _, ?_, reps_app (reps_app (reps_take hrr i hi) (reps_one (up hp hokp) (d.K_len (d.K_of_M hp)))) (reps_drop hrr i)⟩
  · rcases hat with hat | ⟨b, hb, hle⟩
    · exact h0 k (hat ▸ hk)
    · rw [hb] at hk
      injection hk with hk
      exact hfresh k (by omega)
  · have hl : (xs.take i ++ [p] ++ xs.drop i).length = xs.length + 1 := by
      simp only [List.length_append, List.length_take, List.length_drop, List.length_cons, List.length_nil]
      omega
    rw [hl]; exact hown
theorem Kd.S_of_tags {α : Type} {d : Kd α} {e base : Nat} {ok : Nat → Prop} {w : World} {v : Value} {f : Nat → Nat} {L : List (α × Nat)} (π : Nat → Nat) (h : (Kd.tag f d).R e w base ok v L) (hπ : ∀ j q, L[j]? = some q → π q.2 = j) : Kd.S d e w base ok v (L.map Prod.fst) := by
  obtain ⟨h0, inner, ho, hr⟩ := h
  refine ⟨fun k => π (f k), h0, inner, by rw [List.length_zipIdx, List.length_map]; exact ho, by have := hr.1; rw [List.length_zipIdx, List.length_map]; exact this, fun j q hq => ?_⟩
  rw [List.getElem?_zipIdx, List.getElem?_map] at hq
  cases hL : L[j]? with
  | none => rw [hL] at hq; cases hq
  | some y =>
    rw [hL] at hq
    obtain rfl : (y.1, j) = q := by simpa using hq
    have hM := hr.2 j y hL
    exact d.M_mono (ok' := fun k => (ok k ∧ some k ≠ v.ownBlock) ∧ π (f k) = j) (fun k hk => ⟨hk.1, by rw [hk.2]; exact hπ j y hL⟩) hM
theorem ins_tags {α : Type} (xs : List α) (p : α) (i : Nat) (hi : i ≤ xs.length) : ∀ j q, (xs.zipIdx.take i ++ [(p, xs.length)] ++ xs.zipIdx.drop i)[j]? = some q → (fun t => if t < i then t else if t = xs.length then i else t + 1) q.2 = j := by
  intro j q hq
  have hl : (xs.zipIdx.take i).length = i := by rw [List.length_take, List.length_zipIdx]; omega
  rcases Nat.lt_trichotomy j i with h | h | h
  · rw [List.append_assoc, List.getElem?_append_left (by omega), List.getElem?_take_of_lt h, List.getElem?_zipIdx, Nat.zero_add] at hq
    cases hx : xs[j]? with
    | none => rw [hx] at hq; cases hq
    | some y =>
      rw [hx] at hq
      obtain rfl : (y, j) = q := by simpa using hq
      exact if_pos h
  · subst h
    rw [List.getElem?_append_left (by simp; omega), List.getElem?_append_right (by omega), hl, Nat.sub_self] at hq
    obtain rfl : (p, xs.length) = q := by simpa using hq
    show (if xs.length < j then xs.length else if xs.length = xs.length then j else xs.length + 1) = j
    rw [if_neg (by omega), if_pos rfl]
  · rw [List.getElem?_append_right (by rw [List.length_append, hl]; simp; omega), List.length_append, hl, List.getElem?_drop, List.getElem?_zipIdx, Nat.zero_add] at hq
    have hj : i + (j - (i + [(p, xs.length)].length)) = j - 1 := by simp; omega
    rw [hj] at hq
    cases hx : xs[j - 1]? with
    | none => rw [hx] at hq; cases hq
    | some y =>
      rw [hx] at hq
      obtain rfl : (y, j - 1) = q := by simpa using hq
      have hlt := (List.getElem?_eq_some_iff.1 hx).1
      show (if j - 1 < i then j - 1 else if j - 1 = xs.length then i else j - 1 + 1) = j
      rw [if_neg (by omega), if_neg (by omega)]
      omega
theorem ins_map {α : Type} (xs : List α) (p : α) (m i : Nat) : (xs.zipIdx.take i ++ [(p, m)] ++ xs.zipIdx.drop i).map Prod.fst = xs.take i ++ [p] ++ xs.drop i := by
  simp [List.map_take, List.map_drop]
section
variable {ops : Array Oper} {rest : List Oper} {o : Oper} {a : Act} {Q : Exit → Act → World → Prop} {Kc : Act → World → Prop} {α : Type}
theorem ins_calls (d : Kd α) {w0 W : World} (base : Nat) (hsz : d.sz = 4) (v : Value) (xs : List α) (p : α) (cs : List Value) (i : Int) (ok okp : Nat → Prop) (h0 : 0 ≤ i) (h1 : i ≤ (xs.length : Int)) (hp : d.M W base okp p cs) (hokp : ∀ k, okp k → ok k ∧ some k ≠ v.ownBlock) (hfresh : ∀ k, W.heap.size ≤ k → ok k)
    (HO : d.R 46 W base ok v xs) (HB : Below base w0 W) (hbase : base ≤ W.heap.size) (hl : (xs.length + 1) * 64 ≤ 140737488355328) :
    Calls Try.prog 50 #[v, .int .i64 i, .slice (some ⟨W.heap.size, 0, none⟩) 1 1] (W.alloc (.cells cs.toArray 46)) fun e w1 => ∃ v1, e = .returned v1 ∧ d.R 46 w1 base ok v1 (pp_ins xs i [p]) ∧ Below base w0 w1 ∧ W.grownBy w1 v.ownBlock ∧ (v1.ownBlock = v.ownBlock ∨ ∃ b, v1.ownBlock = some b ∧ W.heap.size ≤ b) := by
  obtain ⟨hh, inner, hown, hr⟩ := HO
  obtain ⟨n, rfl⟩ := Int.eq_ofNat_of_zero_le h0
  have hc := d.K_len (d.K_of_M hp)
  rw [hsz] at hown hc
  refine (ins_row hown (i := n) (cs := cs) (by omega) hc (d.K_one (d.K_of_M hp)) (reps_cells hr) hbase hl).mono ?_
  rintro e w1 ⟨v1, rfl, ho, hg, hat⟩
  exact ⟨v1, rfl, Kd.R_inserted (i := n) (by omega) hh hr hp hokp hfresh (by rw [hsz]; exact ho) hg hat, HB.grown hg hbase (own_base hown), hg, hat⟩
theorem ins_callsS (d : Kd α) {w0 W : World} (base : Nat) (hsz : d.sz = 4) (v : Value) (xs : List α) (p : α) (cs : List Value) (i : Int) (ok okp : Nat → Prop) (h0 : 0 ≤ i) (h1 : i ≤ (xs.length : Int)) (hp : d.M W base okp p cs) (hokp : ∀ k, okp k → ok k ∧ some k ≠ v.ownBlock) (hfresh : ∀ k, W.heap.size ≤ k → ok k)
    (HO : Kd.S d 46 W base (fun k => ok k ∧ ¬ okp k) v xs) (HB : Below base w0 W) (hbase : base ≤ W.heap.size) (hl : (xs.length + 1) * 64 ≤ 140737488355328) :
    Calls Try.prog 50 #[v, .int .i64 i, .slice (some ⟨W.heap.size, 0, none⟩) 1 1] (W.alloc (.cells cs.toArray 46)) fun e w1 => ∃ v1, e = .returned v1 ∧ Kd.S d 46 w1 base ok v1 (pp_ins xs i [p]) ∧ Below base w0 w1 ∧ W.grownBy w1 v.ownBlock ∧ (v1.ownBlock = v.ownBlock ∨ ∃ b, v1.ownBlock = some b ∧ W.heap.size ≤ b) := by
  obtain ⟨f, hf, hR⟩ := Kd.S_tag HO xs.length okp (fun _ hk h2 => h2.2 hk)
  refine (ins_calls (Kd.tag f d) base hsz v xs.zipIdx (p, xs.length) cs i ok okp h0 (by rw [List.length_zipIdx]; exact h1) (d.M_mono (fun k hk => ⟨hk, hf k hk⟩) hp) hokp hfresh (Kd.R_mono hR (fun _ hk => hk.1)) HB hbase (by rw [List.length_zipIdx]; exact hl)).mono ?_
  rintro e w1 ⟨v1, rfl, ho, hb, hg, hat⟩
  refine ⟨v1, rfl, ?_, hb, hg, hat⟩
  have := Kd.S_of_tags (fun t => if t < i.toNat then t else if t = xs.length then i.toNat else t + 1) (L := xs.zipIdx.take i.toNat ++ [(p, xs.length)] ++ xs.zipIdx.drop i.toNat) ho (ins_tags xs p i.toNat (by omega))
  rw [ins_map] at this
  exact this
theorem Kd.R_insert (d : Kd α) {w0 W : World} (base : Nat) (hsz : d.sz = 4) (hgd : o.guard = none) (s ix x : Operand) {ts : Array TypeId} (ho : o.op = .call { callee := .value (.func 50), args := #[s, ix, x], argTypes := ts })
    (v : Value) (xs : List α) (p : α) (cs : List Value) (i : Int) (ok okp : Nat → Prop) (hs : a.eval s = v) (hix : a.eval ix = .int .i64 i) (hx : a.eval x = .slice (some ⟨W.heap.size, 0, none⟩) 1 1) (h0 : 0 ≤ i) (h1 : i ≤ (xs.length : Int)) (hp : d.M W base okp p cs) (hokp : ∀ k, okp k → ok k ∧ some k ≠ v.ownBlock) (hfresh : ∀ k, W.heap.size ≤ k → ok k)
    (HO : d.R 46 W base ok v xs) (HB : Below base w0 W) (hbase : base ≤ W.heap.size) (hl : (xs.length + 1) * 64 ≤ 140737488355328)
    (h : ∀ v1 w1, d.R 46 w1 base ok v1 (pp_ins xs i [p]) → Below base w0 w1 → W.grownBy w1 v.ownBlock → (v1.ownBlock = v.ownBlock ∨ ∃ b, v1.ownBlock = some b ∧ W.heap.size ≤ b) → wpList Try.prog ops Q rest (a.put o.dst v1) w1) :
    wpList Try.prog ops Q (o :: rest) a (W.alloc (.cells cs.toArray 46)) := by
  refine goesL_ o.dst rfl hgd Try.func50 (by kernel_rfl) rfl #[v, .int .i64 i, .slice (some ⟨W.heap.size, 0, none⟩) 1 1] ho (by simp [hs, hix, hx]) ?_
  refine (ins_calls d base hsz v xs p cs i ok okp h0 h1 hp hokp hfresh HO HB hbase hl).mono ?_
  rintro e w1 ⟨v1, rfl, ho, hb, hg, hat⟩
  exact ⟨v1, rfl, h v1 w1 ho hb hg hat⟩
theorem Kd.S_insert (d : Kd α) {w0 W : World} (base : Nat) (hsz : d.sz = 4) (hgd : o.guard = none) (s ix x : Operand) {ts : Array TypeId} (ho : o.op = .call { callee := .value (.func 50), args := #[s, ix, x], argTypes := ts })
    (v : Value) (xs : List α) (p : α) (cs : List Value) (i : Int) (ok okp : Nat → Prop) (hs : a.eval s = v) (hix : a.eval ix = .int .i64 i) (hx : a.eval x = .slice (some ⟨W.heap.size, 0, none⟩) 1 1) (h0 : 0 ≤ i) (h1 : i ≤ (xs.length : Int)) (hp : d.M W base okp p cs) (hokp : ∀ k, okp k → ok k ∧ some k ≠ v.ownBlock) (hfresh : ∀ k, W.heap.size ≤ k → ok k)
    (HO : Kd.S d 46 W base (fun k => ok k ∧ ¬ okp k) v xs) (HB : Below base w0 W) (hbase : base ≤ W.heap.size) (hl : (xs.length + 1) * 64 ≤ 140737488355328)
    (h : ∀ v1 w1, Kd.S d 46 w1 base ok v1 (pp_ins xs i [p]) → Below base w0 w1 → W.grownBy w1 v.ownBlock → (v1.ownBlock = v.ownBlock ∨ ∃ b, v1.ownBlock = some b ∧ W.heap.size ≤ b) → wpList Try.prog ops Q rest (a.put o.dst v1) w1) :
    wpList Try.prog ops Q (o :: rest) a (W.alloc (.cells cs.toArray 46)) := by
  refine goesL_ o.dst rfl hgd Try.func50 (by kernel_rfl) rfl #[v, .int .i64 i, .slice (some ⟨W.heap.size, 0, none⟩) 1 1] ho (by simp [hs, hix, hx]) ?_
  refine (ins_callsS d base hsz v xs p cs i ok okp h0 h1 hp hokp hfresh HO HB hbase hl).mono ?_
  rintro e w1 ⟨v1, rfl, ho, hb, hg, hat⟩
  exact ⟨v1, rfl, h v1 w1 ho hb hg hat⟩
theorem Kd.R_insert_step (d : Kd α) {w0 W : World} (base : Nat) (hsz : d.sz = 4) (hw : Region.wanted o (yielded ops a.tmps) = true) (s ix x : Operand) {ts : Array TypeId} (ho : o.op = .call { callee := .value (.func 50), args := #[s, ix, x], argTypes := ts })
    (v : Value) (xs : List α) (p : α) (cs : List Value) (i : Int) (ok okp : Nat → Prop) (hs : a.eval s = v) (hix : a.eval ix = .int .i64 i) (hx : a.eval x = .slice (some ⟨W.heap.size, 0, none⟩) 1 1) (h0 : 0 ≤ i) (h1 : i ≤ (xs.length : Int)) (hp : d.M W base okp p cs) (hokp : ∀ k, okp k → ok k ∧ some k ≠ v.ownBlock) (hfresh : ∀ k, W.heap.size ≤ k → ok k)
    (HO : d.R 46 W base ok v xs) (HB : Below base w0 W) (hbase : base ≤ W.heap.size) (hl : (xs.length + 1) * 64 ≤ 140737488355328)
    (h : ∀ v1 w1, d.R 46 w1 base ok v1 (pp_ins xs i [p]) → Below base w0 w1 → W.grownBy w1 v.ownBlock → (v1.ownBlock = v.ownBlock ∨ ∃ b, v1.ownBlock = some b ∧ W.heap.size ≤ b) → Kc (a.put o.dst v1) w1) :
    if Region.wanted o (yielded ops a.tmps) = true then Oper.wp Try.prog o a (W.alloc (.cells cs.toArray 46)) Kc Q else Kc (a.put o.dst undef) (W.alloc (.cells cs.toArray 46)) := by
  refine goes_ Try.func50 (by kernel_rfl) rfl #[v, .int .i64 i, .slice (some ⟨W.heap.size, 0, none⟩) 1 1] hw rfl ho (by simp [hs, hix, hx]) ?_
  refine (ins_calls d base hsz v xs p cs i ok okp h0 h1 hp hokp hfresh HO HB hbase hl).mono ?_
  rintro e w1 ⟨v1, rfl, ho, hb, hg, hat⟩
  exact ⟨v1, rfl, h v1 w1 ho hb hg hat⟩
theorem Kd.S_insert_step (d : Kd α) {w0 W : World} (base : Nat) (hsz : d.sz = 4) (hw : Region.wanted o (yielded ops a.tmps) = true) (s ix x : Operand) {ts : Array TypeId} (ho : o.op = .call { callee := .value (.func 50), args := #[s, ix, x], argTypes := ts })
    (v : Value) (xs : List α) (p : α) (cs : List Value) (i : Int) (ok okp : Nat → Prop) (hs : a.eval s = v) (hix : a.eval ix = .int .i64 i) (hx : a.eval x = .slice (some ⟨W.heap.size, 0, none⟩) 1 1) (h0 : 0 ≤ i) (h1 : i ≤ (xs.length : Int)) (hp : d.M W base okp p cs) (hokp : ∀ k, okp k → ok k ∧ some k ≠ v.ownBlock) (hfresh : ∀ k, W.heap.size ≤ k → ok k)
    (HO : Kd.S d 46 W base (fun k => ok k ∧ ¬ okp k) v xs) (HB : Below base w0 W) (hbase : base ≤ W.heap.size) (hl : (xs.length + 1) * 64 ≤ 140737488355328)
    (h : ∀ v1 w1, Kd.S d 46 w1 base ok v1 (pp_ins xs i [p]) → Below base w0 w1 → W.grownBy w1 v.ownBlock → (v1.ownBlock = v.ownBlock ∨ ∃ b, v1.ownBlock = some b ∧ W.heap.size ≤ b) → Kc (a.put o.dst v1) w1) :
    if Region.wanted o (yielded ops a.tmps) = true then Oper.wp Try.prog o a (W.alloc (.cells cs.toArray 46)) Kc Q else Kc (a.put o.dst undef) (W.alloc (.cells cs.toArray 46)) := by
  refine goes_ Try.func50 (by kernel_rfl) rfl #[v, .int .i64 i, .slice (some ⟨W.heap.size, 0, none⟩) 1 1] hw rfl ho (by simp [hs, hix, hx]) ?_
  refine (ins_callsS d base hsz v xs p cs i ok okp h0 h1 hp hokp hfresh HO HB hbase hl).mono ?_
  rintro e w1 ⟨v1, rfl, ho, hb, hg, hat⟩
  exact ⟨v1, rfl, h v1 w1 ho hb hg hat⟩
end

end Go.Proofs.Ytnmkmamobhkcbaa.P
