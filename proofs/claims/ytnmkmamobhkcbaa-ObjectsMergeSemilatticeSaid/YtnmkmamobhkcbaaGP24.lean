/- Texts of the proofs of 10 statements: what the printed functions come to, plain laws, rows (no condition beyond the statements' own). -/
import Derived.Test.YtnmkmamobhkcbaaGP0
import Derived.Test.YtnmkmamobhkcbaaGP10
import Derived.Test.YtnmkmamobhkcbaaGP18
import Derived.Test.YtnmkmamobhkcbaaOpen
import Derived.Test.YtnmkmamobhkcbaaWWords
import Derived.IntWalk
import Derived.Laws.Bits64b
namespace Go.Proofs.Ytnmkmamobhkcbaa.P
open Go.RowKit Go.Proofs.YtnmkmamobhkcbaaW.PrintWords Go.Proofs.YtnmkmamobhkcbaaW.PrintLast Go.Proofs.YtnmkmamobhkcbaaW.PrintMore
attribute [local go_sem] max2_int min2_int max_two min_two max_three min_three max_four min_four   -- for this text's walks alone
set_option linter.unusedVariables false
set_option linter.unusedSimpArgs false
def aH.l0 : Nat → Int → List (fB) → Option (Int × Int)
  | 0, _, _ => none
  | k + 1, x3, aKe => if x3 < (aKe.length : Int) then (if 0 ≤ x3 then ((aK.f k ((aA aKe x3).f1.f0) ((aA aKe x3).f1.f1) ((aA aKe x3).f1.f2)).bind fun fA9 => (if fA9.1 = 0 then ((aV.f k ((aA aKe x3).f1.f0) ((aA aKe x3).f1.f1) ((aA aKe x3).f1.f2)).bind fun bXa => (if bXa = ((aA aKe x3).f0) then (if x3 > 0 then (if 0 ≤ (wrap64 (x3 - 1)) then (if (wrap64 (x3 - 1)) < (aKe.length : Int) then (if ((aA aKe x3).f0) ≤ ((aA aKe (wrap64 (x3 - 1))).f0) then ((aT.f 5 x3).bind fun bNf => (some (bNf.1, bNf.2))) else (aH.l0 k (wrap64 (x3 + 1)) aKe)) else (none)) else (none)) else (aH.l0 k (wrap64 (x3 + 1)) aKe)) else ((aT.f 18 x3).bind fun cHm => (some (cHm.1, cHm.2))))) else ((aT.f fA9.1 x3).bind fun dFs => (some (dFs.1, dFs.2))))) else (none)) else (some (0, 0))
def aH.f (k : Nat) (aD : List (fB)) : Option (Int × Int) := if (aD.length : Int) > 40 then ((aT.f 2 0).bind fun dFt => (some (dFt.1, dFt.2))) else (aH.l0 k 0 aD)
theorem aH.mono_l : ∀ k, (∀ y0 y1, LeO (aH.l0 k y0 y1) (aH.l0 (k + 1) y0 y1))
  | 0 => fun _ _ r h => by simp [aH.l0] at h
  | k + 1 => by
    have mU := aH.mono_l k
    · intro y0 y1
      unfold aH.l0
      repeat' first | (with_reducible first | exact mU _ _ | exact aV.mono _ _ _ _ | exact aK.mono _ _ _ _ | exact LeO.refl _ | exact LeO.none _ | refine LeO.ite ?_ ?_ | refine LeO.bind ?_ (fun _ => ?_)) | exact mU _ _ | exact aV.mono _ _ _ _ | exact aK.mono _ _ _ _ | exact LeO.none _ | refine LeO.ite ?_ ?_ | refine LeO.bind ?_ (fun _ => ?_)
theorem aH.mono : ∀ a0 k, LeO (aH.f k a0) (aH.f (k + 1) a0) := by
  intro a0 k
  have mU := aH.mono_l k
  unfold aH.f
  repeat' first | (with_reducible first | exact mU _ _ | exact aV.mono _ _ _ _ | exact aK.mono _ _ _ _ | exact LeO.refl _ | exact LeO.none _ | refine LeO.ite ?_ ?_ | refine LeO.bind ?_ (fun _ => ?_)) | exact mU _ _ | exact aV.mono _ _ _ _ | exact aK.mono _ _ _ _ | exact LeO.none _ | refine LeO.ite ?_ ?_ | refine LeO.bind ?_ (fun _ => ?_)
def aH.T9 : Bool × List (List Nat × List Nat) := (true, [([], []), ([0], [0]), ([], []), ([1, 2], [1, 2]), ([3], [3]), ([4], [4]), ([5], [5]), ([], []), ([7], [7]), ([], []), ([8, 9], [8, 9]), ([10], [10]), ([11], [11]), ([6, 12], [6, 12])])
def aH.B9 : List Nat := [0, 1, 0, 7, 15, 31, 63, 0, 128, 0, 896, 1920, 3968, 8191]
theorem aH.tab9 : rtab .any (opsOf Try.f16 9) = aH.T9 := by kernel_rfl
theorem aH.bits9 : waitsOk aH.T9.2 aH.B9 = true := by kernel_rfl
def aH.T11 : Bool × List (List Nat × List Nat) := (true, [([], []), ([0], [0]), ([1], [1]), ([2], [2]), ([3, 2], [2, 3]), ([2], [2]), ([4, 5, 2], [2, 4, 5]), ([6, 2], [2, 6]), ([7, 2], [2, 7]), ([2], [2]), ([9, 2], [2, 9]), ([2], [2]), ([11, 2], [2, 11]), ([10, 12, 2], [2, 10, 12]), ([13, 2], [2, 13]), ([14, 2], [2, 14]), ([8, 15, 2], [2, 8, 15]), ([2, 16], [2, 16])])
def aH.B11 : List Nat := [0, 1, 3, 7, 15, 7, 63, 127, 255, 7, 519, 7, 2055, 7687, 15879, 32263, 65535, 131071]
theorem aH.tab11 : rtab .any (opsOf Try.f16 11) = aH.T11 := by kernel_rfl
theorem aH.bits11 : waitsOk aH.T11.2 aH.B11 = true := by kernel_rfl
abbrev aH.Z1 : Array Bool := #[U,U,U,U,U,U,U,U,U,U,U,U,U,U]
abbrev aH.Z2 : Array Bool := #[J,U,U,U,U,U,U,U,U,U,U,U,U,U]
abbrev aH.Z3 : Array Bool := #[J,U,J,U,U,U,U,U,U,U,U,U,U,U]
abbrev aH.Z4 : Array Bool := #[J,U,J,U,U,U,U,J,U,U,U,U,U,U]
abbrev aH.Z5 : Array Bool := #[J,U,J,U,U,U,U,J,U,J,U,U,U,U]
abbrev aH.Z6 : Array Bool := #[J,J,J,U,U,U,U,J,U,J,U,U,U,U]
abbrev aH.Z7 : Array Bool := #[J,J,J,J,U,U,U,J,U,J,U,U,U,U]
abbrev aH.Z8 : Array Bool := #[J,J,J,J,J,U,U,J,U,J,U,U,U,U]
abbrev aH.Z9 : Array Bool := #[J,J,J,J,J,J,U,J,U,J,U,U,U,U]
abbrev aH.Z10 : Array Bool := #[J,J,J,J,J,J,U,J,J,J,U,U,U,U]
abbrev aH.Z11 : Array Bool := #[J,J,J,J,J,J,U,J,J,J,J,U,U,U]
abbrev aH.Z12 : Array Bool := #[J,J,J,J,J,J,U,J,J,J,J,J,U,U]
abbrev aH.Z13 : Array Bool := #[J,J,J,J,J,J,U,J,J,J,J,J,J,U]
abbrev aH.Z14 : Array Bool := #[J,J,J,J,J,J,J,J,J,J,J,J,J,U]
abbrev aH.Z15 : Array Bool := #[J,J,J,J,J,J,J,J,J,J,J,J,J,J]
abbrev aH.Z16 : Array Bool := #[U,U,U,U,U,U,U,U,U,U,U,U,U,U,U,U,U,U]
abbrev aH.Z17 : Array Bool := #[J,U,U,U,U,U,U,U,U,U,U,U,U,U,U,U,U,U]
abbrev aH.Z18 : Array Bool := #[J,J,U,U,U,U,U,U,U,U,U,U,U,U,U,U,U,U]
abbrev aH.Z19 : Array Bool := #[J,J,J,U,U,U,U,U,U,U,U,U,U,U,U,U,U,U]
abbrev aH.Z20 : Array Bool := #[J,J,J,J,U,U,U,U,U,U,U,U,U,U,U,U,U,U]
abbrev aH.Z21 : Array Bool := #[J,J,J,J,U,J,U,U,U,U,U,U,U,U,U,U,U,U]
abbrev aH.Z22 : Array Bool := #[J,J,J,J,U,J,U,U,U,J,U,U,U,U,U,U,U,U]
abbrev aH.Z23 : Array Bool := #[J,J,J,J,U,J,U,U,U,J,U,J,U,U,U,U,U,U]
abbrev aH.Z24 : Array Bool := #[J,J,J,J,U,J,U,U,U,J,U,J,J,U,U,U,U,U]
abbrev aH.Z25 : Array Bool := #[J,J,J,J,J,J,U,U,U,J,U,J,J,U,U,U,U,U]
abbrev aH.Z26 : Array Bool := #[J,J,J,J,J,J,J,U,U,J,U,J,J,U,U,U,U,U]
abbrev aH.Z27 : Array Bool := #[J,J,J,J,J,J,J,J,U,J,U,J,J,U,U,U,U,U]
abbrev aH.Z28 : Array Bool := #[J,J,J,J,J,J,J,J,J,J,U,J,J,U,U,U,U,U]
abbrev aH.Z29 : Array Bool := #[J,J,J,J,J,J,J,J,J,J,J,J,J,U,U,U,U,U]
abbrev aH.Z30 : Array Bool := #[J,J,J,J,J,J,J,J,J,J,J,J,J,J,U,U,U,U]
abbrev aH.Z31 : Array Bool := #[J,J,J,J,J,J,J,J,J,J,J,J,J,J,J,U,U,U]
abbrev aH.Z32 : Array Bool := #[J,J,J,J,J,J,J,J,J,J,J,J,J,J,J,J,U,U]
abbrev aH.Z33 : Array Bool := #[J,J,J,J,J,J,J,J,J,J,J,J,J,J,J,J,J,U]
abbrev aH.Z34 : Array Bool := #[J,J,J,J,J,J,J,J,J,J,J,J,J,J,J,J,J,J]
abbrev aH.Z35 : Array Bool := #[J,J,J,J,J,U,U,U,U,U,U,U,U,U,U,U,U,U]
abbrev aH.Z36 : Array Bool := #[J,J,J,J,J,J,U,U,U,U,U,U,U,U,U,U,U,U]
abbrev aH.Z37 : Array Bool := #[J,J,J,J,J,J,J,U,U,U,U,U,U,U,U,U,U,U]
abbrev aH.Z38 : Array Bool := #[J,J,J,J,J,J,J,J,U,U,U,U,U,U,U,U,U,U]
abbrev aH.Z39 : Array Bool := #[J,J,J,J,J,J,J,J,J,U,U,U,U,U,U,U,U,U]
abbrev aH.Z40 : Array Bool := #[J,J,J,J,J,J,J,J,J,J,U,U,U,U,U,U,U,U]
abbrev aH.Z41 : Array Bool := #[J,J,J,J,J,J,J,J,J,J,J,U,U,U,U,U,U,U]
abbrev aH.Z42 : Array Bool := #[J,J,J,J,J,J,J,J,J,J,J,J,U,U,U,U,U,U]
set_option maxHeartbeats 8000000 in
set_option maxRecDepth 100000 in
theorem aH.calls (k : Nat) (bP : Option Addr) (bK : Nat) (aD : List (fB)) (r1 : Int) (r2 : Int) (w : World) (mZ : Kd.C qL w bP aD.length aD) (nA : aD.length ≤ bK) (h : aH.f k aD = some (r1, r2)) :
  Calls Try.prog 16 #[.agg #[.slice bP aD.length bK]] w fun e w' => e = .returned (.agg #[.int .i64 r1, .int .i64 r2]) ∧ Below w.heap.size w w' := by
  have aP7 := Try.underlying24
  have aQg := Try.underlying28
  have aQf := Try.underlying44
  have fI := aZ mZ
  have lC := aZ nA
  clear mZ nA
  have HB := aZ (Below.refl w.heap.size w)
  have H : (if (aD.length : Int) > 40 then ((aT.f 2 0).bind fun dFt => (some (dFt.1, dFt.2))) else (aH.l0 k 0 aD)) = some (r1, r2) := h
  clear h
  by_cases c2 : (aD.length : Int) > 40
  · rw [if_pos c2] at H
    have aW6 : decide (40 < (aD.length : Int)) = true := decide_eq_true c2
    have bEc : decide (40 < aD.length) = true := decide_eq_true (by omega)
    clear c2
    replace H := Option.bind_eq_some_iff.mp H
    obtain ⟨⟨eSy, fHk⟩, A30, H⟩ := H
    replace H : (some (eSy, fHk)) = some (r1, r2) := H
    have A3 := aZ A30
    clear A30
    simp only [Option.some.injEq, Prod.mk.injEq] at H
    obtain ⟨rfl, rfl⟩ := H
    go_enter Try.func16, Try.ntmps16
    go_wp2_with (first | ((with_reducible refine gate_dst (N := 1) rfl ?_); refine box_event ?hg (N := 1) ?hd (cs := #[.slice bP aD.length bK]) (t := 24) ?hr ?_; (case hd => rfl); (case hg => rfl); (case hr => first | (go_simp; done) | (go_simp; rfl)); intro aOo hg w4 hbox hb; have iI := aZ (hbox); have fY3 := xgh hg HB; have fY4 := xgh hg HB; replace HB := xhl HB hb; clear hb hbox hg) | ((with_reducible refine gate_dst (N := 2) rfl ?_); refine box_event ?hg (N := 2) ?hd (cs := #[.int .i64 0, .int .i64 0]) (t := 28) ?hr ?_; (case hd => rfl); (case hg => rfl); (case hr => first | (go_simp; done) | (go_simp; rfl)); intro aNt hg w5 hbox hb; have iY := aZ (hbox); have fY5 := xgh hg HB; have fY6 := xgh hg HB; replace HB := xhl HB hb; have aKf := xnl hg iI; have aKg := xng hg iI; replace iI := xbb iI hb; clear hb hbox hg; have eP0 := aKf.out; have eP1 := aKg.out; have bD1 : w5.cell? ⟨aOo, 0, none⟩ = some (.slice bP aD.length bK) := (blk_cell iI.out 0).trans rfl; have bIr := blk_frozen iI.out 0) | ((with_reducible refine gate_callee (f := 18) rfl ?_); refine goesL_ (some 9) rfl rfl Try.func18 (by kernel_rfl) rfl #[.int .i64 2, .int .i64 0] rfl xmp ?_; (with_reducible refine (aT.calls 2 0 eSy fHk _ A3.out).mono ?_); rintro e w8 ⟨rfl, hb⟩; refine ⟨_, rfl, ?_⟩; replace iI := xbb iI hb; replace iY := xbb iY hb; replace HB := xhl HB hb; skip; (try clear hb); (try clear iV); (try clear hk); (try clear hi); have cCg : w8.cell? ⟨aNt, 0, none⟩ = some (.int .i64 0) := (blk_cell iY.out 0).trans rfl; have dJs : w8.cell? ⟨aNt, 1, none⟩ = some (.int .i64 0) := (blk_cell iY.out 1).trans rfl; have cCh := blk_frozen iY.out 0; have dJt := blk_frozen iY.out 1))
    refine bodyPost_ret (results_cell_row rfl _ _ aNt 28 #[.int .i64 eSy, .int .i64 fHk] (0, 0) _ rfl (by (with_reducible repeat (first | refine bN ?_ _ | refine bD ?_ | refine bA ?_ _)); refine blk_put (cs := #[.int .i64 eSy, .int .i64 0]) ?_ 1 _ rfl; (with_reducible repeat (first | refine bN ?_ _ | refine bD ?_ | refine bA ?_ _)); refine blk_put (cs := #[.int .i64 0, .int .i64 0]) ?_ 0 _ rfl; (with_reducible repeat (first | refine bN ?_ _ | refine bD ?_ | refine bA ?_ _)); exact iY.out) Try.underlying28 rfl (by kernel_rfl)) rfl ?_
    exact ⟨xre, xq HB⟩
  rw [if_neg c2] at H
  have aW6 : decide (40 < (aD.length : Int)) = false := decide_eq_false c2
  have bEc : decide (40 < aD.length) = false := decide_eq_false (by omega)
  clear c2
  have H' := aZ H
  clear H
  go_enter Try.func16, Try.ntmps16
  go_wp2_with (first | ((with_reducible refine gate_dst (N := 1) rfl ?_); refine box_event ?hg (N := 1) ?hd (cs := #[.slice bP aD.length bK]) (t := 24) ?hr ?_; (case hd => rfl); (case hg => rfl); (case hr => first | (go_simp; done) | (go_simp; rfl)); intro aOo hg w10 hbox hb; have iI := aZ (hbox); have fY3 := xgh hg HB; have fY4 := xgh hg HB; replace HB := xhl HB hb; clear hb hbox hg) | ((with_reducible refine gate_dst (N := 2) rfl ?_); refine box_event ?hg (N := 2) ?hd (cs := #[.int .i64 0, .int .i64 0]) (t := 28) ?hr ?_; (case hd => rfl); (case hg => rfl); (case hr => first | (go_simp; done) | (go_simp; rfl)); intro aNt hg w11 hbox hb; have iY := aZ (hbox); have fY5 := xgh hg HB; have fY6 := xgh hg HB; replace HB := xhl HB hb; have aKf := xnl hg iI; have aKg := xng hg iI; replace iI := xbb iI hb; clear hb hbox hg; have dPk := aKf.out; have dPl := aKg.out; have bCd : w11.cell? ⟨aOo, 0, none⟩ = some (.slice bP aD.length bK) := (blk_cell iI.out 0).trans rfl; have bCe := blk_frozen iI.out 0))
  go_loopg [3] k (fun kq v3 w' => ∃ (cK : Int) (yG : Int) (uF : Int), v3 = .int .i64 cK ∧ Aside0 (aH.l0 kq cK aD = some (r1, r2)) ∧ Aside0 (kq ≤ k) ∧ Aside0 (w'.heap[aOo]? = some (.cells #[(.slice bP aD.length bK)] 24 (0, 0))) ∧ Aside0 (w'.heap[aNt]? = some (.cells #[.int .i64 yG, .int .i64 uF] 28 (0, 0))) ∧ Aside0 (Below w.heap.size w w'))
  case atStart => exact ⟨(0), (0), (0), xrs, H', ⟨Nat.le_refl _⟩, xk iI, xk iY, xb HB⟩
  case round =>
   clear H'
   (try clear c2); (try clear aW6); (try clear bEc); (try clear bCd); (try clear bCe)
   obtain ⟨cK, yG, uF, rfl, HA, yS, iI, iY, HB⟩ := hrel
   cases gk with
   | zero => exact absurd HA.out (by simp [aH.l0])
   | succ k1 =>
    have H := HA.out
    clear HA
    simp only [aH.l0] at H
    by_cases c14 : cK < (aD.length : Int)
    rotate_left
    · rw [if_neg c14] at H
      have bEd : decide (cK < (aD.length : Int)) = false := decide_eq_false c14
      clear c14
      simp only [Option.some.injEq, Prod.mk.injEq] at H
      obtain ⟨rfl, rfl⟩ := H
      have bM0 := aKf.out
      have bM1 := aKg.out
      have bP1 : wr.cell? ⟨aOo, 0, none⟩ = some (.slice bP aD.length bK) := (blk_cell iI.out 0).trans rfl
      have bP2 := blk_frozen iI.out 0
      have cKm : wr.cell? ⟨aNt, 0, none⟩ = some (.int .i64 yG) := (blk_cell iY.out 0).trans rfl
      have cKn : wr.cell? ⟨aNt, 1, none⟩ = some (.int .i64 uF) := (blk_cell iY.out 1).trans rfl
      have cKo := blk_frozen iY.out 0
      have cKp := blk_frozen iY.out 1
      go_wp2
      refine bodyPost_ret (results_cell_row rfl _ _ aNt 28 #[.int .i64 0, .int .i64 0] (0, 0) _ rfl (by (with_reducible repeat (first | refine bN ?_ _ | refine bD ?_ | refine bA ?_ _)); refine blk_put (cs := #[.int .i64 0, .int .i64 uF]) ?_ 1 _ rfl; (with_reducible repeat (first | refine bN ?_ _ | refine bD ?_ | refine bA ?_ _)); refine blk_put (cs := #[.int .i64 yG, .int .i64 uF]) ?_ 0 _ rfl; (with_reducible repeat (first | refine bN ?_ _ | refine bD ?_ | refine bA ?_ _)); exact iY.out) Try.underlying28 rfl (by kernel_rfl)) rfl ?_
      exact ⟨xre, xq HB⟩

    rw [if_pos c14] at H
    have bEd : decide (cK < (aD.length : Int)) = true := decide_eq_true c14
    clear c14
    by_cases c15 : 0 ≤ cK
    rotate_left
    · rw [if_neg c15] at H
      exact absurd H (by simp)
    rw [if_pos c15] at H
    have cHn : decide (0 ≤ cK) = true := decide_eq_true c15
    clear c15
    replace H := Option.bind_eq_some_iff.mp H
    obtain ⟨⟨aDr, aP8⟩, eEl, H⟩ := H
    replace H : (if aDr = 0 then ((aV.f k1 ((aA aD cK).f1.f0) ((aA aD cK).f1.f1) ((aA aD cK).f1.f2)).bind fun bXa => (if bXa = ((aA aD cK).f0) then (if cK > 0 then (if 0 ≤ (wrap64 (cK - 1)) then (if (wrap64 (cK - 1)) < (aD.length : Int) then (if ((aA aD cK).f0) ≤ ((aA aD (wrap64 (cK - 1))).f0) then ((aT.f 5 cK).bind fun bNf => (some (bNf.1, bNf.2))) else (aH.l0 k1 (wrap64 (cK + 1)) aD)) else (none)) else (none)) else (aH.l0 k1 (wrap64 (cK + 1)) aD)) else ((aT.f 18 cK).bind fun cHm => (some (cHm.1, cHm.2))))) else ((aT.f aDr cK).bind fun dFs => (some (dFs.1, dFs.2)))) = some (r1, r2) := H
    have A16 := aZ eEl
    clear eEl
    by_cases c17 : aDr = 0
    rotate_left
    · rw [if_neg c17] at H
      have dFu : (aDr == 0) = false := beq_eq_false_iff_ne.mpr c17
      have fBa : (aDr != 0) = true := bne_iff_ne.mpr c17
      replace H := Option.bind_eq_some_iff.mp H
      obtain ⟨⟨eS0, fHl⟩, fY7, H⟩ := H
      replace H : (some (eS0, fHl)) = some (r1, r2) := H
      have A74 := aZ fY7
      clear fY7
      simp only [Option.some.injEq, Prod.mk.injEq] at H
      obtain ⟨rfl, rfl⟩ := H
      have bM7 := aKf.out
      have bM8 := aKg.out
      have bJe : wr.cell? ⟨aOo, 0, none⟩ = some (.slice bP aD.length bK) := (blk_cell iI.out 0).trans rfl
      have bJf := blk_frozen iI.out 0
      have bJh : 0 ≤ (cK : Int) := of_decide_eq_true xas
      have bJi : cK < (aD.length : Int) := of_decide_eq_true xas
      obtain ⟨iW, bJj, bJk, bJl, bJm, cX0, aHu, aHv, aHw, aHx, aHy, aHz, aH0, aH1⟩ := gY fI.out cK bJh bJi
      cases cX0
      replace aHu := xcl HB aHu
      replace aHv := xcl HB aHv
      replace aHw := xcl HB aHw
      replace aHx := xcl HB aHx
      have aXc := aZ aHz
      have aXd := aZ aHy
      clear aHz aHy
      have aXe := aZ aH1
      have aXf := aZ aH0
      clear aH1 aH0
      replace bJh := eq_true bJh
      replace bJi := eq_true bJi
      go_wp2_with (first | ((with_reducible refine gate_callee (f := 30) rfl ?_); refine goesL_ (some 23) rfl rfl Try.func30 (by kernel_rfl) rfl #[.agg #[.int .i64 ((aA aD cK).f1.f0), .slice bJj ((aA aD cK).f1.f1).length bJk, .slice bJl ((aA aD cK).f1.f2).length bJm]] rfl xmp ?_; (with_reducible refine (aK.calls k1 ((aA aD cK).f1.f0) _ _ ((aA aD cK).f1.f1) _ _ ((aA aD cK).f1.f2) aDr aP8 _ ?side1 ?side2 ?side3 ?side4 A16.out).mono ?_); (case side1 => exact xcb aXc HB); (case side2 => exact aXd.out); (case side3 => exact xcb aXe HB); (case side4 => exact aXf.out); rintro e w77 ⟨rfl, hb⟩; refine ⟨_, rfl, ?_⟩; replace iI := xbb iI hb; replace iY := xbb iY hb; replace HB := xhl HB hb; skip; (try clear hb); (try clear iV); (try clear hk); (try clear hi)) | ((with_reducible refine gate_dst (N := 4) rfl ?_); refine box_event ?hg (N := 4) ?hd (cs := #[.int .i64 0, .int .i64 0]) (t := 28) ?hr ?_; (case hd => rfl); (case hg => rfl); (case hr => first | (go_simp; done) | (go_simp; rfl)); intro qC hg w78 hbox hb; have nW := aZ (hbox); have dSl := xgh hg HB; have dSm := xgh hg HB; replace HB := xhl HB hb; have aKh := xnl hg iI; have aKi := xng hg iI; replace iI := xbb iI hb; have aKj := xnl hg iY; have aKk := xng hg iY; replace iY := xbb iY hb; clear hb hbox hg; have cHg := aKi.out; have cHh := aKh.out; have bWn := aKk.out; have bWo := aKj.out; have bXb : w78.cell? ⟨qC, 0, none⟩ = some (.int .i64 0) := (blk_cell nW.out 0).trans rfl; have dSn : w78.cell? ⟨qC, 1, none⟩ = some (.int .i64 0) := (blk_cell nW.out 1).trans rfl; have bXc := blk_frozen nW.out 0; have dSo := blk_frozen nW.out 1) | ((with_reducible refine gate_callee (f := 18) rfl ?_); refine goesL_ (some 30) rfl rfl Try.func18 (by kernel_rfl) rfl #[.int .i64 aDr, .int .i64 cK] rfl xmp ?_; (with_reducible refine (aT.calls aDr cK eS0 fHl _ A74.out).mono ?_); rintro e w82 ⟨rfl, hb⟩; refine ⟨_, rfl, ?_⟩; replace iI := xbb iI hb; replace iY := xbb iY hb; replace nW := aZ (blk_below (g := qC) (o := .cells #[.int .i64 aDr, .int .i64 aP8] 28 (0, 0)) (by (with_reducible repeat (first | refine bN ?_ _ | refine bD ?_ | refine bA ?_ _)); refine blk_put (cs := #[.int .i64 aDr, .int .i64 0]) ?_ 1 _ rfl; (with_reducible repeat (first | refine bN ?_ _ | refine bD ?_ | refine bA ?_ _)); refine blk_put (cs := #[.int .i64 0, .int .i64 0]) ?_ 0 _ rfl; (with_reducible repeat (first | refine bN ?_ _ | refine bD ?_ | refine bA ?_ _)); exact nW.out) hb); replace HB := xhl HB hb; (try clear hb); (try clear iV); (try clear hk); (try clear hi); have cXq : w82.cell? ⟨aNt, 0, none⟩ = some (.int .i64 yG) := (blk_cell iY.out 0).trans rfl; have dRb : w82.cell? ⟨aNt, 1, none⟩ = some (.int .i64 uF) := (blk_cell iY.out 1).trans rfl; have cXr := blk_frozen iY.out 0; have dRc := blk_frozen iY.out 1))
      refine bodyPost_ret (results_cell_row rfl _ _ aNt 28 #[.int .i64 eS0, .int .i64 fHl] (0, 0) _ rfl (by (with_reducible repeat (first | refine bN ?_ _ | refine bD ?_ | refine bA ?_ _)); refine blk_put (cs := #[.int .i64 eS0, .int .i64 uF]) ?_ 1 _ rfl; (with_reducible repeat (first | refine bN ?_ _ | refine bD ?_ | refine bA ?_ _)); refine blk_put (cs := #[.int .i64 yG, .int .i64 uF]) ?_ 0 _ rfl; (with_reducible repeat (first | refine bN ?_ _ | refine bD ?_ | refine bA ?_ _)); exact iY.out) Try.underlying28 rfl (by kernel_rfl)) rfl ?_
      exact ⟨xre, xq HB⟩
    rw [if_pos c17] at H
    have dFu : (aDr == 0) = true := beq_iff_eq.mpr c17
    have fBa : (aDr != 0) = false := bne_eq_false_iff_eq.mpr c17
    clear c17
    replace H := Option.bind_eq_some_iff.mp H
    obtain ⟨bXa, bW9, H⟩ := H
    replace H : (if bXa = ((aA aD cK).f0) then (if cK > 0 then (if 0 ≤ (wrap64 (cK - 1)) then (if (wrap64 (cK - 1)) < (aD.length : Int) then (if ((aA aD cK).f0) ≤ ((aA aD (wrap64 (cK - 1))).f0) then ((aT.f 5 cK).bind fun bNf => (some (bNf.1, bNf.2))) else (aH.l0 k1 (wrap64 (cK + 1)) aD)) else (none)) else (none)) else (aH.l0 k1 (wrap64 (cK + 1)) aD)) else ((aT.f 18 cK).bind fun cHm => (some (cHm.1, cHm.2)))) = some (r1, r2) := H
    have A18 := aZ bW9
    clear bW9
    by_cases c19 : bXa = ((aA aD cK).f0)
    rotate_left
    · rw [if_neg c19] at H
      have dFw : (bXa == ((aA aD cK).f0)) = false := beq_eq_false_iff_ne.mpr c19
      have fY9 : (bXa != ((aA aD cK).f0)) = true := bne_iff_ne.mpr c19
      replace H := Option.bind_eq_some_iff.mp H
      obtain ⟨⟨eS1, fHm⟩, eEm, H⟩ := H
      replace H : (some (eS1, fHm)) = some (r1, r2) := H
      have A61 := aZ eEm
      clear eEm
      simp only [Option.some.injEq, Prod.mk.injEq] at H
      obtain ⟨rfl, rfl⟩ := H
      have cTc := aKf.out
      have cTd := aKg.out
      have dSp : wr.cell? ⟨aOo, 0, none⟩ = some (.slice bP aD.length bK) := (blk_cell iI.out 0).trans rfl
      have dSq := blk_frozen iI.out 0
      have bJh : 0 ≤ (cK : Int) := of_decide_eq_true xas
      have bJi : cK < (aD.length : Int) := of_decide_eq_true xas
      obtain ⟨iW, bJj, bJk, bJl, bJm, cX0, aHu, aHv, aHw, aHx, aHy, aHz, aH0, aH1⟩ := gY fI.out cK bJh bJi
      cases cX0
      replace aHu := xcl HB aHu
      replace aHv := xcl HB aHv
      replace aHw := xcl HB aHw
      replace aHx := xcl HB aHx
      have aXc := aZ aHz
      have aXd := aZ aHy
      clear aHz aHy
      have aXe := aZ aH1
      have aXf := aZ aH0
      clear aH1 aH0
      replace bJh := eq_true bJh
      replace bJi := eq_true bJi
      try go_wp2_with (first | ((with_reducible refine gate_callee (f := 30) rfl ?_); refine goesL_ (some 23) rfl rfl Try.func30 (by kernel_rfl) rfl #[.agg #[.int .i64 ((aA aD cK).f1.f0), .slice bJj ((aA aD cK).f1.f1).length bJk, .slice bJl ((aA aD cK).f1.f2).length bJm]] rfl xmp ?_; (with_reducible refine (aK.calls k1 ((aA aD cK).f1.f0) _ _ ((aA aD cK).f1.f1) _ _ ((aA aD cK).f1.f2) aDr aP8 _ ?side1 ?side2 ?side3 ?side4 A16.out).mono ?_); (case side1 => exact xcb aXc HB); (case side2 => exact aXd.out); (case side3 => exact xcb aXe HB); (case side4 => exact aXf.out); rintro e w64 ⟨rfl, hb⟩; refine ⟨_, rfl, ?_⟩; replace iI := xbb iI hb; replace iY := xbb iY hb; replace HB := xhl HB hb; skip; (try clear hb); (try clear iV); (try clear hk); (try clear hi)) | ((with_reducible refine gate_dst (N := 4) rfl ?_); refine box_event ?hg (N := 4) ?hd (cs := #[.int .i64 0, .int .i64 0]) (t := 28) ?hr ?_; (case hd => rfl); (case hg => rfl); (case hr => first | (go_simp; done) | (go_simp; rfl)); intro qC hg w65 hbox hb; have nW := aZ (hbox); have dSl := xgh hg HB; have dSm := xgh hg HB; replace HB := xhl HB hb; have aKh := xnl hg iI; have aKi := xng hg iI; replace iI := xbb iI hb; have aKj := xnl hg iY; have aKk := xng hg iY; replace iY := xbb iY hb; clear hb hbox hg; have bWg := aKi.out; have bWh := aKh.out; have cG8 := aKk.out; have cG9 := aKj.out; have bI7 : w65.cell? ⟨qC, 0, none⟩ = some (.int .i64 0) := (blk_cell nW.out 0).trans rfl; have dP5 : w65.cell? ⟨qC, 1, none⟩ = some (.int .i64 0) := (blk_cell nW.out 1).trans rfl; have bI8 := blk_frozen nW.out 0; have dP6 := blk_frozen nW.out 1))
      replace iI : Aside0 (((w65.setCell ⟨qC, 0, none⟩ (.int .i64 aDr)).setCell ⟨qC, 1, none⟩ (.int .i64 aP8)).heap[aOo]? = some (.cells #[.slice (some iW) aD.length bK] 24 (0, 0))) := xk iI
      replace iY : Aside0 (((w65.setCell ⟨qC, 0, none⟩ (.int .i64 aDr)).setCell ⟨qC, 1, none⟩ (.int .i64 aP8)).heap[aNt]? = some (.cells #[.int .i64 yG, .int .i64 uF] 28 (0, 0))) := xk iY
      replace nW : Aside0 (((w65.setCell ⟨qC, 0, none⟩ (.int .i64 aDr)).setCell ⟨qC, 1, none⟩ (.int .i64 aP8)).heap[qC]? = some (.cells #[.int .i64 aDr, .int .i64 aP8] 28 (0, 0))) := ⟨by (with_reducible repeat (first | refine bN ?_ _ | refine bD ?_ | refine bA ?_ _)); refine blk_put (cs := #[.int .i64 aDr, .int .i64 0]) ?_ 1 _ rfl; (with_reducible repeat (first | refine bN ?_ _ | refine bD ?_ | refine bA ?_ _)); refine blk_put (cs := #[.int .i64 0, .int .i64 0]) ?_ 0 _ rfl; (with_reducible repeat (first | refine bN ?_ _ | refine bD ?_ | refine bA ?_ _)); exact nW.out⟩
      replace HB : Aside0 (Below w.heap.size w ((w65.setCell ⟨qC, 0, none⟩ (.int .i64 aDr)).setCell ⟨qC, 1, none⟩ (.int .i64 aP8))) := xb HB
      generalize ((w65.setCell ⟨qC, 0, none⟩ (.int .i64 aDr)).setCell ⟨qC, 1, none⟩ (.int .i64 aP8)) = w69 at iI iY nW HB ⊢
      replace iI := aZ (bD iI.out)
      replace iY := aZ (bD iY.out)
      replace nW := aZ (bD nW.out)
      replace HB := aZ (lD HB.out)
      have bUc : 0 ≤ (cK : Int) := of_decide_eq_true xas
      have bUd : cK < (aD.length : Int) := of_decide_eq_true xas
      obtain ⟨cOd, aOa, aOb, aOc, aOd, dK2, aA6, aA7, xP, xQ, aQt, aQu, aQv, aQw⟩ := gY fI.out cK bUc bUd
      have aQx := xQ
      have aQy := xP
      have aQz := aA7
      have aQ0 := aA6
      obtain rfl : iW = cOd := (by injection dK2)
      replace aA6 := xcl HB aA6
      replace aA7 := xcl HB aA7
      replace xP := xcl HB xP
      replace xQ := xcl HB xQ
      have aQ1 := aZ aQu
      have bJn := aZ aQt
      clear aQu aQt
      have aQ2 := aZ aQw
      have bJo := aZ aQv
      clear aQw aQv
      replace bUc := eq_true bUc
      replace bUd := eq_true bUd
      have bUe : 0 ≤ (cK : Int) := of_decide_eq_true xas
      have bUf : cK < (aD.length : Int) := of_decide_eq_true xas
      obtain ⟨cOe, dK3, dK4, dK5, dK6, dK7, aA8, aA9, xU, xW, aQ3, aQ4, aQ5, aQ6⟩ := gY fI.out cK bUe bUf
      have aQ7 := xW
      have aQ8 := xU
      have aQ9 := aA9
      have aRa := aA8
      obtain rfl : iW = cOe := (by injection dK7)
      replace aA8 := xcl HB aA8
      replace aA9 := xcl HB aA9
      replace xU := xcl HB xU
      replace xW := xcl HB xW
      have bJp := aZ aQ4
      have cX1 := aZ aQ3
      clear aQ4 aQ3
      have bJq := aZ aQ6
      have cX2 := aZ aQ5
      clear aQ6 aQ5
      replace bUe := eq_true bUe
      replace bUf := eq_true bUf
      have ea_ := Option.some.inj (xP.symm.trans xU)
      injection ea_ with ea_ en_ ec_
      subst ea_
      subst ec_
      clear en_
      have ea_ := Option.some.inj (xQ.symm.trans xW)
      injection ea_ with ea_ en_ ec_
      subst ea_
      subst ec_
      clear en_
      refine start_ (n := 14) (S := fun w' => w'.cell? ⟨aOo, 0, none⟩ = some (.slice (some iW) aD.length bK) ∧ w'.cell? (iW.add ((cK).toNat * 4)) = some (.int .i64 ((aA aD cK).f0)) ∧ w'.cell? ⟨(iW.add ((cK).toNat * 4)).block, (iW.add ((cK).toNat * 4)).off + 1, none⟩ = some (.int .i64 ((aA aD cK).f1.f0)) ∧ w'.cell? ⟨(iW.add ((cK).toNat * 4)).block, (iW.add ((cK).toNat * 4)).off + 2, none⟩ = some (.slice aOa ((aA aD cK).f1.f1).length aOb) ∧ w'.cell? ⟨(iW.add ((cK).toNat * 4)).block, (iW.add ((cK).toNat * 4)).off + 3, none⟩ = some (.slice aOc ((aA aD cK).f1.f2).length aOd) ∧ w'.cell? (iW.add ((cK).toNat * 4)) = some (.int .i64 ((aA aD cK).f0)) ∧ w'.cell? ⟨(iW.add ((cK).toNat * 4)).block, (iW.add ((cK).toNat * 4)).off + 1, none⟩ = some (.int .i64 ((aA aD cK).f1.f0)) ∧ w'.cell? ⟨(iW.add ((cK).toNat * 4)).block, (iW.add ((cK).toNat * 4)).off + 2, none⟩ = some (.slice aOa ((aA aD cK).f1.f1).length aOb) ∧ w'.cell? ⟨(iW.add ((cK).toNat * 4)).block, (iW.add ((cK).toNat * 4)).off + 3, none⟩ = some (.slice aOc ((aA aD cK).f1.f2).length aOd)) (ds := []) Z1 (by kernel_rfl) rfl rfl ⟨(blk_cell iI.out 0).trans rfl, (xcl HB aQ0), (xcl HB aQz), (xcl HB aQy), (xcl HB aQx), (xcl HB aRa), (xcl HB aQ9), (xcl HB aQ8), (xcl HB aQ7)⟩ (fun hHeld => ?_); refine with_tabW aH.tab9 aH.bits9 (fun HT_ HW_ => ?_)
      generalize w69.drew = w70 at iI iY nW HB aQ1 aQ2 bJp bJq aA6 aA7 xP xQ aA8 aA9 xU xW hHeld ⊢
      refine pu 0 31 Z2 HT_ rfl rfl (h := ?_)
      refine pu 2 33 Z3 HT_ rfl rfl (h := ?_)
      refine pu 7 38 Z4 HT_ rfl rfl (h := ?_)
      refine pu 9 40 Z5 HT_ rfl rfl (h := ?_)
      refine tk 1 32 Z6 HT_ HW_ rfl rfl hHeld (by rintro w' ⟨s0, s1, s2, s3, s4, s5, s6, s7, s8⟩; go_simp; with_reducible rfl) (h := ?_)
      refine pu 3 34 Z7 HT_ rfl rfl (h := ?_)
      refine pu 4 35 Z8 HT_ rfl rfl (h := ?_)
      refine tk 5 36 Z9 HT_ HW_ rfl rfl hHeld (by rintro w' ⟨s0, s1, s2, s3, s4, s5, s6, s7, s8⟩; go_simp; with_reducible rfl) (h := ?_)
      refine tk 8 39 Z10 HT_ HW_ rfl rfl hHeld (by rintro w' ⟨s0, s1, s2, s3, s4, s5, s6, s7, s8⟩; go_simp; with_reducible rfl) (h := ?_)
      refine pu 10 41 Z11 HT_ rfl rfl (h := ?_)
      refine pu 11 42 Z12 HT_ rfl rfl (h := ?_)
      refine tk 12 43 Z13 HT_ HW_ rfl rfl hHeld (by rintro w' ⟨s0, s1, s2, s3, s4, s5, s6, s7, s8⟩; go_simp; with_reducible rfl) (h := ?_)
      refine one_ (i := 6) (N := some 37) Z14 rfl rfl (one_of HT_.out (by kernel_rfl)) (by decide) (fun K hK => ?_)
      refine goes_ Try.func31 (by kernel_rfl) rfl #[.agg #[.int .i64 ((aA aD cK).f1.f0), .slice aOa ((aA aD cK).f1.f1).length aOb, .slice aOc ((aA aD cK).f1.f2).length aOd]] (by rfl) rfl rfl xmp ?_
      with_reducible refine (aV.calls k1 ((aA aD cK).f1.f0) _ _ ((aA aD cK).f1.f1) _ _ ((aA aD cK).f1.f2) bXa _ ?side1 ?side2 ?side3 ?side4 A18.out).mono ?_
      (case side1 => exact xcb aQ1 HB)
      (case side2 => exact bJn.out)
      (case side3 => exact xcb aQ2 HB)
      (case side4 => exact bJo.out)
      rintro e w71 ⟨rfl, hb⟩
      refine ⟨_, rfl, ?_⟩
      replace iI := xbb iI hb
      replace iY := xbb iY hb
      replace nW := xbb nW hb
      replace HB := xhl HB hb
      skip
      (try clear hb)
      (try clear iV)
      (try clear hk)
      (try clear hi)
      refine hK.out _ _ ⟨(blk_cell iI.out 0).trans rfl, (xcl HB aQ0), (xcl HB aQz), (xcl HB aQy), (xcl HB aQx), (xcl HB aRa), (xcl HB aQ9), (xcl HB aQ8), (xcl HB aQ7)⟩ (fun hHeld => ?_)
      clear hK K
      refine norm_ (a' := ?_) ?_ ?_
      rotate_left
      · show Act.put _ (some 37) _ = _
        simp only [Act.put, List.setIfInBounds_toArray, List.set_cons_zero, List.set_cons_succ, i64_w, i32_w]
        rfl
      refine pu 13 44 Z15 HT_ rfl rfl (h := ?_)
      refine done_ (done_of HT_.out (by kernel_rfl)) ?_
      try go_wp2_with (first | ((with_reducible refine gate_callee (f := 18) rfl ?_); refine goesL_ (some 46) rfl rfl Try.func18 (by kernel_rfl) rfl #[.int .i64 18, .int .i64 cK] rfl xmp ?_; (with_reducible refine (aT.calls 18 cK eS1 fHm _ A61.out).mono ?_); rintro e w72 ⟨rfl, hb⟩; refine ⟨_, rfl, ?_⟩; replace iI := xbb iI hb; replace iY := xbb iY hb; replace nW := xbb nW hb; replace HB := xhl HB hb; skip; (try clear hb); (try clear iV); (try clear hk); (try clear hi); have dSr : w72.cell? ⟨aNt, 0, none⟩ = some (.int .i64 yG) := (blk_cell iY.out 0).trans rfl; have eS2 : w72.cell? ⟨aNt, 1, none⟩ = some (.int .i64 uF) := (blk_cell iY.out 1).trans rfl; have dSs := blk_frozen iY.out 0; have eS3 := blk_frozen iY.out 1))
      refine bodyPost_ret (results_cell_row rfl _ _ aNt 28 #[.int .i64 eS1, .int .i64 fHm] (0, 0) _ rfl (by (with_reducible repeat (first | refine bN ?_ _ | refine bD ?_ | refine bA ?_ _)); refine blk_put (cs := #[.int .i64 eS1, .int .i64 uF]) ?_ 1 _ rfl; (with_reducible repeat (first | refine bN ?_ _ | refine bD ?_ | refine bA ?_ _)); refine blk_put (cs := #[.int .i64 yG, .int .i64 uF]) ?_ 0 _ rfl; (with_reducible repeat (first | refine bN ?_ _ | refine bD ?_ | refine bA ?_ _)); exact iY.out) Try.underlying28 rfl (by kernel_rfl)) rfl ?_
      exact ⟨xre, xq HB⟩
    rw [if_pos c19] at H
    have dFw : (bXa == ((aA aD cK).f0)) = true := beq_iff_eq.mpr c19
    have fY9 : (bXa != ((aA aD cK).f0)) = false := bne_eq_false_iff_eq.mpr c19
    clear c19
    by_cases c20 : cK > 0
    rotate_left
    · rw [if_neg c20] at H
      have dSt : decide (0 < cK) = false := decide_eq_false c20
      clear c20
      have H' := aZ H
      clear H
      have bSm := aKf.out
      have bSn := aKg.out
      have bXd : wr.cell? ⟨aOo, 0, none⟩ = some (.slice bP aD.length bK) := (blk_cell iI.out 0).trans rfl
      have cX3 := blk_frozen iI.out 0
      have bJh : 0 ≤ (cK : Int) := of_decide_eq_true xas
      have bJi : cK < (aD.length : Int) := of_decide_eq_true xas
      obtain ⟨iW, bJj, bJk, bJl, bJm, cX0, aHu, aHv, aHw, aHx, aHy, aHz, aH0, aH1⟩ := gY fI.out cK bJh bJi
      cases cX0
      replace aHu := xcl HB aHu
      replace aHv := xcl HB aHv
      replace aHw := xcl HB aHw
      replace aHx := xcl HB aHx
      have aXc := aZ aHz
      have aXd := aZ aHy
      clear aHz aHy
      have aXe := aZ aH1
      have aXf := aZ aH0
      clear aH1 aH0
      replace bJh := eq_true bJh
      replace bJi := eq_true bJi
      try go_wp2_with (first | ((with_reducible refine gate_callee (f := 30) rfl ?_); refine goesL_ (some 23) rfl rfl Try.func30 (by kernel_rfl) rfl #[.agg #[.int .i64 ((aA aD cK).f1.f0), .slice bJj ((aA aD cK).f1.f1).length bJk, .slice bJl ((aA aD cK).f1.f2).length bJm]] rfl xmp ?_; (with_reducible refine (aK.calls k1 ((aA aD cK).f1.f0) _ _ ((aA aD cK).f1.f1) _ _ ((aA aD cK).f1.f2) aDr aP8 _ ?side1 ?side2 ?side3 ?side4 A16.out).mono ?_); (case side1 => exact xcb aXc HB); (case side2 => exact aXd.out); (case side3 => exact xcb aXe HB); (case side4 => exact aXf.out); rintro e w52 ⟨rfl, hb⟩; refine ⟨_, rfl, ?_⟩; replace iI := xbb iI hb; replace iY := xbb iY hb; replace HB := xhl HB hb; skip; (try clear hb); (try clear iV); (try clear hk); (try clear hi)) | ((with_reducible refine gate_dst (N := 4) rfl ?_); refine box_event ?hg (N := 4) ?hd (cs := #[.int .i64 0, .int .i64 0]) (t := 28) ?hr ?_; (case hd => rfl); (case hg => rfl); (case hr => first | (go_simp; done) | (go_simp; rfl)); intro qC hg w53 hbox hb; have nW := aZ (hbox); have dSl := xgh hg HB; have dSm := xgh hg HB; replace HB := xhl HB hb; have aKh := xnl hg iI; have aKi := xng hg iI; replace iI := xbb iI hb; have aKj := xnl hg iY; have aKk := xng hg iY; replace iY := xbb iY hb; clear hb hbox hg; have bCg := aKi.out; have bCh := aKh.out; have bNa := aKk.out; have bNb := aKj.out; have bOt : w53.cell? ⟨qC, 0, none⟩ = some (.int .i64 0) := (blk_cell nW.out 0).trans rfl; have bOu : w53.cell? ⟨qC, 1, none⟩ = some (.int .i64 0) := (blk_cell nW.out 1).trans rfl; have bOv := blk_frozen nW.out 0; have bOw := blk_frozen nW.out 1))
      replace iI : Aside0 (((w53.setCell ⟨qC, 0, none⟩ (.int .i64 aDr)).setCell ⟨qC, 1, none⟩ (.int .i64 aP8)).heap[aOo]? = some (.cells #[.slice (some iW) aD.length bK] 24 (0, 0))) := xk iI
      replace iY : Aside0 (((w53.setCell ⟨qC, 0, none⟩ (.int .i64 aDr)).setCell ⟨qC, 1, none⟩ (.int .i64 aP8)).heap[aNt]? = some (.cells #[.int .i64 yG, .int .i64 uF] 28 (0, 0))) := xk iY
      replace nW : Aside0 (((w53.setCell ⟨qC, 0, none⟩ (.int .i64 aDr)).setCell ⟨qC, 1, none⟩ (.int .i64 aP8)).heap[qC]? = some (.cells #[.int .i64 aDr, .int .i64 aP8] 28 (0, 0))) := ⟨by (with_reducible repeat (first | refine bN ?_ _ | refine bD ?_ | refine bA ?_ _)); refine blk_put (cs := #[.int .i64 aDr, .int .i64 0]) ?_ 1 _ rfl; (with_reducible repeat (first | refine bN ?_ _ | refine bD ?_ | refine bA ?_ _)); refine blk_put (cs := #[.int .i64 0, .int .i64 0]) ?_ 0 _ rfl; (with_reducible repeat (first | refine bN ?_ _ | refine bD ?_ | refine bA ?_ _)); exact nW.out⟩
      replace HB : Aside0 (Below w.heap.size w ((w53.setCell ⟨qC, 0, none⟩ (.int .i64 aDr)).setCell ⟨qC, 1, none⟩ (.int .i64 aP8))) := xb HB
      generalize ((w53.setCell ⟨qC, 0, none⟩ (.int .i64 aDr)).setCell ⟨qC, 1, none⟩ (.int .i64 aP8)) = w57 at iI iY nW HB ⊢
      replace iI := aZ (bD iI.out)
      replace iY := aZ (bD iY.out)
      replace nW := aZ (bD nW.out)
      replace HB := aZ (lD HB.out)
      have bUc : 0 ≤ (cK : Int) := of_decide_eq_true xas
      have bUd : cK < (aD.length : Int) := of_decide_eq_true xas
      obtain ⟨cOd, aOa, aOb, aOc, aOd, dK2, aA6, aA7, xP, xQ, aQt, aQu, aQv, aQw⟩ := gY fI.out cK bUc bUd
      have aQx := xQ
      have aQy := xP
      have aQz := aA7
      have aQ0 := aA6
      obtain rfl : iW = cOd := (by injection dK2)
      replace aA6 := xcl HB aA6
      replace aA7 := xcl HB aA7
      replace xP := xcl HB xP
      replace xQ := xcl HB xQ
      have aQ1 := aZ aQu
      have bJn := aZ aQt
      clear aQu aQt
      have aQ2 := aZ aQw
      have bJo := aZ aQv
      clear aQw aQv
      replace bUc := eq_true bUc
      replace bUd := eq_true bUd
      have bUe : 0 ≤ (cK : Int) := of_decide_eq_true xas
      have bUf : cK < (aD.length : Int) := of_decide_eq_true xas
      obtain ⟨cOe, dK3, dK4, dK5, dK6, dK7, aA8, aA9, xU, xW, aQ3, aQ4, aQ5, aQ6⟩ := gY fI.out cK bUe bUf
      have aQ7 := xW
      have aQ8 := xU
      have aQ9 := aA9
      have aRa := aA8
      obtain rfl : iW = cOe := (by injection dK7)
      replace aA8 := xcl HB aA8
      replace aA9 := xcl HB aA9
      replace xU := xcl HB xU
      replace xW := xcl HB xW
      have bJp := aZ aQ4
      have cX1 := aZ aQ3
      clear aQ4 aQ3
      have bJq := aZ aQ6
      have cX2 := aZ aQ5
      clear aQ6 aQ5
      replace bUe := eq_true bUe
      replace bUf := eq_true bUf
      have ea_ := Option.some.inj (xP.symm.trans xU)
      injection ea_ with ea_ en_ ec_
      subst ea_
      subst ec_
      clear en_
      have ea_ := Option.some.inj (xQ.symm.trans xW)
      injection ea_ with ea_ en_ ec_
      subst ea_
      subst ec_
      clear en_
      refine start_ (n := 14) (S := fun w' => w'.cell? ⟨aOo, 0, none⟩ = some (.slice (some iW) aD.length bK) ∧ w'.cell? (iW.add ((cK).toNat * 4)) = some (.int .i64 ((aA aD cK).f0)) ∧ w'.cell? ⟨(iW.add ((cK).toNat * 4)).block, (iW.add ((cK).toNat * 4)).off + 1, none⟩ = some (.int .i64 ((aA aD cK).f1.f0)) ∧ w'.cell? ⟨(iW.add ((cK).toNat * 4)).block, (iW.add ((cK).toNat * 4)).off + 2, none⟩ = some (.slice aOa ((aA aD cK).f1.f1).length aOb) ∧ w'.cell? ⟨(iW.add ((cK).toNat * 4)).block, (iW.add ((cK).toNat * 4)).off + 3, none⟩ = some (.slice aOc ((aA aD cK).f1.f2).length aOd) ∧ w'.cell? (iW.add ((cK).toNat * 4)) = some (.int .i64 ((aA aD cK).f0)) ∧ w'.cell? ⟨(iW.add ((cK).toNat * 4)).block, (iW.add ((cK).toNat * 4)).off + 1, none⟩ = some (.int .i64 ((aA aD cK).f1.f0)) ∧ w'.cell? ⟨(iW.add ((cK).toNat * 4)).block, (iW.add ((cK).toNat * 4)).off + 2, none⟩ = some (.slice aOa ((aA aD cK).f1.f1).length aOb) ∧ w'.cell? ⟨(iW.add ((cK).toNat * 4)).block, (iW.add ((cK).toNat * 4)).off + 3, none⟩ = some (.slice aOc ((aA aD cK).f1.f2).length aOd)) (ds := []) Z1 (by kernel_rfl) rfl rfl ⟨(blk_cell iI.out 0).trans rfl, (xcl HB aQ0), (xcl HB aQz), (xcl HB aQy), (xcl HB aQx), (xcl HB aRa), (xcl HB aQ9), (xcl HB aQ8), (xcl HB aQ7)⟩ (fun hHeld => ?_); refine with_tabW aH.tab9 aH.bits9 (fun HT_ HW_ => ?_)
      generalize w57.drew = w58 at iI iY nW HB aQ1 aQ2 bJp bJq aA6 aA7 xP xQ aA8 aA9 xU xW hHeld ⊢
      refine pu 0 31 Z2 HT_ rfl rfl (h := ?_)
      refine pu 2 33 Z3 HT_ rfl rfl (h := ?_)
      refine pu 7 38 Z4 HT_ rfl rfl (h := ?_)
      refine pu 9 40 Z5 HT_ rfl rfl (h := ?_)
      refine tk 1 32 Z6 HT_ HW_ rfl rfl hHeld (by rintro w' ⟨s0, s1, s2, s3, s4, s5, s6, s7, s8⟩; go_simp; with_reducible rfl) (h := ?_)
      refine pu 3 34 Z7 HT_ rfl rfl (h := ?_)
      refine pu 4 35 Z8 HT_ rfl rfl (h := ?_)
      refine tk 5 36 Z9 HT_ HW_ rfl rfl hHeld (by rintro w' ⟨s0, s1, s2, s3, s4, s5, s6, s7, s8⟩; go_simp; with_reducible rfl) (h := ?_)
      refine tk 8 39 Z10 HT_ HW_ rfl rfl hHeld (by rintro w' ⟨s0, s1, s2, s3, s4, s5, s6, s7, s8⟩; go_simp; with_reducible rfl) (h := ?_)
      refine pu 10 41 Z11 HT_ rfl rfl (h := ?_)
      refine pu 11 42 Z12 HT_ rfl rfl (h := ?_)
      refine tk 12 43 Z13 HT_ HW_ rfl rfl hHeld (by rintro w' ⟨s0, s1, s2, s3, s4, s5, s6, s7, s8⟩; go_simp; with_reducible rfl) (h := ?_)
      refine one_ (i := 6) (N := some 37) Z14 rfl rfl (one_of HT_.out (by kernel_rfl)) (by decide) (fun K hK => ?_)
      refine goes_ Try.func31 (by kernel_rfl) rfl #[.agg #[.int .i64 ((aA aD cK).f1.f0), .slice aOa ((aA aD cK).f1.f1).length aOb, .slice aOc ((aA aD cK).f1.f2).length aOd]] (by rfl) rfl rfl xmp ?_
      with_reducible refine (aV.calls k1 ((aA aD cK).f1.f0) _ _ ((aA aD cK).f1.f1) _ _ ((aA aD cK).f1.f2) bXa _ ?side1 ?side2 ?side3 ?side4 A18.out).mono ?_
      (case side1 => exact xcb aQ1 HB)
      (case side2 => exact bJn.out)
      (case side3 => exact xcb aQ2 HB)
      (case side4 => exact bJo.out)
      rintro e w59 ⟨rfl, hb⟩
      refine ⟨_, rfl, ?_⟩
      replace iI := xbb iI hb
      replace iY := xbb iY hb
      replace nW := xbb nW hb
      replace HB := xhl HB hb
      skip
      (try clear hb)
      (try clear iV)
      (try clear hk)
      (try clear hi)
      refine hK.out _ _ ⟨(blk_cell iI.out 0).trans rfl, (xcl HB aQ0), (xcl HB aQz), (xcl HB aQy), (xcl HB aQx), (xcl HB aRa), (xcl HB aQ9), (xcl HB aQ8), (xcl HB aQ7)⟩ (fun hHeld => ?_)
      clear hK K
      refine norm_ (a' := ?_) ?_ ?_
      rotate_left
      · show Act.put _ (some 37) _ = _
        simp only [Act.put, List.setIfInBounds_toArray, List.set_cons_zero, List.set_cons_succ, i64_w, i32_w]
        rfl
      refine pu 13 44 Z15 HT_ rfl rfl (h := ?_)
      refine done_ (done_of HT_.out (by kernel_rfl)) ?_
      try go_wp2
      replace iI := aZ (bD iI.out)
      replace iY := aZ (bD iY.out)
      replace nW := aZ (bD nW.out)
      replace HB := aZ (lD HB.out)
      refine start_ (n := 18) (S := fun w' => True) (ds := []) Z16 (by kernel_rfl) rfl rfl trivial (fun hHeld => ?_); refine with_tabW aH.tab11 aH.bits11 (fun HT_ HW_ => ?_)
      generalize w59.drew = w60 at iI iY nW HB hHeld ⊢
      refine pu 0 47 Z17 HT_ rfl rfl (h := ?_)
      refine pu 1 48 Z18 HT_ rfl rfl (h := ?_)
      refine pu 2 49 Z19 HT_ rfl rfl (h := ?_)
      refine pv 3 50 Z20 HT_ rfl rfl (h := ?_)
      refine pv 4 51 Z35 HT_ rfl rfl (h := ?_)
      refine pv 5 52 Z36 HT_ rfl rfl (h := ?_)
      refine pv 6 53 Z37 HT_ rfl rfl (h := ?_)
      refine pv 7 54 Z38 HT_ rfl rfl (h := ?_)
      refine pv 8 55 Z39 HT_ rfl rfl (h := ?_)
      refine pv 9 56 Z40 HT_ rfl rfl (h := ?_)
      refine pv 10 57 Z41 HT_ rfl rfl (h := ?_)
      refine pv 11 58 Z42 HT_ rfl rfl (h := ?_)
      refine pv 12 59 Z29 HT_ rfl rfl (h := ?_)
      refine pv 13 60 Z30 HT_ rfl rfl (h := ?_)
      refine pv 14 61 Z31 HT_ rfl rfl (h := ?_)
      refine pv 15 62 Z32 HT_ rfl rfl (h := ?_)
      refine pv 16 63 Z33 HT_ rfl rfl (h := ?_)
      refine pu 17 64 Z34 HT_ rfl rfl (h := ?_)
      refine done_ (done_of HT_.out (by kernel_rfl)) ?_
      try go_wp2
      go_roundg k1
      case measure => have := yS.out; omega
      case rel => exact ⟨(wrap64 (cK + 1)), (yG), (uF), xrs, H', ⟨by have := yS.out; omega⟩, xk iI, xk iY, xb HB⟩
    rw [if_pos c20] at H
    have dSt : decide (0 < cK) = true := decide_eq_true c20
    clear c20
    obtain ⟨aFr, cTe⟩ : ∃ j_ : Int, (wrap64 (cK - 1)) = j_ := ⟨_, rfl⟩
    replace H : (if 0 ≤ (aFr) then (if (aFr) < (aD.length : Int) then (if ((aA aD cK).f0) ≤ ((aA aD (aFr)).f0) then ((aT.f 5 cK).bind fun bNf => (some (bNf.1, bNf.2))) else (aH.l0 k1 (wrap64 (cK + 1)) aD)) else (none)) else (none)) = some (r1, r2) := by first | (rw [cTe] at H; exact H) | (simp only [cTe] at H ⊢; exact H)
    (try rw [cTe] at A16)
    (try rw [cTe] at A18)
    have hJ6 : (IntKind.i64.wrap (cK - 1)) = aFr := (i64_w _).trans cTe
    by_cases c22 : 0 ≤ (aFr)
    rotate_left
    · rw [if_neg c22] at H
      exact absurd H (by simp)
    rw [if_pos c22] at H
    have eZ7 : decide (0 ≤ (aFr)) = true := decide_eq_true c22
    clear c22
    by_cases c23 : (aFr) < (aD.length : Int)
    rotate_left
    · rw [if_neg c23] at H
      exact absurd H (by simp)
    rw [if_pos c23] at H
    have cSh : decide ((aFr) < (aD.length : Int)) = true := decide_eq_true c23
    clear c23
    by_cases c24 : ((aA aD cK).f0) ≤ ((aA aD (aFr)).f0)
    rotate_left
    · rw [if_neg c24] at H
      have dDu : decide (((aA aD cK).f0) ≤ ((aA aD (aFr)).f0)) = false := decide_eq_false c24
      clear c24
      have H' := aZ H
      clear H
      have cSr := aKf.out
      have cSs := aKg.out
      have cWo : wr.cell? ⟨aOo, 0, none⟩ = some (.slice bP aD.length bK) := (blk_cell iI.out 0).trans rfl
      have cWp := blk_frozen iI.out 0
      have bJh : 0 ≤ (cK : Int) := of_decide_eq_true xas
      have bJi : cK < (aD.length : Int) := of_decide_eq_true xas
      obtain ⟨iW, bJj, bJk, bJl, bJm, cX0, aHu, aHv, aHw, aHx, aHy, aHz, aH0, aH1⟩ := gY fI.out cK bJh bJi
      cases cX0
      replace aHu := xcl HB aHu
      replace aHv := xcl HB aHv
      replace aHw := xcl HB aHw
      replace aHx := xcl HB aHx
      have aXc := aZ aHz
      have aXd := aZ aHy
      clear aHz aHy
      have aXe := aZ aH1
      have aXf := aZ aH0
      clear aH1 aH0
      replace bJh := eq_true bJh
      replace bJi := eq_true bJi
      try go_wp2_with (first | ((with_reducible refine gate_callee (f := 30) rfl ?_); refine goesL_ (some 23) rfl rfl Try.func30 (by kernel_rfl) rfl #[.agg #[.int .i64 ((aA aD cK).f1.f0), .slice bJj ((aA aD cK).f1.f1).length bJk, .slice bJl ((aA aD cK).f1.f2).length bJm]] rfl xmp ?_; (with_reducible refine (aK.calls k1 ((aA aD cK).f1.f0) _ _ ((aA aD cK).f1.f1) _ _ ((aA aD cK).f1.f2) aDr aP8 _ ?side1 ?side2 ?side3 ?side4 A16.out).mono ?_); (case side1 => exact xcb aXc HB); (case side2 => exact aXd.out); (case side3 => exact xcb aXe HB); (case side4 => exact aXf.out); rintro e w41 ⟨rfl, hb⟩; refine ⟨_, rfl, ?_⟩; replace iI := xbb iI hb; replace iY := xbb iY hb; replace HB := xhl HB hb; skip; (try clear hb); (try clear iV); (try clear hk); (try clear hi)) | ((with_reducible refine gate_dst (N := 4) rfl ?_); refine box_event ?hg (N := 4) ?hd (cs := #[.int .i64 0, .int .i64 0]) (t := 28) ?hr ?_; (case hd => rfl); (case hg => rfl); (case hr => first | (go_simp; done) | (go_simp; rfl)); intro qC hg w42 hbox hb; have nW := aZ (hbox); have dSl := xgh hg HB; have dSm := xgh hg HB; replace HB := xhl HB hb; have aKh := xnl hg iI; have aKi := xng hg iI; replace iI := xbb iI hb; have aKj := xnl hg iY; have aKk := xng hg iY; replace iY := xbb iY hb; clear hb hbox hg; have bLs := aKi.out; have bLt := aKh.out; have bLo := aKk.out; have bLp := aKj.out; have bPt : w42.cell? ⟨qC, 0, none⟩ = some (.int .i64 0) := (blk_cell nW.out 0).trans rfl; have dP0 : w42.cell? ⟨qC, 1, none⟩ = some (.int .i64 0) := (blk_cell nW.out 1).trans rfl; have bPu := blk_frozen nW.out 0; have dP1 := blk_frozen nW.out 1))
      replace iI : Aside0 (((w42.setCell ⟨qC, 0, none⟩ (.int .i64 aDr)).setCell ⟨qC, 1, none⟩ (.int .i64 aP8)).heap[aOo]? = some (.cells #[.slice (some iW) aD.length bK] 24 (0, 0))) := xk iI
      replace iY : Aside0 (((w42.setCell ⟨qC, 0, none⟩ (.int .i64 aDr)).setCell ⟨qC, 1, none⟩ (.int .i64 aP8)).heap[aNt]? = some (.cells #[.int .i64 yG, .int .i64 uF] 28 (0, 0))) := xk iY
      replace nW : Aside0 (((w42.setCell ⟨qC, 0, none⟩ (.int .i64 aDr)).setCell ⟨qC, 1, none⟩ (.int .i64 aP8)).heap[qC]? = some (.cells #[.int .i64 aDr, .int .i64 aP8] 28 (0, 0))) := ⟨by (with_reducible repeat (first | refine bN ?_ _ | refine bD ?_ | refine bA ?_ _)); refine blk_put (cs := #[.int .i64 aDr, .int .i64 0]) ?_ 1 _ rfl; (with_reducible repeat (first | refine bN ?_ _ | refine bD ?_ | refine bA ?_ _)); refine blk_put (cs := #[.int .i64 0, .int .i64 0]) ?_ 0 _ rfl; (with_reducible repeat (first | refine bN ?_ _ | refine bD ?_ | refine bA ?_ _)); exact nW.out⟩
      replace HB : Aside0 (Below w.heap.size w ((w42.setCell ⟨qC, 0, none⟩ (.int .i64 aDr)).setCell ⟨qC, 1, none⟩ (.int .i64 aP8))) := xb HB
      generalize ((w42.setCell ⟨qC, 0, none⟩ (.int .i64 aDr)).setCell ⟨qC, 1, none⟩ (.int .i64 aP8)) = w46 at iI iY nW HB ⊢
      replace iI := aZ (bD iI.out)
      replace iY := aZ (bD iY.out)
      replace nW := aZ (bD nW.out)
      replace HB := aZ (lD HB.out)
      have bUc : 0 ≤ (cK : Int) := of_decide_eq_true xas
      have bUd : cK < (aD.length : Int) := of_decide_eq_true xas
      obtain ⟨cOd, aOa, aOb, aOc, aOd, dK2, aA6, aA7, xP, xQ, aQt, aQu, aQv, aQw⟩ := gY fI.out cK bUc bUd
      have aQx := xQ
      have aQy := xP
      have aQz := aA7
      have aQ0 := aA6
      obtain rfl : iW = cOd := (by injection dK2)
      replace aA6 := xcl HB aA6
      replace aA7 := xcl HB aA7
      replace xP := xcl HB xP
      replace xQ := xcl HB xQ
      have aQ1 := aZ aQu
      have bJn := aZ aQt
      clear aQu aQt
      have aQ2 := aZ aQw
      have bJo := aZ aQv
      clear aQw aQv
      replace bUc := eq_true bUc
      replace bUd := eq_true bUd
      have bUe : 0 ≤ (cK : Int) := of_decide_eq_true xas
      have bUf : cK < (aD.length : Int) := of_decide_eq_true xas
      obtain ⟨cOe, dK3, dK4, dK5, dK6, dK7, aA8, aA9, xU, xW, aQ3, aQ4, aQ5, aQ6⟩ := gY fI.out cK bUe bUf
      have aQ7 := xW
      have aQ8 := xU
      have aQ9 := aA9
      have aRa := aA8
      obtain rfl : iW = cOe := (by injection dK7)
      replace aA8 := xcl HB aA8
      replace aA9 := xcl HB aA9
      replace xU := xcl HB xU
      replace xW := xcl HB xW
      have bJp := aZ aQ4
      have cX1 := aZ aQ3
      clear aQ4 aQ3
      have bJq := aZ aQ6
      have cX2 := aZ aQ5
      clear aQ6 aQ5
      replace bUe := eq_true bUe
      replace bUf := eq_true bUf
      have ea_ := Option.some.inj (xP.symm.trans xU)
      injection ea_ with ea_ en_ ec_
      subst ea_
      subst ec_
      clear en_
      have ea_ := Option.some.inj (xQ.symm.trans xW)
      injection ea_ with ea_ en_ ec_
      subst ea_
      subst ec_
      clear en_
      refine start_ (n := 14) (S := fun w' => w'.cell? ⟨aOo, 0, none⟩ = some (.slice (some iW) aD.length bK) ∧ w'.cell? (iW.add ((cK).toNat * 4)) = some (.int .i64 ((aA aD cK).f0)) ∧ w'.cell? ⟨(iW.add ((cK).toNat * 4)).block, (iW.add ((cK).toNat * 4)).off + 1, none⟩ = some (.int .i64 ((aA aD cK).f1.f0)) ∧ w'.cell? ⟨(iW.add ((cK).toNat * 4)).block, (iW.add ((cK).toNat * 4)).off + 2, none⟩ = some (.slice aOa ((aA aD cK).f1.f1).length aOb) ∧ w'.cell? ⟨(iW.add ((cK).toNat * 4)).block, (iW.add ((cK).toNat * 4)).off + 3, none⟩ = some (.slice aOc ((aA aD cK).f1.f2).length aOd) ∧ w'.cell? (iW.add ((cK).toNat * 4)) = some (.int .i64 ((aA aD cK).f0)) ∧ w'.cell? ⟨(iW.add ((cK).toNat * 4)).block, (iW.add ((cK).toNat * 4)).off + 1, none⟩ = some (.int .i64 ((aA aD cK).f1.f0)) ∧ w'.cell? ⟨(iW.add ((cK).toNat * 4)).block, (iW.add ((cK).toNat * 4)).off + 2, none⟩ = some (.slice aOa ((aA aD cK).f1.f1).length aOb) ∧ w'.cell? ⟨(iW.add ((cK).toNat * 4)).block, (iW.add ((cK).toNat * 4)).off + 3, none⟩ = some (.slice aOc ((aA aD cK).f1.f2).length aOd)) (ds := []) Z1 (by kernel_rfl) rfl rfl ⟨(blk_cell iI.out 0).trans rfl, (xcl HB aQ0), (xcl HB aQz), (xcl HB aQy), (xcl HB aQx), (xcl HB aRa), (xcl HB aQ9), (xcl HB aQ8), (xcl HB aQ7)⟩ (fun hHeld => ?_); refine with_tabW aH.tab9 aH.bits9 (fun HT_ HW_ => ?_)
      generalize w46.drew = w47 at iI iY nW HB aQ1 aQ2 bJp bJq aA6 aA7 xP xQ aA8 aA9 xU xW hHeld ⊢
      refine pu 0 31 Z2 HT_ rfl rfl (h := ?_)
      refine pu 2 33 Z3 HT_ rfl rfl (h := ?_)
      refine pu 7 38 Z4 HT_ rfl rfl (h := ?_)
      refine pu 9 40 Z5 HT_ rfl rfl (h := ?_)
      refine tk 1 32 Z6 HT_ HW_ rfl rfl hHeld (by rintro w' ⟨s0, s1, s2, s3, s4, s5, s6, s7, s8⟩; go_simp; with_reducible rfl) (h := ?_)
      refine pu 3 34 Z7 HT_ rfl rfl (h := ?_)
      refine pu 4 35 Z8 HT_ rfl rfl (h := ?_)
      refine tk 5 36 Z9 HT_ HW_ rfl rfl hHeld (by rintro w' ⟨s0, s1, s2, s3, s4, s5, s6, s7, s8⟩; go_simp; with_reducible rfl) (h := ?_)
      refine tk 8 39 Z10 HT_ HW_ rfl rfl hHeld (by rintro w' ⟨s0, s1, s2, s3, s4, s5, s6, s7, s8⟩; go_simp; with_reducible rfl) (h := ?_)
      refine pu 10 41 Z11 HT_ rfl rfl (h := ?_)
      refine pu 11 42 Z12 HT_ rfl rfl (h := ?_)
      refine tk 12 43 Z13 HT_ HW_ rfl rfl hHeld (by rintro w' ⟨s0, s1, s2, s3, s4, s5, s6, s7, s8⟩; go_simp; with_reducible rfl) (h := ?_)
      refine one_ (i := 6) (N := some 37) Z14 rfl rfl (one_of HT_.out (by kernel_rfl)) (by decide) (fun K hK => ?_)
      refine goes_ Try.func31 (by kernel_rfl) rfl #[.agg #[.int .i64 ((aA aD cK).f1.f0), .slice aOa ((aA aD cK).f1.f1).length aOb, .slice aOc ((aA aD cK).f1.f2).length aOd]] (by rfl) rfl rfl xmp ?_
      with_reducible refine (aV.calls k1 ((aA aD cK).f1.f0) _ _ ((aA aD cK).f1.f1) _ _ ((aA aD cK).f1.f2) bXa _ ?side1 ?side2 ?side3 ?side4 A18.out).mono ?_
      (case side1 => exact xcb aQ1 HB)
      (case side2 => exact bJn.out)
      (case side3 => exact xcb aQ2 HB)
      (case side4 => exact bJo.out)
      rintro e w48 ⟨rfl, hb⟩
      refine ⟨_, rfl, ?_⟩
      replace iI := xbb iI hb
      replace iY := xbb iY hb
      replace nW := xbb nW hb
      replace HB := xhl HB hb
      skip
      (try clear hb)
      (try clear iV)
      (try clear hk)
      (try clear hi)
      refine hK.out _ _ ⟨(blk_cell iI.out 0).trans rfl, (xcl HB aQ0), (xcl HB aQz), (xcl HB aQy), (xcl HB aQx), (xcl HB aRa), (xcl HB aQ9), (xcl HB aQ8), (xcl HB aQ7)⟩ (fun hHeld => ?_)
      clear hK K
      refine norm_ (a' := ?_) ?_ ?_
      rotate_left
      · show Act.put _ (some 37) _ = _
        simp only [Act.put, List.setIfInBounds_toArray, List.set_cons_zero, List.set_cons_succ, i64_w, i32_w]
        rfl
      refine pu 13 44 Z15 HT_ rfl rfl (h := ?_)
      refine done_ (done_of HT_.out (by kernel_rfl)) ?_
      try go_wp2
      replace iI := aZ (bD iI.out)
      replace iY := aZ (bD iY.out)
      replace nW := aZ (bD nW.out)
      replace HB := aZ (lD HB.out)
      have dK8 : 0 ≤ (cK : Int) := of_decide_eq_true xas
      have dK9 : cK < (aD.length : Int) := of_decide_eq_true xas
      obtain ⟨eEo, dLa, dLb, dLc, dLd, fHn, aXg, aXh, aXi, aXj, bXe, bXf, bXg, bXh⟩ := gY fI.out cK dK8 dK9
      have cX4 := aXj
      have cX5 := aXi
      have cX6 := aXh
      have cX7 := aXg
      obtain rfl : iW = eEo := (by injection fHn)
      replace aXg := xcl HB aXg
      replace aXh := xcl HB aXh
      replace aXi := xcl HB aXi
      replace aXj := xcl HB aXj
      have cX8 := aZ bXf
      have eS4 := aZ bXe
      clear bXf bXe
      have cX9 := aZ bXh
      have eS5 := aZ bXg
      clear bXh bXg
      replace dK8 := eq_true dK8
      replace dK9 := eq_true dK9
      have dLe : 0 ≤ ((aFr) : Int) := of_decide_eq_true xas
      have dLf : (aFr) < (aD.length : Int) := of_decide_eq_true xas
      obtain ⟨eEp, dLg, dLh, dLi, dLj, fHo, aXk, aXl, aXm, aXn, bXi, bXj, bXk, bXl⟩ := gY fI.out (aFr) dLe dLf
      have cYa := aXn
      have cYb := aXm
      have cYc := aXl
      have cYd := aXk
      obtain rfl : iW = eEp := (by injection fHo)
      replace aXk := xcl HB aXk
      replace aXl := xcl HB aXl
      replace aXm := xcl HB aXm
      replace aXn := xcl HB aXn
      have cYe := aZ bXj
      have eS6 := aZ bXi
      clear bXj bXi
      have cYf := aZ bXl
      have eS7 := aZ bXk
      clear bXl bXk
      replace dLe := eq_true dLe
      replace dLf := eq_true dLf
      refine start_ (n := 18) (S := fun w' => w'.cell? ⟨aOo, 0, none⟩ = some (.slice (some iW) aD.length bK) ∧ w'.cell? (iW.add ((cK).toNat * 4)) = some (.int .i64 ((aA aD cK).f0)) ∧ w'.cell? ⟨(iW.add ((cK).toNat * 4)).block, (iW.add ((cK).toNat * 4)).off + 1, none⟩ = some (.int .i64 ((aA aD cK).f1.f0)) ∧ w'.cell? ⟨(iW.add ((cK).toNat * 4)).block, (iW.add ((cK).toNat * 4)).off + 2, none⟩ = some (.slice dLa ((aA aD cK).f1.f1).length dLb) ∧ w'.cell? ⟨(iW.add ((cK).toNat * 4)).block, (iW.add ((cK).toNat * 4)).off + 3, none⟩ = some (.slice dLc ((aA aD cK).f1.f2).length dLd) ∧ w'.cell? (iW.add (((aFr)).toNat * 4)) = some (.int .i64 ((aA aD (aFr)).f0)) ∧ w'.cell? ⟨(iW.add (((aFr)).toNat * 4)).block, (iW.add (((aFr)).toNat * 4)).off + 1, none⟩ = some (.int .i64 ((aA aD (aFr)).f1.f0)) ∧ w'.cell? ⟨(iW.add (((aFr)).toNat * 4)).block, (iW.add (((aFr)).toNat * 4)).off + 2, none⟩ = some (.slice dLg ((aA aD (aFr)).f1.f1).length dLh) ∧ w'.cell? ⟨(iW.add (((aFr)).toNat * 4)).block, (iW.add (((aFr)).toNat * 4)).off + 3, none⟩ = some (.slice dLi ((aA aD (aFr)).f1.f2).length dLj)) (ds := []) Z16 (by kernel_rfl) rfl rfl ⟨(blk_cell iI.out 0).trans rfl, (xcl HB cX7), (xcl HB cX6), (xcl HB cX5), (xcl HB cX4), (xcl HB cYd), (xcl HB cYc), (xcl HB cYb), (xcl HB cYa)⟩ (fun hHeld => ?_); refine with_tabW aH.tab11 aH.bits11 (fun HT_ HW_ => ?_)
      generalize w48.drew = w49 at iI iY nW HB cX8 cX9 cYe cYf aXg aXh aXi aXj aXk aXl aXm aXn hHeld ⊢
      refine pu 0 47 Z17 HT_ rfl rfl (h := ?_)
      refine pu 1 48 Z18 HT_ rfl rfl (h := ?_)
      refine pu 2 49 Z19 HT_ rfl rfl (h := ?_)
      refine pu 3 50 Z20 HT_ rfl rfl (h := ?_)
      refine pu 5 52 Z21 HT_ rfl rfl (h := ?_)
      refine pu 9 56 Z22 HT_ rfl rfl (h := ?_)
      refine pu 11 58 Z23 HT_ rfl rfl (h := ?_)
      refine pu 12 59 Z24 HT_ rfl rfl (h := ?_)
      refine tk 4 51 Z25 HT_ HW_ rfl rfl hHeld (by rintro w' ⟨s0, s1, s2, s3, s4, s5, s6, s7, s8⟩; go_simp; with_reducible rfl) (h := ?_)
      refine pu 6 53 Z26 HT_ rfl rfl (h := ?_)
      refine pu 7 54 Z27 HT_ rfl rfl (h := ?_)
      refine tk 8 55 Z28 HT_ HW_ rfl rfl hHeld (by rintro w' ⟨s0, s1, s2, s3, s4, s5, s6, s7, s8⟩; go_simp; with_reducible rfl) (h := ?_)
      refine tk 10 57 Z29 HT_ HW_ rfl rfl hHeld (by rintro w' ⟨s0, s1, s2, s3, s4, s5, s6, s7, s8⟩; go_simp; with_reducible rfl) (h := ?_)
      refine pu 13 60 Z30 HT_ rfl rfl (h := ?_)
      refine pu 14 61 Z31 HT_ rfl rfl (h := ?_)
      refine tk 15 62 Z32 HT_ HW_ rfl rfl hHeld (by rintro w' ⟨s0, s1, s2, s3, s4, s5, s6, s7, s8⟩; go_simp; with_reducible rfl) (h := ?_)
      refine pu 16 63 Z33 HT_ rfl rfl (h := ?_)
      refine pu 17 64 Z34 HT_ rfl rfl (h := ?_)
      refine done_ (done_of HT_.out (by kernel_rfl)) ?_
      try go_wp2
      go_roundg k1
      case measure => have := yS.out; omega
      case rel => exact ⟨(wrap64 (cK + 1)), (yG), (uF), xrs, H', ⟨by have := yS.out; omega⟩, xk iI, xk iY, xb HB⟩
    rw [if_pos c24] at H
    have dDu : decide (((aA aD cK).f0) ≤ ((aA aD (aFr)).f0)) = true := decide_eq_true c24
    clear c24
    replace H := Option.bind_eq_some_iff.mp H
    obtain ⟨⟨eS8, fHp⟩, cNc, H⟩ := H
    replace H : (some (eS8, fHp)) = some (r1, r2) := H
    have A25 := aZ cNc
    clear cNc
    simp only [Option.some.injEq, Prod.mk.injEq] at H
    obtain ⟨rfl, rfl⟩ := H
    have cHa := aKf.out
    have cHb := aKg.out
    have aQh : wr.cell? ⟨aOo, 0, none⟩ = some (.slice bP aD.length bK) := (blk_cell iI.out 0).trans rfl
    have aQi := blk_frozen iI.out 0
    have bJh : 0 ≤ (cK : Int) := of_decide_eq_true xas
    have bJi : cK < (aD.length : Int) := of_decide_eq_true xas
    obtain ⟨iW, bJj, bJk, bJl, bJm, cX0, aHu, aHv, aHw, aHx, aHy, aHz, aH0, aH1⟩ := gY fI.out cK bJh bJi
    cases cX0
    replace aHu := xcl HB aHu
    replace aHv := xcl HB aHv
    replace aHw := xcl HB aHw
    replace aHx := xcl HB aHx
    have aXc := aZ aHz
    have aXd := aZ aHy
    clear aHz aHy
    have aXe := aZ aH1
    have aXf := aZ aH0
    clear aH1 aH0
    replace bJh := eq_true bJh
    replace bJi := eq_true bJi
    try go_wp2_with (first | ((with_reducible refine gate_callee (f := 30) rfl ?_); refine goesL_ (some 23) rfl rfl Try.func30 (by kernel_rfl) rfl #[.agg #[.int .i64 ((aA aD cK).f1.f0), .slice bJj ((aA aD cK).f1.f1).length bJk, .slice bJl ((aA aD cK).f1.f2).length bJm]] rfl xmp ?_; (with_reducible refine (aK.calls k1 ((aA aD cK).f1.f0) _ _ ((aA aD cK).f1.f1) _ _ ((aA aD cK).f1.f2) aDr aP8 _ ?side1 ?side2 ?side3 ?side4 A16.out).mono ?_); (case side1 => exact xcb aXc HB); (case side2 => exact aXd.out); (case side3 => exact xcb aXe HB); (case side4 => exact aXf.out); rintro e w28 ⟨rfl, hb⟩; refine ⟨_, rfl, ?_⟩; replace iI := xbb iI hb; replace iY := xbb iY hb; replace HB := xhl HB hb; skip; (try clear hb); (try clear iV); (try clear hk); (try clear hi)) | ((with_reducible refine gate_dst (N := 4) rfl ?_); refine box_event ?hg (N := 4) ?hd (cs := #[.int .i64 0, .int .i64 0]) (t := 28) ?hr ?_; (case hd => rfl); (case hg => rfl); (case hr => first | (go_simp; done) | (go_simp; rfl)); intro qC hg w29 hbox hb; have nW := aZ (hbox); have dSl := xgh hg HB; have dSm := xgh hg HB; replace HB := xhl HB hb; have aKh := xnl hg iI; have aKi := xng hg iI; replace iI := xbb iI hb; have aKj := xnl hg iY; have aKk := xng hg iY; replace iY := xbb iY hb; clear hb hbox hg; have bSo := aKi.out; have bSp := aKh.out; have bVz := aKk.out; have bV0 := aKj.out; have aFo : w29.cell? ⟨qC, 0, none⟩ = some (.int .i64 0) := (blk_cell nW.out 0).trans rfl; have aJu : w29.cell? ⟨qC, 1, none⟩ = some (.int .i64 0) := (blk_cell nW.out 1).trans rfl; have aFp := blk_frozen nW.out 0; have aJv := blk_frozen nW.out 1))
    replace iI : Aside0 (((w29.setCell ⟨qC, 0, none⟩ (.int .i64 aDr)).setCell ⟨qC, 1, none⟩ (.int .i64 aP8)).heap[aOo]? = some (.cells #[.slice (some iW) aD.length bK] 24 (0, 0))) := xk iI
    replace iY : Aside0 (((w29.setCell ⟨qC, 0, none⟩ (.int .i64 aDr)).setCell ⟨qC, 1, none⟩ (.int .i64 aP8)).heap[aNt]? = some (.cells #[.int .i64 yG, .int .i64 uF] 28 (0, 0))) := xk iY
    replace nW : Aside0 (((w29.setCell ⟨qC, 0, none⟩ (.int .i64 aDr)).setCell ⟨qC, 1, none⟩ (.int .i64 aP8)).heap[qC]? = some (.cells #[.int .i64 aDr, .int .i64 aP8] 28 (0, 0))) := ⟨by (with_reducible repeat (first | refine bN ?_ _ | refine bD ?_ | refine bA ?_ _)); refine blk_put (cs := #[.int .i64 aDr, .int .i64 0]) ?_ 1 _ rfl; (with_reducible repeat (first | refine bN ?_ _ | refine bD ?_ | refine bA ?_ _)); refine blk_put (cs := #[.int .i64 0, .int .i64 0]) ?_ 0 _ rfl; (with_reducible repeat (first | refine bN ?_ _ | refine bD ?_ | refine bA ?_ _)); exact nW.out⟩
    replace HB : Aside0 (Below w.heap.size w ((w29.setCell ⟨qC, 0, none⟩ (.int .i64 aDr)).setCell ⟨qC, 1, none⟩ (.int .i64 aP8))) := xb HB
    generalize ((w29.setCell ⟨qC, 0, none⟩ (.int .i64 aDr)).setCell ⟨qC, 1, none⟩ (.int .i64 aP8)) = w33 at iI iY nW HB ⊢
    replace iI := aZ (bD iI.out)
    replace iY := aZ (bD iY.out)
    replace nW := aZ (bD nW.out)
    replace HB := aZ (lD HB.out)
    have bUc : 0 ≤ (cK : Int) := of_decide_eq_true xas
    have bUd : cK < (aD.length : Int) := of_decide_eq_true xas
    obtain ⟨cOd, aOa, aOb, aOc, aOd, dK2, aA6, aA7, xP, xQ, aQt, aQu, aQv, aQw⟩ := gY fI.out cK bUc bUd
    have aQx := xQ
    have aQy := xP
    have aQz := aA7
    have aQ0 := aA6
    obtain rfl : iW = cOd := (by injection dK2)
    replace aA6 := xcl HB aA6
    replace aA7 := xcl HB aA7
    replace xP := xcl HB xP
    replace xQ := xcl HB xQ
    have aQ1 := aZ aQu
    have bJn := aZ aQt
    clear aQu aQt
    have aQ2 := aZ aQw
    have bJo := aZ aQv
    clear aQw aQv
    replace bUc := eq_true bUc
    replace bUd := eq_true bUd
    have bUe : 0 ≤ (cK : Int) := of_decide_eq_true xas
    have bUf : cK < (aD.length : Int) := of_decide_eq_true xas
    obtain ⟨cOe, dK3, dK4, dK5, dK6, dK7, aA8, aA9, xU, xW, aQ3, aQ4, aQ5, aQ6⟩ := gY fI.out cK bUe bUf
    have aQ7 := xW
    have aQ8 := xU
    have aQ9 := aA9
    have aRa := aA8
    obtain rfl : iW = cOe := (by injection dK7)
    replace aA8 := xcl HB aA8
    replace aA9 := xcl HB aA9
    replace xU := xcl HB xU
    replace xW := xcl HB xW
    have bJp := aZ aQ4
    have cX1 := aZ aQ3
    clear aQ4 aQ3
    have bJq := aZ aQ6
    have cX2 := aZ aQ5
    clear aQ6 aQ5
    replace bUe := eq_true bUe
    replace bUf := eq_true bUf
    have ea_ := Option.some.inj (xP.symm.trans xU)
    injection ea_ with ea_ en_ ec_
    subst ea_
    subst ec_
    clear en_
    have ea_ := Option.some.inj (xQ.symm.trans xW)
    injection ea_ with ea_ en_ ec_
    subst ea_
    subst ec_
    clear en_
    refine start_ (n := 14) (S := fun w' => w'.cell? ⟨aOo, 0, none⟩ = some (.slice (some iW) aD.length bK) ∧ w'.cell? (iW.add ((cK).toNat * 4)) = some (.int .i64 ((aA aD cK).f0)) ∧ w'.cell? ⟨(iW.add ((cK).toNat * 4)).block, (iW.add ((cK).toNat * 4)).off + 1, none⟩ = some (.int .i64 ((aA aD cK).f1.f0)) ∧ w'.cell? ⟨(iW.add ((cK).toNat * 4)).block, (iW.add ((cK).toNat * 4)).off + 2, none⟩ = some (.slice aOa ((aA aD cK).f1.f1).length aOb) ∧ w'.cell? ⟨(iW.add ((cK).toNat * 4)).block, (iW.add ((cK).toNat * 4)).off + 3, none⟩ = some (.slice aOc ((aA aD cK).f1.f2).length aOd) ∧ w'.cell? (iW.add ((cK).toNat * 4)) = some (.int .i64 ((aA aD cK).f0)) ∧ w'.cell? ⟨(iW.add ((cK).toNat * 4)).block, (iW.add ((cK).toNat * 4)).off + 1, none⟩ = some (.int .i64 ((aA aD cK).f1.f0)) ∧ w'.cell? ⟨(iW.add ((cK).toNat * 4)).block, (iW.add ((cK).toNat * 4)).off + 2, none⟩ = some (.slice aOa ((aA aD cK).f1.f1).length aOb) ∧ w'.cell? ⟨(iW.add ((cK).toNat * 4)).block, (iW.add ((cK).toNat * 4)).off + 3, none⟩ = some (.slice aOc ((aA aD cK).f1.f2).length aOd)) (ds := []) Z1 (by kernel_rfl) rfl rfl ⟨(blk_cell iI.out 0).trans rfl, (xcl HB aQ0), (xcl HB aQz), (xcl HB aQy), (xcl HB aQx), (xcl HB aRa), (xcl HB aQ9), (xcl HB aQ8), (xcl HB aQ7)⟩ (fun hHeld => ?_); refine with_tabW aH.tab9 aH.bits9 (fun HT_ HW_ => ?_)
    generalize w33.drew = w34 at iI iY nW HB aQ1 aQ2 bJp bJq aA6 aA7 xP xQ aA8 aA9 xU xW hHeld ⊢
    refine pu 0 31 Z2 HT_ rfl rfl (h := ?_)
    refine pu 2 33 Z3 HT_ rfl rfl (h := ?_)
    refine pu 7 38 Z4 HT_ rfl rfl (h := ?_)
    refine pu 9 40 Z5 HT_ rfl rfl (h := ?_)
    refine tk 1 32 Z6 HT_ HW_ rfl rfl hHeld (by rintro w' ⟨s0, s1, s2, s3, s4, s5, s6, s7, s8⟩; go_simp; with_reducible rfl) (h := ?_)
    refine pu 3 34 Z7 HT_ rfl rfl (h := ?_)
    refine pu 4 35 Z8 HT_ rfl rfl (h := ?_)
    refine tk 5 36 Z9 HT_ HW_ rfl rfl hHeld (by rintro w' ⟨s0, s1, s2, s3, s4, s5, s6, s7, s8⟩; go_simp; with_reducible rfl) (h := ?_)
    refine tk 8 39 Z10 HT_ HW_ rfl rfl hHeld (by rintro w' ⟨s0, s1, s2, s3, s4, s5, s6, s7, s8⟩; go_simp; with_reducible rfl) (h := ?_)
    refine pu 10 41 Z11 HT_ rfl rfl (h := ?_)
    refine pu 11 42 Z12 HT_ rfl rfl (h := ?_)
    refine tk 12 43 Z13 HT_ HW_ rfl rfl hHeld (by rintro w' ⟨s0, s1, s2, s3, s4, s5, s6, s7, s8⟩; go_simp; with_reducible rfl) (h := ?_)
    refine one_ (i := 6) (N := some 37) Z14 rfl rfl (one_of HT_.out (by kernel_rfl)) (by decide) (fun K hK => ?_)
    refine goes_ Try.func31 (by kernel_rfl) rfl #[.agg #[.int .i64 ((aA aD cK).f1.f0), .slice aOa ((aA aD cK).f1.f1).length aOb, .slice aOc ((aA aD cK).f1.f2).length aOd]] (by rfl) rfl rfl xmp ?_
    with_reducible refine (aV.calls k1 ((aA aD cK).f1.f0) _ _ ((aA aD cK).f1.f1) _ _ ((aA aD cK).f1.f2) bXa _ ?side1 ?side2 ?side3 ?side4 A18.out).mono ?_
    (case side1 => exact xcb aQ1 HB)
    (case side2 => exact bJn.out)
    (case side3 => exact xcb aQ2 HB)
    (case side4 => exact bJo.out)
    rintro e w35 ⟨rfl, hb⟩
    refine ⟨_, rfl, ?_⟩
    replace iI := xbb iI hb
    replace iY := xbb iY hb
    replace nW := xbb nW hb
    replace HB := xhl HB hb
    skip
    (try clear hb)
    (try clear iV)
    (try clear hk)
    (try clear hi)
    refine hK.out _ _ ⟨(blk_cell iI.out 0).trans rfl, (xcl HB aQ0), (xcl HB aQz), (xcl HB aQy), (xcl HB aQx), (xcl HB aRa), (xcl HB aQ9), (xcl HB aQ8), (xcl HB aQ7)⟩ (fun hHeld => ?_)
    clear hK K
    refine norm_ (a' := ?_) ?_ ?_
    rotate_left
    · show Act.put _ (some 37) _ = _
      simp only [Act.put, List.setIfInBounds_toArray, List.set_cons_zero, List.set_cons_succ, i64_w, i32_w]
      rfl
    refine pu 13 44 Z15 HT_ rfl rfl (h := ?_)
    refine done_ (done_of HT_.out (by kernel_rfl)) ?_
    try go_wp2
    replace iI := aZ (bD iI.out)
    replace iY := aZ (bD iY.out)
    replace nW := aZ (bD nW.out)
    replace HB := aZ (lD HB.out)
    have dK8 : 0 ≤ (cK : Int) := of_decide_eq_true xas
    have dK9 : cK < (aD.length : Int) := of_decide_eq_true xas
    obtain ⟨eEo, dLa, dLb, dLc, dLd, fHn, aXg, aXh, aXi, aXj, bXe, bXf, bXg, bXh⟩ := gY fI.out cK dK8 dK9
    have cX4 := aXj
    have cX5 := aXi
    have cX6 := aXh
    have cX7 := aXg
    obtain rfl : iW = eEo := (by injection fHn)
    replace aXg := xcl HB aXg
    replace aXh := xcl HB aXh
    replace aXi := xcl HB aXi
    replace aXj := xcl HB aXj
    have cX8 := aZ bXf
    have eS4 := aZ bXe
    clear bXf bXe
    have cX9 := aZ bXh
    have eS5 := aZ bXg
    clear bXh bXg
    replace dK8 := eq_true dK8
    replace dK9 := eq_true dK9
    have dLe : 0 ≤ ((aFr) : Int) := of_decide_eq_true xas
    have dLf : (aFr) < (aD.length : Int) := of_decide_eq_true xas
    obtain ⟨eEp, dLg, dLh, dLi, dLj, fHo, aXk, aXl, aXm, aXn, bXi, bXj, bXk, bXl⟩ := gY fI.out (aFr) dLe dLf
    have cYa := aXn
    have cYb := aXm
    have cYc := aXl
    have cYd := aXk
    obtain rfl : iW = eEp := (by injection fHo)
    replace aXk := xcl HB aXk
    replace aXl := xcl HB aXl
    replace aXm := xcl HB aXm
    replace aXn := xcl HB aXn
    have cYe := aZ bXj
    have eS6 := aZ bXi
    clear bXj bXi
    have cYf := aZ bXl
    have eS7 := aZ bXk
    clear bXl bXk
    replace dLe := eq_true dLe
    replace dLf := eq_true dLf
    refine start_ (n := 18) (S := fun w' => w'.cell? ⟨aOo, 0, none⟩ = some (.slice (some iW) aD.length bK) ∧ w'.cell? (iW.add ((cK).toNat * 4)) = some (.int .i64 ((aA aD cK).f0)) ∧ w'.cell? ⟨(iW.add ((cK).toNat * 4)).block, (iW.add ((cK).toNat * 4)).off + 1, none⟩ = some (.int .i64 ((aA aD cK).f1.f0)) ∧ w'.cell? ⟨(iW.add ((cK).toNat * 4)).block, (iW.add ((cK).toNat * 4)).off + 2, none⟩ = some (.slice dLa ((aA aD cK).f1.f1).length dLb) ∧ w'.cell? ⟨(iW.add ((cK).toNat * 4)).block, (iW.add ((cK).toNat * 4)).off + 3, none⟩ = some (.slice dLc ((aA aD cK).f1.f2).length dLd) ∧ w'.cell? (iW.add (((aFr)).toNat * 4)) = some (.int .i64 ((aA aD (aFr)).f0)) ∧ w'.cell? ⟨(iW.add (((aFr)).toNat * 4)).block, (iW.add (((aFr)).toNat * 4)).off + 1, none⟩ = some (.int .i64 ((aA aD (aFr)).f1.f0)) ∧ w'.cell? ⟨(iW.add (((aFr)).toNat * 4)).block, (iW.add (((aFr)).toNat * 4)).off + 2, none⟩ = some (.slice dLg ((aA aD (aFr)).f1.f1).length dLh) ∧ w'.cell? ⟨(iW.add (((aFr)).toNat * 4)).block, (iW.add (((aFr)).toNat * 4)).off + 3, none⟩ = some (.slice dLi ((aA aD (aFr)).f1.f2).length dLj)) (ds := []) Z16 (by kernel_rfl) rfl rfl ⟨(blk_cell iI.out 0).trans rfl, (xcl HB cX7), (xcl HB cX6), (xcl HB cX5), (xcl HB cX4), (xcl HB cYd), (xcl HB cYc), (xcl HB cYb), (xcl HB cYa)⟩ (fun hHeld => ?_); refine with_tabW aH.tab11 aH.bits11 (fun HT_ HW_ => ?_)
    generalize w35.drew = w36 at iI iY nW HB cX8 cX9 cYe cYf aXg aXh aXi aXj aXk aXl aXm aXn hHeld ⊢
    refine pu 0 47 Z17 HT_ rfl rfl (h := ?_)
    refine pu 1 48 Z18 HT_ rfl rfl (h := ?_)
    refine pu 2 49 Z19 HT_ rfl rfl (h := ?_)
    refine pu 3 50 Z20 HT_ rfl rfl (h := ?_)
    refine pu 5 52 Z21 HT_ rfl rfl (h := ?_)
    refine pu 9 56 Z22 HT_ rfl rfl (h := ?_)
    refine pu 11 58 Z23 HT_ rfl rfl (h := ?_)
    refine pu 12 59 Z24 HT_ rfl rfl (h := ?_)
    refine tk 4 51 Z25 HT_ HW_ rfl rfl hHeld (by rintro w' ⟨s0, s1, s2, s3, s4, s5, s6, s7, s8⟩; go_simp; with_reducible rfl) (h := ?_)
    refine pu 6 53 Z26 HT_ rfl rfl (h := ?_)
    refine pu 7 54 Z27 HT_ rfl rfl (h := ?_)
    refine tk 8 55 Z28 HT_ HW_ rfl rfl hHeld (by rintro w' ⟨s0, s1, s2, s3, s4, s5, s6, s7, s8⟩; go_simp; with_reducible rfl) (h := ?_)
    refine tk 10 57 Z29 HT_ HW_ rfl rfl hHeld (by rintro w' ⟨s0, s1, s2, s3, s4, s5, s6, s7, s8⟩; go_simp; with_reducible rfl) (h := ?_)
    refine pu 13 60 Z30 HT_ rfl rfl (h := ?_)
    refine pu 14 61 Z31 HT_ rfl rfl (h := ?_)
    refine tk 15 62 Z32 HT_ HW_ rfl rfl hHeld (by rintro w' ⟨s0, s1, s2, s3, s4, s5, s6, s7, s8⟩; go_simp; with_reducible rfl) (h := ?_)
    refine pu 16 63 Z33 HT_ rfl rfl (h := ?_)
    refine pu 17 64 Z34 HT_ rfl rfl (h := ?_)
    refine done_ (done_of HT_.out (by kernel_rfl)) ?_
    try go_wp2_with (first | ((with_reducible refine gate_callee (f := 18) rfl ?_); refine goesL_ (some 66) rfl rfl Try.func18 (by kernel_rfl) rfl #[.int .i64 5, .int .i64 cK] rfl xmp ?_; (with_reducible refine (aT.calls 5 cK eS8 fHp _ A25.out).mono ?_); rintro e w37 ⟨rfl, hb⟩; refine ⟨_, rfl, ?_⟩; replace iI := xbb iI hb; replace iY := xbb iY hb; replace nW := xbb nW hb; replace HB := xhl HB hb; skip; (try clear hb); (try clear iV); (try clear hk); (try clear hi); have bB6 : w37.cell? ⟨aNt, 0, none⟩ = some (.int .i64 yG) := (blk_cell iY.out 0).trans rfl; have bB7 : w37.cell? ⟨aNt, 1, none⟩ = some (.int .i64 uF) := (blk_cell iY.out 1).trans rfl; have bB8 := blk_frozen iY.out 0; have bB9 := blk_frozen iY.out 1))
    refine bodyPost_ret (results_cell_row rfl _ _ aNt 28 #[.int .i64 eS8, .int .i64 fHp] (0, 0) _ rfl (by (with_reducible repeat (first | refine bN ?_ _ | refine bD ?_ | refine bA ?_ _)); refine blk_put (cs := #[.int .i64 eS8, .int .i64 uF]) ?_ 1 _ rfl; (with_reducible repeat (first | refine bN ?_ _ | refine bD ?_ | refine bA ?_ _)); refine blk_put (cs := #[.int .i64 yG, .int .i64 uF]) ?_ 0 _ rfl; (with_reducible repeat (first | refine bN ?_ _ | refine bD ?_ | refine bA ?_ _)); exact iY.out) Try.underlying28 rfl (by kernel_rfl)) rfl ?_
    exact ⟨by first | rfl | (simp [errW_none, errW_some] <;> rfl) | (simp only [← cTe]; first | rfl | (simp [errW_none, errW_some] <;> rfl)) | (simp [*, errW_none, errW_some] <;> rfl), xq HB⟩

end Go.Proofs.Ytnmkmamobhkcbaa.P

namespace Go.Proofs.Ytnmkmamobhkcbaa.P
open Go.RowKit Go.Proofs.YtnmkmamobhkcbaaW.PrintWords Go.Proofs.YtnmkmamobhkcbaaW.PrintOpen
theorem bD8 : Opens Try.prog 44 k44 S44.ok := opens_struct Try.underlying44 (by kernel_rfl) (opensFs_cons (opens_int Try.underlying3 (by kernel_rfl)) rfl (opensFs_cons (opens_slice Try.underlying42 (by kernel_rfl) (B := 8) (by kernel_rfl) (opens_int Try.underlying3 (by kernel_rfl))) rfl (opensFs_one (opens_slice Try.underlying26 (by kernel_rfl) (B := 1) (by kernel_rfl) (opens_int Try.underlying5 (by kernel_rfl))) rfl rfl))) (fun x : S44 => (x.f0, x.f1, x.f2)) (fun a => ⟨a.1, a.2.1, a.2.2⟩) (fun _ => rfl)
theorem dYk : Opens Try.prog 46 qL fB.ok := opens_struct Try.underlying46 (by kernel_rfl) (opensFs_cons (opens_int Try.underlying3 (by kernel_rfl)) rfl (opensFs_one bD8 rfl rfl)) (fun x : fB => (x.f0, x.f1)) (fun a => ⟨a.1, a.2⟩) (fun _ => rfl)
theorem aEm : Opens Try.prog 24 k24 S24.ok := opens_struct Try.underlying24 (by kernel_rfl) (opensFs_one (opens_slice Try.underlying22 (by kernel_rfl) (B := 64) (by kernel_rfl) dYk) rfl rfl) (fun x : S24 => x.f0) (fun a => ⟨a⟩) (fun _ => rfl)

end Go.Proofs.Ytnmkmamobhkcbaa.P

/- Words for pure statements: what a printed function comes to, given rounds enough ('Ev'); case by case, call by call. -/
namespace Go.Proofs.YtnmkmamobhkcbaaW.PrintEv
open Go.RowKit Go.Proofs.YtnmkmamobhkcbaaW.PrintWords
section
variable {α β : Type}
theorem ev_pos {c : Prop} [Decidable c] {A B : Nat → Option α} {r : α} (h : c) (hA : Ev A r) : Ev (fun k => if c then A k else B k) r := by
  simpa only [if_pos h] using hA
theorem ev_neg {c : Prop} [Decidable c] {A B : Nat → Option α} {r : α} (h : ¬ c) (hB : Ev B r) : Ev (fun k => if c then A k else B k) r := by
  simpa only [if_neg h] using hB
theorem ev_cases {c : Prop} [Decidable c] {A B : Nat → Option α} {r : α} (hA : c → Ev A r) (hB : ¬ c → Ev B r) : Ev (fun k => if c then A k else B k) r := by
  by_cases h : c
  · exact ev_pos h (hA h)
  · exact ev_neg h (hB h)
theorem ev_ite {c : Prop} [Decidable c] {A B : Nat → Option α} {r1 r2 : α} (hA : c → Ev A r1) (hB : ¬ c → Ev B r2) : Ev (fun k => if c then A k else B k) (if c then r1 else r2) := by
  by_cases h : c
  · rw [if_pos h]; exact ev_pos h (hA h)
  · rw [if_neg h]; exact ev_neg h (hB h)
theorem ev_cast {g : Nat → Option α} {r r' : α} (h : Ev g r) (e : r = r') : Ev g r' := e ▸ h
theorem ev_of {g g' : Nat → Option α} {r : α} (e : ∀ k, g k = g' k) (h : Ev g' r) : Ev g r := Ev.congr e h
theorem ev_some {f : Nat → α → Option β} {a : α} {r : β} (h : Ev (fun k => f k a) r) : Ev (fun k => (some a).bind (f k)) r := h
theorem ev_bind {g : Nat → Option α} {f : Nat → α → Option β} {a : α} {r : β} (h : Ev g a) (k : Ev (fun n => f n a) r) : Ev (fun n => (g n).bind (f n)) r := Ev.bind h k
/-- A call that has no rounds. -/
theorem ev_const {g : Option α} {f : Nat → α → Option β} {a : α} {r : β} (h : g = some a) (k : Ev (fun n => f n a) r) : Ev (fun n => g.bind (f n)) r := by
  subst h; exact k
theorem ev_det {g : Nat → Option α} {r r' : α} (h : Ev g r) (h' : Ev g r') : r = r' := by
  obtain ⟨K, hK⟩ := h
  obtain ⟨K', hK'⟩ := h'
  have h1 := hK (K + K') (by omega)
  have h2 := hK' (K + K') (by omega)
  rw [h1] at h2
  exact Option.some.inj h2
theorem ev_now (r : α) : Ev (fun _ => some r) r := Ev.now r
theorem ev_ex {g : Nat → Option α} {r : α} (h : Ev g r) : ∃ k, g k = some r := Ev.rounds h
end
theorem w64 {x : Int} (h : -9223372036854775808 ≤ x ∧ x ≤ 9223372036854775807) : wrap64 x = x := by unfold wrap64; omega
theorem rd_getD (xs : List Int) (i : Int) : rd xs i = xs.getD i.toNat 0 := rfl
theorem rd_nat (xs : List Int) {i : Nat} (h : i < xs.length) : rd xs (i : Int) = xs[i] := by
  simp [rd, List.getD_eq_getElem?_getD, List.getElem?_eq_getElem h]
theorem rdOf_nat {α : Type} (d : α) (xs : List α) {i : Nat} (h : i < xs.length) : rdOf d xs (i : Int) = xs[i] := by
  simp [rdOf, List.getD_eq_getElem?_getD, List.getElem?_eq_getElem h]
theorem rdOf_set {α : Type} (d : α) (xs : List α) (v : α) {i j : Int} (hi0 : 0 ≤ i) (hi : i < xs.length) (hj : 0 ≤ j) : rdOf d (xs.set i.toNat v) j = if j = i then v else rdOf d xs j := by
  unfold rdOf
  rw [List.getD_eq_getElem?_getD, List.getD_eq_getElem?_getD, List.getElem?_set]
  by_cases h : j = i
  · subst h
    rw [if_pos rfl, if_pos (by omega), if_pos rfl]; rfl
  · rw [if_neg (by omega), if_neg h]
theorem rd_set (xs : List Int) (v : Int) {i j : Int} (hi0 : 0 ≤ i) (hi : i < xs.length) (hj : 0 ≤ j) : rd (xs.set i.toNat v) j = if j = i then v else rd xs j := rdOf_set 0 xs v hi0 hi hj
theorem rdOf_replicate {α : Type} (d : α) (n : Nat) (i : Int) : rdOf d (List.replicate n d) i = d := by
  unfold rdOf
  rw [List.getD_eq_getElem?_getD, List.getElem?_replicate]
  split <;> rfl
theorem rd_mem {xs : List Int} {i : Int} (h0 : 0 ≤ i) (h : i < xs.length) : rd xs i ∈ xs := by
  obtain ⟨n, rfl⟩ := Int.eq_ofNat_of_zero_le h0
  rw [rd_nat xs (by omega)]
  exact List.getElem_mem _
theorem mem_rd {xs : List Int} {x : Int} (h : x ∈ xs) : ∃ i : Int, 0 ≤ i ∧ i < xs.length ∧ rd xs i = x := by
  obtain ⟨n, hn, rfl⟩ := List.mem_iff_getElem.1 h
  exact ⟨n, by omega, by omega, rd_nat xs hn⟩
theorem rd_append_left {xs ys : List Int} {i : Int} (h0 : 0 ≤ i) (h : i < xs.length) : rd (xs ++ ys) i = rd xs i := by
  unfold rd
  rw [List.getD_eq_getElem?_getD, List.getD_eq_getElem?_getD, List.getElem?_append_left (by omega)]
theorem rd_append_last {xs : List Int} {y : Int} : rd (xs ++ [y]) (xs.length : Int) = y := by
  unfold rd
  rw [List.getD_eq_getElem?_getD]
  simp
theorem drop_cons_rd {xs : List Int} {i : Nat} (h : i < xs.length) : xs.drop i = rd xs (i : Int) :: xs.drop (i + 1) := by
  rw [rd_nat xs h]; exact List.drop_eq_getElem_cons h
theorem ext_rd {xs ys : List Int} (hl : xs.length = ys.length) (h : ∀ i : Int, 0 ≤ i → i < xs.length → rd xs i = rd ys i) : xs = ys := by
  apply List.ext_getElem hl
  intro i h1 h2
  have := h i (by omega) (by omega)
  rwa [rd_nat xs h1, rd_nat ys h2] at this
theorem ext_rdOf {α : Type} {d : α} {xs ys : List α} (hl : xs.length = ys.length) (h : ∀ i : Int, 0 ≤ i → i < xs.length → rdOf d xs i = rdOf d ys i) : xs = ys := by
  apply List.ext_getElem hl
  intro i h1 h2
  have := h i (by omega) (by omega)
  rwa [rdOf_nat d xs h1, rdOf_nat d ys h2] at this
end Go.Proofs.YtnmkmamobhkcbaaW.PrintEv

/- Products modulo 2^61 - 1: what math/bits' Mul64 and Div64 come to at the digest's modulus, and digest.mul. -/
namespace Go.Proofs.Ytnmkmamobhkcbaa.Dig
open Go.RowKit Go.Proofs.YtnmkmamobhkcbaaW.PrintWords Go.Proofs.YtnmkmamobhkcbaaW.PrintEv Go.Proofs.Ytnmkmamobhkcbaa.P
open Go.Proofs.YtnmkmamobhkcbaaW.PrintMore
set_option linter.unusedVariables false

theorem wu {x : Int} (h : 0 ≤ x ∧ x < 18446744073709551616) : IntKind.u64.wrap x = x := by rw [IntKind.wrap_u64]; omega
theorem dFr {x : Int} (h : 0 ≤ x ∧ x < 18446744073709551616) : Go.bits .and .u64 x 4294967295 = x % 4294967296 := by
  obtain ⟨n, rfl⟩ := Int.eq_ofNat_of_zero_le h.1
  have := bits_and_u64_nat n 4294967295 (by omega) (by omega)
  rw [show ((4294967295 : Nat) : Int) = 4294967295 from rfl] at this
  rw [this, show (4294967295 : Nat) = 2 ^ 32 - 1 from rfl, Nat.and_two_pow_sub_one_eq_mod]
  omega
theorem or8 {a b : Int} (ha : 0 ≤ a ∧ a < 2305843009213693952) (hb : 0 ≤ b ∧ b < 8) : Go.bits .or .u64 (a * 8) b = a * 8 + b := by
  obtain ⟨n, rfl⟩ := Int.eq_ofNat_of_zero_le ha.1
  obtain ⟨m, rfl⟩ := Int.eq_ofNat_of_zero_le hb.1
  have := bits_or_u64_nat (n * 8) m (by omega) (by omega)
  rw [show ((n * 8 : Nat) : Int) = (n : Int) * 8 by omega] at this
  rw [this]
  have h2 := Nat.two_pow_add_eq_or_of_lt (i := 3) (b := m) (by omega) n
  rw [show n * 8 = 2 ^ 3 * n by omega, ← h2]
  omega
theorem eEk {a c : Int} (ha : 0 ≤ a ∧ a < 2305843009213693952) (hc : 0 ≤ c ∧ c < 1048576) : bits_Mul64.f a c = some (a * c / 18446744073709551616, a * c % 18446744073709551616) := by
  obtain ⟨p, hp⟩ : ∃ p, p = a / 4294967296 * c := ⟨_, rfl⟩
  obtain ⟨q, hq⟩ : ∃ q, q = a % 4294967296 * c := ⟨_, rfl⟩
  have hN : a * c = p * 4294967296 + q := by
    have h1 : a = a / 4294967296 * 4294967296 + a % 4294967296 := by omega
    conv => lhs; rw [h1]
    rw [Int.add_mul, hp, hq, Int.mul_right_comm]
  have hp0 : 0 ≤ p := by rw [hp]; exact Int.mul_nonneg (by omega) hc.1
  have hq0 : 0 ≤ q := by rw [hq]; exact Int.mul_nonneg (by omega) hc.1
  have hp1 : p ≤ 536870912 * c := by rw [hp]; exact Int.mul_le_mul_of_nonneg_right (by omega) hc.1
  have hq1 : q ≤ 4294967295 * c := by rw [hq]; exact Int.mul_le_mul_of_nonneg_right (by omega) hc.1
  have hc0 : c / 4294967296 = 0 := by omega
  unfold bits_Mul64.f
  rw [dFr (x := a) (by omega), dFr (x := c) (by omega), hc0, show c % 4294967296 = c by omega, ← hp, ← hq, Int.mul_zero, Int.mul_zero, wu (x := 0) (by omega), wu (x := p) (by omega), wu (x := q) (by omega), wu (x := p + q / 4294967296) (by omega), dFr (x := p + q / 4294967296) (by omega), hN]
  rw [wu (x := 0 + (p + q / 4294967296) / 4294967296) (by omega), wu (x := (p + q / 4294967296) % 4294967296 + 0) (by omega), wu (by omega), IntKind.wrap_u64]
  congr 1
  refine Prod.ext ?_ ?_
  · show _ = (p * 4294967296 + q) / 18446744073709551616
    omega
  · show _ = (p * 4294967296 + q) % 18446744073709551616
    omega

/-! the division: u: the upper part of eight times the number, v: its lowest 32 bits; the divisor is 8 * (2^61 - 1) -/
theorem div_exit {u v q : Int} (hu : 0 ≤ u ∧ u < 4503599627370496) (hv : 0 ≤ v ∧ v < 4294967296) (hq : 0 ≤ q ∧ q ≤ 2097152) (h1 : q * 18446744073709551608 ≤ u * 4294967296 + v) (h2 : u * 4294967296 + v < (q + 1) * 18446744073709551608) :
    shr .u64 (IntKind.u64.wrap ((IntKind.u64.wrap ((IntKind.u64.wrap (u * 4294967296)) + v)) - (IntKind.u64.wrap (q * 18446744073709551608)))) 3 = (u * 4294967296 + v) % 18446744073709551608 / 8 := by
  unfold shr
  simp only [IntKind.wrap_u64]
  show (((u * 4294967296) % 18446744073709551616 + v) % 18446744073709551616 - (q * 18446744073709551608) % 18446744073709551616) % 18446744073709551616 / 8 = _
  omega
theorem fHj {u v : Int} (hu : 0 ≤ u ∧ u < 4503599627370496) (hv : 0 ≤ v ∧ v < 4294967296) : ∀ (n : Nat) (q r : Int), q = (n : Int) → q ≤ 2097152 → r = u - q * 4294967295 → 0 ≤ r → r < 4294967296 → (q + 1) * 18446744073709551608 > u * 4294967296 + v →
    ∃ Q, Ev (fun k => bT.l1 k 18446744073709551608 3 4294967295 4294967288 v 0 r u q) (Q, (u * 4294967296 + v) % 18446744073709551608 / 8) := by
  intro n
  induction n with
  | zero =>
    intro q r hq hq1 hr h0 h1 h2
    have hq : q = 0 := by omega
    subst hq
    refine ⟨IntKind.u64.wrap (IntKind.u64.wrap (0 * 4294967296) + 0), ?_⟩
    refine Ev.step (fun k_ => by rw [bT.l1]) ?_
    refine ev_neg (by omega) ?_
    rw [show (0 : Int) * 4294967288 = 0 from rfl, wu (x := 0) (by omega), wu (x := 4294967296 * r) (by omega), wu (x := 4294967296 * r + v) (by omega)]
    refine Ev.step (fun k_ => by rw [bT.j4]) ?_
    refine ev_neg (by simp; omega) (ev_pos (by decide) ?_)
    refine ev_cast (ev_now _) (Prod.ext ?_ ?_)
    · rfl
    · exact div_exit hu hv (by omega) (by omega) (by omega)
  | succ n ih =>
    intro q r hq hq1 hr h0 h1 h2
    by_cases hc : q * 4294967288 > 4294967296 * r + v
    · by_cases hb : r + 4294967295 ≥ 4294967296
      · refine ⟨IntKind.u64.wrap (IntKind.u64.wrap (0 * 4294967296) + IntKind.u64.wrap (q - 1)), ?_⟩
        refine Ev.step (fun k_ => by rw [bT.l1]) ?_
        refine ev_neg (by omega) ?_
        rw [wu (x := q * 4294967288) (by omega), wu (x := 4294967296 * r) (by omega), wu (x := 4294967296 * r + v) (by omega)]
        refine Ev.step (fun k_ => by rw [bT.j4]) ?_
        refine ev_pos (by simp; omega) ?_
        rw [wu (x := r + 4294967295) (by omega)]
        refine ev_pos (by omega) (ev_pos (by decide) ?_)
        refine ev_cast (ev_now _) (Prod.ext rfl ?_)
        rw [wu (x := q - 1) (by omega)]
        exact div_exit hu hv (by omega) (by omega) (by omega)
      · obtain ⟨Q, hQ⟩ := ih (q - 1) (r + 4294967295) (by omega) (by omega) (by omega) (by omega) (by omega) (by omega)
        refine ⟨Q, ?_⟩
        refine Ev.step (fun k_ => by rw [bT.l1]) ?_
        refine ev_neg (by omega) ?_
        rw [wu (x := q * 4294967288) (by omega), wu (x := 4294967296 * r) (by omega), wu (x := 4294967296 * r + v) (by omega)]
        refine Ev.step (fun k_ => by rw [bT.j4]) ?_
        refine ev_pos (by simp; omega) ?_
        rw [wu (x := r + 4294967295) (by omega), wu (x := q - 1) (by omega)]
        exact ev_neg (by omega) hQ
    · refine ⟨IntKind.u64.wrap (IntKind.u64.wrap (0 * 4294967296) + q), ?_⟩
      refine Ev.step (fun k_ => by rw [bT.l1]) ?_
      refine ev_neg (by omega) ?_
      rw [wu (x := q * 4294967288) (by omega), wu (x := 4294967296 * r) (by omega), wu (x := 4294967296 * r + v) (by omega)]
      refine Ev.step (fun k_ => by rw [bT.j4]) ?_
      refine ev_neg (by simp; omega) (ev_pos (by decide) ?_)
      exact ev_cast (ev_now _) (Prod.ext rfl (div_exit hu hv (by omega) (by omega) (by omega)))
theorem div_ev {h l : Int} (hh : 0 < h ∧ h < 131072) (hl : 0 ≤ l ∧ l < 18446744073709551616) : ∃ Q, Ev (fun k => bT.f k h l 2305843009213693951) (Q, (h * 18446744073709551616 + l) % 2305843009213693951) := by
  obtain ⟨u, hu⟩ : ∃ u, u = (h * 8 + l / 2305843009213693952) * 4294967296 + l * 8 % 18446744073709551616 / 4294967296 := ⟨_, rfl⟩
  obtain ⟨v, hv⟩ : ∃ v, v = l * 8 % 18446744073709551616 % 4294967296 := ⟨_, rfl⟩
  have hN : u * 4294967296 + v = 8 * (h * 18446744073709551616 + l) := by omega
  obtain ⟨Q, hQ⟩ := fHj (u := u) (v := v) (by omega) (by omega) (u / 4294967295).toNat (u / 4294967295) (u - u / 4294967295 * 4294967295) (by omega) (by omega) rfl (by omega) (by omega) (by omega)
  have hres : (u * 4294967296 + v) % 18446744073709551608 / 8 = (h * 18446744073709551616 + l) % 2305843009213693951 := by rw [hN]; omega
  rw [hres] at hQ
  refine ⟨Q, ?_⟩
  have s1 : shl .u64 2305843009213693951 3 = 18446744073709551608 := by unfold shl; rw [IntKind.wrap_u64]; rfl
  have s2 : shl .u64 h 3 = h * 8 := by unfold shl; rw [IntKind.wrap_u64]; show h * 8 % 18446744073709551616 = _; omega
  have s3 : shl .u64 l 3 = l * 8 % 18446744073709551616 := by unfold shl; rw [IntKind.wrap_u64]; rfl
  have s4 : shr .u64 l 61 = l / 2305843009213693952 := by unfold shr; rfl
  have h3 : IntKind.u64.wrap 3 = 3 := wu (by omega)
  have h61 : IntKind.u64.wrap (64 - 3) = 61 := wu (by omega)
  have ho := or8 (a := h) (b := l / 2305843009213693952) (by omega) (by omega)
  have a1 : Go.bits .and .u64 18446744073709551608 4294967295 = 4294967288 := by rw [dFr (by omega)]; rfl
  have a2 : Go.bits .and .u64 (l * 8 % 18446744073709551616) 4294967295 = v := by rw [dFr (by omega), hv]
  have t0 : Int.tdiv (h * 8 + l / 2305843009213693952) 4294967295 = 0 := by rw [Int.tdiv_eq_ediv_of_nonneg (by omega)]; omega
  have t1 : Int.tdiv u 4294967295 = u / 4294967295 := Int.tdiv_eq_ediv_of_nonneg (by omega)
  unfold bT.f
  refine ev_neg (by decide) (ev_neg (by omega) (ev_neg (by omega) (ev_const (show bits_LeadingZeros64.f 2305843009213693951 = some 3 from rfl) ?_)))
  rw [h3, h61, s1, s2, s3, s4, ho, show (18446744073709551608 : Int) / 4294967296 = 4294967295 from rfl, a1, a2, t0, wu (x := 0) (by omega), Int.zero_mul, wu (x := 0) (by omega), wu (x := h * 8 + l / 2305843009213693952 - 0) (by omega)]
  refine ev_pos (by decide) (ev_pos (by decide) (ev_neg (by decide) ?_))
  refine Ev.step (fun k_ => by rw [bT.l0]) ?_
  rw [show (0 : Int) * 4294967288 = 0 from rfl, wu (x := 0) (by omega), wu (x := 4294967296 * (h * 8 + l / 2305843009213693952 - 0)) (by omega), wu (by omega)]
  refine ev_neg (by decide) ?_
  refine Ev.step (fun k_ => by rw [bT.j1]) ?_
  refine ev_neg (by simp; omega) ?_
  refine Ev.step (fun k_ => by rw [bT.j2]) ?_
  have e1 : IntKind.u64.wrap ((IntKind.u64.wrap ((IntKind.u64.wrap ((h * 8 + l / 2305843009213693952) * 4294967296)) + l * 8 % 18446744073709551616 / 4294967296)) - (IntKind.u64.wrap (0 * 18446744073709551608))) = u := by
    rw [Int.zero_mul, wu (x := 0) (by omega), wu (x := (h * 8 + l / 2305843009213693952) * 4294967296) (by omega), wu (x := (h * 8 + l / 2305843009213693952) * 4294967296 + l * 8 % 18446744073709551616 / 4294967296) (by omega), wu (by omega)]
    omega
  rw [e1, t1, wu (x := u / 4294967295) (by omega), wu (x := u / 4294967295 * 4294967295) (by omega), wu (x := u - u / 4294967295 * 4294967295) (by omega)]
  exact ev_neg (by decide) hQ
theorem mul_ev {a c : Int} (ha : 0 ≤ a ∧ a < 2305843009213693951) (hc : 0 ≤ c ∧ c < 1048576) : Ev (fun k => digest_mul.f k a c) (a * c % 2305843009213693951) := by
  have hN0 : 0 ≤ a * c := Int.mul_nonneg ha.1 hc.1
  have hN1 : a * c ≤ 2305843009213693951 * c := Int.mul_le_mul_of_nonneg_right (by omega) hc.1
  obtain ⟨N, hN⟩ : ∃ N, N = a * c := ⟨_, rfl⟩
  unfold digest_mul.f
  rw [eEk (by omega) hc, ← hN]
  rw [← hN] at hN0 hN1
  have ht : Int.tmod (N / 18446744073709551616) 2305843009213693951 = N / 18446744073709551616 := by rw [Int.tmod_eq_emod_of_nonneg (by omega)]; omega
  refine ev_some ?_
  rw [ht]
  by_cases h0 : N / 18446744073709551616 = 0
  · have : bT.f 0 0 (N % 18446744073709551616) 2305843009213693951 = some (IntKind.u64.wrap (Int.tdiv (N % 18446744073709551616) 2305843009213693951), Int.tmod (N % 18446744073709551616) 2305843009213693951) := by
      unfold bT.f
      rw [if_neg (by decide), if_neg (by decide), if_pos rfl]
    rw [h0]
    refine ev_bind (a := (IntKind.u64.wrap (Int.tdiv (N % 18446744073709551616) 2305843009213693951), Int.tmod (N % 18446744073709551616) 2305843009213693951)) ?_ ?_
    · unfold bT.f
      exact ev_neg (by decide) (ev_neg (by decide) (ev_pos rfl (ev_now _)))
    · refine ev_cast (ev_now _) ?_
      show Int.tmod _ _ = _
      rw [Int.tmod_eq_emod_of_nonneg (by omega)]
      omega
  · obtain ⟨Q, hQ⟩ := div_ev (h := N / 18446744073709551616) (l := N % 18446744073709551616) (by omega) (by omega)
    refine ev_bind hQ (ev_cast (ev_now _) ?_)
    show (N / 18446744073709551616 * 18446744073709551616 + N % 18446744073709551616) % 2305843009213693951 = _
    congr 1
    omega
end Go.Proofs.Ytnmkmamobhkcbaa.Dig

/- The digest of bytes: the program's and the reference's, one value. -/
namespace Go.Proofs.Ytnmkmamobhkcbaa.Dig
open Go.RowKit Go.Proofs.YtnmkmamobhkcbaaW.PrintWords Go.Proofs.YtnmkmamobhkcbaaW.PrintEv Go.Proofs.Ytnmkmamobhkcbaa.P
set_option linter.unusedVariables false

theorem mod_lt (x : Int) : 0 ≤ x % 2305843009213693951 ∧ x % 2305843009213693951 < 2305843009213693951 := ⟨Int.emod_nonneg _ (by decide), Int.emod_lt_of_pos _ (by decide)⟩
theorem tmod_M {x : Int} (h : 0 ≤ x) : Int.tmod x 2305843009213693951 = x % 2305843009213693951 := Int.tmod_eq_emod_of_nonneg h
theorem mod_add_mul (a b c : Int) : (a % 2305843009213693951 + b % 2305843009213693951 * c) % 2305843009213693951 = (a + b * c) % 2305843009213693951 := by
  rw [Int.add_emod, Int.emod_emod, Int.mul_emod (b % 2305843009213693951), Int.emod_emod, ← Int.mul_emod, ← Int.add_emod]
theorem double_eq {n : Int} (h : 0 ≤ n ∧ n < 2305843009213693951) : qB.f n = some ((2 * n) % 2305843009213693951) := by
  unfold qB.f
  rw [w64 (x := n + n) (by omega)]
  split
  · rw [w64 (by omega)]; congr 1; omega
  · congr 1; omega
theorem eEj : ∀ (m : Nat) (c : Nat) (n o : Int), c < m → c < 2147483648 → 0 ≤ n ∧ n < 2305843009213693951 → 0 ≤ o ∧ o < 2305843009213693951 → Ev (fun k => bV.l0 k n (c : Int) o) ((o + n * c) % 2305843009213693951) := by
  intro m
  induction m with
  | zero => intro c n o h; omega
  | succ m ih =>
    intro c n o hc hc2 hn ho
    have hd := mod_lt (2 * n)
    have he : Int.tdiv (c : Int) 2 = ((c / 2 : Nat) : Int) := by rw [Int.tdiv_eq_ediv_of_nonneg (by omega)]; omega
    refine Ev.step (fun k_ => by rw [bV.l0]) ?_
    refine ev_cases (fun h1 => ?_) (fun h1 => ?_)
    · rw [double_eq hn, he, w64 (x := ((c / 2 : Nat) : Int)) (by omega), w64 (x := o + n) (by omega), tmod_M (by omega), Int.tmod_eq_emod_of_nonneg (by omega)]
      refine ev_cases (fun h2 => ev_some ?_) (fun h2 => ev_some ?_)
      · refine ev_cast (ih (c / 2) _ _ (by omega) (by omega) hd (mod_lt _)) ?_
        rw [mod_add_mul]
        congr 1
        have hcc : (c : Int) = 2 * ((c / 2 : Nat) : Int) + 1 := by omega
        generalize ((c / 2 : Nat) : Int) = q at hcc
        rw [hcc, Int.mul_add, Int.mul_one, Int.mul_comm 2 n, Int.mul_assoc]
        omega
      · refine ev_cast (ih (c / 2) _ o (by omega) (by omega) hd ho) ?_
        have ho' : o = o % 2305843009213693951 := by rw [Int.emod_eq_of_lt ho.1 ho.2]
        rw [ho', mod_add_mul, ← ho']
        congr 1
        have hcc : (c : Int) = 2 * ((c / 2 : Nat) : Int) := by omega
        generalize ((c / 2 : Nat) : Int) = q at hcc
        rw [hcc, Int.mul_comm 2 n, Int.mul_assoc]
    · have : (c : Int) = 0 := by omega
      rw [this, Int.mul_zero, Int.add_zero, Int.emod_eq_of_lt ho.1 ho.2]
      exact ev_now _
theorem times_ev {n : Int} {c : Nat} (h : 0 ≤ n ∧ n < 2305843009213693951) (hc : c < 2147483648) : Ev (fun k => bV.f k n (c : Int)) (n * c % 2305843009213693951) := by
  unfold bV.f
  exact ev_cast (eEj (c + 1) c n 0 (by omega) hc h (by decide)) (by rw [Int.zero_add])

/-- The digest of bytes, from h on. -/
def dgf (h : Int) (bs : List Int) : Int := bs.foldl (fun h b => (h * 257 % 2305843009213693951 + b + 1) % 2305843009213693951) h
def Bytes (l : List Int) : Prop := ∀ b ∈ l, 0 ≤ b ∧ b ≤ 255
theorem dgf_lt {bs : List Int} : ∀ {h : Int}, 0 ≤ h ∧ h < 2305843009213693951 → 0 ≤ dgf h bs ∧ dgf h bs < 2305843009213693951 := by
  induction bs with
  | nil => intro h hh; exact hh
  | cons b bs ih => intro h hh; exact ih (mod_lt _)
theorem fY2 {l : List Int} (hl : (l.length : Int) ≤ 1000000) (hb : Bytes l) : ∀ (m i : Nat) (h : Int), i + m = l.length → 0 ≤ h ∧ h < 2305843009213693951 → Ev (fun k => digest_Of.l0 k h l (l.length : Int) (i : Int)) (dgf h (l.drop i), 0, 0) := by
  intro m
  induction m with
  | zero =>
    intro i h hi hh
    refine Ev.step (fun k_ => by rw [digest_Of.l0]) ?_
    refine ev_neg (by omega) ?_
    rw [List.drop_eq_nil_of_le (by omega), w64 (by omega)]
    exact ev_now _
  | succ m ih =>
    intro i h hi hh
    have hx := hb _ (rd_mem (xs := l) (i := (i : Int)) (by omega) (by omega))
    have hm := mod_lt (h * 257)
    refine Ev.step (fun k_ => by rw [digest_Of.l0]) ?_
    refine ev_pos (by omega) (ev_pos (by omega) (ev_pos (by omega) (ev_bind (mul_ev hh (by decide)) ?_)))
    have e1 : IntKind.u64.wrap (rd l (i : Int)) = rd l (i : Int) := wu (by omega)
    have e2 : IntKind.u64.wrap (h * 257 % 2305843009213693951 + rd l (i : Int)) = h * 257 % 2305843009213693951 + rd l (i : Int) := wu (by omega)
    have e3 : IntKind.u64.wrap (h * 257 % 2305843009213693951 + rd l (i : Int) + 1) = h * 257 % 2305843009213693951 + rd l (i : Int) + 1 := wu (by omega)
    rw [e1, e2, e3, tmod_M (by omega), w64 (x := (i : Int) + 1) (by omega), drop_cons_rd (xs := l) (i := i) (by omega)]
    exact ih (i + 1) _ (by omega) (mod_lt _)
def ofR (l : List Int) : Int × Int × Int := if (l.length : Int) > 4096 then (0, 2, 0) else (dgf 1 l, 0, 0)
theorem of_ev {l : List Int} (hb : Bytes l) : Ev (fun k => digest_Of.f k l) (ofR l) := by
  unfold digest_Of.f ofR
  refine ev_ite (fun h => ev_now _) (fun h => ?_)
  have := fY2 (l := l) (by omega) hb l.length 0 1 (by omega) (by decide)
  rw [List.drop_zero] at this
  exact this
theorem fHi {l : List Int} (hl : (l.length : Int) ≤ 1000000) (hb : Bytes l) : ∀ (m i : Nat) (h : Int), i + m = l.length → 0 ≤ h ∧ h < 2305843009213693951 → Ev (fun k => bG.l0 k l h (i : Int)) (dgf h (l.drop i)) := by
  intro m
  induction m with
  | zero =>
    intro i h hi hh
    refine Ev.step (fun k_ => by rw [bG.l0]) ?_
    refine ev_neg (by omega) ?_
    rw [List.drop_eq_nil_of_le (by omega)]
    exact ev_now _
  | succ m ih =>
    intro i h hi hh
    have hx := hb _ (rd_mem (xs := l) (i := (i : Int)) (by omega) (by omega))
    have hm := mod_lt (h * 257)
    have ht := times_ev (n := h) (c := 257) hh (by decide)
    refine Ev.step (fun k_ => by rw [bG.l0]) ?_
    refine ev_pos (by omega) (ev_bind ht (ev_pos (by omega) ?_))
    rw [show ((257 : Nat) : Int) = 257 from rfl, w64 (x := rd l (i : Int)) (by omega), w64 (x := h * 257 % 2305843009213693951 + rd l (i : Int)) (by omega), w64 (x := h * 257 % 2305843009213693951 + rd l (i : Int) + 1) (by omega), tmod_M (by omega), w64 (x := (i : Int) + 1) (by omega), drop_cons_rd (xs := l) (i := i) (by omega)]
    exact ih (i + 1) _ (by omega) (mod_lt _)
theorem dof_ev {l : List Int} (hl : (l.length : Int) ≤ 1000000) (hb : Bytes l) : Ev (fun k => bG.f k l) (dgf 1 l) := by
  have := fHi hl hb l.length 0 1 (by omega) (by decide)
  rw [List.drop_zero] at this
  exact this
end Go.Proofs.Ytnmkmamobhkcbaa.Dig

/- Numbers as eight bytes, and the fault of an object: the program's and the reference's. -/
namespace Go.Proofs.Ytnmkmamobhkcbaa.Obj
open Go.RowKit Go.Proofs.YtnmkmamobhkcbaaW.PrintWords Go.Proofs.YtnmkmamobhkcbaaW.PrintEv Go.Proofs.Ytnmkmamobhkcbaa.P Go.Proofs.Ytnmkmamobhkcbaa.Dig
open Go.Proofs.YtnmkmamobhkcbaaW.PrintMore
set_option linter.unusedVariables false

abbrev O := S44
abbrev SO := fB
theorem In_eq (a b c : Int) : fE.f a b c = some (decide (b ≤ a ∧ a ≤ c)) := by
  unfold fE.f
  split
  · congr 1; simp; omega
  · congr 1; simp; omega
theorem Fault_eq (a b : Int) : aT.f a b = some (a, b) := rfl

/-- A number as eight bytes. -/
def wide (n : Int) : List Int := [n / 72057594037927936 % 256, n / 281474976710656 % 256, n / 1099511627776 % 256, n / 4294967296 % 256, n / 16777216 % 256, n / 65536 % 256, n / 256 % 256, n % 256]
theorem wide_len (n : Int) : (wide n).length = 8 := rfl
theorem wide_bytes (n : Int) : Bytes (wide n) := by
  intro b hb
  unfold wide at hb
  simp only [List.mem_cons, List.not_mem_nil, or_false] at hb
  rcases hb with rfl | rfl | rfl | rfl | rfl | rfl | rfl | rfl <;> omega
theorem shr_eq (x : Int) (p : Nat) (q : Int) (hq : q = 2 ^ p) (hp : p < 64) : shr .i64 x (p : Int) = x / q := by
  unfold shr
  rw [hq, show min ((p : Int)).toNat IntKind.i64.bits = p by simp [IntKind.bits]; omega]
theorem s56 (x : Int) : shr .i64 x 56 = x / 72057594037927936 := shr_eq x 56 _ (by decide) (by decide)
theorem s48 (x : Int) : shr .i64 x 48 = x / 281474976710656 := shr_eq x 48 _ (by decide) (by decide)
theorem s40 (x : Int) : shr .i64 x 40 = x / 1099511627776 := shr_eq x 40 _ (by decide) (by decide)
theorem s32 (x : Int) : shr .i64 x 32 = x / 4294967296 := shr_eq x 32 _ (by decide) (by decide)
theorem s24 (x : Int) : shr .i64 x 24 = x / 16777216 := shr_eq x 24 _ (by decide) (by decide)
theorem s16 (x : Int) : shr .i64 x 16 = x / 65536 := shr_eq x 16 _ (by decide) (by decide)
theorem s8 (x : Int) : shr .i64 x 8 = x / 256 := shr_eq x 8 _ (by decide) (by decide)
theorem s0 (x : Int) : shr .i64 x 0 = x := (shr_eq x 0 1 (by decide) (by decide)).trans (by omega)
theorem wide_ev {n : Int} (h : 0 ≤ n ∧ n < 9223372036854775808) : Ev (fun k => bI.f k n) (wide n) := by
  unfold bI.f
  refine ev_pos (by decide) ?_
  have step : ∀ {x i : Int} {o : List Int} {r : List Int}, 0 ≤ x ∧ x < 9223372036854775808 → 0 ≤ i → i < 8 → o.length = 8 → Ev (fun k => bI.l0 k (x / 256) (o.set i.toNat (x % 256)) (i - 1)) r → Ev (fun k => bI.l0 k x o i) r := by
    intro x i o r hx h0 h1 hl hr
    refine Ev.step (fun k_ => by rw [bI.l0]) ?_
    refine ev_pos (by omega) (ev_pos (by omega) (ev_pos (by omega) ?_))
    rw [Int.tdiv_eq_ediv_of_nonneg hx.1, Int.tmod_eq_emod_of_nonneg hx.1, w64 (x := x / 256) (by omega), w64 (x := i - 1) (by omega), show x % 256 % 256 = x % 256 by omega]
    exact hr
  refine step (by omega) (by decide) (by decide) (by simp) (step (by omega) (by decide) (by decide) (by simp) (step (by omega) (by decide) (by decide) (by simp) (step (by omega) (by decide) (by decide) (by simp) (step (by omega) (by decide) (by decide) (by simp) (step (by omega) (by decide) (by decide) (by simp) (step (by omega) (by decide) (by decide) (by simp) (step (by omega) (by decide) (by decide) (by simp) ?_)))))))
  refine Ev.step (fun k_ => by rw [bI.l0]) ?_
  refine ev_neg (by decide) (ev_cast (ev_now _) ?_)
  have e2 : n / 256 / 256 = n / 65536 := by omega
  have e3 : n / 65536 / 256 = n / 16777216 := by omega
  have e4 : n / 16777216 / 256 = n / 4294967296 := by omega
  have e5 : n / 4294967296 / 256 = n / 1099511627776 := by omega
  have e6 : n / 1099511627776 / 256 = n / 281474976710656 := by omega
  have e7 : n / 281474976710656 / 256 = n / 72057594037927936 := by omega
  rw [e2, e3, e4, e5, e6, e7]
  rfl

/-- The links' fault, from place i on. -/
def lflt : List Int → Int → Int × Int
  | [], _ => (0, 0)
  | x :: r, i => if x < 0 ∨ x ≥ 2305843009213693951 then (3, i) else lflt r (i + 1)
/-- The fault of an object. -/
def oflt (kd : Int) (ls ds : List Int) : Int × Int :=
  if kd < 1 ∨ kd > 3 then (4, 0) else if (ls.length : Int) > 30 then (2, 0) else if (ds.length : Int) > 1000 then (10, 0) else if kd = 1 ∧ (ls.length : Int) > 0 then (5, 0) else lflt ls 0
theorem lflt_zero : ∀ {ls : List Int} {i : Int}, (lflt ls i).1 = 0 → lflt ls i = (0, 0) ∧ ∀ x ∈ ls, 0 ≤ x ∧ x < 2305843009213693951
  | [], i, _ => ⟨rfl, fun x h => by cases h⟩
  | y :: r, i, h => by
    unfold lflt at h ⊢
    by_cases c : y < 0 ∨ y ≥ 2305843009213693951
    · rw [if_pos c] at h; exact absurd h (show ¬ (3 : Int) = 0 by decide)
    · rw [if_neg c] at h ⊢
      obtain ⟨h1, h2⟩ := lflt_zero h
      refine ⟨h1, fun x hx => ?_⟩
      rcases List.mem_cons.1 hx with rfl | hx
      · omega
      · exact h2 x hx
/-- An object without fault. -/
structure Good (kd : Int) (ls ds : List Int) : Prop where
  kind : 1 ≤ kd ∧ kd ≤ 3
  nl : (ls.length : Int) ≤ 30
  nd : (ds.length : Int) ≤ 1000
  blob : kd = 1 → ls = []
  link : ∀ x ∈ ls, 0 ≤ x ∧ x < 2305843009213693951
theorem oflt_zero {kd : Int} {ls ds : List Int} (h : (oflt kd ls ds).1 = 0) : oflt kd ls ds = (0, 0) ∧ Good kd ls ds := by
  unfold oflt at h ⊢
  by_cases c1 : kd < 1 ∨ kd > 3
  · rw [if_pos c1] at h; exact absurd h (by decide)
  rw [if_neg c1] at h ⊢
  by_cases c2 : (ls.length : Int) > 30
  · rw [if_pos c2] at h; exact absurd h (by decide)
  rw [if_neg c2] at h ⊢
  by_cases c3 : (ds.length : Int) > 1000
  · rw [if_pos c3] at h; exact absurd h (by decide)
  rw [if_neg c3] at h ⊢
  by_cases c4 : kd = 1 ∧ (ls.length : Int) > 0
  · rw [if_pos c4] at h; exact absurd h (by decide)
  rw [if_neg c4] at h ⊢
  obtain ⟨h1, h2⟩ := lflt_zero h
  exact ⟨h1, by omega, by omega, by omega, fun e => List.eq_nil_of_length_eq_zero (by omega), h2⟩
theorem eEi {ls : List Int} (hl : (ls.length : Int) ≤ 1000) : ∀ (m i : Nat), i + m = ls.length → Ev (fun k => objects_check.l0 k ls (ls.length : Int) (i : Int)) (lflt (ls.drop i) (i : Int)) := by
  intro m
  induction m with
  | zero =>
    intro i hi
    refine Ev.step (fun k_ => by rw [objects_check.l0]) ?_
    rw [List.drop_eq_nil_of_le (by omega)]
    exact ev_neg (by omega) (ev_now _)
  | succ m ih =>
    intro i hi
    have next := ih (i + 1) (by omega)
    rw [show ((i + 1 : Nat) : Int) = (i : Int) + 1 by omega] at next
    refine Ev.step (fun k_ => by rw [objects_check.l0]) ?_
    rw [w64 (x := (i : Int) + 1) (by omega), drop_cons_rd (by omega)]
    show Ev _ (if rd ls (i : Int) < 0 ∨ rd ls (i : Int) ≥ 2305843009213693951 then (3, (i : Int)) else lflt (ls.drop (i + 1)) ((i : Int) + 1))
    refine ev_pos (by omega) (ev_pos (by omega) (ev_pos (by omega) (ev_cases (fun c => ?_) (fun c => ev_cases (fun c2 => ?_) (fun c2 => ?_)))))
    · rw [if_pos (.inl c)]; exact ev_now _
    · rw [if_pos (.inr c2)]; exact ev_now _
    · rw [if_neg (by omega)]; exact next
theorem check_ev {kd : Int} {ls ds : List Int} : Ev (fun k => objects_check.f k kd ls ds) (oflt kd ls ds) := by
  have hj : ∀ b : Bool, b = decide (kd < 1 ∨ kd > 3) → Ev (fun k => objects_check.j0 k b kd ls ds) (oflt kd ls ds) := by
    intro b hb
    unfold oflt
    refine Ev.step (fun k_ => by rw [objects_check.j0]) ?_
    by_cases c1 : kd < 1 ∨ kd > 3
    · rw [if_pos c1, hb, decide_eq_true c1]
      exact ev_pos rfl (ev_now _)
    · rw [if_neg c1, hb, decide_eq_false c1]
      refine ev_neg (by decide) (ev_ite (fun _ => ev_now _) (fun c2 => ev_ite (fun _ => ev_now _) (fun c3 => ?_)))
      have hl := eEi (ls := ls) (by omega) ls.length 0 (by omega)
      rw [List.drop_zero] at hl
      have hj1 : Ev (fun k => objects_check.j1 k kd ls ds) (lflt ls 0) := by
        refine Ev.step (fun k_ => by rw [objects_check.j1]) ?_
        exact hl
      refine ev_cases (fun c4 => ev_cases (fun c5 => ?_) (fun c5 => ?_)) (fun c4 => ?_)
      · rw [if_pos ⟨c4, c5⟩]; exact ev_now _
      · rw [if_neg (by omega)]; exact hj1
      · rw [if_neg (by omega)]; exact hj1
  unfold objects_check.f
  refine ev_cases (fun c => hj true (by rw [decide_eq_true (.inl c)])) (fun c => hj _ ?_)
  by_cases c2 : kd > 3
  · rw [decide_eq_true c2, decide_eq_true (.inr c2)]
  · rw [decide_eq_false c2, decide_eq_false (by omega)]
theorem dY8 {kd : Int} {ls ds : List Int} (hl : (ls.length : Int) ≤ 1000) : ∀ (m i : Nat), i + m = ls.length → Ev (fun k => aK.l0 k (i : Int) kd ls ds) (lflt (ls.drop i) (i : Int)) := by
  intro m
  induction m with
  | zero =>
    intro i hi
    refine Ev.step (fun k_ => by rw [aK.l0]) ?_
    rw [List.drop_eq_nil_of_le (by omega)]
    exact ev_neg (by omega) (ev_now _)
  | succ m ih =>
    intro i hi
    have next := ih (i + 1) (by omega)
    rw [show ((i + 1 : Nat) : Int) = (i : Int) + 1 by omega] at next
    refine Ev.step (fun k_ => by rw [aK.l0]) ?_
    rw [w64 (x := (i : Int) + 1) (by omega), drop_cons_rd (by omega), In_eq]
    show Ev _ (if rd ls (i : Int) < 0 ∨ rd ls (i : Int) ≥ 2305843009213693951 then (3, (i : Int)) else lflt (ls.drop (i + 1)) ((i : Int) + 1))
    refine ev_pos (by omega) (ev_pos (by omega) (ev_some (ev_cases (fun c => ?_) (fun c => ?_))))
    · have c := of_decide_eq_true c
      rw [if_neg (by omega)]; exact next
    · have c : ¬ (0 ≤ rd ls (i : Int) ∧ rd ls (i : Int) ≤ 2305843009213693950) := fun h => c (decide_eq_true h)
      rw [if_pos (by omega)]
      exact ev_now _
theorem ofault_ev {kd : Int} {ls ds : List Int} : Ev (fun k => aK.f k kd ls ds) (oflt kd ls ds) := by
  unfold aK.f oflt
  rw [In_eq]
  refine ev_some (ev_cases (fun c => ?_) (fun c => ?_))
  · have c := of_decide_eq_true c
    rw [if_neg (by omega)]
    refine ev_ite (fun _ => ev_now _) (fun c2 => ev_ite (fun _ => ev_now _) (fun c3 => ?_))
    have hl := dY8 (kd := kd) (ls := ls) (ds := ds) (by omega) ls.length 0 (by omega)
    rw [List.drop_zero] at hl
    refine ev_cases (fun c4 => ?_) (fun c4 => ?_)
    · refine Ev.step (fun k_ => by rw [aK.j0]) ?_
      by_cases c5 : (ls.length : Int) = 0
      · rw [if_neg (by omega)]
        refine ev_neg ?_ hl
        rw [c5]; decide
      · rw [if_pos (by omega)]
        exact ev_pos (by simp only [bne_iff_ne, ne_eq]; exact c5) (ev_now _)
    · refine Ev.step (fun k_ => by rw [aK.j0]) ?_
      rw [if_neg (by omega)]
      exact ev_neg (by decide) hl
  · have c : ¬ (1 ≤ kd ∧ kd ≤ 3) := fun h => c (decide_eq_true h)
    rw [if_pos (by omega)]
    exact ev_now _
end Go.Proofs.Ytnmkmamobhkcbaa.Obj
