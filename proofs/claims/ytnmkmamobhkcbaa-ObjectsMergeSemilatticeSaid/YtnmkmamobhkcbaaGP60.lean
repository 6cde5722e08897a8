/- Texts of the proofs of 8 statements: what the printed functions come to, plain laws, rows (no condition beyond the statements' own). -/
import Derived.Test.YtnmkmamobhkcbaaGP0
import Derived.Test.YtnmkmamobhkcbaaGP10
import Derived.Test.YtnmkmamobhkcbaaGP35
import Derived.Test.YtnmkmamobhkcbaaGP51
namespace Go.Proofs.Ytnmkmamobhkcbaa.P
open Go.RowKit Go.Proofs.YtnmkmamobhkcbaaW.PrintWords Go.Proofs.YtnmkmamobhkcbaaW.PrintLast Go.Proofs.YtnmkmamobhkcbaaW.PrintMore
attribute [local go_sem] max2_int min2_int max_two min_two max_three min_three max_four min_four   -- for this text's walks alone
set_option linter.unusedVariables false
set_option linter.unusedSimpArgs false
section
attribute [local go_sem high] bAt
def objects_Put.j0 : Nat → Int → Int → Bool → Bool → List (fB) → Int → List Int → List Int → List (fB) → Option ((List (fB)) × Int × Int × Int)
  | 0, _, _, _, _, _, _, _, _, _ => none
  | k + 1, x8, x11, x12, x40, eQ0, eQ1, eQ2, eQ3, cKj => if x40 = true then (some (([] : List (fB)), 0, 19, (-1))) else (if x12 = true then (some (cKj, x8, 0, 0)) else (if (eQ0.length : Int) = 40 then (some (([] : List (fB)), 0, 14, (-1))) else ((objects_Clone.f eQ1 eQ2 eQ3).bind fun bMw => (if 0 ≤ x11 then (if x11 ≤ (cKj.length : Int) then (if cKj.length < 2199023255552 then (some ((pp_ins cKj x11 [(⟨x8, (⟨bMw.1, bMw.2.1, bMw.2.2⟩ : S44)⟩ : fB)]), x8, 0, 0)) else (none)) else (none)) else (none)))))
def objects_Put.f (k : Nat) (aD : List (fB)) (dH : Int) (bX : List Int) (cO : List Int) : Option ((List (fB)) × Int × Int × Int) := (objects_Validate.f k aD).bind fun bWi => (if (!(bWi.1 == 0) || (!(bWi.2 == 0))) = true then (some (([] : List (fB)), 0, bWi.1, bWi.2)) else ((objects_Digest.f k dH bX cO).bind fun aOi => (if (!(aOi.2.1 == 0) || (!(aOi.2.2 == 0))) = true then (some (([] : List (fB)), 0, aOi.2.1, (-1))) else ((objects_copied.f k aD).bind fun zO => ((objects_find.f k aD aOi.1).bind fun rZ => (if rZ.2 = true then (if 0 ≤ rZ.1 then (if rZ.1 < (aD.length : Int) then ((objects_Same.f k ((aA aD rZ.1).f1.f0) ((aA aD rZ.1).f1.f1) ((aA aD rZ.1).f1.f2) dH bX cO).bind fun bMx => (objects_Put.j0 k aOi.1 rZ.1 rZ.2 (!bMx) aD dH bX cO zO)) else (none)) else (none)) else (objects_Put.j0 k aOi.1 rZ.1 rZ.2 false aD dH bX cO zO)))))))
theorem objects_Put.mono_l : ∀ k, (∀ y0 y1 y2 y3 y4 y5 y6 y7 y8, LeO (objects_Put.j0 k y0 y1 y2 y3 y4 y5 y6 y7 y8) (objects_Put.j0 (k + 1) y0 y1 y2 y3 y4 y5 y6 y7 y8))
  | 0 => fun _ _ _ _ _ _ _ _ _ r h => by simp [objects_Put.j0] at h
  | k + 1 => by
    have mU := objects_Put.mono_l k
    · intro y0 y1 y2 y3 y4 y5 y6 y7 y8
      unfold objects_Put.j0
      repeat' first | (with_reducible first | exact mU _ _ _ _ _ _ _ _ _ | exact objects_Digest.mono _ _ _ _ | exact objects_Same.mono _ _ _ _ _ _ _ | exact objects_Validate.mono _ _ | exact objects_copied.mono _ _ | exact objects_find.mono _ _ _ | exact LeO.refl _ | exact LeO.none _ | refine LeO.ite ?_ ?_ | refine LeO.bind ?_ (fun _ => ?_)) | exact mU _ _ _ _ _ _ _ _ _ | exact objects_Digest.mono _ _ _ _ | exact objects_Same.mono _ _ _ _ _ _ _ | exact objects_Validate.mono _ _ | exact objects_copied.mono _ _ | exact objects_find.mono _ _ _ | exact LeO.none _ | refine LeO.ite ?_ ?_ | refine LeO.bind ?_ (fun _ => ?_)
theorem objects_Put.mono : ∀ a0 a1 a2 a3 k, LeO (objects_Put.f k a0 a1 a2 a3) (objects_Put.f (k + 1) a0 a1 a2 a3) := by
  intro a0 a1 a2 a3 k
  have mU := objects_Put.mono_l k
  unfold objects_Put.f
  repeat' first | (with_reducible first | exact mU _ _ _ _ _ _ _ _ _ | exact objects_Digest.mono _ _ _ _ | exact objects_Same.mono _ _ _ _ _ _ _ | exact objects_Validate.mono _ _ | exact objects_copied.mono _ _ | exact objects_find.mono _ _ _ | exact LeO.refl _ | exact LeO.none _ | refine LeO.ite ?_ ?_ | refine LeO.bind ?_ (fun _ => ?_)) | exact mU _ _ _ _ _ _ _ _ _ | exact objects_Digest.mono _ _ _ _ | exact objects_Same.mono _ _ _ _ _ _ _ | exact objects_Validate.mono _ _ | exact objects_copied.mono _ _ | exact objects_find.mono _ _ _ | exact LeO.none _ | refine LeO.ite ?_ ?_ | refine LeO.bind ?_ (fun _ => ?_)
def objects_Put.T9 : Bool × List (List Nat × List Nat) := (true, [([], []), ([0], [0]), ([1], [1]), ([2, 1], [1, 2]), ([1], [1]), ([3, 4, 1], [1, 3, 4]), ([5, 1], [1, 5]), ([6, 1], [1, 6]), ([1], [1]), ([7, 8, 1, 1], [1, 7, 8]), ([9, 1], [1, 9]), ([1, 10], [1, 10]), ([11, 9], [11])])
def objects_Put.B9 : List Nat := [0, 1, 3, 7, 3, 31, 63, 127, 3, 511, 1023, 2047, 4095]
theorem objects_Put.tab9 : rtab .any (opsOf Try.f33 9) = objects_Put.T9 := by kernel_rfl
theorem objects_Put.bits9 : waitsOk objects_Put.T9.2 objects_Put.B9 = true := by kernel_rfl
def objects_Put.T15 : Bool × List (List Nat × List Nat) := (true, [([], []), ([0], [0]), ([], []), ([], []), ([], []), ([4], [4]), ([3, 5], [3, 5]), ([6], [6]), ([1, 2, 7, 5], [1, 2, 7]), ([0, 1, 2, 3, 4, 5, 6, 7, 8], []), ([9, 8, 8, 0, 1, 2, 3, 4, 5, 6, 7, 8], [8, 9])])
def objects_Put.B15 : List Nat := [0, 1, 0, 0, 0, 16, 56, 120, 255, 511, 1023]
theorem objects_Put.tab15 : rtab .any (opsOf Try.f33 15) = objects_Put.T15 := by kernel_rfl
theorem objects_Put.bits15 : waitsOk objects_Put.T15.2 objects_Put.B15 = true := by kernel_rfl
abbrev objects_Put.Z1 : Array Bool := #[U,U,U,U,U,U,U,U,U,U,U,U,U]
abbrev objects_Put.Z2 : Array Bool := #[J,U,U,U,U,U,U,U,U,U,U,U,U]
abbrev objects_Put.Z3 : Array Bool := #[J,J,U,U,U,U,U,U,U,U,U,U,U]
abbrev objects_Put.Z4 : Array Bool := #[J,J,J,U,U,U,U,U,U,U,U,U,U]
abbrev objects_Put.Z5 : Array Bool := #[J,J,J,U,J,U,U,U,U,U,U,U,U]
abbrev objects_Put.Z6 : Array Bool := #[J,J,J,J,J,U,U,U,U,U,U,U,U]
abbrev objects_Put.Z7 : Array Bool := #[J,J,J,J,J,J,U,U,U,U,U,U,U]
abbrev objects_Put.Z8 : Array Bool := #[J,J,J,J,J,J,J,U,U,U,U,U,U]
abbrev objects_Put.Z9 : Array Bool := #[J,J,J,J,J,J,J,J,U,U,U,U,U]
abbrev objects_Put.Z10 : Array Bool := #[J,J,J,J,J,J,J,J,J,U,U,U,U]
abbrev objects_Put.Z11 : Array Bool := #[J,J,J,J,J,J,J,J,J,J,U,U,U]
abbrev objects_Put.Z12 : Array Bool := #[J,J,J,J,J,J,J,J,J,J,J,U,U]
abbrev objects_Put.Z13 : Array Bool := #[J,J,J,J,J,J,J,J,J,J,J,J,U]
abbrev objects_Put.Z14 : Array Bool := #[J,J,J,J,J,J,J,J,J,J,J,J,J]
abbrev objects_Put.Z15 : Array Bool := #[J,J,J,J,U,U,U,U,U,U,U,U,U]
abbrev objects_Put.Z16 : Array Bool := #[U,U,U,U,U,U,U,U,U,U,U]
abbrev objects_Put.Z17 : Array Bool := #[J,U,U,U,U,U,U,U,U,U,U]
abbrev objects_Put.Z18 : Array Bool := #[J,U,J,U,U,U,U,U,U,U,U]
abbrev objects_Put.Z19 : Array Bool := #[J,U,J,J,U,U,U,U,U,U,U]
abbrev objects_Put.Z20 : Array Bool := #[J,J,J,J,U,U,U,U,U,U,U]
abbrev objects_Put.Z21 : Array Bool := #[J,J,J,J,J,U,U,U,U,U,U]
abbrev objects_Put.Z22 : Array Bool := #[J,J,J,J,J,J,U,U,U,U,U]
abbrev objects_Put.Z23 : Array Bool := #[J,J,J,J,J,J,J,U,U,U,U]
abbrev objects_Put.Z24 : Array Bool := #[J,J,J,J,J,J,J,J,U,U,U]
abbrev objects_Put.Z25 : Array Bool := #[J,J,J,J,J,J,J,J,J,U,U]
abbrev objects_Put.Z26 : Array Bool := #[J,J,J,J,J,J,J,J,J,J,U]
abbrev objects_Put.Z27 : Array Bool := #[J,J,J,J,J,J,J,J,J,J,J]
set_option maxHeartbeats 8000000 in
set_option maxRecDepth 100000 in
theorem objects_Put.calls (k : Nat) (bP : Option Addr) (bK : Nat) (aD : List (fB)) (dH : Int) (kW : Option Addr) (kX : Nat) (bX : List Int) (kR : Option Addr) (kS : Nat) (cO : List Int) (r1 : List (fB)) (r2 : Int) (r3 : Int) (r4 : Int) (w : World) (mZ : Kd.C qL w bP aD.length aD) (nA : aD.length ≤ bK) (aNp : Kd.C (Kd.int .i64) w kW bX.length bX) (aNq : bX.length ≤ kX) (aNr : Kd.C (Kd.int .u8) w kR cO.length cO) (aNs : cO.length ≤ kS) (h : objects_Put.f k aD dH bX cO = some (r1, r2, r3, r4)) :
  Calls Try.prog 33 #[.agg #[.slice bP aD.length bK], .agg #[.int .i64 dH, .slice kW bX.length kX, .slice kR cO.length kS]] w fun e w' => ∃ v0_ : Value, e = .returned (.tuple #[.agg #[v0_], .int .i64 r2, .agg #[.int .i64 r3, .int .i64 r4]]) ∧ Kd.S qL 46 w' w.heap.size (fun _ => True) v0_ r1 ∧ Below w.heap.size w w' := by
  have aP7 := Try.underlying24
  have aQf := Try.underlying44
  have aQg := Try.underlying28
  have cRq := Try.underlying46
  have fI := aZ mZ
  have lC := aZ nA
  clear mZ nA
  have aDm := aZ aNp
  have aD8 := aZ aNq
  clear aNp aNq
  have aD9 := aZ aNr
  have aF2 := aZ aNs
  clear aNr aNs
  have HB := aZ (Below.refl w.heap.size w)
  have H : ((objects_Validate.f k aD).bind fun bWi => (if (!(bWi.1 == 0) || (!(bWi.2 == 0))) = true then (some (([] : List (fB)), 0, bWi.1, bWi.2)) else ((objects_Digest.f k dH bX cO).bind fun aOi => (if (!(aOi.2.1 == 0) || (!(aOi.2.2 == 0))) = true then (some (([] : List (fB)), 0, aOi.2.1, (-1))) else ((objects_copied.f k aD).bind fun zO => ((objects_find.f k aD aOi.1).bind fun rZ => (if rZ.2 = true then (if 0 ≤ rZ.1 then (if rZ.1 < (aD.length : Int) then ((objects_Same.f k ((aA aD rZ.1).f1.f0) ((aA aD rZ.1).f1.f1) ((aA aD rZ.1).f1.f2) dH bX cO).bind fun bMx => (objects_Put.j0 k aOi.1 rZ.1 rZ.2 (!bMx) aD dH bX cO zO)) else (none)) else (none)) else (objects_Put.j0 k aOi.1 rZ.1 rZ.2 false aD dH bX cO zO)))))))) = some (r1, r2, r3, r4) := h
  clear h
  replace H := Option.bind_eq_some_iff.mp H
  obtain ⟨⟨aS5, bA1⟩, A30, H⟩ := H
  replace H : (if (!(aS5 == 0) || (!(bA1 == 0))) = true then (some (([] : List (fB)), 0, aS5, bA1)) else ((objects_Digest.f k dH bX cO).bind fun aOi => (if (!(aOi.2.1 == 0) || (!(aOi.2.2 == 0))) = true then (some (([] : List (fB)), 0, aOi.2.1, (-1))) else ((objects_copied.f k aD).bind fun zO => ((objects_find.f k aD aOi.1).bind fun rZ => (if rZ.2 = true then (if 0 ≤ rZ.1 then (if rZ.1 < (aD.length : Int) then ((objects_Same.f k ((aA aD rZ.1).f1.f0) ((aA aD rZ.1).f1.f1) ((aA aD rZ.1).f1.f2) dH bX cO).bind fun bMx => (objects_Put.j0 k aOi.1 rZ.1 rZ.2 (!bMx) aD dH bX cO zO)) else (none)) else (none)) else (objects_Put.j0 k aOi.1 rZ.1 rZ.2 false aD dH bX cO zO))))))) = some (r1, r2, r3, r4) := H
  have A3 := aZ A30
  clear A30
  by_cases c4 : (!(aS5 == 0) || (!(bA1 == 0))) = true
  · rw [if_pos c4] at H
    have aJy : (!(aS5 == 0) || (!(bA1 == 0))) = true := c4
    clear c4
    simp only [Option.some.injEq, Prod.mk.injEq] at H
    obtain ⟨rfl, rfl, rfl, rfl⟩ := H
    go_enter Try.func33, Try.ntmps33
    try go_wp2_with (first | ((with_reducible refine gate_dst (N := 2) rfl ?_); refine box_event ?hg (N := 2) ?hd (cs := #[.slice bP aD.length bK]) (t := 24) ?hr ?_; (case hd => rfl); (case hg => rfl); (case hr => first | (go_simp; done) | (go_simp; rfl)); intro bCk hg w5 hbox hb; have gU := aZ (hbox); have fAf := xgh hg HB; have bEh := xgh hg HB; replace HB := xhl HB hb; clear hb hbox hg) | ((with_reducible refine gate_dst (N := 3) rfl ?_); refine box_event ?hg (N := 3) ?hd (cs := #[.int .i64 dH, .slice kW bX.length kX, .slice kR cO.length kS]) (t := 44) ?hr ?_; (case hd => rfl); (case hg => rfl); (case hr => first | (go_simp; done) | (go_simp; rfl)); intro aSl hg w6 hbox hb; have gT := aZ (hbox); have fAg := xgh hg HB; have bEi := xgh hg HB; replace HB := xhl HB hb; have aS6 := xnl hg gU; have aS7 := xng hg gU; replace gU := xbb gU hb; clear hb hbox hg) | ((with_reducible refine gate_dst (N := 4) rfl ?_); refine box_event ?hg (N := 4) ?hd (cs := #[.slice none 0 0]) (t := 24) ?hr ?_; (case hd => rfl); (case hg => rfl); (case hr => first | (go_simp; done) | (go_simp; rfl)); intro aHk hg w7 hbox hb; have jM := aZ (hbox); have fAh := xgh hg HB; have bEj := xgh hg HB; replace HB := xhl HB hb; have aEr := xnl hg gU; have aEs := xng hg gU; replace gU := xbb gU hb; have aGl := xnl hg gT; have aGm := xng hg gT; replace gT := xbb gT hb; clear hb hbox hg) | ((with_reducible refine gate_dst (N := 6) rfl ?_); refine box_event ?hg (N := 6) ?hd (cs := #[.int .i64 0, .int .i64 0]) (t := 28) ?hr ?_; (case hd => rfl); (case hg => rfl); (case hr => first | (go_simp; done) | (go_simp; rfl)); intro zL hg w8 hbox hb; have jN := aZ (hbox); have fAi := xgh hg HB; have bEk := xgh hg HB; replace HB := xhl HB hb; have aBn := xnl hg gU; have aBo := xng hg gU; replace gU := xbb gU hb; have aCu := xnl hg gT; have aCv := xng hg gT; replace gT := xbb gT hb; have qO := xnl hg jM; have vU := xng hg jM; replace jM := xbb jM hb; clear hb hbox hg; have dJq := aS6.out; have dJr := aS7.out; have dDc := aEr.out; have dDd := aEs.out; have bMj := aBn.out; have bMk := aBo.out; have aHh : w8.cell? ⟨bCk, 0, none⟩ = some (.slice bP aD.length bK) := (blk_cell gU.out 0).trans rfl; have aHi := blk_frozen gU.out 0) | ((with_reducible refine gate_callee (f := 32) rfl ?_); refine goesL_ (some 14) rfl rfl Try.func32 (by kernel_rfl) rfl #[.agg #[.slice bP aD.length bK]] rfl xmp ?_; (with_reducible refine (objects_Validate.calls k _ _ aD aS5 bA1 _ ?side1 ?side2 A3.out).mono ?_); (case side1 => exact xcb fI HB); (case side2 => exact lC.out); rintro e w13 ⟨rfl, hb⟩; refine ⟨_, rfl, ?_⟩; replace gU := xbb gU hb; replace gT := xbb gT hb; replace jM := xbb jM hb; replace jN := xbb jN hb; replace HB := xhl HB hb; skip; (try clear hb); (try clear iV); (try clear hk); (try clear hi)) | ((with_reducible refine gate_dst (N := 7) rfl ?_); refine box_event ?hg (N := 7) ?hd (cs := #[.int .i64 0, .int .i64 0]) (t := 28) ?hr ?_; (case hd => rfl); (case hg => rfl); (case hr => first | (go_simp; done) | (go_simp; rfl)); intro aCm hg w14 hbox hb; have oG := aZ (hbox); have fAj := xgh hg HB; have bEl := xgh hg HB; replace HB := xhl HB hb; have aS8 := xnl hg gU; have aS9 := xng hg gU; replace gU := xbb gU hb; have bEm := xnl hg gT; have bEn := xng hg gT; replace gT := xbb gT hb; have aEt := xnl hg jM; have aBp := xng hg jM; replace jM := xbb jM hb; have aBq := xnl hg jN; have wN := xng hg jN; replace jN := xbb jN hb; clear hb hbox hg; have bVv := aS9.out; have bVw := aS8.out; have dEj := bEn.out; have dEk := bEm.out; have cMx := aBp.out; have cMy := aEt.out; have cNa := wN.out; have cNb := aBq.out; have bI4 : w14.cell? ⟨aCm, 0, none⟩ = some (.int .i64 0) := (blk_cell oG.out 0).trans rfl; have bPp : w14.cell? ⟨aCm, 1, none⟩ = some (.int .i64 0) := (blk_cell oG.out 1).trans rfl; have bI5 := blk_frozen oG.out 0; have bPq := blk_frozen oG.out 1))
    replace gU : Aside0 (((w14.setCell ⟨aCm, 0, none⟩ (.int .i64 aS5)).setCell ⟨aCm, 1, none⟩ (.int .i64 bA1)).heap[bCk]? = some (.cells #[.slice bP aD.length bK] 24 (0, 0))) := xk gU
    replace gT : Aside0 (((w14.setCell ⟨aCm, 0, none⟩ (.int .i64 aS5)).setCell ⟨aCm, 1, none⟩ (.int .i64 bA1)).heap[aSl]? = some (.cells #[.int .i64 dH, .slice kW bX.length kX, .slice kR cO.length kS] 44 (0, 0))) := xk gT
    replace jM : Aside0 (((w14.setCell ⟨aCm, 0, none⟩ (.int .i64 aS5)).setCell ⟨aCm, 1, none⟩ (.int .i64 bA1)).heap[aHk]? = some (.cells #[.slice none 0 0] 24 (0, 0))) := xk jM
    replace jN : Aside0 (((w14.setCell ⟨aCm, 0, none⟩ (.int .i64 aS5)).setCell ⟨aCm, 1, none⟩ (.int .i64 bA1)).heap[zL]? = some (.cells #[.int .i64 0, .int .i64 0] 28 (0, 0))) := xk jN
    replace oG : Aside0 (((w14.setCell ⟨aCm, 0, none⟩ (.int .i64 aS5)).setCell ⟨aCm, 1, none⟩ (.int .i64 bA1)).heap[aCm]? = some (.cells #[.int .i64 aS5, .int .i64 bA1] 28 (0, 0))) := ⟨by (with_reducible repeat (first | refine bN ?_ _ | refine bD ?_ | refine bA ?_ _)); refine blk_put (cs := #[.int .i64 aS5, .int .i64 0]) ?_ 1 _ rfl; (with_reducible repeat (first | refine bN ?_ _ | refine bD ?_ | refine bA ?_ _)); refine blk_put (cs := #[.int .i64 0, .int .i64 0]) ?_ 0 _ rfl; (with_reducible repeat (first | refine bN ?_ _ | refine bD ?_ | refine bA ?_ _)); exact oG.out⟩
    replace HB : Aside0 (Below w.heap.size w ((w14.setCell ⟨aCm, 0, none⟩ (.int .i64 aS5)).setCell ⟨aCm, 1, none⟩ (.int .i64 bA1))) := xb HB
    generalize ((w14.setCell ⟨aCm, 0, none⟩ (.int .i64 aS5)).setCell ⟨aCm, 1, none⟩ (.int .i64 bA1)) = w20 at gU gT jM jN oG HB ⊢
    replace gU := aZ (bD gU.out)
    replace gT := aZ (bD gT.out)
    replace jM := aZ (bD jM.out)
    replace jN := aZ (bD jN.out)
    replace oG := aZ (bD oG.out)
    replace HB := aZ (lD HB.out)
    refine start_ (n := 5) (S := fun w' => w'.cell? ⟨aCm, 0, none⟩ = some (.int .i64 aS5) ∧ w'.cell? ⟨aCm, 1, none⟩ = some (.int .i64 bA1)) (ds := []) #[false, false, false, false, false] (by kernel_rfl) rfl rfl ⟨(blk_cell oG.out 0).trans rfl, (blk_cell oG.out 1).trans rfl⟩ (fun hHeld => ?_)
    generalize w20.drew = w21 at gU gT jM jN oG HB hHeld ⊢
    refine pure_ (i := 0) (N := some 18) (v := ?_) (a' := ?_) #[true, false, false, false, false] rfl rfl (by kernel_rfl) (fun _ _ _ h => h) (Or.inl ⟨by rfl, ?_⟩) ?_ ?_
    rotate_left
    · intro w'
      go_simp
      with_reducible rfl
    rotate_left
    · simp only [Act.put, List.setIfInBounds_toArray, List.set_cons_zero, List.set_cons_succ, i64_w, i32_w]
      rfl
    refine take_ (i := 1) (N := some 19) (v := ?_) (a' := ?_) #[true, true, false, false, false] rfl rfl (by kernel_rfl) (fun _ _ _ h => h) (Or.inl ⟨by rfl, ?_⟩) hHeld ?_ ?_
    rotate_left
    · rintro w' ⟨s0, s1⟩
      go_simp
      with_reducible rfl
    rotate_left
    · simp only [Act.put, List.setIfInBounds_toArray, List.set_cons_zero, List.set_cons_succ, i64_w, i32_w]
      rfl
    refine one_ (i := 2) (N := none) #[true, true, true, false, false] rfl rfl (by kernel_rfl) (by decide) (fun K hK => ?_)
    have fXm : w21.cell? ⟨aHk, 0, none⟩ = some (.slice none 0 0) := (blk_cell jM.out 0).trans rfl
    have fAk := blk_frozen jM.out 0
    have eQ4 := aEr.out
    have dP9 := aGl.out
    have dQa := vU.out
    have gV0 := aBp.out
    have eQ5 := aEs.out
    have dQb := aGm.out
    have dQc := qO.out
    have gV1 := aEt.out
    refine skip_ (w1 := ?_) (by rfl) rfl ?_ ?_
    rotate_left
    · go_simp
      rfl
    refine hK.out _ _ ⟨((cell_far (p := ⟨aHk, _, none⟩) aBp.out _).trans (hHeld.1)), ((cell_far (p := ⟨aHk, _, none⟩) aBp.out _).trans (hHeld.2))⟩ (fun hHeld => ?_)
    clear hK K
    refine pure_ (i := 3) (N := some 5) (v := ?_) (a' := ?_) #[true, true, true, true, false] rfl rfl (by kernel_rfl) (fun _ _ _ h => h) (Or.inl ⟨by rfl, ?_⟩) ?_ ?_
    rotate_left
    · intro w'
      go_simp
      with_reducible rfl
    rotate_left
    · simp only [Act.put, List.setIfInBounds_toArray, List.set_cons_zero, List.set_cons_succ, i64_w, i32_w]
      rfl
    refine one_ (i := 4) (N := none) #[true, true, true, true, true] rfl rfl (by kernel_rfl) (by decide) (fun K hK => ?_)
    have fXn : w21.cell? ⟨zL, 0, none⟩ = some (.int .i64 0) := (blk_cell jN.out 0).trans rfl
    have fAl := blk_frozen jN.out 0
    have dQd := aBn.out
    have eQ6 := aCu.out
    have eQ7 := qO.out
    have gV2 := wN.out
    have dQe := aBo.out
    have eQ8 := aCv.out
    have eQ9 := vU.out
    have gV3 := aBq.out
    have hIv : w21.cell? ⟨zL, 1, none⟩ = some (.int .i64 0) := (blk_cell jN.out 1).trans rfl
    have fXo := blk_frozen jN.out 1
    have eRa := aBn.out
    have gV4 := aCu.out
    have eRb := qO.out
    have gV5 := wN.out
    have eRc := aBo.out
    have gV6 := aCv.out
    have eRd := vU.out
    have gV7 := aBq.out
    refine skip_ (w1 := ?_) (by rfl) rfl ?_ ?_
    rotate_left
    · go_simp
      rfl
    refine hK.out _ _ ⟨((cell_far (p := ⟨zL, _, none⟩) wN.out _).trans (((cell_far (p := ⟨zL, _, none⟩) wN.out _).trans (hHeld.1)))), ((cell_far (p := ⟨zL, _, none⟩) wN.out _).trans (((cell_far (p := ⟨zL, _, none⟩) wN.out _).trans (hHeld.2))))⟩ (fun hHeld => ?_)
    clear hK K
    refine done_ (by kernel_rfl) ?_
    try go_wp2
    refine bodyPost_ret (results_list (rs := [.cell 4 24, .tmp 5, .cell 6 28]) rfl (by simp) (.cell aHk 24 #[.slice none 0 0] (0, 0) _ rfl (by (with_reducible repeat (first | refine bN ?_ _ | refine bD ?_ | refine bA ?_ _)); refine blk_far ?_ qO.out _; (with_reducible repeat (first | refine bN ?_ _ | refine bD ?_ | refine bA ?_ _)); refine blk_far ?_ qO.out _; (with_reducible repeat (first | refine bN ?_ _ | refine bD ?_ | refine bA ?_ _)); refine blk_put (cs := #[.slice none 0 0]) ?_ 0 _ rfl; (with_reducible repeat (first | refine bN ?_ _ | refine bD ?_ | refine bA ?_ _)); exact jM.out) Try.underlying24 rfl (by kernel_rfl) (.tmp (.cell zL 28 #[.int .i64 aS5, .int .i64 bA1] (0, 0) _ rfl (by (with_reducible repeat (first | refine bN ?_ _ | refine bD ?_ | refine bA ?_ _)); refine blk_put (cs := #[.int .i64 aS5, .int .i64 0]) ?_ 1 _ rfl; (with_reducible repeat (first | refine bN ?_ _ | refine bD ?_ | refine bA ?_ _)); refine blk_put (cs := #[.int .i64 0, .int .i64 0]) ?_ 0 _ rfl; (with_reducible repeat (first | refine bN ?_ _ | refine bD ?_ | refine bA ?_ _)); refine blk_far ?_ vU.out _; (with_reducible repeat (first | refine bN ?_ _ | refine bD ?_ | refine bA ?_ _)); exact jN.out) Try.underlying28 rfl (by kernel_rfl) .nil)))) rfl ?_
    exact ⟨_, xre, by first | exact Kd.S_nil _ _ _ _ _ | exact Kd.N_nil _ _ _ _ _ | exact Kd.V_nil _ _ _ _ _ | exact Kd.Q_nil _ _ _ _ _ | exact Kd.R_nil _ _ _ _ _, xq HB⟩
  rw [if_neg c4] at H
  have aJy : (!(aS5 == 0) || (!(bA1 == 0))) = false := by simpa using c4
  clear c4
  replace H := Option.bind_eq_some_iff.mp H
  obtain ⟨⟨aQn, aW7, bI9⟩, cNc, H⟩ := H
  replace H : (if (!(aW7 == 0) || (!(bI9 == 0))) = true then (some (([] : List (fB)), 0, aW7, (-1))) else ((objects_copied.f k aD).bind fun zO => ((objects_find.f k aD aQn).bind fun rZ => (if rZ.2 = true then (if 0 ≤ rZ.1 then (if rZ.1 < (aD.length : Int) then ((objects_Same.f k ((aA aD rZ.1).f1.f0) ((aA aD rZ.1).f1.f1) ((aA aD rZ.1).f1.f2) dH bX cO).bind fun bMx => (objects_Put.j0 k aQn rZ.1 rZ.2 (!bMx) aD dH bX cO zO)) else (none)) else (none)) else (objects_Put.j0 k aQn rZ.1 rZ.2 false aD dH bX cO zO))))) = some (r1, r2, r3, r4) := H
  have A25 := aZ cNc
  clear cNc
  by_cases c26 : (!(aW7 == 0) || (!(bI9 == 0))) = true
  · rw [if_pos c26] at H
    have bSt : (!(aW7 == 0) || (!(bI9 == 0))) = true := c26
    clear c26
    simp only [Option.some.injEq, Prod.mk.injEq] at H
    obtain ⟨rfl, rfl, rfl, rfl⟩ := H
    go_enter Try.func33, Try.ntmps33
    try go_wp2_with (first | ((with_reducible refine gate_dst (N := 2) rfl ?_); refine box_event ?hg (N := 2) ?hd (cs := #[.slice bP aD.length bK]) (t := 24) ?hr ?_; (case hd => rfl); (case hg => rfl); (case hr => first | (go_simp; done) | (go_simp; rfl)); intro bCk hg w27 hbox hb; have gU := aZ (hbox); have fAf := xgh hg HB; have bEh := xgh hg HB; replace HB := xhl HB hb; clear hb hbox hg) | ((with_reducible refine gate_dst (N := 3) rfl ?_); refine box_event ?hg (N := 3) ?hd (cs := #[.int .i64 dH, .slice kW bX.length kX, .slice kR cO.length kS]) (t := 44) ?hr ?_; (case hd => rfl); (case hg => rfl); (case hr => first | (go_simp; done) | (go_simp; rfl)); intro aSl hg w28 hbox hb; have gT := aZ (hbox); have fAg := xgh hg HB; have bEi := xgh hg HB; replace HB := xhl HB hb; have aS6 := xnl hg gU; have aS7 := xng hg gU; replace gU := xbb gU hb; clear hb hbox hg) | ((with_reducible refine gate_dst (N := 4) rfl ?_); refine box_event ?hg (N := 4) ?hd (cs := #[.slice none 0 0]) (t := 24) ?hr ?_; (case hd => rfl); (case hg => rfl); (case hr => first | (go_simp; done) | (go_simp; rfl)); intro aHk hg w29 hbox hb; have jM := aZ (hbox); have fAh := xgh hg HB; have bEj := xgh hg HB; replace HB := xhl HB hb; have aEr := xnl hg gU; have aEs := xng hg gU; replace gU := xbb gU hb; have aGl := xnl hg gT; have aGm := xng hg gT; replace gT := xbb gT hb; clear hb hbox hg) | ((with_reducible refine gate_dst (N := 6) rfl ?_); refine box_event ?hg (N := 6) ?hd (cs := #[.int .i64 0, .int .i64 0]) (t := 28) ?hr ?_; (case hd => rfl); (case hg => rfl); (case hr => first | (go_simp; done) | (go_simp; rfl)); intro zL hg w30 hbox hb; have jN := aZ (hbox); have fAi := xgh hg HB; have bEk := xgh hg HB; replace HB := xhl HB hb; have aBn := xnl hg gU; have aBo := xng hg gU; replace gU := xbb gU hb; have aCu := xnl hg gT; have aCv := xng hg gT; replace gT := xbb gT hb; have qO := xnl hg jM; have vU := xng hg jM; replace jM := xbb jM hb; clear hb hbox hg; have bVz := aS6.out; have bV0 := aS7.out; have dEl := aEr.out; have dEm := aEs.out; have cM8 := aBn.out; have cM9 := aBo.out; have cKk : w30.cell? ⟨bCk, 0, none⟩ = some (.slice bP aD.length bK) := (blk_cell gU.out 0).trans rfl; have cKl := blk_frozen gU.out 0) | ((with_reducible refine gate_callee (f := 32) rfl ?_); refine goesL_ (some 14) rfl rfl Try.func32 (by kernel_rfl) rfl #[.agg #[.slice bP aD.length bK]] rfl xmp ?_; (with_reducible refine (objects_Validate.calls k _ _ aD aS5 bA1 _ ?side1 ?side2 A3.out).mono ?_); (case side1 => exact xcb fI HB); (case side2 => exact lC.out); rintro e w35 ⟨rfl, hb⟩; refine ⟨_, rfl, ?_⟩; replace gU := xbb gU hb; replace gT := xbb gT hb; replace jM := xbb jM hb; replace jN := xbb jN hb; replace HB := xhl HB hb; skip; (try clear hb); (try clear iV); (try clear hk); (try clear hi)) | ((with_reducible refine gate_dst (N := 7) rfl ?_); refine box_event ?hg (N := 7) ?hd (cs := #[.int .i64 0, .int .i64 0]) (t := 28) ?hr ?_; (case hd => rfl); (case hg => rfl); (case hr => first | (go_simp; done) | (go_simp; rfl)); intro aCm hg w36 hbox hb; have oG := aZ (hbox); have fAj := xgh hg HB; have bEl := xgh hg HB; replace HB := xhl HB hb; have aS8 := xnl hg gU; have aS9 := xng hg gU; replace gU := xbb gU hb; have bEm := xnl hg gT; have bEn := xng hg gT; replace gT := xbb gT hb; have aEt := xnl hg jM; have aBp := xng hg jM; replace jM := xbb jM hb; have aBq := xnl hg jN; have wN := xng hg jN; replace jN := xbb jN hb; clear hb hbox hg; have bV1 := aS9.out; have bV2 := aS8.out; have dQf := bEn.out; have dQg := bEm.out; have cSr := aBp.out; have cSs := aEt.out; have cMh := wN.out; have cMi := aBq.out; have cKd : w36.cell? ⟨aCm, 0, none⟩ = some (.int .i64 0) := (blk_cell oG.out 0).trans rfl; have dPq : w36.cell? ⟨aCm, 1, none⟩ = some (.int .i64 0) := (blk_cell oG.out 1).trans rfl; have cKe := blk_frozen oG.out 0; have dPr := blk_frozen oG.out 1; have bSu := aGl.out; have bSv := aGm.out; have bLs := aCu.out; have bLt := aCv.out; have cWq : w36.cell? ⟨aSl, 0, none⟩ = some (.int .i64 dH) := (blk_cell gT.out 0).trans rfl; have cWs : w36.cell? ⟨aSl, 1, none⟩ = some (.slice kW bX.length kX) := (blk_cell gT.out 1).trans rfl; have gV8 : w36.cell? ⟨aSl, 2, none⟩ = some (.slice kR cO.length kS) := (blk_cell gT.out 2).trans rfl; have cWt := blk_frozen gT.out 0; have cWu := blk_frozen gT.out 1; have gV9 := blk_frozen gT.out 2) | ((with_reducible refine gate_callee (f := 29) rfl ?_); refine goesL_ (some 22) rfl rfl Try.func29 (by kernel_rfl) rfl #[.agg #[.int .i64 dH, .slice kW bX.length kX, .slice kR cO.length kS]] rfl xmp ?_; (with_reducible refine (objects_Digest.calls k dH _ _ bX _ _ cO aQn aW7 bI9 _ ?side1 ?side2 ?side3 ?side4 A25.out).mono ?_); (case side1 => exact Kd.C_below aDm.out (by repeat (first | (with_reducible first | exact HB.out | apply lA | apply lN | apply lD | refine lS ?_ bEh.out | refine lS ?_ bEi.out | refine lS ?_ bEj.out | refine lS ?_ bEk.out | refine lS ?_ bEl.out) | exact HB.out))); (case side2 => exact aD8.out); (case side3 => exact Kd.C_below aD9.out (by repeat (first | (with_reducible first | exact HB.out | apply lA | apply lN | apply lD | refine lS ?_ bEh.out | refine lS ?_ bEi.out | refine lS ?_ bEj.out | refine lS ?_ bEk.out | refine lS ?_ bEl.out) | exact HB.out))); (case side4 => exact aF2.out); rintro e w45 ⟨rfl, hb⟩; refine ⟨_, rfl, ?_⟩; replace gU := xbb gU hb; replace gT := xbb gT hb; replace jM := xbb jM hb; replace jN := xbb jN hb; replace oG := aZ (blk_below (g := aCm) (o := .cells #[.int .i64 aS5, .int .i64 bA1] 28 (0, 0)) (by (with_reducible repeat (first | refine bN ?_ _ | refine bD ?_ | refine bA ?_ _)); refine blk_put (cs := #[.int .i64 aS5, .int .i64 0]) ?_ 1 _ rfl; (with_reducible repeat (first | refine bN ?_ _ | refine bD ?_ | refine bA ?_ _)); refine blk_put (cs := #[.int .i64 0, .int .i64 0]) ?_ 0 _ rfl; (with_reducible repeat (first | refine bN ?_ _ | refine bD ?_ | refine bA ?_ _)); exact oG.out) hb); replace HB := xhl HB hb; (try clear hb); (try clear iV); (try clear hk); (try clear hi)) | ((with_reducible refine gate_dst (N := 9) rfl ?_); refine box_event ?hg (N := 9) ?hd (cs := #[.int .i64 0, .int .i64 0]) (t := 28) ?hr ?_; (case hd => rfl); (case hg => rfl); (case hr => first | (go_simp; done) | (go_simp; rfl)); intro aEu hg w46 hbox hb; have vL := aZ (hbox); have fXp := xgh hg HB; have cHd := xgh hg HB; replace HB := xhl HB hb; have bEo := xnl hg gU; have bEp := xng hg gU; replace gU := xbb gU hb; have cC1 := xnl hg gT; have cC2 := xng hg gT; replace gT := xbb gT hb; have aOj := xnl hg jM; have aGn := xng hg jM; replace jM := xbb jM hb; have aJ0 := xnl hg jN; have aBr := xng hg jN; replace jN := xbb jN hb; have cC3 := xnl hg oG; have cC4 := xng hg oG; replace oG := xbb oG hb; clear hb hbox hg; have cSt := bEp.out; have cSu := bEo.out; have cSl := cC2.out; have cSm := cC1.out; have dEo := aGn.out; have dEp := aOj.out; have bSm := aBr.out; have bSn := aJ0.out; have bVi := cC4.out; have bVj := cC3.out; have dOx : w46.cell? ⟨aEu, 0, none⟩ = some (.int .i64 0) := (blk_cell vL.out 0).trans rfl; have dOy : w46.cell? ⟨aEu, 1, none⟩ = some (.int .i64 0) := (blk_cell vL.out 1).trans rfl; have dOz := blk_frozen vL.out 0; have dO0 := blk_frozen vL.out 1))
    replace gU : Aside0 (((w46.setCell ⟨aEu, 0, none⟩ (.int .i64 aW7)).setCell ⟨aEu, 1, none⟩ (.int .i64 bI9)).heap[bCk]? = some (.cells #[.slice bP aD.length bK] 24 (0, 0))) := xk gU
    replace gT : Aside0 (((w46.setCell ⟨aEu, 0, none⟩ (.int .i64 aW7)).setCell ⟨aEu, 1, none⟩ (.int .i64 bI9)).heap[aSl]? = some (.cells #[.int .i64 dH, .slice kW bX.length kX, .slice kR cO.length kS] 44 (0, 0))) := xk gT
    replace jM : Aside0 (((w46.setCell ⟨aEu, 0, none⟩ (.int .i64 aW7)).setCell ⟨aEu, 1, none⟩ (.int .i64 bI9)).heap[aHk]? = some (.cells #[.slice none 0 0] 24 (0, 0))) := xk jM
    replace jN : Aside0 (((w46.setCell ⟨aEu, 0, none⟩ (.int .i64 aW7)).setCell ⟨aEu, 1, none⟩ (.int .i64 bI9)).heap[zL]? = some (.cells #[.int .i64 0, .int .i64 0] 28 (0, 0))) := xk jN
    replace oG : Aside0 (((w46.setCell ⟨aEu, 0, none⟩ (.int .i64 aW7)).setCell ⟨aEu, 1, none⟩ (.int .i64 bI9)).heap[aCm]? = some (.cells #[.int .i64 aS5, .int .i64 bA1] 28 (0, 0))) := xk oG
    replace vL : Aside0 (((w46.setCell ⟨aEu, 0, none⟩ (.int .i64 aW7)).setCell ⟨aEu, 1, none⟩ (.int .i64 bI9)).heap[aEu]? = some (.cells #[.int .i64 aW7, .int .i64 bI9] 28 (0, 0))) := ⟨by (with_reducible repeat (first | refine bN ?_ _ | refine bD ?_ | refine bA ?_ _)); refine blk_put (cs := #[.int .i64 aW7, .int .i64 0]) ?_ 1 _ rfl; (with_reducible repeat (first | refine bN ?_ _ | refine bD ?_ | refine bA ?_ _)); refine blk_put (cs := #[.int .i64 0, .int .i64 0]) ?_ 0 _ rfl; (with_reducible repeat (first | refine bN ?_ _ | refine bD ?_ | refine bA ?_ _)); exact vL.out⟩
    replace HB : Aside0 (Below w.heap.size w ((w46.setCell ⟨aEu, 0, none⟩ (.int .i64 aW7)).setCell ⟨aEu, 1, none⟩ (.int .i64 bI9))) := xb HB
    generalize ((w46.setCell ⟨aEu, 0, none⟩ (.int .i64 aW7)).setCell ⟨aEu, 1, none⟩ (.int .i64 bI9)) = w53 at gU gT jM jN oG vL HB ⊢
    replace gU := aZ (bD gU.out)
    replace gT := aZ (bD gT.out)
    replace jM := aZ (bD jM.out)
    replace jN := aZ (bD jN.out)
    replace oG := aZ (bD oG.out)
    replace vL := aZ (bD vL.out)
    replace HB := aZ (lD HB.out)
    refine start_ (n := 7) (S := fun w' => w'.cell? ⟨aEu, 0, none⟩ = some (.int .i64 aW7) ∧ w'.cell? ⟨aEu, 1, none⟩ = some (.int .i64 bI9)) (ds := []) #[false, false, false, false, false, false, false] (by kernel_rfl) rfl rfl ⟨(blk_cell vL.out 0).trans rfl, (blk_cell vL.out 1).trans rfl⟩ (fun hHeld => ?_)
    generalize w53.drew = w54 at gU gT jM jN oG vL HB hHeld ⊢
    refine pure_ (i := 0) (N := some 28) (v := ?_) (a' := ?_) #[true, false, false, false, false, false, false] rfl rfl (by kernel_rfl) (fun _ _ _ h => h) (Or.inl ⟨by rfl, ?_⟩) ?_ ?_
    rotate_left
    · intro w'
      go_simp
      with_reducible rfl
    rotate_left
    · simp only [Act.put, List.setIfInBounds_toArray, List.set_cons_zero, List.set_cons_succ, i64_w, i32_w]
      rfl
    refine pure_ (i := 1) (N := some 29) (v := ?_) (a' := ?_) #[true, true, false, false, false, false, false] rfl rfl (by kernel_rfl) (fun _ _ _ h => h) (Or.inl ⟨by rfl, ?_⟩) ?_ ?_
    rotate_left
    · intro w'
      go_simp
      with_reducible rfl
    rotate_left
    · simp only [Act.put, List.setIfInBounds_toArray, List.set_cons_zero, List.set_cons_succ, i64_w, i32_w]
      rfl
    refine take_ (i := 2) (N := some 30) (v := ?_) (a' := ?_) #[true, true, true, false, false, false, false] rfl rfl (by kernel_rfl) (fun _ _ _ h => h) (Or.inl ⟨by rfl, ?_⟩) hHeld ?_ ?_
    rotate_left
    · rintro w' ⟨s0, s1⟩
      go_simp
      with_reducible rfl
    rotate_left
    · simp only [Act.put, List.setIfInBounds_toArray, List.set_cons_zero, List.set_cons_succ, i64_w, i32_w]
      rfl
    refine pure_ (i := 3) (N := some 31) (v := ?_) (a' := ?_) #[true, true, true, true, false, false, false] rfl rfl (by kernel_rfl) (fun _ _ _ h => h) (Or.inl ⟨by rfl, ?_⟩) ?_ ?_
    rotate_left
    · intro w'
      go_simp
      with_reducible rfl
    rotate_left
    · simp only [Act.put, List.setIfInBounds_toArray, List.set_cons_zero, List.set_cons_succ, i64_w, i32_w]
      rfl
    refine one_ (i := 4) (N := none) #[true, true, true, true, true, false, false] rfl rfl (by kernel_rfl) (by decide) (fun K hK => ?_)
    have iG7 : w54.cell? ⟨aHk, 0, none⟩ = some (.slice none 0 0) := (blk_cell jM.out 0).trans rfl
    have iBe := blk_frozen jM.out 0
    have gWa := aEr.out
    have gWb := aGl.out
    have gWc := vU.out
    have gWd := aBp.out
    have gWe := aGn.out
    have gWf := aEs.out
    have gWg := aGm.out
    have gWh := qO.out
    have gWi := aEt.out
    have gWj := aOj.out
    refine skip_ (w1 := ?_) (by rfl) rfl ?_ ?_
    rotate_left
    · go_simp
      rfl
    refine hK.out _ _ ⟨((cell_far (p := ⟨aHk, _, none⟩) aGn.out _).trans (hHeld.1)), ((cell_far (p := ⟨aHk, _, none⟩) aGn.out _).trans (hHeld.2))⟩ (fun hHeld => ?_)
    clear hK K
    refine pure_ (i := 5) (N := some 5) (v := ?_) (a' := ?_) #[true, true, true, true, true, true, false] rfl rfl (by kernel_rfl) (fun _ _ _ h => h) (Or.inl ⟨by rfl, ?_⟩) ?_ ?_
    rotate_left
    · intro w'
      go_simp
      with_reducible rfl
    rotate_left
    · simp only [Act.put, List.setIfInBounds_toArray, List.set_cons_zero, List.set_cons_succ, i64_w, i32_w]
      rfl
    refine one_ (i := 6) (N := none) #[true, true, true, true, true, true, true] rfl rfl (by kernel_rfl) (by decide) (fun K hK => ?_)
    have iG8 : w54.cell? ⟨zL, 0, none⟩ = some (.int .i64 0) := (blk_cell jN.out 0).trans rfl
    have iBf := blk_frozen jN.out 0
    have gWk := aBn.out
    have gWl := aCu.out
    have gWm := qO.out
    have gWn := wN.out
    have gWo := aBr.out
    have gWp := aBo.out
    have gWq := aCv.out
    have gWr := vU.out
    have gWs := aBq.out
    have gWt := aJ0.out
    have iG9 : w54.cell? ⟨zL, 1, none⟩ = some (.int .i64 0) := (blk_cell jN.out 1).trans rfl
    have iBg := blk_frozen jN.out 1
    have gWu := aBn.out
    have gWv := aCu.out
    have gWw := qO.out
    have gWx := wN.out
    have gWy := aBr.out
    have gWz := aBo.out
    have gW0 := aCv.out
    have gW1 := vU.out
    have gW2 := aBq.out
    have gW3 := aJ0.out
    refine skip_ (w1 := ?_) (by rfl) rfl ?_ ?_
    rotate_left
    · go_simp
      rfl
    refine hK.out _ _ ⟨((cell_far (p := ⟨zL, _, none⟩) aBr.out _).trans (((cell_far (p := ⟨zL, _, none⟩) aBr.out _).trans (hHeld.1)))), ((cell_far (p := ⟨zL, _, none⟩) aBr.out _).trans (((cell_far (p := ⟨zL, _, none⟩) aBr.out _).trans (hHeld.2))))⟩ (fun hHeld => ?_)
    clear hK K
    refine done_ (by kernel_rfl) ?_
    try go_wp2
    refine bodyPost_ret (results_list (rs := [.cell 4 24, .tmp 5, .cell 6 28]) rfl (by simp) (.cell aHk 24 #[.slice none 0 0] (0, 0) _ rfl (by (with_reducible repeat (first | refine bN ?_ _ | refine bD ?_ | refine bA ?_ _)); refine blk_far ?_ qO.out _; (with_reducible repeat (first | refine bN ?_ _ | refine bD ?_ | refine bA ?_ _)); refine blk_far ?_ qO.out _; (with_reducible repeat (first | refine bN ?_ _ | refine bD ?_ | refine bA ?_ _)); refine blk_put (cs := #[.slice none 0 0]) ?_ 0 _ rfl; (with_reducible repeat (first | refine bN ?_ _ | refine bD ?_ | refine bA ?_ _)); exact jM.out) Try.underlying24 rfl (by kernel_rfl) (.tmp (.cell zL 28 #[.int .i64 aW7, .int .i64 (-1)] (0, 0) _ rfl (by (with_reducible repeat (first | refine bN ?_ _ | refine bD ?_ | refine bA ?_ _)); refine blk_put (cs := #[.int .i64 aW7, .int .i64 0]) ?_ 1 _ rfl; (with_reducible repeat (first | refine bN ?_ _ | refine bD ?_ | refine bA ?_ _)); refine blk_put (cs := #[.int .i64 0, .int .i64 0]) ?_ 0 _ rfl; (with_reducible repeat (first | refine bN ?_ _ | refine bD ?_ | refine bA ?_ _)); refine blk_far ?_ vU.out _; (with_reducible repeat (first | refine bN ?_ _ | refine bD ?_ | refine bA ?_ _)); exact jN.out) Try.underlying28 rfl (by kernel_rfl) .nil)))) rfl ?_
    exact ⟨_, xre, by first | exact Kd.S_nil _ _ _ _ _ | exact Kd.N_nil _ _ _ _ _ | exact Kd.V_nil _ _ _ _ _ | exact Kd.Q_nil _ _ _ _ _ | exact Kd.R_nil _ _ _ _ _, xq HB⟩
  rw [if_neg c26] at H
  have bSt : (!(aW7 == 0) || (!(bI9 == 0))) = false := by simpa using c26
  clear c26
  replace H := Option.bind_eq_some_iff.mp H
  obtain ⟨zO, fXq, H⟩ := H
  replace H : ((objects_find.f k aD aQn).bind fun rZ => (if rZ.2 = true then (if 0 ≤ rZ.1 then (if rZ.1 < (aD.length : Int) then ((objects_Same.f k ((aA aD rZ.1).f1.f0) ((aA aD rZ.1).f1.f1) ((aA aD rZ.1).f1.f2) dH bX cO).bind fun bMx => (objects_Put.j0 k aQn rZ.1 rZ.2 (!bMx) aD dH bX cO zO)) else (none)) else (none)) else (objects_Put.j0 k aQn rZ.1 rZ.2 false aD dH bX cO zO))) = some (r1, r2, r3, r4) := H
  have A58 := aZ fXq
  clear fXq
  replace H := Option.bind_eq_some_iff.mp H
  obtain ⟨⟨yU, dEq⟩, dEr, H⟩ := H
  replace H : (if dEq = true then (if 0 ≤ yU then (if yU < (aD.length : Int) then ((objects_Same.f k ((aA aD yU).f1.f0) ((aA aD yU).f1.f1) ((aA aD yU).f1.f2) dH bX cO).bind fun bMx => (objects_Put.j0 k aQn yU dEq (!bMx) aD dH bX cO zO)) else (none)) else (none)) else (objects_Put.j0 k aQn yU dEq false aD dH bX cO zO)) = some (r1, r2, r3, r4) := H
  have A59 := aZ dEr
  clear dEr
  have fGg := aZ H
  clear H
  go_enter Try.func33, Try.ntmps33
  go_upto_region 9 with (first | ((with_reducible refine gate_dst (N := 2) rfl ?_); refine box_event ?hg (N := 2) ?hd (cs := #[.slice bP aD.length bK]) (t := 24) ?hr ?_; (case hd => rfl); (case hg => rfl); (case hr => first | (go_simp; done) | (go_simp; rfl)); intro bCk hg w61 hbox hb; have gU := aZ (hbox); have fAf := xgh hg HB; have bEh := xgh hg HB; replace HB := xhl HB hb; clear hb hbox hg) | ((with_reducible refine gate_dst (N := 3) rfl ?_); refine box_event ?hg (N := 3) ?hd (cs := #[.int .i64 dH, .slice kW bX.length kX, .slice kR cO.length kS]) (t := 44) ?hr ?_; (case hd => rfl); (case hg => rfl); (case hr => first | (go_simp; done) | (go_simp; rfl)); intro aSl hg w62 hbox hb; have gT := aZ (hbox); have fAg := xgh hg HB; have bEi := xgh hg HB; replace HB := xhl HB hb; have aS6 := xnl hg gU; have aS7 := xng hg gU; replace gU := xbb gU hb; clear hb hbox hg) | ((with_reducible refine gate_dst (N := 4) rfl ?_); refine box_event ?hg (N := 4) ?hd (cs := #[.slice none 0 0]) (t := 24) ?hr ?_; (case hd => rfl); (case hg => rfl); (case hr => first | (go_simp; done) | (go_simp; rfl)); intro aHk hg w63 hbox hb; have jM := aZ (hbox); have fAh := xgh hg HB; have bEj := xgh hg HB; replace HB := xhl HB hb; have aEr := xnl hg gU; have aEs := xng hg gU; replace gU := xbb gU hb; have aGl := xnl hg gT; have aGm := xng hg gT; replace gT := xbb gT hb; clear hb hbox hg) | ((with_reducible refine gate_dst (N := 6) rfl ?_); refine box_event ?hg (N := 6) ?hd (cs := #[.int .i64 0, .int .i64 0]) (t := 28) ?hr ?_; (case hd => rfl); (case hg => rfl); (case hr => first | (go_simp; done) | (go_simp; rfl)); intro zL hg w64 hbox hb; have jN := aZ (hbox); have fAi := xgh hg HB; have bEk := xgh hg HB; replace HB := xhl HB hb; have aBn := xnl hg gU; have aBo := xng hg gU; replace gU := xbb gU hb; have aCu := xnl hg gT; have aCv := xng hg gT; replace gT := xbb gT hb; have qO := xnl hg jM; have vU := xng hg jM; replace jM := xbb jM hb; clear hb hbox hg; have bLk := aS6.out; have bLl := aS7.out; have bWg := aEr.out; have bWh := aEs.out; have cG8 := aBn.out; have cG9 := aBo.out; have bI7 : w64.cell? ⟨bCk, 0, none⟩ = some (.slice bP aD.length bK) := (blk_cell gU.out 0).trans rfl; have bI8 := blk_frozen gU.out 0) | ((with_reducible refine gate_callee (f := 32) rfl ?_); refine goesL_ (some 14) rfl rfl Try.func32 (by kernel_rfl) rfl #[.agg #[.slice bP aD.length bK]] rfl xmp ?_; (with_reducible refine (objects_Validate.calls k _ _ aD aS5 bA1 _ ?side1 ?side2 A3.out).mono ?_); (case side1 => exact xcb fI HB); (case side2 => exact lC.out); rintro e w69 ⟨rfl, hb⟩; refine ⟨_, rfl, ?_⟩; replace gU := xbb gU hb; replace gT := xbb gT hb; replace jM := xbb jM hb; replace jN := xbb jN hb; replace HB := xhl HB hb; skip; (try clear hb); (try clear iV); (try clear hk); (try clear hi)) | ((with_reducible refine gate_dst (N := 7) rfl ?_); refine box_event ?hg (N := 7) ?hd (cs := #[.int .i64 0, .int .i64 0]) (t := 28) ?hr ?_; (case hd => rfl); (case hg => rfl); (case hr => first | (go_simp; done) | (go_simp; rfl)); intro aCm hg w70 hbox hb; have oG := aZ (hbox); have fAj := xgh hg HB; have bEl := xgh hg HB; replace HB := xhl HB hb; have aS8 := xnl hg gU; have aS9 := xng hg gU; replace gU := xbb gU hb; have bEm := xnl hg gT; have bEn := xng hg gT; replace gT := xbb gT hb; have aEt := xnl hg jM; have aBp := xng hg jM; replace jM := xbb jM hb; have aBq := xnl hg jN; have wN := xng hg jN; replace jN := xbb jN hb; clear hb hbox hg; have cSv := aS9.out; have cSw := aS8.out; have dEs := bEn.out; have dEt := bEm.out; have bMy := aBp.out; have bMz := aEt.out; have bSx := wN.out; have bSy := aBq.out; have cWv : w70.cell? ⟨aCm, 0, none⟩ = some (.int .i64 0) := (blk_cell oG.out 0).trans rfl; have dQh : w70.cell? ⟨aCm, 1, none⟩ = some (.int .i64 0) := (blk_cell oG.out 1).trans rfl; have cWw := blk_frozen oG.out 0; have dQi := blk_frozen oG.out 1; have dEu := aGl.out; have dEv := aGm.out; have cSx := aCu.out; have cSy := aCv.out; have cWx : w70.cell? ⟨aSl, 0, none⟩ = some (.int .i64 dH) := (blk_cell gT.out 0).trans rfl; have dQj : w70.cell? ⟨aSl, 1, none⟩ = some (.slice kW bX.length kX) := (blk_cell gT.out 1).trans rfl; have eRg : w70.cell? ⟨aSl, 2, none⟩ = some (.slice kR cO.length kS) := (blk_cell gT.out 2).trans rfl; have cWy := blk_frozen gT.out 0; have dQk := blk_frozen gT.out 1; have eRh := blk_frozen gT.out 2) | ((with_reducible refine gate_callee (f := 29) rfl ?_); refine goesL_ (some 22) rfl rfl Try.func29 (by kernel_rfl) rfl #[.agg #[.int .i64 dH, .slice kW bX.length kX, .slice kR cO.length kS]] rfl xmp ?_; (with_reducible refine (objects_Digest.calls k dH _ _ bX _ _ cO aQn aW7 bI9 _ ?side1 ?side2 ?side3 ?side4 A25.out).mono ?_); (case side1 => exact Kd.C_below aDm.out (by repeat (first | (with_reducible first | exact HB.out | apply lA | apply lN | apply lD | refine lS ?_ bEh.out | refine lS ?_ bEi.out | refine lS ?_ bEj.out | refine lS ?_ bEk.out | refine lS ?_ bEl.out) | exact HB.out))); (case side2 => exact aD8.out); (case side3 => exact Kd.C_below aD9.out (by repeat (first | (with_reducible first | exact HB.out | apply lA | apply lN | apply lD | refine lS ?_ bEh.out | refine lS ?_ bEi.out | refine lS ?_ bEj.out | refine lS ?_ bEk.out | refine lS ?_ bEl.out) | exact HB.out))); (case side4 => exact aF2.out); rintro e w79 ⟨rfl, hb⟩; refine ⟨_, rfl, ?_⟩; replace gU := xbb gU hb; replace gT := xbb gT hb; replace jM := xbb jM hb; replace jN := xbb jN hb; replace oG := aZ (blk_below (g := aCm) (o := .cells #[.int .i64 aS5, .int .i64 bA1] 28 (0, 0)) (by (with_reducible repeat (first | refine bN ?_ _ | refine bD ?_ | refine bA ?_ _)); refine blk_put (cs := #[.int .i64 aS5, .int .i64 0]) ?_ 1 _ rfl; (with_reducible repeat (first | refine bN ?_ _ | refine bD ?_ | refine bA ?_ _)); refine blk_put (cs := #[.int .i64 0, .int .i64 0]) ?_ 0 _ rfl; (with_reducible repeat (first | refine bN ?_ _ | refine bD ?_ | refine bA ?_ _)); exact oG.out) hb); replace HB := xhl HB hb; (try clear hb); (try clear iV); (try clear hk); (try clear hi)) | ((with_reducible refine gate_dst (N := 9) rfl ?_); refine box_event ?hg (N := 9) ?hd (cs := #[.int .i64 0, .int .i64 0]) (t := 28) ?hr ?_; (case hd => rfl); (case hg => rfl); (case hr => first | (go_simp; done) | (go_simp; rfl)); intro aEu hg w80 hbox hb; have vL := aZ (hbox); have fXp := xgh hg HB; have cHd := xgh hg HB; replace HB := xhl HB hb; have bEo := xnl hg gU; have bEp := xng hg gU; replace gU := xbb gU hb; have cC1 := xnl hg gT; have cC2 := xng hg gT; replace gT := xbb gT hb; have aOj := xnl hg jM; have aGn := xng hg jM; replace jM := xbb jM hb; have aJ0 := xnl hg jN; have aBr := xng hg jN; replace jN := xbb jN hb; have cC3 := xnl hg oG; have cC4 := xng hg oG; replace oG := xbb oG hb; clear hb hbox hg; have cNd := bEp.out; have cNe := bEo.out; have cNf := cC2.out; have cNg := cC1.out; have dEw := aGn.out; have dEx := aOj.out; have bM0 := aBr.out; have bM1 := aJ0.out; have dEy := cC4.out; have dEz := cC3.out; have cKm : w80.cell? ⟨aEu, 0, none⟩ = some (.int .i64 0) := (blk_cell vL.out 0).trans rfl; have cKn : w80.cell? ⟨aEu, 1, none⟩ = some (.int .i64 0) := (blk_cell vL.out 1).trans rfl; have cKo := blk_frozen vL.out 0; have cKp := blk_frozen vL.out 1; have dQl : w80.cell? ⟨bCk, 0, none⟩ = some (.slice bP aD.length bK) := (blk_cell gU.out 0).trans rfl; have dQm := blk_frozen gU.out 0) | ((with_reducible refine gate_callee (f := 47) rfl ?_); refine goesL_ (some 33) rfl rfl Try.func47 (by kernel_rfl) rfl #[.agg #[.slice bP aD.length bK]] rfl xmp ?_; (with_reducible refine (objects_copied.calls k _ _ aD zO _ ?side1 ?side2 A58.out).mono ?_); (case side1 => exact Kd.C_below fI.out (by repeat (first | (with_reducible first | exact HB.out | apply lA | apply lN | apply lD | refine lS ?_ bEh.out | refine lS ?_ bEi.out | refine lS ?_ bEj.out | refine lS ?_ bEk.out | refine lS ?_ bEl.out | refine lS ?_ cHd.out) | exact HB.out))); (case side2 => exact lC.out); rintro e w88 ⟨iHb, rfl, gZ, hb⟩; refine ⟨_, rfl, ?_⟩; have bA2 := aZ (Kd.S_lower gZ (lZ (by repeat (first | (with_reducible first | exact HB.out | apply lA | apply lN | apply lD | refine lS ?_ bEh.out | refine lS ?_ bEi.out | refine lS ?_ bEj.out | refine lS ?_ bEk.out | refine lS ?_ bEl.out | refine lS ?_ cHd.out) | exact HB.out)))); replace gU := xbb gU hb; replace gT := xbb gT hb; replace jM := xbb jM hb; replace jN := xbb jN hb; replace oG := xbb oG hb; replace vL := aZ (blk_below (g := aEu) (o := .cells #[.int .i64 aW7, .int .i64 bI9] 28 (0, 0)) (by (with_reducible repeat (first | refine bN ?_ _ | refine bD ?_ | refine bA ?_ _)); refine blk_put (cs := #[.int .i64 aW7, .int .i64 0]) ?_ 1 _ rfl; (with_reducible repeat (first | refine bN ?_ _ | refine bD ?_ | refine bA ?_ _)); refine blk_put (cs := #[.int .i64 0, .int .i64 0]) ?_ 0 _ rfl; (with_reducible repeat (first | refine bN ?_ _ | refine bD ?_ | refine bA ?_ _)); exact vL.out) hb); replace HB := xhl HB hb; (try clear hb); (try clear iV); (try clear hk); (try clear hi); (try clear gZ)) | ((with_reducible refine gate_dst (N := 10) rfl ?_); refine box_event ?hg (N := 10) ?hd (cs := #[.slice none 0 0]) (t := 24) ?hr ?_; (case hd => rfl); (case hg => rfl); (case hr => first | (go_simp; done) | (go_simp; rfl)); intro bSz hg w89 hbox hb; replace bA2 := xS bA2 hb; have zR := aZ (hbox); have iBh := xgh hg HB; have dE0 := xgh hg HB; replace HB := xhl HB hb; have bEq := xnl hg gU; have bEr := xng hg gU; replace gU := xbb gU hb; have bPv := xnl hg gT; have bPw := xng hg gT; replace gT := xbb gT hb; have aTa := xnl hg jM; have aYq := xng hg jM; replace jM := xbb jM hb; have aTb := xnl hg jN; have aYr := xng hg jN; replace jN := xbb jN hb; have bPx := xnl hg oG; have bPy := xng hg oG; replace oG := xbb oG hb; have bPz := xnl hg vL; have bP0 := xng hg vL; replace vL := xbb vL hb; clear hb hbox hg; obtain ⟨bR9, bSa, hIy⟩ := Kd.S_slice bA2.out; subst hIy; have bWj := bEr.out; have bWk := bEq.out; have cSz := bPw.out; have cS0 := bPv.out; have dE1 := aYq.out; have dE2 := aTa.out; have eC2 := aYr.out; have eC3 := aTb.out; have dQn := bPy.out; have dQo := bPx.out; have dQp := bP0.out; have dQq := bPz.out; have eRi : w89.cell? ⟨bSz, 0, none⟩ = some (.slice none 0 0) := (blk_cell zR.out 0).trans rfl; have eRj := blk_frozen zR.out 0; have dQr : w89.cell? ⟨bCk, 0, none⟩ = some (.slice bP aD.length bK) := (blk_cell gU.out 0).trans rfl; have dQs := blk_frozen gU.out 0) | ((with_reducible refine gate_callee (f := 48) rfl ?_); refine goesL_ (some 37) rfl rfl Try.func48 (by kernel_rfl) rfl #[.agg #[.slice bP aD.length bK], .int .i64 aQn] rfl xmp ?_; (with_reducible refine (objects_find.calls k _ _ aD aQn yU dEq _ ?side1 ?side2 A59.out).mono ?_); (case side1 => exact Kd.C_below fI.out (by repeat (first | (with_reducible first | exact HB.out | apply lA | apply lN | apply lD | refine lS ?_ bEh.out | refine lS ?_ bEi.out | refine lS ?_ bEj.out | refine lS ?_ bEk.out | refine lS ?_ bEl.out | refine lS ?_ cHd.out | refine lS ?_ dE0.out) | exact HB.out))); (case side2 => exact lC.out); rintro e w99 ⟨rfl, hb⟩; refine ⟨_, rfl, ?_⟩; replace bA2 := aZ (Kd.S_below (by (with_reducible repeat (first | apply Kd.S_alloc | apply Kd.S_drewN | apply Kd.S_drew)); exact (Kd.S_mono (Kd.S_far (p := ⟨bSz, 0, none⟩) (Kd.S_types bA2.out zR.out (by decide)) (fun _ hk => hk.2) (.slice bR9 zO.length bSa)) (fun _ h_ => h_.1))) hb); replace gU := xbb gU hb; replace gT := xbb gT hb; replace jM := xbb jM hb; replace jN := xbb jN hb; replace oG := xbb oG hb; replace vL := xbb vL hb; replace zR := aZ (blk_below (g := bSz) (o := .cells #[.slice bR9 zO.length bSa] 24 (0, 0)) (by (with_reducible repeat (first | refine bN ?_ _ | refine bD ?_ | refine bA ?_ _)); refine blk_put (cs := #[.slice none 0 0]) ?_ 0 _ rfl; (with_reducible repeat (first | refine bN ?_ _ | refine bD ?_ | refine bA ?_ _)); exact zR.out) hb); replace HB := xhl HB hb; (try clear hb); (try clear iV); (try clear hk); (try clear hi)))
  (try simp only [Act.put, List.setIfInBounds_toArray, List.set_cons_zero, List.set_cons_succ])
  go_cut [40] (fun v40 wc => ∃ (kq : Nat) (cWz : Bool), v40 = .bool cWz ∧ Aside0 (objects_Put.j0 kq aQn yU dEq cWz aD dH bX cO zO = some (r1, r2, r3, r4)) ∧ Aside0 (kq ≤ k) ∧ Aside0 (Kd.S qL 46 wc w.heap.size (fun _ => True) (.slice bR9 zO.length bSa) zO) ∧ Aside0 (wc.heap[bCk]? = some (.cells #[(.slice bP aD.length bK)] 24 (0, 0))) ∧ Aside0 (wc.heap[aSl]? = some (.cells #[.int .i64 dH, (.slice kW bX.length kX), (.slice kR cO.length kS)] 44 (0, 0))) ∧ Aside0 (wc.heap[aHk]? = some (.cells #[(.slice none 0 0)] 24 (0, 0))) ∧ Aside0 (wc.heap[zL]? = some (.cells #[.int .i64 0, .int .i64 0] 28 (0, 0))) ∧ Aside0 (wc.heap[aCm]? = some (.cells #[.int .i64 aS5, .int .i64 bA1] 28 (0, 0))) ∧ Aside0 (wc.heap[aEu]? = some (.cells #[.int .i64 aW7, .int .i64 bI9] 28 (0, 0))) ∧ Aside0 (wc.heap[bSz]? = some (.cells #[(.slice bR9 zO.length bSa)] 24 (0, 0))) ∧ Aside0 (Below w.heap.size w wc))
  case first =>
   have H := fGg.out
   clear fGg
   by_cases cIr : dEq = true
   rotate_left
   · replace cIr := Bool.eq_false_iff.mpr cIr
     subst cIr
     have H1 : (objects_Put.j0 k aQn yU false false aD dH bX cO zO) = some (r1, r2, r3, r4) := by rw [if_neg (show ¬ (false = true) by decide)] at H; exact H
     clear H
     have H := H1
     clear H1
     have H' := aZ H
     clear H
     try go_wp2
     replace bA2 := aZ (Kd.S_drew bA2.out)
     replace gU := aZ (bD gU.out)
     replace gT := aZ (bD gT.out)
     replace jM := aZ (bD jM.out)
     replace jN := aZ (bD jN.out)
     replace oG := aZ (bD oG.out)
     replace vL := aZ (bD vL.out)
     replace zR := aZ (bD zR.out)
     replace HB := aZ (lD HB.out)
     refine start_ (n := 13) (S := fun w' => True) (ds := []) Z1 (by kernel_rfl) rfl rfl trivial (fun hHeld => ?_); refine with_tabW objects_Put.tab9 objects_Put.bits9 (fun HT_ HW_ => ?_)
     generalize w99.drew = fXs at bA2 gU gT jM jN oG vL zR HB hHeld ⊢
     refine pu 0 41 Z2 HT_ rfl rfl (h := ?_)
     refine pu 1 42 Z3 HT_ rfl rfl (h := ?_)
     refine pv 2 43 Z4 HT_ rfl rfl (h := ?_)
     refine pv 3 44 Z15 HT_ rfl rfl (h := ?_)
     refine pv 4 45 Z6 HT_ rfl rfl (h := ?_)
     refine pv 5 46 Z7 HT_ rfl rfl (h := ?_)
     refine pv 6 47 Z8 HT_ rfl rfl (h := ?_)
     refine pv 7 48 Z9 HT_ rfl rfl (h := ?_)
     refine pv 8 49 Z10 HT_ rfl rfl (h := ?_)
     refine pv 9 50 Z11 HT_ rfl rfl (h := ?_)
     refine pv 10 51 Z12 HT_ rfl rfl (h := ?_)
     refine pu 11 52 Z13 HT_ rfl rfl (h := ?_)
     refine pu 12 40 Z14 HT_ rfl rfl (h := ?_)
     refine done_ (done_of HT_.out (by kernel_rfl)) ?_
     try go_wp2
     go_meet
     case rel => exact ⟨_, (false), xrs, H', ⟨by first | omega | exact Nat.le_refl _⟩, ⟨by (with_reducible repeat (first | apply Kd.S_alloc | apply Kd.S_drewN | apply Kd.S_drew)); exact bA2.out⟩, xk gU, xk gT, xk jM, xk jN, xk oG, xk vL, xk zR, xb HB⟩
   subst cIr
   have H1 : (if 0 ≤ yU then (if yU < (aD.length : Int) then ((objects_Same.f k ((aA aD yU).f1.f0) ((aA aD yU).f1.f1) ((aA aD yU).f1.f2) dH bX cO).bind fun bMx => (objects_Put.j0 k aQn yU true (!bMx) aD dH bX cO zO)) else (none)) else (none)) = some (r1, r2, r3, r4) := by rw [if_pos rfl] at H; exact H
   clear H
   have H := H1
   clear H1
   by_cases eRk : 0 ≤ yU
   rotate_left
   · rw [if_neg eRk] at H
     exact absurd H (by simp)
   rw [if_pos eRk] at H
   have eC4 : decide (0 ≤ yU) = true := decide_eq_true eRk
   clear eRk
   (first | rw [eC4] | (simp only [i64_w, i32_w]; rw [eC4]) | skip)
   by_cases cW0 : yU < (aD.length : Int)
   rotate_left
   · rw [if_neg cW0] at H
     exact absurd H (by simp)
   rw [if_pos cW0] at H
   have hI3 : decide (yU < (aD.length : Int)) = true := decide_eq_true cW0
   clear cW0
   replace H := Option.bind_eq_some_iff.mp H
   obtain ⟨bMx, fAo, H⟩ := H
   replace H : (objects_Put.j0 k aQn yU true (!bMx) aD dH bX cO zO) = some (r1, r2, r3, r4) := H
   have hI4 := aZ fAo
   clear fAo
   have H' := aZ H
   clear H
   try go_wp2
   replace bA2 := aZ (Kd.S_drew bA2.out)
   replace gU := aZ (bD gU.out)
   replace gT := aZ (bD gT.out)
   replace jM := aZ (bD jM.out)
   replace jN := aZ (bD jN.out)
   replace oG := aZ (bD oG.out)
   replace vL := aZ (bD vL.out)
   replace zR := aZ (bD zR.out)
   replace HB := aZ (lD HB.out)
   have fGh : 0 ≤ (yU : Int) := of_decide_eq_true xas
   have fGi : yU < (aD.length : Int) := of_decide_eq_true xas
   obtain ⟨cHe, eC5, eC6, eC7, eC8, hI5, cKq, cKr, cKs, cKt, dQt, dQu, dQv, dQw⟩ := gY fI.out yU fGh fGi
   have dQx := cKt
   have dQy := cKs
   have dQz := cKr
   have dQ0 := cKq
   cases hI5
   replace cKq := xcl HB cKq
   replace cKr := xcl HB cKr
   replace cKs := xcl HB cKs
   replace cKt := xcl HB cKt
   have dQ1 := aZ dQu
   have eRl := aZ dQt
   clear dQu dQt
   have dQ2 := aZ dQw
   have eRm := aZ dQv
   clear dQw dQv
   replace fGh := eq_true fGh
   replace fGi := eq_true fGi
   refine start_ (n := 13) (S := fun w' => w'.cell? ⟨bCk, 0, none⟩ = some (.slice (some cHe) aD.length bK) ∧ w'.cell? ⟨aSl, 0, none⟩ = some (.int .i64 dH) ∧ w'.cell? ⟨aSl, 1, none⟩ = some (.slice kW bX.length kX) ∧ w'.cell? ⟨aSl, 2, none⟩ = some (.slice kR cO.length kS) ∧ w'.cell? (cHe.add ((yU).toNat * 4)) = some (.int .i64 ((aA aD yU).f0)) ∧ w'.cell? ⟨(cHe.add ((yU).toNat * 4)).block, (cHe.add ((yU).toNat * 4)).off + 1, none⟩ = some (.int .i64 ((aA aD yU).f1.f0)) ∧ w'.cell? ⟨(cHe.add ((yU).toNat * 4)).block, (cHe.add ((yU).toNat * 4)).off + 2, none⟩ = some (.slice eC5 ((aA aD yU).f1.f1).length eC6) ∧ w'.cell? ⟨(cHe.add ((yU).toNat * 4)).block, (cHe.add ((yU).toNat * 4)).off + 3, none⟩ = some (.slice eC7 ((aA aD yU).f1.f2).length eC8)) (ds := []) Z1 (by kernel_rfl) rfl rfl ⟨(blk_cell gU.out 0).trans rfl, (blk_cell gT.out 0).trans rfl, (blk_cell gT.out 1).trans rfl, (blk_cell gT.out 2).trans rfl, (xcl HB dQ0), (xcl HB dQz), (xcl HB dQy), (xcl HB dQx)⟩ (fun hHeld => ?_); refine with_tabW objects_Put.tab9 objects_Put.bits9 (fun HT_ HW_ => ?_)
   generalize w99.drew = hI6 at bA2 gU gT jM jN oG vL zR HB dQ1 dQ2 cKq cKr cKs cKt hHeld ⊢
   refine pu 0 41 Z2 HT_ rfl rfl (h := ?_)
   refine pu 1 42 Z3 HT_ rfl rfl (h := ?_)
   refine pu 2 43 Z4 HT_ rfl rfl (h := ?_)
   refine pu 4 45 Z5 HT_ rfl rfl (h := ?_)
   refine tk 3 44 Z6 HT_ HW_ rfl rfl hHeld (by rintro w' ⟨s0, s1, s2, s3, s4, s5, s6, s7⟩; go_simp; with_reducible rfl) (h := ?_)
   refine pu 5 46 Z7 HT_ rfl rfl (h := ?_)
   refine pu 6 47 Z8 HT_ rfl rfl (h := ?_)
   refine tk 7 48 Z9 HT_ HW_ rfl rfl hHeld (by rintro w' ⟨s0, s1, s2, s3, s4, s5, s6, s7⟩; go_simp; with_reducible rfl) (h := ?_)
   refine tk 8 49 Z10 HT_ HW_ rfl rfl hHeld (by rintro w' ⟨s0, s1, s2, s3, s4, s5, s6, s7⟩; go_simp; with_reducible rfl) (h := ?_)
   refine one_ (i := 9) (N := some 50) Z11 rfl rfl (one_of HT_.out (by kernel_rfl)) (by decide) (fun K hK => ?_)
   refine goes_ Try.func49 (by kernel_rfl) rfl #[.agg #[.int .i64 ((aA aD yU).f1.f0), .slice eC5 ((aA aD yU).f1.f1).length eC6, .slice eC7 ((aA aD yU).f1.f2).length eC8], .agg #[.int .i64 dH, .slice kW bX.length kX, .slice kR cO.length kS]] (by rfl) rfl rfl xmp ?_
   with_reducible refine (objects_Same.calls k ((aA aD yU).f1.f0) _ _ ((aA aD yU).f1.f1) _ _ ((aA aD yU).f1.f2) dH _ _ bX _ _ cO bMx _ ?side1 ?side2 ?side3 ?side4 ?side5 ?side6 ?side7 ?side8 hI4.out).mono ?_
   (case side1 => exact xcb dQ1 HB)
   (case side2 => exact eRl.out)
   (case side3 => exact xcb dQ2 HB)
   (case side4 => exact eRm.out)
   (case side5 => exact xcb aDm HB)
   (case side6 => exact aD8.out)
   (case side7 => exact xcb aD9 HB)
   (case side8 => exact aF2.out)
   rintro e bWl ⟨rfl, hb⟩
   refine ⟨_, rfl, ?_⟩
   replace bA2 := xS bA2 hb
   replace gU := xbb gU hb
   replace gT := xbb gT hb
   replace jM := xbb jM hb
   replace jN := xbb jN hb
   replace oG := xbb oG hb
   replace vL := xbb vL hb
   replace zR := xbb zR hb
   replace HB := xhl HB hb
   (try clear hb)
   (try clear iV)
   (try clear hk)
   (try clear hi)
   refine hK.out _ _ ⟨(blk_cell gU.out 0).trans rfl, (blk_cell gT.out 0).trans rfl, (blk_cell gT.out 1).trans rfl, (blk_cell gT.out 2).trans rfl, (xcl HB dQ0), (xcl HB dQz), (xcl HB dQy), (xcl HB dQx)⟩ (fun hHeld => ?_)
   clear hK K
   refine norm_ (a' := ?_) ?_ ?_
   rotate_left
   · show Act.put _ (some 50) _ = _
     simp only [Act.put, List.setIfInBounds_toArray, List.set_cons_zero, List.set_cons_succ, i64_w, i32_w]
     rfl
   refine pu 10 51 Z12 HT_ rfl rfl (h := ?_)
   refine pu 11 52 Z13 HT_ rfl rfl (h := ?_)
   refine pu 12 40 Z14 HT_ rfl rfl (h := ?_)
   refine done_ (done_of HT_.out (by kernel_rfl)) ?_
   try go_wp2
   go_meet
   case rel => exact ⟨_, (!bMx), xrs, H', ⟨by first | omega | exact Nat.le_refl _⟩, ⟨by (with_reducible repeat (first | apply Kd.S_alloc | apply Kd.S_drewN | apply Kd.S_drew)); exact bA2.out⟩, xk gU, xk gT, xk jM, xk jN, xk oG, xk vL, xk zR, xb HB⟩
  case rest =>
   clear fGg
   (try clear c4); (try clear aJy); (try clear c26); (try clear bSt); (try clear bI7); (try clear cWv); (try clear dQh); (try clear cWx); (try clear dQj); (try clear eRg); (try clear cKm); (try clear cKn); (try clear dQl); (try clear eRi); (try clear dQr); (try clear bI8); (try clear cWw); (try clear dQi); (try clear cWy); (try clear dQk); (try clear eRh); (try clear cKo); (try clear cKp); (try clear dQm); (try clear eRj); (try clear dQs)
   obtain ⟨kq, cWz, rfl, HA, iHc, uR, gU, gT, jM, jN, oG, vL, zR, HB⟩ := hcut
   cases kq with
   | zero => exact absurd HA.out (by simp [objects_Put.j0])
   | succ iHd =>
    have H := HA.out
    clear HA
    simp only [objects_Put.j0] at H
    by_cases eRn : cWz = true
    · subst eRn
      have H1 : (some (([] : List (fB)), 0, 19, (-1))) = some (r1, r2, r3, r4) := by rw [if_pos rfl] at H; exact H
      clear H
      have H := H1
      clear H1
      simp only [Option.some.injEq, Prod.mk.injEq] at H
      obtain ⟨rfl, rfl, rfl, rfl⟩ := H
      have cNh := aEs.out
      have cNi := aEr.out
      have cC5 := aGm.out
      have cC6 := aGl.out
      have bTp := qO.out
      have bTq := vU.out
      have bTr := aEt.out
      have bTs := aBp.out
      have bTt := aOj.out
      have bTu := aGn.out
      have cC7 := aTa.out
      have cC8 := aYq.out
      have eC9 : wc.cell? ⟨aHk, 0, none⟩ = some (.slice none 0 0) := (blk_cell jM.out 0).trans rfl
      have eDa := blk_frozen jM.out 0
      have cNj := aBo.out
      have cNk := aBn.out
      have cW4 := aCv.out
      have cW5 := aCu.out
      have bTv := aBq.out
      have bTw := wN.out
      have cC9 := aJ0.out
      have cDa := aBr.out
      have bTx := aTb.out
      have bTy := aYr.out
      have eDb : wc.cell? ⟨zL, 0, none⟩ = some (.int .i64 0) := (blk_cell jN.out 0).trans rfl
      have eDc : wc.cell? ⟨zL, 1, none⟩ = some (.int .i64 0) := (blk_cell jN.out 1).trans rfl
      have eDd := blk_frozen jN.out 0
      have eDe := blk_frozen jN.out 1
      go_wp2
      refine bodyPost_ret (results_list (rs := [.cell 4 24, .tmp 5, .cell 6 28]) rfl (by simp) (.cell aHk 24 #[.slice none 0 0] (0, 0) _ rfl (by (with_reducible repeat (first | refine bN ?_ _ | refine bD ?_ | refine bA ?_ _)); refine blk_far ?_ qO.out _; (with_reducible repeat (first | refine bN ?_ _ | refine bD ?_ | refine bA ?_ _)); refine blk_far ?_ qO.out _; (with_reducible repeat (first | refine bN ?_ _ | refine bD ?_ | refine bA ?_ _)); refine blk_put (cs := #[.slice none 0 0]) ?_ 0 _ rfl; (with_reducible repeat (first | refine bN ?_ _ | refine bD ?_ | refine bA ?_ _)); exact jM.out) Try.underlying24 rfl (by kernel_rfl) (.tmp (.cell zL 28 #[.int .i64 19, .int .i64 (-1)] (0, 0) _ rfl (by (with_reducible repeat (first | refine bN ?_ _ | refine bD ?_ | refine bA ?_ _)); refine blk_put (cs := #[.int .i64 19, .int .i64 0]) ?_ 1 _ rfl; (with_reducible repeat (first | refine bN ?_ _ | refine bD ?_ | refine bA ?_ _)); refine blk_put (cs := #[.int .i64 0, .int .i64 0]) ?_ 0 _ rfl; (with_reducible repeat (first | refine bN ?_ _ | refine bD ?_ | refine bA ?_ _)); refine blk_far ?_ vU.out _; (with_reducible repeat (first | refine bN ?_ _ | refine bD ?_ | refine bA ?_ _)); exact jN.out) Try.underlying28 rfl (by kernel_rfl) .nil)))) rfl ?_
      exact ⟨_, xre, by first | exact Kd.S_nil _ _ _ _ _ | exact Kd.N_nil _ _ _ _ _ | exact Kd.V_nil _ _ _ _ _ | exact Kd.Q_nil _ _ _ _ _ | exact Kd.R_nil _ _ _ _ _, xq HB⟩
    replace eRn := Bool.eq_false_iff.mpr eRn
    subst eRn
    have H1 : (if dEq = true then (some (zO, aQn, 0, 0)) else (if (aD.length : Int) = 40 then (some (([] : List (fB)), 0, 14, (-1))) else ((objects_Clone.f dH bX cO).bind fun bMw => (if 0 ≤ yU then (if yU ≤ (zO.length : Int) then (if zO.length < 2199023255552 then (some ((pp_ins zO yU [(⟨aQn, (⟨bMw.1, bMw.2.1, bMw.2.2⟩ : S44)⟩ : fB)]), aQn, 0, 0)) else (none)) else (none)) else (none))))) = some (r1, r2, r3, r4) := by rw [if_neg (show ¬ (false = true) by decide)] at H; exact H
    clear H
    have H := H1
    clear H1
    by_cases eRo : dEq = true
    · subst eRo
      have H1 : (some (zO, aQn, 0, 0)) = some (r1, r2, r3, r4) := by rw [if_pos rfl] at H; exact H
      clear H
      have H := H1
      clear H1
      simp only [Option.some.injEq, Prod.mk.injEq] at H
      obtain ⟨rfl, rfl, rfl, rfl⟩ := H
      have bM2 := bEr.out
      have bM3 := bEq.out
      have cNl := bPw.out
      have cNm := bPv.out
      have cDb := aYq.out
      have cDc := aTa.out
      have cDd := aYr.out
      have cDe := aTb.out
      have bTz := bPy.out
      have bT0 := bPx.out
      have bJa := bP0.out
      have bJb := bPz.out
      have bA3 : wc.cell? ⟨bSz, 0, none⟩ = some (.slice bR9 zO.length bSa) := (blk_cell zR.out 0).trans rfl
      have bA4 := blk_frozen zR.out 0
      have cW6 := aEs.out
      have cW7 := aEr.out
      have cDf := aGm.out
      have cDg := aGl.out
      have cW8 := qO.out
      have cW9 := vU.out
      have bT1 := aEt.out
      have bT2 := aBp.out
      have cXa := aOj.out
      have cXb := aGn.out
      have dE3 : wc.cell? ⟨aHk, 0, none⟩ = some (.slice none 0 0) := (blk_cell jM.out 0).trans rfl
      have dE4 := blk_frozen jM.out 0
      have cDh := aBo.out
      have cDi := aBn.out
      have eDf := aCv.out
      have eDg := aCu.out
      have dJ4 := aBq.out
      have dJ5 := wN.out
      have eDh := aJ0.out
      have eDi := aBr.out
      have dE5 : wc.cell? ⟨zL, 0, none⟩ = some (.int .i64 0) := (blk_cell jN.out 0).trans rfl
      have fXt : wc.cell? ⟨zL, 1, none⟩ = some (.int .i64 0) := (blk_cell jN.out 1).trans rfl
      have dE6 := blk_frozen jN.out 0
      have fXu := blk_frozen jN.out 1
      go_wp2
      refine bodyPost_ret (results_list (rs := [.cell 4 24, .tmp 5, .cell 6 28]) rfl (by simp) (.cell aHk 24 #[.slice bR9 zO.length bSa] (0, 0) _ rfl (by (with_reducible repeat (first | refine bN ?_ _ | refine bD ?_ | refine bA ?_ _)); refine blk_far ?_ qO.out _; (with_reducible repeat (first | refine bN ?_ _ | refine bD ?_ | refine bA ?_ _)); refine blk_far ?_ qO.out _; (with_reducible repeat (first | refine bN ?_ _ | refine bD ?_ | refine bA ?_ _)); refine blk_put (cs := #[.slice none 0 0]) ?_ 0 _ rfl; (with_reducible repeat (first | refine bN ?_ _ | refine bD ?_ | refine bA ?_ _)); exact jM.out) Try.underlying24 rfl (by kernel_rfl) (.tmp (.cell zL 28 #[.int .i64 0, .int .i64 0] (0, 0) _ rfl (by (with_reducible repeat (first | refine bN ?_ _ | refine bD ?_ | refine bA ?_ _)); refine blk_put (cs := #[.int .i64 0, .int .i64 0]) ?_ 1 _ rfl; (with_reducible repeat (first | refine bN ?_ _ | refine bD ?_ | refine bA ?_ _)); refine blk_put (cs := #[.int .i64 0, .int .i64 0]) ?_ 0 _ rfl; (with_reducible repeat (first | refine bN ?_ _ | refine bD ?_ | refine bA ?_ _)); refine blk_far ?_ vU.out _; (with_reducible repeat (first | refine bN ?_ _ | refine bD ?_ | refine bA ?_ _)); exact jN.out) Try.underlying28 rfl (by kernel_rfl) .nil)))) rfl ?_
      exact ⟨_, xre, by (with_reducible repeat (first | apply Kd.S_alloc | apply Kd.S_drewN | apply Kd.S_drew)); exact Kd.S_mono (Kd.S_far (p := ⟨zL, 1, none⟩) (Kd.S_far (p := ⟨zL, 0, none⟩) (Kd.S_far (p := ⟨aHk, 0, none⟩) (Kd.S_types (Kd.S_types uR.out jM.out (by decide)) jN.out (by decide)) (fun _ hk => hk.1.2) (.slice bR9 zO.length bSa)) (fun _ hk => hk.2) (.int .i64 0)) (fun _ hk => hk.2) (.int .i64 0)) (fun _ hk => trivial), xq HB⟩
    replace eRo := Bool.eq_false_iff.mpr eRo
    subst eRo
    have H1 : (if (aD.length : Int) = 40 then (some (([] : List (fB)), 0, 14, (-1))) else ((objects_Clone.f dH bX cO).bind fun bMw => (if 0 ≤ yU then (if yU ≤ (zO.length : Int) then (if zO.length < 2199023255552 then (some ((pp_ins zO yU [(⟨aQn, (⟨bMw.1, bMw.2.1, bMw.2.2⟩ : S44)⟩ : fB)]), aQn, 0, 0)) else (none)) else (none)) else (none)))) = some (r1, r2, r3, r4) := by rw [if_neg (show ¬ (false = true) by decide)] at H; exact H
    clear H
    have H := H1
    clear H1
    by_cases bT3 : (aD.length : Int) = 40
    · rw [if_pos bT3] at H
      have dJ6 : ((aD.length : Int) == 40) = true := beq_iff_eq.mpr bT3
      have dJ7 : ((aD.length : Int) != 40) = false := bne_eq_false_iff_eq.mpr bT3
      clear bT3
      simp only [Option.some.injEq, Prod.mk.injEq] at H
      obtain ⟨rfl, rfl, rfl, rfl⟩ := H
      have fGj := aS6.out
      have fGk := aS7.out
      have fGl := aEr.out
      have fGm := aEs.out
      have dJ8 := aBn.out
      have dJ9 := aBo.out
      have cNn := aS8.out
      have cNo := aS9.out
      have cNp := bEo.out
      have cNq := bEp.out
      have bT4 := bEq.out
      have bT5 := bEr.out
      have eDj : wc.cell? ⟨bCk, 0, none⟩ = some (.slice bP aD.length bK) := (blk_cell gU.out 0).trans rfl
      have eDk := blk_frozen gU.out 0
      have bT6 := aGm.out
      have bT7 := aGl.out
      have cNr := qO.out
      have cNs := vU.out
      have cXc := aEt.out
      have cXd := aBp.out
      have cNt := aOj.out
      have cNu := aGn.out
      have cXe := aTa.out
      have cXf := aYq.out
      have dE7 : wc.cell? ⟨aHk, 0, none⟩ = some (.slice none 0 0) := (blk_cell jM.out 0).trans rfl
      have dE8 := blk_frozen jM.out 0
      have cNv := aCv.out
      have cNw := aCu.out
      have dKa := aBq.out
      have dKb := wN.out
      have cNx := aJ0.out
      have cNy := aBr.out
      have cDj := aTb.out
      have cDk := aYr.out
      have eDl : wc.cell? ⟨zL, 0, none⟩ = some (.int .i64 0) := (blk_cell jN.out 0).trans rfl
      have eDm : wc.cell? ⟨zL, 1, none⟩ = some (.int .i64 0) := (blk_cell jN.out 1).trans rfl
      have eDn := blk_frozen jN.out 0
      have eDo := blk_frozen jN.out 1
      go_wp2
      refine bodyPost_ret (results_list (rs := [.cell 4 24, .tmp 5, .cell 6 28]) rfl (by simp) (.cell aHk 24 #[.slice none 0 0] (0, 0) _ rfl (by (with_reducible repeat (first | refine bN ?_ _ | refine bD ?_ | refine bA ?_ _)); refine blk_far ?_ qO.out _; (with_reducible repeat (first | refine bN ?_ _ | refine bD ?_ | refine bA ?_ _)); refine blk_far ?_ qO.out _; (with_reducible repeat (first | refine bN ?_ _ | refine bD ?_ | refine bA ?_ _)); refine blk_put (cs := #[.slice none 0 0]) ?_ 0 _ rfl; (with_reducible repeat (first | refine bN ?_ _ | refine bD ?_ | refine bA ?_ _)); exact jM.out) Try.underlying24 rfl (by kernel_rfl) (.tmp (.cell zL 28 #[.int .i64 14, .int .i64 (-1)] (0, 0) _ rfl (by (with_reducible repeat (first | refine bN ?_ _ | refine bD ?_ | refine bA ?_ _)); refine blk_put (cs := #[.int .i64 14, .int .i64 0]) ?_ 1 _ rfl; (with_reducible repeat (first | refine bN ?_ _ | refine bD ?_ | refine bA ?_ _)); refine blk_put (cs := #[.int .i64 0, .int .i64 0]) ?_ 0 _ rfl; (with_reducible repeat (first | refine bN ?_ _ | refine bD ?_ | refine bA ?_ _)); refine blk_far ?_ vU.out _; (with_reducible repeat (first | refine bN ?_ _ | refine bD ?_ | refine bA ?_ _)); exact jN.out) Try.underlying28 rfl (by kernel_rfl) .nil)))) rfl ?_
      exact ⟨_, xre, by first | exact Kd.S_nil _ _ _ _ _ | exact Kd.N_nil _ _ _ _ _ | exact Kd.V_nil _ _ _ _ _ | exact Kd.Q_nil _ _ _ _ _ | exact Kd.R_nil _ _ _ _ _, xq HB⟩
    rw [if_neg bT3] at H
    have dJ6 : ((aD.length : Int) == 40) = false := beq_eq_false_iff_ne.mpr bT3
    have dJ7 : ((aD.length : Int) != 40) = true := bne_iff_ne.mpr bT3
    replace H := Option.bind_eq_some_iff.mp H
    obtain ⟨⟨dY0, dKc, dKd⟩, fAp, H⟩ := H
    replace H : (if 0 ≤ yU then (if yU ≤ (zO.length : Int) then (if zO.length < 2199023255552 then (some ((pp_ins zO yU [(⟨aQn, (⟨dY0, dKc, dKd⟩ : S44)⟩ : fB)]), aQn, 0, 0)) else (none)) else (none)) else (none)) = some (r1, r2, r3, r4) := H
    have hI7 := aZ fAp
    clear fAp
    by_cases eRp : 0 ≤ yU
    rotate_left
    · rw [if_neg eRp] at H
      exact absurd H (by simp)

    rw [if_pos eRp] at H
    have hI8 : decide (0 ≤ yU) = true := decide_eq_true eRp
    clear eRp
    by_cases eRq : yU ≤ (zO.length : Int)
    rotate_left
    · rw [if_neg eRq] at H
      exact absurd H (by simp)
    rw [if_pos eRq] at H
    have hI9 : decide (yU ≤ (zO.length : Int)) = true := decide_eq_true eRq
    clear eRq
    by_cases eRr : zO.length < 2199023255552
    rotate_left
    · rw [if_neg eRr] at H
      exact absurd H (by simp)
    rw [if_pos eRr] at H
    have fGn := aZ eRr
    clear eRr
    obtain ⟨eRs, dE9⟩ : ∃ y_ : List (fB), y_ = (pp_ins zO yU [(⟨aQn, (⟨dY0, dKc, dKd⟩ : S44)⟩ : fB)]) := ⟨_, rfl⟩
    replace H : (some (eRs, aQn, 0, 0)) = some (r1, r2, r3, r4) := by first | (rw [dE9]; with_reducible exact H) | (have qY := (Option.bind_some _ _).symm.trans H; rw [dE9]; with_reducible exact qY) | (have qY := (Option.bind_some _ _).symm.trans H; with_reducible exact qY) | with_reducible exact H | (rw [dE9]; exact H) | exact H
    have fXv := aZ dE9
    clear dE9
    simp only [Option.some.injEq, Prod.mk.injEq] at H
    obtain ⟨rfl, rfl, rfl, rfl⟩ := H
    have dKe := aS6.out
    have dKf := aS7.out
    have eDp := aEr.out
    have eDq := aEs.out
    have dKg := aBn.out
    have dKh := aBo.out
    have cDl := aS8.out
    have cDm := aS9.out
    have cXg := bEo.out
    have cXh := bEp.out
    have eDr := bEq.out
    have eDs := bEr.out
    have cNz : wc.cell? ⟨bCk, 0, none⟩ = some (.slice bP aD.length bK) := (blk_cell gU.out 0).trans rfl
    have cN0 := blk_frozen gU.out 0
    try go_wp2
    replace uR := aZ (Kd.S_drew uR.out)
    replace gU := aZ (bD gU.out)
    replace gT := aZ (bD gT.out)
    replace jM := aZ (bD jM.out)
    replace jN := aZ (bD jN.out)
    replace oG := aZ (bD oG.out)
    replace vL := aZ (bD vL.out)
    replace zR := aZ (bD zR.out)
    replace HB := aZ (lD HB.out)
    refine start_ (n := 11) (S := fun w' => w'.cell? ⟨bSz, 0, none⟩ = some (.slice bR9 zO.length bSa) ∧ w'.cell? ⟨aSl, 0, none⟩ = some (.int .i64 dH) ∧ w'.cell? ⟨aSl, 1, none⟩ = some (.slice kW bX.length kX) ∧ w'.cell? ⟨aSl, 2, none⟩ = some (.slice kR cO.length kS)) (ds := [10]) Z16 (by kernel_rfl) rfl rfl ⟨(blk_cell zR.out 0).trans rfl, (blk_cell gT.out 0).trans rfl, (blk_cell gT.out 1).trans rfl, (blk_cell gT.out 2).trans rfl⟩ (fun hHeld => ?_); refine with_tabW objects_Put.tab15 objects_Put.bits15 (fun HT_ HW_ => ?_)
    generalize wc.drew = hJa at uR gU gT jM jN oG vL zR HB hHeld ⊢
    refine pu 0 67 Z17 HT_ rfl rfl (h := ?_)
    refine pu 2 69 Z18 HT_ rfl rfl (h := ?_)
    refine pu 3 70 Z19 HT_ rfl rfl (h := ?_)
    refine tk 1 68 Z20 HT_ HW_ rfl rfl hHeld (by rintro w' ⟨s0, s1, s2, s3⟩; go_simp; with_reducible rfl) (h := ?_)
    refine tk 4 71 Z21 HT_ HW_ rfl rfl hHeld (by rintro w' ⟨s0, s1, s2, s3⟩; go_simp; with_reducible rfl) (h := ?_)
    refine one_ (i := 5) (N := some 72) Z22 rfl rfl (one_of HT_.out (by kernel_rfl)) (by decide) (fun K hK => ?_)
    refine goes_ Try.func51 (by kernel_rfl) rfl #[.agg #[.int .i64 dH, .slice kW bX.length kX, .slice kR cO.length kS]] (by rfl) rfl rfl xmp ?_
    with_reducible refine (objects_Clone.calls dH _ _ bX _ _ cO dY0 dKc dKd _ ?side1 ?side2 ?side3 ?side4 hI7.out).mono ?_
    (case side1 => exact xcb aDm HB)
    (case side2 => exact aD8.out)
    (case side3 => exact xcb aD9 HB)
    (case side4 => exact aF2.out)
    rintro e fXw ⟨iHe, iHf, rfl, gZ, ho1, hb⟩
    refine ⟨_, rfl, ?_⟩
    replace uR := aZ (Kd.S_mono (Kd.S_told (Kd.S_told (Kd.S_old (by (with_reducible repeat (first | apply Kd.S_alloc | apply Kd.S_drewN | apply Kd.S_drew)); exact uR.out) hb) (Kd.R_base gZ)) (Kd.R_base ho1)) (fun _ h_ => h_.1))
    have dQ3 := aZ (Kd.R_lower gZ (lZ (by repeat (first | (with_reducible first | exact HB.out | apply lA | apply lN | apply lD | refine lS ?_ bEh.out | refine lS ?_ bEi.out | refine lS ?_ bEj.out | refine lS ?_ bEk.out | refine lS ?_ bEl.out | refine lS ?_ cHd.out | refine lS ?_ dE0.out) | exact HB.out))))
    have dQ4 := aZ (Kd.R_lower ho1 (lZ (by repeat (first | (with_reducible first | exact HB.out | apply lA | apply lN | apply lD | refine lS ?_ bEh.out | refine lS ?_ bEi.out | refine lS ?_ bEj.out | refine lS ?_ bEk.out | refine lS ?_ bEl.out | refine lS ?_ cHd.out | refine lS ?_ dE0.out) | exact HB.out))))
    replace gU := xbb gU hb
    replace gT := xbb gT hb
    replace jM := xbb jM hb
    replace jN := xbb jN hb
    replace oG := xbb oG hb
    replace vL := xbb vL hb
    replace zR := xbb zR hb
    replace HB := xhl HB hb
    (try clear hb)
    (try clear iV)
    (try clear hk)
    (try clear hi)
    (try clear gZ)
    (try clear ho1)
    obtain ⟨eDt, eDu, dQ5⟩ := Kd.R_slice dQ4.out
    (first | subst dQ5 | (injection dQ5 with f1_ f2_ f3_; have f4_ := f1_.symm; have f5_ := f3_.symm; clear f1_ f2_ f3_; subst f4_; subst f5_))
    obtain ⟨aDn, aDo, dQ6⟩ := Kd.R_slice dQ3.out
    (first | subst dQ6 | (injection dQ6 with f1_ f2_ f3_; have f4_ := f1_.symm; have f5_ := f3_.symm; clear f1_ f2_ f3_; subst f4_; subst f5_))
    refine hK.out _ _ ⟨(blk_cell zR.out 0).trans rfl, (blk_cell gT.out 0).trans rfl, (blk_cell gT.out 1).trans rfl, (blk_cell gT.out 2).trans rfl⟩ (fun hHeld => ?_)
    clear hK K
    refine norm_ (a' := ?_) ?_ ?_
    rotate_left
    · show Act.put _ (some 72) _ = _
      simp only [Act.put, List.setIfInBounds_toArray, List.set_cons_zero, List.set_cons_succ, i64_w, i32_w]
      rfl
    refine pu 6 73 Z23 HT_ rfl rfl (h := ?_)
    refine one_ (i := 7) (N := some 74) Z24 rfl rfl (one_of HT_.out (by kernel_rfl)) (by decide) (fun K hK => ?_)
    refine value_ (w1 := ?_) (v := ?_) (by rfl) rfl ?_ ?_
    rotate_left 2
    · go_simp
      constructor
      · rfl
      · rfl
    refine hK.out _ _ ⟨(blk_cell (bA zR.out _) 0).trans rfl, (blk_cell (bA gT.out _) 0).trans rfl, (blk_cell (bA gT.out _) 1).trans rfl, (blk_cell (bA gT.out _) 2).trans rfl⟩ (fun hHeld => ?_)
    clear hK K
    refine norm_ (a' := ?_) ?_ ?_
    rotate_left
    · show Act.put _ (some 74) _ = _
      simp only [Act.put, List.setIfInBounds_toArray, List.set_cons_zero, List.set_cons_succ, i64_w, i32_w]
      rfl
    refine one_ (i := 8) (N := some 75) Z25 rfl rfl (one_of HT_.out (by kernel_rfl)) (by decide) (fun K hK => ?_)
    refine Kd.S_insert_step qL (w0 := w) w.heap.size rfl (by rfl) (.tmp 68) (.tmp 69) (.tmp 74) rfl (.slice bR9 zO.length bSa) zO (⟨aQn, (⟨dY0, dKc, dKd⟩ : S44)⟩ : fB) [.int .i64 aQn, .int .i64 dY0, .slice aDn dKc.length aDo, .slice eDt dKd.length eDu] yU (fun _ => True) (fun k_ => some k_ = (.slice aDn dKc.length aDo : Value).ownBlock ∨ some k_ = (.slice eDt dKd.length eDu : Value).ownBlock) rfl rfl rfl (of_decide_eq_true xas) (of_decide_eq_true xas) ?aP (fun k_ hk_ => hk_.elim (fun h_ => ((Kd.R_mono (ok' := fun k_ => ((fun _ => True)) k_ ∧ some k_ ≠ (.slice bR9 zO.length bSa : Value).ownBlock) (Kd.R_apart' (dQ3.out) (Kd.S_typed uR.out) (by decide)) (fun k_ hk => ⟨trivial, hk.2⟩))).1 k_ h_.symm) (fun h_ => ((Kd.R_mono (ok' := fun k_ => ((fun _ => True)) k_ ∧ some k_ ≠ (.slice bR9 zO.length bSa : Value).ownBlock) (Kd.R_apart' (dQ4.out) (Kd.S_typed uR.out) (by decide)) (fun k_ hk => ⟨trivial, hk.2⟩))).1 k_ h_.symm)) ?aF ?aO ?aB ?aS ?aL ?_
    (case aP => exact cJg _ _ _ (⟨aQn, (⟨dY0, dKc, dKd⟩ : S44)⟩ : fB) (Kd.R_mono (Kd.R_tight rfl (Kd.R_mono (ok' := fun k_ => ((fun _ => True)) k_ ∧ some k_ ≠ (.slice bR9 zO.length bSa : Value).ownBlock) (Kd.R_apart' (dQ3.out) (Kd.S_typed uR.out) (by decide)) (fun k_ hk => ⟨trivial, hk.2⟩))) (fun _ h_ => Or.inl h_)) (Kd.R_mono (Kd.R_tight rfl (Kd.R_mono (ok' := fun k_ => ((fun _ => True)) k_ ∧ some k_ ≠ (.slice bR9 zO.length bSa : Value).ownBlock) (Kd.R_apart' (dQ4.out) (Kd.S_typed uR.out) (by decide)) (fun k_ hk => ⟨trivial, hk.2⟩))) (fun _ h_ => Or.inr (h_))))
    (case aB => exact (by repeat (first | (with_reducible first | exact HB.out | apply lA | apply lN | apply lD | refine lS ?_ bEh.out | refine lS ?_ bEi.out | refine lS ?_ bEj.out | refine lS ?_ bEk.out | refine lS ?_ bEl.out | refine lS ?_ cHd.out | refine lS ?_ dE0.out) | exact HB.out)))
    (case aF => exact (fun _ _ => trivial))
    (case aO => exact (by (with_reducible repeat (first | apply Kd.S_alloc | apply Kd.S_drewN | apply Kd.S_drew)); exact Kd.S_mono uR.out (fun k_ hk => ⟨trivial, fun e_ => e_.elim (fun h_ => hk.1.2 h_) (fun h_ => hk.2 h_)⟩)))
    (case aS => exact (lZ (by repeat (first | (with_reducible first | exact HB.out | apply lA | apply lN | apply lD | refine lS ?_ bEh.out | refine lS ?_ bEi.out | refine lS ?_ bEj.out | refine lS ?_ bEk.out | refine lS ?_ bEl.out | refine lS ?_ cHd.out | refine lS ?_ dE0.out) | exact HB.out))))
    (case aL => have := fGn.out; omega)
    intro iHg eDv ho hb hg hat
    rw [← fXv.out] at ho
    replace gU := aZ (blk_grown (g := bCk) (o := .cells #[.slice bP aD.length bK] 24 (0, 0)) (xkq gU) hg (Kd.S_ne uR.out gU.out (by decide)))
    replace gT := aZ (blk_grown (g := aSl) (o := .cells #[.int .i64 dH, .slice kW bX.length kX, .slice kR cO.length kS] 44 (0, 0)) (xkq gT) hg (Kd.S_ne uR.out gT.out (by decide)))
    replace jM := aZ (blk_grown (g := aHk) (o := .cells #[.slice none 0 0] 24 (0, 0)) (xkq jM) hg (Kd.S_ne uR.out jM.out (by decide)))
    replace jN := aZ (blk_grown (g := zL) (o := .cells #[.int .i64 0, .int .i64 0] 28 (0, 0)) (xkq jN) hg (Kd.S_ne uR.out jN.out (by decide)))
    replace oG := aZ (blk_grown (g := aCm) (o := .cells #[.int .i64 aS5, .int .i64 bA1] 28 (0, 0)) (xkq oG) hg (Kd.S_ne uR.out oG.out (by decide)))
    replace vL := aZ (blk_grown (g := aEu) (o := .cells #[.int .i64 aW7, .int .i64 bI9] 28 (0, 0)) (xkq vL) hg (Kd.S_ne uR.out vL.out (by decide)))
    replace zR := aZ (blk_grown (g := bSz) (o := .cells #[.slice bR9 zO.length bSa] 24 (0, 0)) (xkq zR) hg (Kd.S_ne uR.out zR.out (by decide)))
    replace HB := aZ (hb)
    have fAq := aZ (ho)
    clear uR
    clear dQ3
    clear dQ4
    clear ho hb hg hat
    obtain ⟨eDw, eDx, fAr⟩ := Kd.S_slice fAq.out
    (first | subst fAr | (injection fAr with f1_ f2_ f3_; have f4_ := f1_.symm; have f5_ := f3_.symm; clear f1_ f2_ f3_; subst f4_; subst f5_))
    refine hK.out _ _ ⟨(blk_cell zR.out 0).trans rfl, (blk_cell gT.out 0).trans rfl, (blk_cell gT.out 1).trans rfl, (blk_cell gT.out 2).trans rfl⟩ (fun hHeld => ?_)
    clear hK K
    refine norm_ (a' := ?_) ?_ ?_
    rotate_left
    · show Act.put _ (some 75) _ = _
      simp only [Act.put, List.setIfInBounds_toArray, List.set_cons_zero, List.set_cons_succ, i64_w, i32_w]
      rfl
    refine pu 9 76 Z26 HT_ rfl rfl (h := ?_)
    refine last_ (i := 10) (N := none) Z27 rfl rfl (one_of HT_.out (by kernel_rfl)) (by decide) (fun K hK => ?_)
    have iBi : eDv.cell? ⟨bSz, 0, none⟩ = some (.slice bR9 zO.length bSa) := (blk_cell zR.out 0).trans rfl
    have hJb := blk_frozen zR.out 0
    have fXx := bEq.out
    have fXy := bPv.out
    have fXz := aTa.out
    have fX0 := aTb.out
    have fX1 := bPx.out
    have fX2 := bPz.out
    have fX3 := bEr.out
    have fX4 := bPw.out
    have fX5 := aYq.out
    have fX6 := aYr.out
    have fX7 := bPy.out
    have fX8 := bP0.out
    refine skip_ (w1 := ?_) (by rfl) rfl ?_ ?_
    rotate_left
    · go_simp
      rfl
    refine hK.out _ _ ?_
    clear hK K
    refine done_ (done_of HT_.out (by kernel_rfl)) ?_
    have cN1 := bPw.out
    have cN2 := bPv.out
    have cN3 := aYq.out
    have cN4 := aTa.out
    have eDy := aYr.out
    have eDz := aTb.out
    have eD0 := bPy.out
    have eD1 := bPx.out
    have dKi := bP0.out
    have dKj := bPz.out
    have eD2 : eDv.cell? ⟨bSz, 0, none⟩ = some (.slice bR9 zO.length bSa) := (blk_cell zR.out 0).trans rfl
    have eD3 := blk_frozen zR.out 0
    have dKk := aGm.out
    have dKl := aGl.out
    have cXi := qO.out
    have cXj := vU.out
    have eD4 := aEt.out
    have eD5 := aBp.out
    have dKm := aOj.out
    have dKn := aGn.out
    have fX9 : eDv.cell? ⟨aHk, 0, none⟩ = some (.slice none 0 0) := (blk_cell jM.out 0).trans rfl
    have fYa := blk_frozen jM.out 0
    have cXk := aCv.out
    have cXl := aCu.out
    have dKo := aBq.out
    have dKp := wN.out
    have cXm := aJ0.out
    have cXn := aBr.out
    have fYb : eDv.cell? ⟨zL, 0, none⟩ = some (.int .i64 0) := (blk_cell jN.out 0).trans rfl
    have fYc : eDv.cell? ⟨zL, 1, none⟩ = some (.int .i64 0) := (blk_cell jN.out 1).trans rfl
    have fYd := blk_frozen jN.out 0
    have fYe := blk_frozen jN.out 1
    try go_wp2
    refine bodyPost_ret (results_list (rs := [.cell 4 24, .tmp 5, .cell 6 28]) rfl (by simp) (.cell aHk 24 #[.slice eDw eRs.length eDx] (0, 0) _ rfl (by (with_reducible repeat (first | refine bN ?_ _ | refine bD ?_ | refine bA ?_ _)); refine blk_far ?_ qO.out _; (with_reducible repeat (first | refine bN ?_ _ | refine bD ?_ | refine bA ?_ _)); refine blk_far ?_ qO.out _; (with_reducible repeat (first | refine bN ?_ _ | refine bD ?_ | refine bA ?_ _)); refine blk_put (cs := #[.slice none 0 0]) ?_ 0 _ rfl; (with_reducible repeat (first | refine bN ?_ _ | refine bD ?_ | refine bA ?_ _)); refine blk_far ?_ aTa.out _; (with_reducible repeat (first | refine bN ?_ _ | refine bD ?_ | refine bA ?_ _)); exact jM.out) Try.underlying24 rfl (by kernel_rfl) (.tmp (.cell zL 28 #[.int .i64 0, .int .i64 0] (0, 0) _ rfl (by (with_reducible repeat (first | refine bN ?_ _ | refine bD ?_ | refine bA ?_ _)); refine blk_put (cs := #[.int .i64 0, .int .i64 0]) ?_ 1 _ rfl; (with_reducible repeat (first | refine bN ?_ _ | refine bD ?_ | refine bA ?_ _)); refine blk_put (cs := #[.int .i64 0, .int .i64 0]) ?_ 0 _ rfl; (with_reducible repeat (first | refine bN ?_ _ | refine bD ?_ | refine bA ?_ _)); refine blk_far ?_ vU.out _; (with_reducible repeat (first | refine bN ?_ _ | refine bD ?_ | refine bA ?_ _)); refine blk_far ?_ aTb.out _; (with_reducible repeat (first | refine bN ?_ _ | refine bD ?_ | refine bA ?_ _)); exact jN.out) Try.underlying28 rfl (by kernel_rfl) .nil)))) rfl ?_
    exact ⟨_, xre, by (with_reducible repeat (first | apply Kd.S_alloc | apply Kd.S_drewN | apply Kd.S_drew)); exact Kd.S_mono (Kd.S_far (p := ⟨zL, 1, none⟩) (Kd.S_far (p := ⟨zL, 0, none⟩) (Kd.S_far (p := ⟨aHk, 0, none⟩) (Kd.S_far (p := ⟨bSz, 0, none⟩) (Kd.S_types (Kd.S_types (Kd.S_types fAq.out zR.out (by decide)) jM.out (by decide)) jN.out (by decide)) (fun _ hk => hk.1.1.2) (.slice eDw eRs.length eDx)) (fun _ hk => hk.1.2) (.slice eDw eRs.length eDx)) (fun _ hk => hk.2) (.int .i64 0)) (fun _ hk => hk.2) (.int .i64 0)) (fun _ hk => trivial), xq HB⟩
end
section
attribute [local go_sem high] bAt
def objects_Has.f (k : Nat) (aD : List (fB)) (a1 : Int) : Option (Bool × Int × Int) := (objects_Validate.f k aD).bind fun bW8 => (if (!(bW8.1 == 0) || (!(bW8.2 == 0))) = true then (some (false, bW8.1, bW8.2)) else ((objects_find.f k aD a1).bind fun dFo => (some (dFo.2, 0, 0))))
theorem objects_Has.mono : ∀ a0 a1 k, LeO (objects_Has.f k a0 a1) (objects_Has.f (k + 1) a0 a1) := by
  intro a0 a1 k
  unfold objects_Has.f
  repeat' first | (with_reducible first | exact objects_Validate.mono _ _ | exact objects_find.mono _ _ _ | exact LeO.refl _ | exact LeO.none _ | refine LeO.ite ?_ ?_ | refine LeO.bind ?_ (fun _ => ?_)) | exact objects_Validate.mono _ _ | exact objects_find.mono _ _ _ | exact LeO.none _ | refine LeO.ite ?_ ?_ | refine LeO.bind ?_ (fun _ => ?_)
set_option maxHeartbeats 8000000 in
set_option maxRecDepth 100000 in
theorem objects_Has.calls (k : Nat) (bP : Option Addr) (bK : Nat) (aD : List (fB)) (a1 : Int) (r1 : Bool) (r2 : Int) (r3 : Int) (w : World) (mZ : Kd.C qL w bP aD.length aD) (nA : aD.length ≤ bK) (h : objects_Has.f k aD a1 = some (r1, r2, r3)) :
  Calls Try.prog 35 #[.agg #[.slice bP aD.length bK], .int .i64 a1] w fun e w' => e = .returned (.tuple #[.bool r1, .agg #[.int .i64 r2, .int .i64 r3]]) ∧ Below w.heap.size w w' := by
  have aP7 := Try.underlying24
  have aQg := Try.underlying28
  have fI := aZ mZ
  have lC := aZ nA
  clear mZ nA
  have HB := aZ (Below.refl w.heap.size w)
  have H : ((objects_Validate.f k aD).bind fun bW8 => (if (!(bW8.1 == 0) || (!(bW8.2 == 0))) = true then (some (false, bW8.1, bW8.2)) else ((objects_find.f k aD a1).bind fun dFo => (some (dFo.2, 0, 0))))) = some (r1, r2, r3) := h
  clear h
  replace H := Option.bind_eq_some_iff.mp H
  obtain ⟨⟨bJg, bSc⟩, A30, H⟩ := H
  replace H : (if (!(bJg == 0) || (!(bSc == 0))) = true then (some (false, bJg, bSc)) else ((objects_find.f k aD a1).bind fun dFo => (some (dFo.2, 0, 0)))) = some (r1, r2, r3) := H
  have A3 := aZ A30
  clear A30
  by_cases c4 : (!(bJg == 0) || (!(bSc == 0))) = true
  rotate_left
  · rw [if_neg c4] at H
    have aJy : (!(bJg == 0) || (!(bSc == 0))) = false := by simpa using c4
    clear c4
    replace H := Option.bind_eq_some_iff.mp H
    obtain ⟨⟨hJ4, fYx⟩, bW9, H⟩ := H
    replace H : (some (fYx, 0, 0)) = some (r1, r2, r3) := H
    have A18 := aZ bW9
    clear bW9
    simp only [Option.some.injEq, Prod.mk.injEq] at H
    obtain ⟨rfl, rfl, rfl⟩ := H
    go_enter Try.func35, Try.ntmps35
    go_wp2_with (first | ((with_reducible refine gate_dst (N := 2) rfl ?_); refine box_event ?hg (N := 2) ?hd (cs := #[.slice bP aD.length bK]) (t := 24) ?hr ?_; (case hd => rfl); (case hg => rfl); (case hr => first | (go_simp; done) | (go_simp; rfl)); intro dFp hg w19 hbox hb; have zT := aZ (hbox); have fYy := xgh hg HB; have fA6 := xgh hg HB; replace HB := xhl HB hb; clear hb hbox hg) | ((with_reducible refine gate_dst (N := 5) rfl ?_); refine box_event ?hg (N := 5) ?hd (cs := #[.int .i64 0, .int .i64 0]) (t := 28) ?hr ?_; (case hd => rfl); (case hg => rfl); (case hr => first | (go_simp; done) | (go_simp; rfl)); intro bLv hg w20 hbox hb; have aB8 := aZ (hbox); have fYz := xgh hg HB; have fA7 := xgh hg HB; replace HB := xhl HB hb; have bEv := xnl hg zT; have bEw := xng hg zT; replace zT := xbb zT hb; clear hb hbox hg; have eEg := bEv.out; have eEh := bEw.out; have cJs : w20.cell? ⟨dFp, 0, none⟩ = some (.slice bP aD.length bK) := (blk_cell zT.out 0).trans rfl; have cJt := blk_frozen zT.out 0) | ((with_reducible refine gate_callee (f := 32) rfl ?_); refine goesL_ (some 10) rfl rfl Try.func32 (by kernel_rfl) rfl #[.agg #[.slice bP aD.length bK]] rfl xmp ?_; (with_reducible refine (objects_Validate.calls k _ _ aD bJg bSc _ ?side1 ?side2 A3.out).mono ?_); (case side1 => exact xcb fI HB); (case side2 => exact lC.out); rintro e w23 ⟨rfl, hb⟩; refine ⟨_, rfl, ?_⟩; replace zT := xbb zT hb; replace aB8 := xbb aB8 hb; replace HB := xhl HB hb; skip; (try clear hb); (try clear iV); (try clear hk); (try clear hi)) | ((with_reducible refine gate_dst (N := 6) rfl ?_); refine box_event ?hg (N := 6) ?hd (cs := #[.int .i64 0, .int .i64 0]) (t := 28) ?hr ?_; (case hd => rfl); (case hg => rfl); (case hr => first | (go_simp; done) | (go_simp; rfl)); intro aQr hg w24 hbox hb; have aQs := aZ (hbox); have fY0 := xgh hg HB; have fA8 := xgh hg HB; replace HB := xhl HB hb; have cDt := xnl hg zT; have cDu := xng hg zT; replace zT := xbb zT hb; have bEx := xnl hg aB8; have aKd := xng hg aB8; replace aB8 := xbb aB8 hb; clear hb hbox hg; have bV7 := cDu.out; have bV8 := cDt.out; have cHa := aKd.out; have cHb := bEx.out; have aQh : w24.cell? ⟨aQr, 0, none⟩ = some (.int .i64 0) := (blk_cell aQs.out 0).trans rfl; have dO3 : w24.cell? ⟨aQr, 1, none⟩ = some (.int .i64 0) := (blk_cell aQs.out 1).trans rfl; have aQi := blk_frozen aQs.out 0; have dO4 := blk_frozen aQs.out 1; have cJ9 : w24.cell? ⟨dFp, 0, none⟩ = some (.slice bP aD.length bK) := (blk_cell zT.out 0).trans rfl; have cKa := blk_frozen zT.out 0) | ((with_reducible refine gate_callee (f := 48) rfl ?_); refine goesL_ (some 18) rfl rfl Try.func48 (by kernel_rfl) rfl #[.agg #[.slice bP aD.length bK], .int .i64 a1] rfl xmp ?_; (with_reducible refine (objects_find.calls k _ _ aD a1 hJ4 fYx _ ?side1 ?side2 A18.out).mono ?_); (case side1 => exact Kd.C_below fI.out (by repeat (first | (with_reducible first | exact HB.out | apply lA | apply lN | apply lD | refine lS ?_ fA6.out | refine lS ?_ fA7.out | refine lS ?_ fA8.out) | exact HB.out))); (case side2 => exact lC.out); rintro e w29 ⟨rfl, hb⟩; refine ⟨_, rfl, ?_⟩; replace zT := xbb zT hb; replace aB8 := xbb aB8 hb; replace aQs := aZ (blk_below (g := aQr) (o := .cells #[.int .i64 bJg, .int .i64 bSc] 28 (0, 0)) (by (with_reducible repeat (first | refine bN ?_ _ | refine bD ?_ | refine bA ?_ _)); refine blk_put (cs := #[.int .i64 bJg, .int .i64 0]) ?_ 1 _ rfl; (with_reducible repeat (first | refine bN ?_ _ | refine bD ?_ | refine bA ?_ _)); refine blk_put (cs := #[.int .i64 0, .int .i64 0]) ?_ 0 _ rfl; (with_reducible repeat (first | refine bN ?_ _ | refine bD ?_ | refine bA ?_ _)); exact aQs.out) hb); replace HB := xhl HB hb; (try clear hb); (try clear iV); (try clear hk); (try clear hi); have bI0 : w29.cell? ⟨bLv, 0, none⟩ = some (.int .i64 0) := (blk_cell aB8.out 0).trans rfl; have cJ7 : w29.cell? ⟨bLv, 1, none⟩ = some (.int .i64 0) := (blk_cell aB8.out 1).trans rfl; have bI1 := blk_frozen aB8.out 0; have cJ8 := blk_frozen aB8.out 1))
    refine bodyPost_ret (results_tc rfl _ _ bLv 28 #[.int .i64 0, .int .i64 0] (0, 0) _ rfl (by (with_reducible repeat (first | refine bN ?_ _ | refine bD ?_ | refine bA ?_ _)); refine blk_put (cs := #[.int .i64 0, .int .i64 0]) ?_ 1 _ rfl; (with_reducible repeat (first | refine bN ?_ _ | refine bD ?_ | refine bA ?_ _)); refine blk_put (cs := #[.int .i64 0, .int .i64 0]) ?_ 0 _ rfl; (with_reducible repeat (first | refine bN ?_ _ | refine bD ?_ | refine bA ?_ _)); exact aB8.out) Try.underlying28 rfl (by kernel_rfl)) rfl ?_
    exact ⟨xre, xq HB⟩

  rw [if_pos c4] at H
  have aJy : (!(bJg == 0) || (!(bSc == 0))) = true := c4
  clear c4
  simp only [Option.some.injEq, Prod.mk.injEq] at H
  obtain ⟨rfl, rfl, rfl⟩ := H
  go_enter Try.func35, Try.ntmps35
  try go_wp2_with (first | ((with_reducible refine gate_dst (N := 2) rfl ?_); refine box_event ?hg (N := 2) ?hd (cs := #[.slice bP aD.length bK]) (t := 24) ?hr ?_; (case hd => rfl); (case hg => rfl); (case hr => first | (go_simp; done) | (go_simp; rfl)); intro dFp hg w5 hbox hb; have zT := aZ (hbox); have fYy := xgh hg HB; have fA6 := xgh hg HB; replace HB := xhl HB hb; clear hb hbox hg) | ((with_reducible refine gate_dst (N := 5) rfl ?_); refine box_event ?hg (N := 5) ?hd (cs := #[.int .i64 0, .int .i64 0]) (t := 28) ?hr ?_; (case hd => rfl); (case hg => rfl); (case hr => first | (go_simp; done) | (go_simp; rfl)); intro bLv hg w6 hbox hb; have aB8 := aZ (hbox); have fYz := xgh hg HB; have fA7 := xgh hg HB; replace HB := xhl HB hb; have bEv := xnl hg zT; have bEw := xng hg zT; replace zT := xbb zT hb; clear hb hbox hg; have fFs := bEv.out; have fFt := bEw.out; have cMq : w6.cell? ⟨dFp, 0, none⟩ = some (.slice bP aD.length bK) := (blk_cell zT.out 0).trans rfl; have cMr := blk_frozen zT.out 0) | ((with_reducible refine gate_callee (f := 32) rfl ?_); refine goesL_ (some 10) rfl rfl Try.func32 (by kernel_rfl) rfl #[.agg #[.slice bP aD.length bK]] rfl xmp ?_; (with_reducible refine (objects_Validate.calls k _ _ aD bJg bSc _ ?side1 ?side2 A3.out).mono ?_); (case side1 => exact xcb fI HB); (case side2 => exact lC.out); rintro e w9 ⟨rfl, hb⟩; refine ⟨_, rfl, ?_⟩; replace zT := xbb zT hb; replace aB8 := xbb aB8 hb; replace HB := xhl HB hb; skip; (try clear hb); (try clear iV); (try clear hk); (try clear hi)) | ((with_reducible refine gate_dst (N := 6) rfl ?_); refine box_event ?hg (N := 6) ?hd (cs := #[.int .i64 0, .int .i64 0]) (t := 28) ?hr ?_; (case hd => rfl); (case hg => rfl); (case hr => first | (go_simp; done) | (go_simp; rfl)); intro aQr hg w10 hbox hb; have aQs := aZ (hbox); have fY0 := xgh hg HB; have fA8 := xgh hg HB; replace HB := xhl HB hb; have cDt := xnl hg zT; have cDu := xng hg zT; replace zT := xbb zT hb; have bEx := xnl hg aB8; have aKd := xng hg aB8; replace aB8 := xbb aB8 hb; clear hb hbox hg; have bMj := cDu.out; have bMk := cDt.out; have dPk := aKd.out; have dPl := bEx.out; have bCd : w10.cell? ⟨aQr, 0, none⟩ = some (.int .i64 0) := (blk_cell aQs.out 0).trans rfl; have dPm : w10.cell? ⟨aQr, 1, none⟩ = some (.int .i64 0) := (blk_cell aQs.out 1).trans rfl; have bCe := blk_frozen aQs.out 0; have dPn := blk_frozen aQs.out 1))
  replace zT : Aside0 (((w10.setCell ⟨aQr, 0, none⟩ (.int .i64 bJg)).setCell ⟨aQr, 1, none⟩ (.int .i64 bSc)).heap[dFp]? = some (.cells #[.slice bP aD.length bK] 24 (0, 0))) := xk zT
  replace aB8 : Aside0 (((w10.setCell ⟨aQr, 0, none⟩ (.int .i64 bJg)).setCell ⟨aQr, 1, none⟩ (.int .i64 bSc)).heap[bLv]? = some (.cells #[.int .i64 0, .int .i64 0] 28 (0, 0))) := xk aB8
  replace aQs : Aside0 (((w10.setCell ⟨aQr, 0, none⟩ (.int .i64 bJg)).setCell ⟨aQr, 1, none⟩ (.int .i64 bSc)).heap[aQr]? = some (.cells #[.int .i64 bJg, .int .i64 bSc] 28 (0, 0))) := ⟨by (with_reducible repeat (first | refine bN ?_ _ | refine bD ?_ | refine bA ?_ _)); refine blk_put (cs := #[.int .i64 bJg, .int .i64 0]) ?_ 1 _ rfl; (with_reducible repeat (first | refine bN ?_ _ | refine bD ?_ | refine bA ?_ _)); refine blk_put (cs := #[.int .i64 0, .int .i64 0]) ?_ 0 _ rfl; (with_reducible repeat (first | refine bN ?_ _ | refine bD ?_ | refine bA ?_ _)); exact aQs.out⟩
  replace HB : Aside0 (Below w.heap.size w ((w10.setCell ⟨aQr, 0, none⟩ (.int .i64 bJg)).setCell ⟨aQr, 1, none⟩ (.int .i64 bSc))) := xb HB
  generalize ((w10.setCell ⟨aQr, 0, none⟩ (.int .i64 bJg)).setCell ⟨aQr, 1, none⟩ (.int .i64 bSc)) = w14 at zT aB8 aQs HB ⊢
  replace zT := aZ (bD zT.out)
  replace aB8 := aZ (bD aB8.out)
  replace aQs := aZ (bD aQs.out)
  replace HB := aZ (lD HB.out)
  refine start_ (n := 3) (S := fun w' => w'.cell? ⟨aQr, 0, none⟩ = some (.int .i64 bJg) ∧ w'.cell? ⟨aQr, 1, none⟩ = some (.int .i64 bSc)) (ds := []) #[false, false, false] (by kernel_rfl) rfl rfl ⟨(blk_cell aQs.out 0).trans rfl, (blk_cell aQs.out 1).trans rfl⟩ (fun hHeld => ?_)
  generalize w14.drew = w15 at zT aB8 aQs HB hHeld ⊢
  refine pure_ (i := 1) (N := some 4) (v := ?_) (a' := ?_) #[false, true, false] rfl rfl (by kernel_rfl) (fun _ _ _ h => h) (Or.inl ⟨by rfl, ?_⟩) ?_ ?_
  rotate_left
  · intro w'
    go_simp
    with_reducible rfl
  rotate_left
  · simp only [Act.put, List.setIfInBounds_toArray, List.set_cons_zero, List.set_cons_succ, i64_w, i32_w]
    rfl
  refine take_ (i := 0) (N := some 14) (v := ?_) (a' := ?_) #[true, true, false] rfl rfl (by kernel_rfl) (fun _ _ _ h => h) (Or.inl ⟨by rfl, ?_⟩) hHeld ?_ ?_
  rotate_left
  · rintro w' ⟨s0, s1⟩
    go_simp
    with_reducible rfl
  rotate_left
  · simp only [Act.put, List.setIfInBounds_toArray, List.set_cons_zero, List.set_cons_succ, i64_w, i32_w]
    rfl
  refine one_ (i := 2) (N := none) #[true, true, true] rfl rfl (by kernel_rfl) (by decide) (fun K hK => ?_)
  have fFe : w15.cell? ⟨bLv, 0, none⟩ = some (.int .i64 0) := (blk_cell aB8.out 0).trans rfl
  have eBz := blk_frozen aB8.out 0
  have dPd := bEv.out
  have cVm := aKd.out
  have dPe := bEw.out
  have cVn := bEx.out
  have iH4 : w15.cell? ⟨bLv, 1, none⟩ = some (.int .i64 0) := (blk_cell aB8.out 1).trans rfl
  have iB3 := blk_frozen aB8.out 1
  have gYc := bEv.out
  have gYd := aKd.out
  have gYe := bEw.out
  have gYf := bEx.out
  refine skip_ (w1 := ?_) (by rfl) rfl ?_ ?_
  rotate_left
  · go_simp
    rfl
  refine hK.out _ _ ⟨((cell_far (p := ⟨bLv, _, none⟩) aKd.out _).trans (((cell_far (p := ⟨bLv, _, none⟩) aKd.out _).trans (hHeld.1)))), ((cell_far (p := ⟨bLv, _, none⟩) aKd.out _).trans (((cell_far (p := ⟨bLv, _, none⟩) aKd.out _).trans (hHeld.2))))⟩ (fun hHeld => ?_)
  clear hK K
  refine done_ (by kernel_rfl) ?_
  try go_wp2
  refine bodyPost_ret (results_tc rfl _ _ bLv 28 #[.int .i64 bJg, .int .i64 bSc] (0, 0) _ rfl (by (with_reducible repeat (first | refine bN ?_ _ | refine bD ?_ | refine bA ?_ _)); refine blk_put (cs := #[.int .i64 bJg, .int .i64 0]) ?_ 1 _ rfl; (with_reducible repeat (first | refine bN ?_ _ | refine bD ?_ | refine bA ?_ _)); refine blk_put (cs := #[.int .i64 0, .int .i64 0]) ?_ 0 _ rfl; (with_reducible repeat (first | refine bN ?_ _ | refine bD ?_ | refine bA ?_ _)); exact aB8.out) Try.underlying28 rfl (by kernel_rfl)) rfl ?_
  exact ⟨xre, xq HB⟩
end

end Go.Proofs.Ytnmkmamobhkcbaa.P
