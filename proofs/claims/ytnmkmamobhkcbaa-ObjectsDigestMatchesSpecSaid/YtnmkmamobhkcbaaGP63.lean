/- Texts of the proofs of ObjectsDigestMatchesSpec: what the printed functions come to, plain laws, rows (no condition beyond the statements' own). -/
import Derived.Test.YtnmkmamobhkcbaaGP0
import Derived.Test.YtnmkmamobhkcbaaGP10
import Derived.Test.YtnmkmamobhkcbaaGP18
import Derived.Test.YtnmkmamobhkcbaaGP62
import Derived.Test.YtnmkmamobhkcbaaRows
import Derived.Test.YtnmkmamobhkcbaaGP24
import Derived.WalkKit
import Derived.ProofKit
import Derived.OpenShut
import Derived.ShutString
import Derived.ChangeOld
import Derived.Below
import Derived.SizedLaws
import Derived.Carry
namespace Go.Proofs.Ytnmkmamobhkcbaa.P
open Go.RowKit Go.Proofs.YtnmkmamobhkcbaaW.PrintWords Go.Proofs.YtnmkmamobhkcbaaW.PrintLast Go.Proofs.YtnmkmamobhkcbaaW.PrintMore
attribute [local go_sem] max2_int min2_int max_two min_two max_three min_three max_four min_four   -- for this text's walks alone
set_option linter.unusedVariables false
set_option linter.unusedSimpArgs false
section
attribute [local go_sem high] bAt
def changeforgelaw3_ObjectsDigestMatchesSpec.f (k : Nat) (dP : Int) (dA : List Int) (dZ : List Int) : Option (Bool) := (aW.f k).bind fun dYn => (if dYn = true then ((objects_Digest.f k dP dA dZ).bind fun aIy => ((aK.f k dP dA dZ).bind fun aQe => (if aQe.1 = 0 then (if aIy.2.1 = 0 then ((aV.f k dP dA dZ).bind fun bVc => (some (aIy.1 == bVc))) else (some false)) else (if (aIy.2.1 == aQe.1 && (aIy.2.2 == aQe.2)) = true then (some (aIy.1 == 0)) else (some false))))) else (some false))
theorem changeforgelaw3_ObjectsDigestMatchesSpec.mono : ∀ a0 a1 a2 k, LeO (changeforgelaw3_ObjectsDigestMatchesSpec.f k a0 a1 a2) (changeforgelaw3_ObjectsDigestMatchesSpec.f (k + 1) a0 a1 a2) := by
  intro a0 a1 a2 k
  unfold changeforgelaw3_ObjectsDigestMatchesSpec.f
  repeat' first | (with_reducible first | exact aW.mono _ | exact aV.mono _ _ _ _ | exact aK.mono _ _ _ _ | exact objects_Digest.mono _ _ _ _ | exact LeO.refl _ | exact LeO.none _ | refine LeO.ite ?_ ?_ | refine LeO.bind ?_ (fun _ => ?_)) | exact aW.mono _ | exact aV.mono _ _ _ _ | exact aK.mono _ _ _ _ | exact objects_Digest.mono _ _ _ _ | exact LeO.none _ | refine LeO.ite ?_ ?_ | refine LeO.bind ?_ (fun _ => ?_)
set_option maxHeartbeats 8000000 in
set_option maxRecDepth 100000 in
theorem changeforgelaw3_ObjectsDigestMatchesSpec.calls (k : Nat) (dP : Int) (nK : Option Addr) (mY : Nat) (dA : List Int) (mE : Option Addr) (mF : Nat) (dZ : List Int) (r : Bool) (w : World) (aFz : Kd.C (Kd.int .i64) w nK dA.length dA) (aFy : dA.length ≤ mY) (aD6 : Kd.C (Kd.int .u8) w mE dZ.length dZ) (aD5 : dZ.length ≤ mF) (h : changeforgelaw3_ObjectsDigestMatchesSpec.f k dP dA dZ = some r) :
  Calls Try.prog 8 #[.agg #[.int .i64 dP, .slice nK dA.length mY, .slice mE dZ.length mF]] w fun e w' => e = .returned (.bool r) ∧ Below w.heap.size w w' := by
  have aQf := Try.underlying44
  have aQg := Try.underlying28
  have aCl := aZ aFz
  have aIz := aZ aFy
  clear aFz aFy
  have aF0 := aZ aD6
  have aNm := aZ aD5
  clear aD6 aD5
  have HB := aZ (Below.refl w.heap.size w)
  have H : ((aW.f k).bind fun dYn => (if dYn = true then ((objects_Digest.f k dP dA dZ).bind fun aIy => ((aK.f k dP dA dZ).bind fun aQe => (if aQe.1 = 0 then (if aIy.2.1 = 0 then ((aV.f k dP dA dZ).bind fun bVc => (some (aIy.1 == bVc))) else (some false)) else (if (aIy.2.1 == aQe.1 && (aIy.2.2 == aQe.2)) = true then (some (aIy.1 == 0)) else (some false))))) else (some false))) = some r := h
  clear h
  replace H := Option.bind_eq_some_iff.mp H
  obtain ⟨dYn, A20, H⟩ := H
  replace H : (if dYn = true then ((objects_Digest.f k dP dA dZ).bind fun aIy => ((aK.f k dP dA dZ).bind fun aQe => (if aQe.1 = 0 then (if aIy.2.1 = 0 then ((aV.f k dP dA dZ).bind fun bVc => (some (aIy.1 == bVc))) else (some false)) else (if (aIy.2.1 == aQe.1 && (aIy.2.2 == aQe.2)) = true then (some (aIy.1 == 0)) else (some false))))) else (some false)) = some r := H
  have A2 := aZ A20
  clear A20
  by_cases c3 : dYn = true
  rotate_left
  · replace c3 := Bool.eq_false_iff.mpr c3
    subst c3
    have H1 : (some false) = some r := by rw [if_neg (show ¬ (false = true) by decide)] at H; exact H
    clear H
    have H := H1
    clear H1
    obtain rfl := Option.some.inj H
    go_enter Try.func8, Try.ntmps8
    go_wp2_with (first | ((with_reducible refine gate_dst (N := 1) rfl ?_); refine box_event ?hg (N := 1) ?hd (cs := #[.int .i64 dP, .slice nK dA.length mY, .slice mE dZ.length mF]) (t := 44) ?hr ?_; (case hd => rfl); (case hg => rfl); (case hr => first | (go_simp; done) | (go_simp; rfl)); intro aB4 hg w68 hbox hb; have iH := aZ (hbox); have dOu := xgh hg HB; have bB5 := xgh hg HB; replace HB := xhl HB hb; clear hb hbox hg) | ((with_reducible refine gate_callee (f := 28) rfl ?_); refine goesL_ (some 6) rfl rfl Try.func28 (by kernel_rfl) rfl #[] rfl xmp ?_; (with_reducible refine (aW.calls k  false _ A2.out).mono ?_); rintro e w69 ⟨rfl, hb⟩; refine ⟨_, rfl, ?_⟩; replace iH := xbb iH hb; replace HB := xhl HB hb; skip; (try clear hb); (try clear iV); (try clear hk); (try clear hi)))
    go_ret
    exact ⟨xre, xq HB⟩

  subst c3
  have H1 : ((objects_Digest.f k dP dA dZ).bind fun aIy => ((aK.f k dP dA dZ).bind fun aQe => (if aQe.1 = 0 then (if aIy.2.1 = 0 then ((aV.f k dP dA dZ).bind fun bVc => (some (aIy.1 == bVc))) else (some false)) else (if (aIy.2.1 == aQe.1 && (aIy.2.2 == aQe.2)) = true then (some (aIy.1 == 0)) else (some false))))) = some r := by rw [if_pos rfl] at H; exact H
  clear H
  have H := H1
  clear H1
  replace H := Option.bind_eq_some_iff.mp H
  obtain ⟨⟨cU5, aNi, bBx⟩, A40, H⟩ := H
  replace H : ((aK.f k dP dA dZ).bind fun aQe => (if aQe.1 = 0 then (if aNi = 0 then ((aV.f k dP dA dZ).bind fun bVc => (some (cU5 == bVc))) else (some false)) else (if (aNi == aQe.1 && (bBx == aQe.2)) = true then (some (cU5 == 0)) else (some false)))) = some r := H
  have A4 := aZ A40
  clear A40
  replace H := Option.bind_eq_some_iff.mp H
  obtain ⟨⟨bD0, bVe⟩, A50, H⟩ := H
  replace H : (if bD0 = 0 then (if aNi = 0 then ((aV.f k dP dA dZ).bind fun bVc => (some (cU5 == bVc))) else (some false)) else (if (aNi == bD0 && (bBx == bVe)) = true then (some (cU5 == 0)) else (some false))) = some r := H
  have A5 := aZ A50
  clear A50
  by_cases c6 : bD0 = 0
  rotate_left
  · rw [if_neg c6] at H
    have aWf : (bD0 == 0) = false := beq_eq_false_iff_ne.mpr c6
    have cU7 : (bD0 != 0) = true := bne_iff_ne.mpr c6
    by_cases c39 : (aNi == bD0 && (bBx == bVe)) = true
    · rw [if_pos c39] at H
      have dC8 : (aNi == bD0 && (bBx == bVe)) = true := c39
      (try (have eBv : decide (aNi = bD0 && (bBx == bVe)) = true := by simpa using c39))
      (try (have eBw : (aNi == bD0 && (bBx == bVe)) = true := by simpa using c39))
      clear c39
      obtain rfl := Option.some.inj H
      go_enter Try.func8, Try.ntmps8
      go_wp2_with (first | ((with_reducible refine gate_dst (N := 1) rfl ?_); refine box_event ?hg (N := 1) ?hd (cs := #[.int .i64 dP, .slice nK dA.length mY, .slice mE dZ.length mF]) (t := 44) ?hr ?_; (case hd => rfl); (case hg => rfl); (case hr => first | (go_simp; done) | (go_simp; rfl)); intro aB4 hg w40 hbox hb; have iH := aZ (hbox); have dOu := xgh hg HB; have bB5 := xgh hg HB; replace HB := xhl HB hb; clear hb hbox hg) | ((with_reducible refine gate_callee (f := 28) rfl ?_); refine goesL_ (some 6) rfl rfl Try.func28 (by kernel_rfl) rfl #[] rfl xmp ?_; (with_reducible refine (aW.calls k  true _ A2.out).mono ?_); rintro e w41 ⟨rfl, hb⟩; refine ⟨_, rfl, ?_⟩; replace iH := xbb iH hb; replace HB := xhl HB hb; skip; (try clear hb); (try clear iV); (try clear hk); (try clear hi); have cU8 : w41.cell? ⟨aB4, 0, none⟩ = some (.int .i64 dP) := (blk_cell iH.out 0).trans rfl; have cU9 : w41.cell? ⟨aB4, 1, none⟩ = some (.slice nK dA.length mY) := (blk_cell iH.out 1).trans rfl; have dOv : w41.cell? ⟨aB4, 2, none⟩ = some (.slice mE dZ.length mF) := (blk_cell iH.out 2).trans rfl; have cVa := blk_frozen iH.out 0; have cVb := blk_frozen iH.out 1; have dOw := blk_frozen iH.out 2) | ((with_reducible refine gate_callee (f := 29) rfl ?_); refine goesL_ (some 10) rfl rfl Try.func29 (by kernel_rfl) rfl #[.agg #[.int .i64 dP, .slice nK dA.length mY, .slice mE dZ.length mF]] rfl xmp ?_; (with_reducible refine (objects_Digest.calls k dP _ _ dA _ _ dZ cU5 aNi bBx _ ?side1 ?side2 ?side3 ?side4 A4.out).mono ?_); (case side1 => exact xcb aCl HB); (case side2 => exact aIz.out); (case side3 => exact xcb aF0 HB); (case side4 => exact aNm.out); rintro e w43 ⟨rfl, hb⟩; refine ⟨_, rfl, ?_⟩; replace iH := xbb iH hb; replace HB := xhl HB hb; skip; (try clear hb); (try clear iV); (try clear hk); (try clear hi)) | ((with_reducible refine gate_dst (N := 4) rfl ?_); refine box_event ?hg (N := 4) ?hd (cs := #[.int .i64 0, .int .i64 0]) (t := 28) ?hr ?_; (case hd => rfl); (case hg => rfl); (case hr => first | (go_simp; done) | (go_simp; rfl)); intro aI0 hg w44 hbox hb; have pI := aZ (hbox); have eBx := xgh hg HB; have bD9 := xgh hg HB; replace HB := xhl HB hb; have aSy := xnl hg iH; have aSz := xng hg iH; replace iH := xbb iH hb; clear hb hbox hg; have bLh := aSz.out; have bLi := aSy.out; have aVl : w44.cell? ⟨aI0, 0, none⟩ = some (.int .i64 0) := (blk_cell pI.out 0).trans rfl; have bVg : w44.cell? ⟨aI0, 1, none⟩ = some (.int .i64 0) := (blk_cell pI.out 1).trans rfl; have aVm := blk_frozen pI.out 0; have bVh := blk_frozen pI.out 1; have bIl : w44.cell? ⟨aB4, 0, none⟩ = some (.int .i64 dP) := (blk_cell iH.out 0).trans rfl; have cVc : w44.cell? ⟨aB4, 1, none⟩ = some (.slice nK dA.length mY) := (blk_cell iH.out 1).trans rfl; have gVe : w44.cell? ⟨aB4, 2, none⟩ = some (.slice mE dZ.length mF) := (blk_cell iH.out 2).trans rfl; have bIm := blk_frozen iH.out 0; have cVd := blk_frozen iH.out 1; have gVf := blk_frozen iH.out 2) | ((with_reducible refine gate_callee (f := 30) rfl ?_); refine goesL_ (some 14) rfl rfl Try.func30 (by kernel_rfl) rfl #[.agg #[.int .i64 dP, .slice nK dA.length mY, .slice mE dZ.length mF]] rfl xmp ?_; (with_reducible refine (aK.calls k dP _ _ dA _ _ dZ bD0 bVe _ ?side1 ?side2 ?side3 ?side4 A5.out).mono ?_); (case side1 => exact Kd.C_below aCl.out (by repeat (first | (with_reducible first | exact HB.out | apply lA | apply lN | apply lD | refine lS ?_ bB5.out | refine lS ?_ bD9.out) | exact HB.out))); (case side2 => exact aIz.out); (case side3 => exact Kd.C_below aF0.out (by repeat (first | (with_reducible first | exact HB.out | apply lA | apply lN | apply lD | refine lS ?_ bB5.out | refine lS ?_ bD9.out) | exact HB.out))); (case side4 => exact aNm.out); rintro e w48 ⟨rfl, hb⟩; refine ⟨_, rfl, ?_⟩; replace iH := xbb iH hb; replace pI := aZ (blk_below (g := aI0) (o := .cells #[.int .i64 aNi, .int .i64 bBx] 28 (0, 0)) (by (with_reducible repeat (first | refine bN ?_ _ | refine bD ?_ | refine bA ?_ _)); refine blk_put (cs := #[.int .i64 aNi, .int .i64 0]) ?_ 1 _ rfl; (with_reducible repeat (first | refine bN ?_ _ | refine bD ?_ | refine bA ?_ _)); refine blk_put (cs := #[.int .i64 0, .int .i64 0]) ?_ 0 _ rfl; (with_reducible repeat (first | refine bN ?_ _ | refine bD ?_ | refine bA ?_ _)); exact pI.out) hb); replace HB := xhl HB hb; (try clear hb); (try clear iV); (try clear hk); (try clear hi)) | ((with_reducible refine gate_dst (N := 5) rfl ?_); refine box_event ?hg (N := 5) ?hd (cs := #[.int .i64 0, .int .i64 0]) (t := 28) ?hr ?_; (case hd => rfl); (case hg => rfl); (case hr => first | (go_simp; done) | (go_simp; rfl)); intro bLj hg w49 hbox hb; have aNn := aZ (hbox); have eBy := xgh hg HB; have dC9 := xgh hg HB; replace HB := xhl HB hb; have aS0 := xnl hg iH; have aS1 := xng hg iH; replace iH := xbb iH hb; have aS2 := xnl hg pI; have aS3 := xng hg pI; replace pI := xbb pI hb; clear hb hbox hg; have bSm := aS1.out; have bSn := aS0.out; have bVi := aS3.out; have bVj := aS2.out; have dOx : w49.cell? ⟨bLj, 0, none⟩ = some (.int .i64 0) := (blk_cell aNn.out 0).trans rfl; have dOy : w49.cell? ⟨bLj, 1, none⟩ = some (.int .i64 0) := (blk_cell aNn.out 1).trans rfl; have dOz := blk_frozen aNn.out 0; have dO0 := blk_frozen aNn.out 1; have cVe : w49.cell? ⟨aI0, 0, none⟩ = some (.int .i64 aNi) := (blk_cell pI.out 0).trans rfl; have ePp : w49.cell? ⟨aI0, 1, none⟩ = some (.int .i64 bBx) := (blk_cell pI.out 1).trans rfl; have cVf := blk_frozen pI.out 0; have ePq := blk_frozen pI.out 1))
      go_ret
      exact ⟨xre, xq HB⟩
    rw [if_neg c39] at H
    have dC8 : (aNi == bD0 && (bBx == bVe)) = false := by simpa using c39
    (try (have eBv : decide (aNi = bD0 && (bBx == bVe)) = false := by simpa using c39))
    (try (have eBw : (aNi == bD0 && (bBx == bVe)) = false := by simpa using c39))
    (try (have fVt : ¬ (aNi = bD0 && (bBx == bVe)) := by simpa using c39))
    clear c39
    obtain rfl := Option.some.inj H
    go_enter Try.func8, Try.ntmps8
    go_wp2_with (first | ((with_reducible refine gate_dst (N := 1) rfl ?_); refine box_event ?hg (N := 1) ?hd (cs := #[.int .i64 dP, .slice nK dA.length mY, .slice mE dZ.length mF]) (t := 44) ?hr ?_; (case hd => rfl); (case hg => rfl); (case hr => first | (go_simp; done) | (go_simp; rfl)); intro aB4 hg w54 hbox hb; have iH := aZ (hbox); have dOu := xgh hg HB; have bB5 := xgh hg HB; replace HB := xhl HB hb; clear hb hbox hg) | ((with_reducible refine gate_callee (f := 28) rfl ?_); refine goesL_ (some 6) rfl rfl Try.func28 (by kernel_rfl) rfl #[] rfl xmp ?_; (with_reducible refine (aW.calls k  true _ A2.out).mono ?_); rintro e w55 ⟨rfl, hb⟩; refine ⟨_, rfl, ?_⟩; replace iH := xbb iH hb; replace HB := xhl HB hb; skip; (try clear hb); (try clear iV); (try clear hk); (try clear hi); have bOt : w55.cell? ⟨aB4, 0, none⟩ = some (.int .i64 dP) := (blk_cell iH.out 0).trans rfl; have bOu : w55.cell? ⟨aB4, 1, none⟩ = some (.slice nK dA.length mY) := (blk_cell iH.out 1).trans rfl; have cVg : w55.cell? ⟨aB4, 2, none⟩ = some (.slice mE dZ.length mF) := (blk_cell iH.out 2).trans rfl; have bOv := blk_frozen iH.out 0; have bOw := blk_frozen iH.out 1; have cVh := blk_frozen iH.out 2) | ((with_reducible refine gate_callee (f := 29) rfl ?_); refine goesL_ (some 10) rfl rfl Try.func29 (by kernel_rfl) rfl #[.agg #[.int .i64 dP, .slice nK dA.length mY, .slice mE dZ.length mF]] rfl xmp ?_; (with_reducible refine (objects_Digest.calls k dP _ _ dA _ _ dZ cU5 aNi bBx _ ?side1 ?side2 ?side3 ?side4 A4.out).mono ?_); (case side1 => exact xcb aCl HB); (case side2 => exact aIz.out); (case side3 => exact xcb aF0 HB); (case side4 => exact aNm.out); rintro e w57 ⟨rfl, hb⟩; refine ⟨_, rfl, ?_⟩; replace iH := xbb iH hb; replace HB := xhl HB hb; skip; (try clear hb); (try clear iV); (try clear hk); (try clear hi)) | ((with_reducible refine gate_dst (N := 4) rfl ?_); refine box_event ?hg (N := 4) ?hd (cs := #[.int .i64 0, .int .i64 0]) (t := 28) ?hr ?_; (case hd => rfl); (case hg => rfl); (case hr => first | (go_simp; done) | (go_simp; rfl)); intro aI0 hg w58 hbox hb; have pI := aZ (hbox); have eBx := xgh hg HB; have bD9 := xgh hg HB; replace HB := xhl HB hb; have aSy := xnl hg iH; have aSz := xng hg iH; replace iH := xbb iH hb; clear hb hbox hg; have cGy := aSz.out; have cGz := aSy.out; have cJi : w58.cell? ⟨aI0, 0, none⟩ = some (.int .i64 0) := (blk_cell pI.out 0).trans rfl; have gVh : w58.cell? ⟨aI0, 1, none⟩ = some (.int .i64 0) := (blk_cell pI.out 1).trans rfl; have cJj := blk_frozen pI.out 0; have gVi := blk_frozen pI.out 1; have bOx : w58.cell? ⟨aB4, 0, none⟩ = some (.int .i64 dP) := (blk_cell iH.out 0).trans rfl; have cJk : w58.cell? ⟨aB4, 1, none⟩ = some (.slice nK dA.length mY) := (blk_cell iH.out 1).trans rfl; have ePr : w58.cell? ⟨aB4, 2, none⟩ = some (.slice mE dZ.length mF) := (blk_cell iH.out 2).trans rfl; have bOy := blk_frozen iH.out 0; have cJl := blk_frozen iH.out 1; have ePs := blk_frozen iH.out 2) | ((with_reducible refine gate_callee (f := 30) rfl ?_); refine goesL_ (some 14) rfl rfl Try.func30 (by kernel_rfl) rfl #[.agg #[.int .i64 dP, .slice nK dA.length mY, .slice mE dZ.length mF]] rfl xmp ?_; (with_reducible refine (aK.calls k dP _ _ dA _ _ dZ bD0 bVe _ ?side1 ?side2 ?side3 ?side4 A5.out).mono ?_); (case side1 => exact Kd.C_below aCl.out (by repeat (first | (with_reducible first | exact HB.out | apply lA | apply lN | apply lD | refine lS ?_ bB5.out | refine lS ?_ bD9.out) | exact HB.out))); (case side2 => exact aIz.out); (case side3 => exact Kd.C_below aF0.out (by repeat (first | (with_reducible first | exact HB.out | apply lA | apply lN | apply lD | refine lS ?_ bB5.out | refine lS ?_ bD9.out) | exact HB.out))); (case side4 => exact aNm.out); rintro e w62 ⟨rfl, hb⟩; refine ⟨_, rfl, ?_⟩; replace iH := xbb iH hb; replace pI := aZ (blk_below (g := aI0) (o := .cells #[.int .i64 aNi, .int .i64 bBx] 28 (0, 0)) (by (with_reducible repeat (first | refine bN ?_ _ | refine bD ?_ | refine bA ?_ _)); refine blk_put (cs := #[.int .i64 aNi, .int .i64 0]) ?_ 1 _ rfl; (with_reducible repeat (first | refine bN ?_ _ | refine bD ?_ | refine bA ?_ _)); refine blk_put (cs := #[.int .i64 0, .int .i64 0]) ?_ 0 _ rfl; (with_reducible repeat (first | refine bN ?_ _ | refine bD ?_ | refine bA ?_ _)); exact pI.out) hb); replace HB := xhl HB hb; (try clear hb); (try clear iV); (try clear hk); (try clear hi)) | ((with_reducible refine gate_dst (N := 5) rfl ?_); refine box_event ?hg (N := 5) ?hd (cs := #[.int .i64 0, .int .i64 0]) (t := 28) ?hr ?_; (case hd => rfl); (case hg => rfl); (case hr => first | (go_simp; done) | (go_simp; rfl)); intro bLj hg w63 hbox hb; have aNn := aZ (hbox); have eBy := xgh hg HB; have dC9 := xgh hg HB; replace HB := xhl HB hb; have aS0 := xnl hg iH; have aS1 := xng hg iH; replace iH := xbb iH hb; have aS2 := xnl hg pI; have aS3 := xng hg pI; replace pI := xbb pI hb; clear hb hbox hg; have bAu := aS1.out; have bAv := aS0.out; have bLk := aS3.out; have bLl := aS2.out; have bOz : w63.cell? ⟨bLj, 0, none⟩ = some (.int .i64 0) := (blk_cell aNn.out 0).trans rfl; have bO0 : w63.cell? ⟨bLj, 1, none⟩ = some (.int .i64 0) := (blk_cell aNn.out 1).trans rfl; have bO1 := blk_frozen aNn.out 0; have bO2 := blk_frozen aNn.out 1; have bVk : w63.cell? ⟨aI0, 0, none⟩ = some (.int .i64 aNi) := (blk_cell pI.out 0).trans rfl; have dO1 : w63.cell? ⟨aI0, 1, none⟩ = some (.int .i64 bBx) := (blk_cell pI.out 1).trans rfl; have bVl := blk_frozen pI.out 0; have dO2 := blk_frozen pI.out 1))
    go_ret
    exact ⟨xre, xq HB⟩
  rw [if_pos c6] at H
  have aWf : (bD0 == 0) = true := beq_iff_eq.mpr c6
  have cU7 : (bD0 != 0) = false := bne_eq_false_iff_eq.mpr c6
  clear c6
  by_cases c7 : aNi = 0
  rotate_left
  · rw [if_neg c7] at H
    have bTm : (aNi == 0) = false := beq_eq_false_iff_ne.mpr c7
    have dYr : (aNi != 0) = true := bne_iff_ne.mpr c7
    obtain rfl := Option.some.inj H
    go_enter Try.func8, Try.ntmps8
    go_wp2_with (first | ((with_reducible refine gate_dst (N := 1) rfl ?_); refine box_event ?hg (N := 1) ?hd (cs := #[.int .i64 dP, .slice nK dA.length mY, .slice mE dZ.length mF]) (t := 44) ?hr ?_; (case hd => rfl); (case hg => rfl); (case hr => first | (go_simp; done) | (go_simp; rfl)); intro aB4 hg w25 hbox hb; have iH := aZ (hbox); have dOu := xgh hg HB; have bB5 := xgh hg HB; replace HB := xhl HB hb; clear hb hbox hg) | ((with_reducible refine gate_callee (f := 28) rfl ?_); refine goesL_ (some 6) rfl rfl Try.func28 (by kernel_rfl) rfl #[] rfl xmp ?_; (with_reducible refine (aW.calls k  true _ A2.out).mono ?_); rintro e w26 ⟨rfl, hb⟩; refine ⟨_, rfl, ?_⟩; replace iH := xbb iH hb; replace HB := xhl HB hb; skip; (try clear hb); (try clear iV); (try clear hk); (try clear hi); have aQh : w26.cell? ⟨aB4, 0, none⟩ = some (.int .i64 dP) := (blk_cell iH.out 0).trans rfl; have dO3 : w26.cell? ⟨aB4, 1, none⟩ = some (.slice nK dA.length mY) := (blk_cell iH.out 1).trans rfl; have gVj : w26.cell? ⟨aB4, 2, none⟩ = some (.slice mE dZ.length mF) := (blk_cell iH.out 2).trans rfl; have aQi := blk_frozen iH.out 0; have dO4 := blk_frozen iH.out 1; have gVk := blk_frozen iH.out 2) | ((with_reducible refine gate_callee (f := 29) rfl ?_); refine goesL_ (some 10) rfl rfl Try.func29 (by kernel_rfl) rfl #[.agg #[.int .i64 dP, .slice nK dA.length mY, .slice mE dZ.length mF]] rfl xmp ?_; (with_reducible refine (objects_Digest.calls k dP _ _ dA _ _ dZ cU5 aNi bBx _ ?side1 ?side2 ?side3 ?side4 A4.out).mono ?_); (case side1 => exact xcb aCl HB); (case side2 => exact aIz.out); (case side3 => exact xcb aF0 HB); (case side4 => exact aNm.out); rintro e w28 ⟨rfl, hb⟩; refine ⟨_, rfl, ?_⟩; replace iH := xbb iH hb; replace HB := xhl HB hb; skip; (try clear hb); (try clear iV); (try clear hk); (try clear hi)) | ((with_reducible refine gate_dst (N := 4) rfl ?_); refine box_event ?hg (N := 4) ?hd (cs := #[.int .i64 0, .int .i64 0]) (t := 28) ?hr ?_; (case hd => rfl); (case hg => rfl); (case hr => first | (go_simp; done) | (go_simp; rfl)); intro aI0 hg w29 hbox hb; have pI := aZ (hbox); have eBx := xgh hg HB; have bD9 := xgh hg HB; replace HB := xhl HB hb; have aSy := xnl hg iH; have aSz := xng hg iH; replace iH := xbb iH hb; clear hb hbox hg; have bSo := aSz.out; have bSp := aSy.out; have bIn : w29.cell? ⟨aI0, 0, none⟩ = some (.int .i64 0) := (blk_cell pI.out 0).trans rfl; have bVm : w29.cell? ⟨aI0, 1, none⟩ = some (.int .i64 0) := (blk_cell pI.out 1).trans rfl; have bIo := blk_frozen pI.out 0; have bVn := blk_frozen pI.out 1; have aFo : w29.cell? ⟨aB4, 0, none⟩ = some (.int .i64 dP) := (blk_cell iH.out 0).trans rfl; have aJu : w29.cell? ⟨aB4, 1, none⟩ = some (.slice nK dA.length mY) := (blk_cell iH.out 1).trans rfl; have bO3 : w29.cell? ⟨aB4, 2, none⟩ = some (.slice mE dZ.length mF) := (blk_cell iH.out 2).trans rfl; have aFp := blk_frozen iH.out 0; have aJv := blk_frozen iH.out 1; have bO4 := blk_frozen iH.out 2) | ((with_reducible refine gate_callee (f := 30) rfl ?_); refine goesL_ (some 14) rfl rfl Try.func30 (by kernel_rfl) rfl #[.agg #[.int .i64 dP, .slice nK dA.length mY, .slice mE dZ.length mF]] rfl xmp ?_; (with_reducible refine (aK.calls k dP _ _ dA _ _ dZ bD0 bVe _ ?side1 ?side2 ?side3 ?side4 A5.out).mono ?_); (case side1 => exact Kd.C_below aCl.out (by repeat (first | (with_reducible first | exact HB.out | apply lA | apply lN | apply lD | refine lS ?_ bB5.out | refine lS ?_ bD9.out) | exact HB.out))); (case side2 => exact aIz.out); (case side3 => exact Kd.C_below aF0.out (by repeat (first | (with_reducible first | exact HB.out | apply lA | apply lN | apply lD | refine lS ?_ bB5.out | refine lS ?_ bD9.out) | exact HB.out))); (case side4 => exact aNm.out); rintro e w33 ⟨rfl, hb⟩; refine ⟨_, rfl, ?_⟩; replace iH := xbb iH hb; replace pI := aZ (blk_below (g := aI0) (o := .cells #[.int .i64 aNi, .int .i64 bBx] 28 (0, 0)) (by (with_reducible repeat (first | refine bN ?_ _ | refine bD ?_ | refine bA ?_ _)); refine blk_put (cs := #[.int .i64 aNi, .int .i64 0]) ?_ 1 _ rfl; (with_reducible repeat (first | refine bN ?_ _ | refine bD ?_ | refine bA ?_ _)); refine blk_put (cs := #[.int .i64 0, .int .i64 0]) ?_ 0 _ rfl; (with_reducible repeat (first | refine bN ?_ _ | refine bD ?_ | refine bA ?_ _)); exact pI.out) hb); replace HB := xhl HB hb; (try clear hb); (try clear iV); (try clear hk); (try clear hi)) | ((with_reducible refine gate_dst (N := 5) rfl ?_); refine box_event ?hg (N := 5) ?hd (cs := #[.int .i64 0, .int .i64 0]) (t := 28) ?hr ?_; (case hd => rfl); (case hg => rfl); (case hr => first | (go_simp; done) | (go_simp; rfl)); intro bLj hg w34 hbox hb; have aNn := aZ (hbox); have eBy := xgh hg HB; have dC9 := xgh hg HB; replace HB := xhl HB hb; have aS0 := xnl hg iH; have aS1 := xng hg iH; replace iH := xbb iH hb; have aS2 := xnl hg pI; have aS3 := xng hg pI; replace pI := xbb pI hb; clear hb hbox hg; have cR9 := aS1.out; have cSa := aS0.out; have cG0 := aS3.out; have cG1 := aS2.out; have bO5 : w34.cell? ⟨bLj, 0, none⟩ = some (.int .i64 0) := (blk_cell aNn.out 0).trans rfl; have bVo : w34.cell? ⟨bLj, 1, none⟩ = some (.int .i64 0) := (blk_cell aNn.out 1).trans rfl; have bO6 := blk_frozen aNn.out 0; have bVp := blk_frozen aNn.out 1; have bB6 : w34.cell? ⟨aI0, 0, none⟩ = some (.int .i64 aNi) := (blk_cell pI.out 0).trans rfl; have bB7 : w34.cell? ⟨aI0, 1, none⟩ = some (.int .i64 bBx) := (blk_cell pI.out 1).trans rfl; have bB8 := blk_frozen pI.out 0; have bB9 := blk_frozen pI.out 1))
    go_ret
    exact ⟨xre, xq HB⟩
  rw [if_pos c7] at H
  have bTm : (aNi == 0) = true := beq_iff_eq.mpr c7
  have dYr : (aNi != 0) = false := bne_eq_false_iff_eq.mpr c7
  clear c7
  replace H := Option.bind_eq_some_iff.mp H
  obtain ⟨bVc, A80, H⟩ := H
  replace H : (some (cU5 == bVc)) = some r := H
  have A8 := aZ A80
  clear A80
  obtain rfl := Option.some.inj H
  go_enter Try.func8, Try.ntmps8
  go_wp2_with (first | ((with_reducible refine gate_dst (N := 1) rfl ?_); refine box_event ?hg (N := 1) ?hd (cs := #[.int .i64 dP, .slice nK dA.length mY, .slice mE dZ.length mF]) (t := 44) ?hr ?_; (case hd => rfl); (case hg => rfl); (case hr => first | (go_simp; done) | (go_simp; rfl)); intro aB4 hg w9 hbox hb; have iH := aZ (hbox); have dOu := xgh hg HB; have bB5 := xgh hg HB; replace HB := xhl HB hb; clear hb hbox hg) | ((with_reducible refine gate_callee (f := 28) rfl ?_); refine goesL_ (some 6) rfl rfl Try.func28 (by kernel_rfl) rfl #[] rfl xmp ?_; (with_reducible refine (aW.calls k  true _ A2.out).mono ?_); rintro e w10 ⟨rfl, hb⟩; refine ⟨_, rfl, ?_⟩; replace iH := xbb iH hb; replace HB := xhl HB hb; skip; (try clear hb); (try clear iV); (try clear hk); (try clear hi); have bO7 : w10.cell? ⟨aB4, 0, none⟩ = some (.int .i64 dP) := (blk_cell iH.out 0).trans rfl; have dO6 : w10.cell? ⟨aB4, 1, none⟩ = some (.slice nK dA.length mY) := (blk_cell iH.out 1).trans rfl; have ePu : w10.cell? ⟨aB4, 2, none⟩ = some (.slice mE dZ.length mF) := (blk_cell iH.out 2).trans rfl; have bO8 := blk_frozen iH.out 0; have dO7 := blk_frozen iH.out 1; have ePv := blk_frozen iH.out 2) | ((with_reducible refine gate_callee (f := 29) rfl ?_); refine goesL_ (some 10) rfl rfl Try.func29 (by kernel_rfl) rfl #[.agg #[.int .i64 dP, .slice nK dA.length mY, .slice mE dZ.length mF]] rfl xmp ?_; (with_reducible refine (objects_Digest.calls k dP _ _ dA _ _ dZ cU5 aNi bBx _ ?side1 ?side2 ?side3 ?side4 A4.out).mono ?_); (case side1 => exact xcb aCl HB); (case side2 => exact aIz.out); (case side3 => exact xcb aF0 HB); (case side4 => exact aNm.out); rintro e w12 ⟨rfl, hb⟩; refine ⟨_, rfl, ?_⟩; replace iH := xbb iH hb; replace HB := xhl HB hb; skip; (try clear hb); (try clear iV); (try clear hk); (try clear hi)) | ((with_reducible refine gate_dst (N := 4) rfl ?_); refine box_event ?hg (N := 4) ?hd (cs := #[.int .i64 0, .int .i64 0]) (t := 28) ?hr ?_; (case hd => rfl); (case hg => rfl); (case hr => first | (go_simp; done) | (go_simp; rfl)); intro aI0 hg w13 hbox hb; have pI := aZ (hbox); have eBx := xgh hg HB; have bD9 := xgh hg HB; replace HB := xhl HB hb; have aSy := xnl hg iH; have aSz := xng hg iH; replace iH := xbb iH hb; clear hb hbox hg; have cSb := aSz.out; have cSc := aSy.out; have bO9 : w13.cell? ⟨aI0, 0, none⟩ = some (.int .i64 0) := (blk_cell pI.out 0).trans rfl; have cJm : w13.cell? ⟨aI0, 1, none⟩ = some (.int .i64 0) := (blk_cell pI.out 1).trans rfl; have bPa := blk_frozen pI.out 0; have cJn := blk_frozen pI.out 1; have aQj : w13.cell? ⟨aB4, 0, none⟩ = some (.int .i64 dP) := (blk_cell iH.out 0).trans rfl; have bIp : w13.cell? ⟨aB4, 1, none⟩ = some (.slice nK dA.length mY) := (blk_cell iH.out 1).trans rfl; have cJo : w13.cell? ⟨aB4, 2, none⟩ = some (.slice mE dZ.length mF) := (blk_cell iH.out 2).trans rfl; have aQk := blk_frozen iH.out 0; have bIq := blk_frozen iH.out 1; have cJp := blk_frozen iH.out 2) | ((with_reducible refine gate_callee (f := 30) rfl ?_); refine goesL_ (some 14) rfl rfl Try.func30 (by kernel_rfl) rfl #[.agg #[.int .i64 dP, .slice nK dA.length mY, .slice mE dZ.length mF]] rfl xmp ?_; (with_reducible refine (aK.calls k dP _ _ dA _ _ dZ bD0 bVe _ ?side1 ?side2 ?side3 ?side4 A5.out).mono ?_); (case side1 => exact Kd.C_below aCl.out (by repeat (first | (with_reducible first | exact HB.out | apply lA | apply lN | apply lD | refine lS ?_ bB5.out | refine lS ?_ bD9.out) | exact HB.out))); (case side2 => exact aIz.out); (case side3 => exact Kd.C_below aF0.out (by repeat (first | (with_reducible first | exact HB.out | apply lA | apply lN | apply lD | refine lS ?_ bB5.out | refine lS ?_ bD9.out) | exact HB.out))); (case side4 => exact aNm.out); rintro e w17 ⟨rfl, hb⟩; refine ⟨_, rfl, ?_⟩; replace iH := xbb iH hb; replace pI := aZ (blk_below (g := aI0) (o := .cells #[.int .i64 aNi, .int .i64 bBx] 28 (0, 0)) (by (with_reducible repeat (first | refine bN ?_ _ | refine bD ?_ | refine bA ?_ _)); refine blk_put (cs := #[.int .i64 aNi, .int .i64 0]) ?_ 1 _ rfl; (with_reducible repeat (first | refine bN ?_ _ | refine bD ?_ | refine bA ?_ _)); refine blk_put (cs := #[.int .i64 0, .int .i64 0]) ?_ 0 _ rfl; (with_reducible repeat (first | refine bN ?_ _ | refine bD ?_ | refine bA ?_ _)); exact pI.out) hb); replace HB := xhl HB hb; (try clear hb); (try clear iV); (try clear hk); (try clear hi)) | ((with_reducible refine gate_dst (N := 5) rfl ?_); refine box_event ?hg (N := 5) ?hd (cs := #[.int .i64 0, .int .i64 0]) (t := 28) ?hr ?_; (case hd => rfl); (case hg => rfl); (case hr => first | (go_simp; done) | (go_simp; rfl)); intro bLj hg w18 hbox hb; have aNn := aZ (hbox); have eBy := xgh hg HB; have dC9 := xgh hg HB; replace HB := xhl HB hb; have aS0 := xnl hg iH; have aS1 := xng hg iH; replace iH := xbb iH hb; have aS2 := xnl hg pI; have aS3 := xng hg pI; replace pI := xbb pI hb; clear hb hbox hg; have bMh := aS1.out; have bMi := aS0.out; have dO8 := aS3.out; have dO9 := aS2.out; have bPb : w18.cell? ⟨bLj, 0, none⟩ = some (.int .i64 0) := (blk_cell aNn.out 0).trans rfl; have cJq : w18.cell? ⟨bLj, 1, none⟩ = some (.int .i64 0) := (blk_cell aNn.out 1).trans rfl; have bPc := blk_frozen aNn.out 0; have cJr := blk_frozen aNn.out 1; have cJs : w18.cell? ⟨aI0, 0, none⟩ = some (.int .i64 aNi) := (blk_cell pI.out 0).trans rfl; have ePw : w18.cell? ⟨aI0, 1, none⟩ = some (.int .i64 bBx) := (blk_cell pI.out 1).trans rfl; have cJt := blk_frozen pI.out 0; have ePx := blk_frozen pI.out 1; have bPd : w18.cell? ⟨aB4, 0, none⟩ = some (.int .i64 dP) := (blk_cell iH.out 0).trans rfl; have cVi : w18.cell? ⟨aB4, 1, none⟩ = some (.slice nK dA.length mY) := (blk_cell iH.out 1).trans rfl; have ePy : w18.cell? ⟨aB4, 2, none⟩ = some (.slice mE dZ.length mF) := (blk_cell iH.out 2).trans rfl; have bPe := blk_frozen iH.out 0; have cVj := blk_frozen iH.out 1; have ePz := blk_frozen iH.out 2) | (go_at_call 31; (with_reducible refine (aV.calls k dP _ _ dA _ _ dZ bVc _ ?side1 ?side2 ?side3 ?side4 A8.out).mono ?_); (case side1 => exact Kd.C_below aCl.out (by repeat (first | (with_reducible first | exact HB.out | apply lA | apply lN | apply lD | refine lS ?_ bB5.out | refine lS ?_ bD9.out | refine lS ?_ dC9.out) | exact HB.out))); (case side2 => exact aIz.out); (case side3 => exact Kd.C_below aF0.out (by repeat (first | (with_reducible first | exact HB.out | apply lA | apply lN | apply lD | refine lS ?_ bB5.out | refine lS ?_ bD9.out | refine lS ?_ dC9.out) | exact HB.out))); (case side4 => exact aNm.out); rintro e w24 ⟨rfl, hb⟩; replace iH := xbb iH hb; replace pI := xbb pI hb; replace aNn := aZ (blk_below (g := bLj) (o := .cells #[.int .i64 bD0, .int .i64 bVe] 28 (0, 0)) (by (with_reducible repeat (first | refine bN ?_ _ | refine bD ?_ | refine bA ?_ _)); refine blk_put (cs := #[.int .i64 bD0, .int .i64 0]) ?_ 1 _ rfl; (with_reducible repeat (first | refine bN ?_ _ | refine bD ?_ | refine bA ?_ _)); refine blk_put (cs := #[.int .i64 0, .int .i64 0]) ?_ 0 _ rfl; (with_reducible repeat (first | refine bN ?_ _ | refine bD ?_ | refine bA ?_ _)); exact aNn.out) hb); replace HB := xhl HB hb; (try clear hb); (try clear iV); (try clear hk); (try clear hi)))
  go_ret
  exact ⟨xre, xq HB⟩
/-- THE PURE STATEMENT of changeforgelaw3_ObjectsDigestMatchesSpec. -/
def changeforgelaw3_ObjectsDigestMatchesSpec.Pure : Prop := ∀ (x0 : S44), S44.ok x0 → ∃ k, changeforgelaw3_ObjectsDigestMatchesSpec.f k x0.f0 x0.f1 x0.f2 = some true
end

end Go.Proofs.Ytnmkmamobhkcbaa.P

/- The pure statement of ObjectsDigestMatchesSpec. -/
namespace Go.Proofs.Ytnmkmamobhkcbaa.Pure
open Go.RowKit Go.Proofs.YtnmkmamobhkcbaaW.PrintWords Go.Proofs.YtnmkmamobhkcbaaW.PrintEv Go.Proofs.Ytnmkmamobhkcbaa.P Go.Proofs.Ytnmkmamobhkcbaa.Dig Go.Proofs.Ytnmkmamobhkcbaa.Obj
set_option linter.unusedVariables false
theorem ObjectsDigestMatchesSpec : changeforgelaw3_ObjectsDigestMatchesSpec.Pure := by
  intro o ho
  refine ev_ex ?_
  have hb : Bytes o.f2 := by
    intro b hb
    have := ho.2.2.2 b hb
    simp [Lit.wf, IntKind.min, IntKind.max, IntKind.bits, IntKind.signed] at this
    omega
  unfold changeforgelaw3_ObjectsDigestMatchesSpec.f
  refine ev_bind oexample_ev (ev_pos rfl (ev_bind (odigest_ev hb) (ev_bind ofault_ev ?_)))
  unfold odR
  by_cases h : (oflt o.f0 o.f1 o.f2).1 ≠ 0
  · rw [if_pos h]
    refine ev_neg h (ev_pos (by simp) ?_)
    exact ev_cast (ev_now _) (by simp)
  · obtain ⟨e, g⟩ := oflt_zero (Decidable.not_not.1 h)
    rw [if_neg h, e]
    refine ev_pos rfl (ev_pos rfl (ev_bind (rodigest_ev g hb) ?_))
    exact ev_cast (ev_now _) (by simp)
end Go.Proofs.Ytnmkmamobhkcbaa.Pure

/- The statement ObjectsDigestMatchesSpec holds: for every input the law returns true and its arguments read as before. The row, out of the pure statement (PureObjectsDigestMatchesSpec) and the printed contract. -/
namespace Go.Proofs.Ytnmkmamobhkcbaa.objectsDigestMatchesSpec
open Go.ChangeShapes Go.WideShapes Go.ChangeAt Go.RowKit
open Go.ChangeMaps (open_string shut_string)
open Go.Proofs.YtnmkmamobhkcbaaW.PrintWords Go.Proofs.YtnmkmamobhkcbaaW.PrintOpen Go.Proofs.Ytnmkmamobhkcbaa.P
set_option linter.unusedVariables false
theorem own : ownKnob Try.prog.godebug = none := by kernel_rfl
theorem laidOut : laidOutB Try.prog = true := by kernel_rfl
set_option maxRecDepth 100000 in
theorem lifted (os : Os) (started : os.Started) (H : Type) (enc : TypeId × Value → H) :
    ReturnsInHanded {} Try.checked os 8 .any (Rows.objectsDigestMatchesSpecSpec.pre6 enc Try.prog Try.f8 Rows.objectsDigestMatchesSpecRow.domain false) (Rows.objectsDigestMatchesSpecSpec.post enc Try.prog Try.f8 false true false false) := by
  refine returnsInHanded_of_change_sized (C := Try.checked) own started (by kernel_rfl) Try.func8
    (ChangeSpec.witness6 (enc := enc) (C := Try.checked) false ⟨#[], #[.agg #[.int .i64 0, .slice none 0 0, .slice none 0 0]], []⟩ 8 (by kernel_rfl) (by kernel_rfl) (by kernel_rfl) (by kernel_rfl)) ?_
  intro W base args ds gs before aDj hW hcnd aQc _
  have hsz : (DataW.weightsEach Try.prog (Try.f8.params.toList ++ Rows.objectsDigestMatchesSpecSpec.plain.varTypes Try.prog) (ds ++ gs)).all (· ≤ reachBytes) = true := aQc
  have hval : ∀ (j : Nat) t v, Try.f8.params[j]? = some t → args[j]? = some v → Value.okWide Try.prog W .any base t v := aDj
  have hW' := hW
  obtain ⟨p, q, hA0, hV, rfl, hfz, hnd⟩ := hW
  have hA : DataW.TrodAll enc Try.prog W 0 (fun _ => true) true Try.f8.params.toList args.toList ds p := hA0
  rw [Try.params8] at hA hval hsz
  obtain ⟨v0, vs0, d0, ds0, p0, q0, hargs, rfl, rfl, h0, r0⟩ := trodAll_cons hA
  obtain ⟨rfl, rfl, rfl⟩ := trodAll_nil r0
  obtain rfl : args = #[v0] := by cases args; simp_all
  obtain ⟨rfl, rfl⟩ := trodVars_none hV
  obtain ⟨cs0, rfl, _⟩ := okWide_struct Try.underlying44 (hval 0 44 v0 rfl rfl)
  have k0 := h0
  have lt0 : ∀ x ∈ p0, x.block < W.heap.size := by obtain ⟨m, hm⟩ := k0; exact DataW.trod_lt m _ _ _ hm
  obtain ⟨x0, hk0, y0⟩ := open_arg_struct bD8 h0 (fits_arg hsz (j := 0) rfl rfl)
  obtain ⟨hGu, hGv, hGw, hGx, z0, aFy, aFz, aD5, aD6⟩ := aQd hk0
  have z0_ := Array.toList_inj.1 (z0.trans (show _ = Array.toList #[.int .i64 x0.f0, .slice hGu x0.f1.length hGv, .slice hGw x0.f2.length hGx] from rfl))
  subst z0_
  clear hA0 aDj aQc hsz
  obtain ⟨k, hp⟩ := Pure.ObjectsDigestMatchesSpec x0 y0
  refine (P.changeforgelaw3_ObjectsDigestMatchesSpec.calls k x0.f0 _ _ x0.f1 _ _ x0.f2 true W aFz aFy aD6 aD5 hp).mono fun e W' ⟨he, bel⟩ => ?_
  subst he
  exact ⟨_, rfl, _, _, _, [], _, [], hW', trodAll_mk1 (shut_bool Try.underlying4 _), (trodAll_cons_mk (Below.trod laidOut (by kernel_rfl) (of_decide_eq_true (by kernel_rfl)) k0 bel lt0) trodAll_mk0), rfl, bel.frame _, fun h => by cases h⟩
theorem over : Rows.objectsDigestMatchesSpecRow.holds Try.pinned (OpenSpec.ofChange Rows.objectsDigestMatchesSpecSpec) :=
  OpenClaim.holds_of_wide 8 Try.f8 rfl rfl rfl rfl rfl rfl rfl ⟨rfl, rfl, rfl, rfl, rfl⟩ rfl rfl rfl rfl rfl (by kernel_rfl) Try.func8 (by kernel_rfl)
    (of_decide_eq_true (by kernel_rfl)) (by unfold Func.isWrapper; first | (rw [if_pos (by decide +kernel)]; kernel_rfl) | (rw [if_neg (by decide +kernel)]; exact ⟨rfl, rfl⟩))
    (fun os started H enc _ => lifted os started H enc)
theorem proved : Rows.ObjectsDigestMatchesSpecSaid := over
#print axioms proved
end Go.Proofs.Ytnmkmamobhkcbaa.objectsDigestMatchesSpec
namespace Go.Proofs.Ytnmkmamobhkcbaa
/-- The row, under a short name, for the claim. -/
theorem objectsDigestMatchesSpec_holds : Rows.ObjectsDigestMatchesSpecSaid := objectsDigestMatchesSpec.proved
end Go.Proofs.Ytnmkmamobhkcbaa
