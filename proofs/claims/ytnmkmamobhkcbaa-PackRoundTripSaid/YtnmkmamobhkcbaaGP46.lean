/- Texts of the proofs of PackRoundTrip: what the printed functions come to, plain laws, rows (no condition beyond the statements' own). -/
import Derived.Test.YtnmkmamobhkcbaaGP0
import Derived.Test.YtnmkmamobhkcbaaGP12
import Derived.Test.YtnmkmamobhkcbaaGP31
import Derived.Test.YtnmkmamobhkcbaaGP35
import Derived.Test.YtnmkmamobhkcbaaGP45
import Derived.Test.YtnmkmamobhkcbaaGPack3
import Derived.Test.YtnmkmamobhkcbaaGP44
import Derived.Test.YtnmkmamobhkcbaaRows
import Derived.Test.YtnmkmamobhkcbaaGP24
import Derived.WalkKit
import Derived.ProofKit
import Derived.OpenShut
import Derived.ShutString
import Derived.ChangeOld
import Derived.Below
import Derived.SizedLaws
import Derived.Carry
namespace Go.Proofs.Ytnmkmamobhkcbaa.P
open Go.RowKit Go.Proofs.YtnmkmamobhkcbaaW.PrintWords Go.Proofs.YtnmkmamobhkcbaaW.PrintLast Go.Proofs.YtnmkmamobhkcbaaW.PrintMore
attribute [local go_sem] max2_int min2_int max_two min_two max_three min_three max_four min_four   -- for this text's walks alone
set_option linter.unusedVariables false
set_option linter.unusedSimpArgs false
mutual
def changeforgelaw3_PackRoundTrip.j0 : Nat → List Int → Bool → List (fB) → Option (Bool)
  | 0, _, _, _ => none
  | k + 1, x3, x36, bDn => if x36 = true then (some false) else (changeforgelaw3_PackRoundTrip.l0 k x3 0 bDn)
def changeforgelaw3_PackRoundTrip.l0 : Nat → List Int → Int → List (fB) → Option (Bool)
  | 0, _, _, _ => none
  | k + 1, x3, x7, bDn => if x7 < (bDn.length : Int) then (if 0 ≤ x7 then ((pack_Lookup.f k x3 ((aA bDn x7).f0)).bind fun dXu => (if dXu.2.2.2.1 = 0 then ((aU.f k dXu.1 dXu.2.1 dXu.2.2.1 ((aA bDn x7).f1.f0) ((aA bDn x7).f1.f1) ((aA bDn x7).f1.f2)).bind fun eA3 => (if eA3 = true then (changeforgelaw3_PackRoundTrip.l0 k x3 (wrap64 (x7 + 1)) bDn) else (some false))) else (some false))) else (none)) else (some true)
end
def changeforgelaw3_PackRoundTrip.f (k : Nat) (aD : List (fB)) : Option (Bool) := (aY.f k).bind fun eA4 => (if eA4 = true then ((pack_Build.f k aD).bind fun aJo => (if aJo.2.1 = 0 then ((pack_Read.f k aJo.1).bind fun bDo => (if bDo.2.1 = 0 then ((aI.f k aD bDo.1).bind fun bU8 => (changeforgelaw3_PackRoundTrip.j0 k aJo.1 (!bU8) aD)) else (changeforgelaw3_PackRoundTrip.j0 k aJo.1 true aD))) else (some ((aJo.1.length : Int) == 0)))) else (some false))
theorem changeforgelaw3_PackRoundTrip.mono_l : ∀ k, (∀ y0 y1 y2, LeO (changeforgelaw3_PackRoundTrip.j0 k y0 y1 y2) (changeforgelaw3_PackRoundTrip.j0 (k + 1) y0 y1 y2)) ∧ (∀ y0 y1 y2, LeO (changeforgelaw3_PackRoundTrip.l0 k y0 y1 y2) (changeforgelaw3_PackRoundTrip.l0 (k + 1) y0 y1 y2))
  | 0 => ⟨fun _ _ _ r h => by simp [changeforgelaw3_PackRoundTrip.j0] at h, fun _ _ _ r h => by simp [changeforgelaw3_PackRoundTrip.l0] at h⟩
  | k + 1 => by
    obtain ⟨mU, ih1⟩ := changeforgelaw3_PackRoundTrip.mono_l k
    refine ⟨?_, ?_⟩
    all_goals intros; first | unfold changeforgelaw3_PackRoundTrip.j0 | unfold changeforgelaw3_PackRoundTrip.l0
    all_goals repeat' first | (with_reducible first | exact mU _ _ _ | exact ih1 _ _ _ | exact aY.mono _ | exact aU.mono _ _ _ _ _ _ _ | exact aI.mono _ _ _ | exact pack_Build.mono _ _ | exact pack_Lookup.mono _ _ _ | exact pack_Read.mono _ _ | exact LeO.refl _ | exact LeO.none _ | refine LeO.ite ?_ ?_ | refine LeO.bind ?_ (fun _ => ?_)) | exact mU _ _ _ | exact ih1 _ _ _ | exact aY.mono _ | exact aU.mono _ _ _ _ _ _ _ | exact aI.mono _ _ _ | exact pack_Build.mono _ _ | exact pack_Lookup.mono _ _ _ | exact pack_Read.mono _ _ | exact LeO.none _ | refine LeO.ite ?_ ?_ | refine LeO.bind ?_ (fun _ => ?_)
theorem changeforgelaw3_PackRoundTrip.mono : ∀ a0 k, LeO (changeforgelaw3_PackRoundTrip.f k a0) (changeforgelaw3_PackRoundTrip.f (k + 1) a0) := by
  intro a0 k
  obtain ⟨mU, ih1⟩ := changeforgelaw3_PackRoundTrip.mono_l k
  unfold changeforgelaw3_PackRoundTrip.f
  repeat' first | (with_reducible first | exact mU _ _ _ | exact ih1 _ _ _ | exact aY.mono _ | exact aU.mono _ _ _ _ _ _ _ | exact aI.mono _ _ _ | exact pack_Build.mono _ _ | exact pack_Lookup.mono _ _ _ | exact pack_Read.mono _ _ | exact LeO.refl _ | exact LeO.none _ | refine LeO.ite ?_ ?_ | refine LeO.bind ?_ (fun _ => ?_)) | exact mU _ _ _ | exact ih1 _ _ _ | exact aY.mono _ | exact aU.mono _ _ _ _ _ _ _ | exact aI.mono _ _ _ | exact pack_Build.mono _ _ | exact pack_Lookup.mono _ _ _ | exact pack_Read.mono _ _ | exact LeO.none _ | refine LeO.ite ?_ ?_ | refine LeO.bind ?_ (fun _ => ?_)
def changeforgelaw3_PackRoundTrip.T13 : Bool × List (List Nat × List Nat) := (true, [([], []), ([0], [0]), ([1], [1]), ([2], [2]), ([3], [3]), ([3], [3]), ([5, 3], [3, 5]), ([3], [3]), ([6, 7, 3], [3, 6, 7]), ([8, 3], [3, 8]), ([9, 3], [3, 9]), ([4, 10, 3, 3], [3, 4, 10]), ([11, 3], [3, 11]), ([3, 12], [3, 12])])
def changeforgelaw3_PackRoundTrip.B13 : List Nat := [0, 1, 3, 7, 15, 15, 47, 15, 239, 495, 1007, 2047, 4095, 8191]
theorem changeforgelaw3_PackRoundTrip.tab13 : rtab .any (opsOf Try.f6 13) = changeforgelaw3_PackRoundTrip.T13 := by kernel_rfl
theorem changeforgelaw3_PackRoundTrip.bits13 : waitsOk changeforgelaw3_PackRoundTrip.T13.2 changeforgelaw3_PackRoundTrip.B13 = true := by kernel_rfl
abbrev changeforgelaw3_PackRoundTrip.Z1 : Array Bool := #[U,U,U,U,U,U,U,U,U,U,U,U,U,U]
abbrev changeforgelaw3_PackRoundTrip.Z2 : Array Bool := #[J,U,U,U,U,U,U,U,U,U,U,U,U,U]
abbrev changeforgelaw3_PackRoundTrip.Z3 : Array Bool := #[J,J,U,U,U,U,U,U,U,U,U,U,U,U]
abbrev changeforgelaw3_PackRoundTrip.Z4 : Array Bool := #[J,J,J,U,U,U,U,U,U,U,U,U,U,U]
abbrev changeforgelaw3_PackRoundTrip.Z5 : Array Bool := #[J,J,J,J,U,U,U,U,U,U,U,U,U,U]
abbrev changeforgelaw3_PackRoundTrip.Z6 : Array Bool := #[J,J,J,J,U,J,U,U,U,U,U,U,U,U]
abbrev changeforgelaw3_PackRoundTrip.Z7 : Array Bool := #[J,J,J,J,U,J,U,J,U,U,U,U,U,U]
abbrev changeforgelaw3_PackRoundTrip.Z8 : Array Bool := #[J,J,J,J,J,J,U,J,U,U,U,U,U,U]
abbrev changeforgelaw3_PackRoundTrip.Z9 : Array Bool := #[J,J,J,J,J,J,J,J,U,U,U,U,U,U]
abbrev changeforgelaw3_PackRoundTrip.Z10 : Array Bool := #[J,J,J,J,J,J,J,J,J,U,U,U,U,U]
abbrev changeforgelaw3_PackRoundTrip.Z11 : Array Bool := #[J,J,J,J,J,J,J,J,J,J,U,U,U,U]
abbrev changeforgelaw3_PackRoundTrip.Z12 : Array Bool := #[J,J,J,J,J,J,J,J,J,J,J,U,U,U]
abbrev changeforgelaw3_PackRoundTrip.Z13 : Array Bool := #[J,J,J,J,J,J,J,J,J,J,J,J,U,U]
abbrev changeforgelaw3_PackRoundTrip.Z14 : Array Bool := #[J,J,J,J,J,J,J,J,J,J,J,J,J,U]
abbrev changeforgelaw3_PackRoundTrip.Z15 : Array Bool := #[J,J,J,J,J,J,J,J,J,J,J,J,J,J]
abbrev changeforgelaw3_PackRoundTrip.Z16 : Array Bool := #[J,J,J,J,J,U,U,U,U,U,U,U,U,U]
abbrev changeforgelaw3_PackRoundTrip.Z17 : Array Bool := #[J,J,J,J,J,J,U,U,U,U,U,U,U,U]
abbrev changeforgelaw3_PackRoundTrip.Z18 : Array Bool := #[J,J,J,J,J,J,J,U,U,U,U,U,U,U]
set_option maxHeartbeats 8000000 in
set_option maxRecDepth 100000 in
theorem changeforgelaw3_PackRoundTrip.calls (k : Nat) (bP : Option Addr) (bK : Nat) (aD : List (fB)) (r : Bool) (w : World) (mZ : Kd.C qL w bP aD.length aD) (nA : aD.length ≤ bK) (h : changeforgelaw3_PackRoundTrip.f k aD = some r) :
  Calls Try.prog 6 #[.agg #[.slice bP aD.length bK]] w fun e w' => e = .returned (.bool r) ∧ Below w.heap.size w w' := by
  have aP7 := Try.underlying24
  have aQg := Try.underlying28
  have aQf := Try.underlying44
  have fI := aZ mZ
  have lC := aZ nA
  clear mZ nA
  have HB := aZ (Below.refl w.heap.size w)
  have H : ((aY.f k).bind fun eA4 => (if eA4 = true then ((pack_Build.f k aD).bind fun aJo => (if aJo.2.1 = 0 then ((pack_Read.f k aJo.1).bind fun bDo => (if bDo.2.1 = 0 then ((aI.f k aD bDo.1).bind fun bU8 => (changeforgelaw3_PackRoundTrip.j0 k aJo.1 (!bU8) aD)) else (changeforgelaw3_PackRoundTrip.j0 k aJo.1 true aD))) else (some ((aJo.1.length : Int) == 0)))) else (some false))) = some r := h
  clear h
  replace H := Option.bind_eq_some_iff.mp H
  obtain ⟨eA4, A20, H⟩ := H
  replace H : (if eA4 = true then ((pack_Build.f k aD).bind fun aJo => (if aJo.2.1 = 0 then ((pack_Read.f k aJo.1).bind fun bDo => (if bDo.2.1 = 0 then ((aI.f k aD bDo.1).bind fun bU8 => (changeforgelaw3_PackRoundTrip.j0 k aJo.1 (!bU8) aD)) else (changeforgelaw3_PackRoundTrip.j0 k aJo.1 true aD))) else (some ((aJo.1.length : Int) == 0)))) else (some false)) = some r := H
  have A2 := aZ A20
  clear A20
  by_cases c3 : eA4 = true
  rotate_left
  · replace c3 := Bool.eq_false_iff.mpr c3
    subst c3
    have H1 : (some false) = some r := by rw [if_neg (show ¬ (false = true) by decide)] at H; exact H
    clear H
    have H := H1
    clear H1
    obtain rfl := Option.some.inj H
    go_enter Try.func6, Try.ntmps6
    go_wp2_with (first | ((with_reducible refine gate_dst (N := 1) rfl ?_); refine box_event ?hg (N := 1) ?hd (cs := #[.slice bP aD.length bK]) (t := 24) ?hr ?_; (case hd => rfl); (case hg => rfl); (case hr => first | (go_simp; done) | (go_simp; rfl)); intro aWz hg hYu hbox hb; have jD := aZ (hbox); have fDo := xgh hg HB; have bL2 := xgh hg HB; replace HB := xhl HB hb; clear hb hbox hg) | ((with_reducible refine gate_callee (f := 14) rfl ?_); refine goesL_ (some 10) rfl rfl Try.func14 (by kernel_rfl) rfl #[] rfl xmp ?_; (with_reducible refine (aY.calls k  false _ A2.out).mono ?_); rintro e eZb ⟨rfl, hb⟩; refine ⟨_, rfl, ?_⟩; replace jD := xbb jD hb; replace HB := xhl HB hb; skip; (try clear hb); (try clear iV); (try clear hk); (try clear hi)))
    go_ret
    exact ⟨xre, xq HB⟩

  subst c3
  have H1 : ((pack_Build.f k aD).bind fun aJo => (if aJo.2.1 = 0 then ((pack_Read.f k aJo.1).bind fun bDo => (if bDo.2.1 = 0 then ((aI.f k aD bDo.1).bind fun bU8 => (changeforgelaw3_PackRoundTrip.j0 k aJo.1 (!bU8) aD)) else (changeforgelaw3_PackRoundTrip.j0 k aJo.1 true aD))) else (some ((aJo.1.length : Int) == 0)))) = some r := by rw [if_pos rfl] at H; exact H
  clear H
  have H := H1
  clear H1
  replace H := Option.bind_eq_some_iff.mp H
  obtain ⟨⟨aD4, bMc, cQ3⟩, A40, H⟩ := H
  replace H : (if bMc = 0 then ((pack_Read.f k aD4).bind fun bDo => (if bDo.2.1 = 0 then ((aI.f k aD bDo.1).bind fun bU8 => (changeforgelaw3_PackRoundTrip.j0 k aD4 (!bU8) aD)) else (changeforgelaw3_PackRoundTrip.j0 k aD4 true aD))) else (some ((aD4.length : Int) == 0))) = some r := H
  have A4 := aZ A40
  clear A40
  by_cases c5 : bMc = 0
  rotate_left
  · rw [if_neg c5] at H
    have bAy : (bMc == 0) = false := beq_eq_false_iff_ne.mpr c5
    have cWj : (bMc != 0) = true := bne_iff_ne.mpr c5
    obtain rfl := Option.some.inj H
    go_enter Try.func6, Try.ntmps6
    go_wp2_with (first | ((with_reducible refine gate_dst (N := 1) rfl ?_); refine box_event ?hg (N := 1) ?hd (cs := #[.slice bP aD.length bK]) (t := 24) ?hr ?_; (case hd => rfl); (case hg => rfl); (case hr => first | (go_simp; done) | (go_simp; rfl)); intro aWz hg eOb hbox hb; have jD := aZ (hbox); have fDo := xgh hg HB; have bL2 := xgh hg HB; replace HB := xhl HB hb; clear hb hbox hg) | ((with_reducible refine gate_callee (f := 14) rfl ?_); refine goesL_ (some 10) rfl rfl Try.func14 (by kernel_rfl) rfl #[] rfl xmp ?_; (with_reducible refine (aY.calls k  true _ A2.out).mono ?_); rintro e hYv ⟨rfl, hb⟩; refine ⟨_, rfl, ?_⟩; replace jD := xbb jD hb; replace HB := xhl HB hb; skip; (try clear hb); (try clear iV); (try clear hk); (try clear hi); have gQ4 : hYv.cell? ⟨aWz, 0, none⟩ = some (.slice bP aD.length bK) := (blk_cell jD.out 0).trans rfl; have gQ5 := blk_frozen jD.out 0) | ((with_reducible refine gate_callee (f := 15) rfl ?_); refine goesL_ (some 14) rfl rfl Try.func15 (by kernel_rfl) rfl #[.agg #[.slice bP aD.length bK]] rfl xmp ?_; (with_reducible refine (pack_Build.calls k _ _ aD aD4 bMc cQ3 _ ?side1 ?side2 A4.out).mono ?_); (case side1 => exact xcb fI HB); (case side2 => exact lC.out); rintro e cI0 ⟨hYw, rfl, gZ, hb⟩; refine ⟨_, rfl, ?_⟩; have aPn := aZ (Kd.R_lower gZ (lZ (by repeat (first | (with_reducible first | exact HB.out | apply lA | apply lN | apply lD | refine lS ?_ bL2.out) | exact HB.out)))); replace jD := xbb jD hb; replace HB := xhl HB hb; (try clear hb); (try clear iV); (try clear hk); (try clear hi); (try clear gZ)) | ((with_reducible refine gate_dst (N := 4) rfl ?_); refine box_event ?hg (N := 4) ?hd (cs := #[.int .i64 0, .int .i64 0]) (t := 28) ?hr ?_; (case hd => rfl); (case hg => rfl); (case hr => first | (go_simp; done) | (go_simp; rfl)); intro aWd hg bSk hbox hb; replace aPn := xR aPn hb; have lW := aZ (hbox); have gQ6 := xgh hg HB; have cBa := xgh hg HB; replace HB := xhl HB hb; have aPo := xnl hg jD; have aPp := xng hg jD; replace jD := xbb jD hb; clear hb hbox hg; have bJa := aPp.out; have bJb := aPo.out; have bA3 : bSk.cell? ⟨aWd, 0, none⟩ = some (.int .i64 0) := (blk_cell lW.out 0).trans rfl; have bFe : bSk.cell? ⟨aWd, 1, none⟩ = some (.int .i64 0) := (blk_cell lW.out 1).trans rfl; have bA4 := blk_frozen lW.out 0; have bFf := blk_frozen lW.out 1; obtain ⟨dIo, cUz, eOc⟩ := Kd.R_slice aPn.out; subst eOc))
    go_ret
    exact ⟨xre, xq HB⟩
  rw [if_pos c5] at H
  have bAy : (bMc == 0) = true := beq_iff_eq.mpr c5
  have cWj : (bMc != 0) = false := bne_eq_false_iff_eq.mpr c5
  clear c5
  replace H := Option.bind_eq_some_iff.mp H
  obtain ⟨⟨aWo, bHu, cJc⟩, A60, H⟩ := H
  replace H : (if bHu = 0 then ((aI.f k aD aWo).bind fun bU8 => (changeforgelaw3_PackRoundTrip.j0 k aD4 (!bU8) aD)) else (changeforgelaw3_PackRoundTrip.j0 k aD4 true aD)) = some r := H
  have A6 := aZ A60
  clear A60
  have HC7 := aZ H
  clear H
  go_enter Try.func6, Try.ntmps6
  go_upto_region 7 with (first | ((with_reducible refine gate_dst (N := 1) rfl ?_); refine box_event ?hg (N := 1) ?hd (cs := #[.slice bP aD.length bK]) (t := 24) ?hr ?_; (case hd => rfl); (case hg => rfl); (case hr => first | (go_simp; done) | (go_simp; rfl)); intro aWz hg w8 hbox hb; have jD := aZ (hbox); have fDo := xgh hg HB; have bL2 := xgh hg HB; replace HB := xhl HB hb; clear hb hbox hg) | ((with_reducible refine gate_callee (f := 14) rfl ?_); refine goesL_ (some 10) rfl rfl Try.func14 (by kernel_rfl) rfl #[] rfl xmp ?_; (with_reducible refine (aY.calls k  true _ A2.out).mono ?_); rintro e w9 ⟨rfl, hb⟩; refine ⟨_, rfl, ?_⟩; replace jD := xbb jD hb; replace HB := xhl HB hb; skip; (try clear hb); (try clear iV); (try clear hk); (try clear hi); have aA3 : w9.cell? ⟨aWz, 0, none⟩ = some (.slice bP aD.length bK) := (blk_cell jD.out 0).trans rfl; have aA4 := blk_frozen jD.out 0) | ((with_reducible refine gate_callee (f := 15) rfl ?_); refine goesL_ (some 14) rfl rfl Try.func15 (by kernel_rfl) rfl #[.agg #[.slice bP aD.length bK]] rfl xmp ?_; (with_reducible refine (pack_Build.calls k _ _ aD aD4 bMc cQ3 _ ?side1 ?side2 A4.out).mono ?_); (case side1 => exact xcb fI HB); (case side2 => exact lC.out); rintro e w11 ⟨hYw, rfl, gZ, hb⟩; refine ⟨_, rfl, ?_⟩; have aPn := aZ (Kd.R_lower gZ (lZ (by repeat (first | (with_reducible first | exact HB.out | apply lA | apply lN | apply lD | refine lS ?_ bL2.out) | exact HB.out)))); replace jD := xbb jD hb; replace HB := xhl HB hb; (try clear hb); (try clear iV); (try clear hk); (try clear hi); (try clear gZ)) | ((with_reducible refine gate_dst (N := 4) rfl ?_); refine box_event ?hg (N := 4) ?hd (cs := #[.int .i64 0, .int .i64 0]) (t := 28) ?hr ?_; (case hd => rfl); (case hg => rfl); (case hr => first | (go_simp; done) | (go_simp; rfl)); intro aWd hg w12 hbox hb; replace aPn := xR aPn hb; have lW := aZ (hbox); have gQ6 := xgh hg HB; have cBa := xgh hg HB; replace HB := xhl HB hb; have aPo := xnl hg jD; have aPp := xng hg jD; replace jD := xbb jD hb; clear hb hbox hg; have bS1 := aPp.out; have bS2 := aPo.out; have aQl : w12.cell? ⟨aWd, 0, none⟩ = some (.int .i64 0) := (blk_cell lW.out 0).trans rfl; have aVn : w12.cell? ⟨aWd, 1, none⟩ = some (.int .i64 0) := (blk_cell lW.out 1).trans rfl; have aQm := blk_frozen lW.out 0; have aVo := blk_frozen lW.out 1; obtain ⟨aSk, aN0, cQo⟩ := Kd.R_slice aPn.out; subst cQo) | ((with_reducible refine gate_callee (f := 20) rfl ?_); refine goesL_ (some 25) rfl rfl Try.func20 (by kernel_rfl) rfl #[.slice aSk aD4.length aN0] rfl xmp ?_; (with_reducible refine (pack_Read.calls k _ _ aD4 aWo bHu cJc _ ?side1 ?side2 A6.out).mono ?_); (case side1 => refine (Kd.R_reads' (e := 5) (base := w.heap.size) (ok := fun k_ => True) (n := aD4.length) (c := aN0) ?_).2.2; exact (by (with_reducible repeat (first | apply Kd.rA | apply Kd.rN | apply Kd.rD)); exact (Kd.R_mono (Kd.R_far (p := ⟨aWd, 1, none⟩) (Kd.R_far (p := ⟨aWd, 0, none⟩) (Kd.R_types aPn.out lW.out (by decide)) (fun _ hk => hk.2) (.int .i64 bMc)) (fun _ hk => hk.2) (.int .i64 cQ3)) (fun _ h_ => h_.1)))); (case side2 => exact (Kd.R_reads' aPn.out).2.1); rintro e w16 ⟨iL8, rfl, gZ, hb⟩; refine ⟨_, rfl, ?_⟩; have bOk := aZ (Kd.S_lower (Kd.S_new' gZ (Kd.R_lt (by (with_reducible repeat (first | apply Kd.rA | apply Kd.rN | apply Kd.rD)); exact (Kd.R_mono (Kd.R_far (p := ⟨aWd, 1, none⟩) (Kd.R_far (p := ⟨aWd, 0, none⟩) (Kd.R_types aPn.out lW.out (by decide)) (fun _ hk => hk.2) (.int .i64 bMc)) (fun _ hk => hk.2) (.int .i64 cQ3)) (fun _ h_ => h_.1))))) (lZ (by repeat (first | (with_reducible first | exact HB.out | apply lA | apply lN | apply lD | refine lS ?_ bL2.out | refine lS ?_ cBa.out) | exact HB.out)))); replace aPn := aZ (Kd.R_below (by (with_reducible repeat (first | apply Kd.rA | apply Kd.rN | apply Kd.rD)); exact (Kd.R_mono (Kd.R_far (p := ⟨aWd, 1, none⟩) (Kd.R_far (p := ⟨aWd, 0, none⟩) (Kd.R_types aPn.out lW.out (by decide)) (fun _ hk => hk.2) (.int .i64 bMc)) (fun _ hk => hk.2) (.int .i64 cQ3)) (fun _ h_ => h_.1))) hb); replace jD := xbb jD hb; replace lW := aZ (blk_below (g := aWd) (o := .cells #[.int .i64 bMc, .int .i64 cQ3] 28 (0, 0)) (by refine xpl ?_; refine blk_put (cs := #[.int .i64 bMc, .int .i64 0]) ?_ 1 _ rfl; refine xpl ?_; refine blk_put (cs := #[.int .i64 0, .int .i64 0]) ?_ 0 _ rfl; refine xpl ?_; exact lW.out) hb); replace HB := xhl HB hb; (try clear hb); (try clear iV); (try clear hk); (try clear hi); (try clear gZ)) | ((with_reducible refine gate_dst (N := 5) rfl ?_); refine box_event ?hg (N := 5) ?hd (cs := #[.slice none 0 0]) (t := 24) ?hr ?_; (case hd => rfl); (case hg => rfl); (case hr => first | (go_simp; done) | (go_simp; rfl)); intro bHv hg w17 hbox hb; replace aPn := xR aPn hb; replace bOk := xS bOk hb; have nO := aZ (hbox); have iFv := xgh hg HB; have cQ4 := xgh hg HB; replace HB := xhl HB hb; have bAm := xnl hg jD; have bAn := xng hg jD; replace jD := xbb jD hb; have cU0 := xnl hg lW; have cU1 := xng hg lW; replace lW := xbb lW hb; clear hb hbox hg) | ((with_reducible refine gate_dst (N := 6) rfl ?_); refine box_event ?hg (N := 6) ?hd (cs := #[.int .i64 0, .int .i64 0]) (t := 28) ?hr ?_; (case hd => rfl); (case hg => rfl); (case hr => first | (go_simp; done) | (go_simp; rfl)); intro aNd hg w18 hbox hb; replace aPn := xR aPn hb; replace bOk := xS bOk hb; have mR := aZ (hbox); have iFw := xgh hg HB; have cQ5 := xgh hg HB; replace HB := xhl HB hb; have aVb := xnl hg jD; have aVc := xng hg jD; replace jD := xbb jD hb; have cGw := xnl hg lW; have cGx := xng hg lW; replace lW := xbb lW hb; have aVd := xnl hg nO; have bHw := xng hg nO; replace nO := xbb nO hb; clear hb hbox hg; obtain ⟨bOl, bMd, fTm⟩ := Kd.S_slice bOk.out; subst fTm; have dO8 := bAn.out; have dO9 := bAm.out; have eEg := cU1.out; have eEh := cU0.out; have cHp := aVd.out; have cHq := bHw.out; have bPd : w18.cell? ⟨bHv, 0, none⟩ = some (.slice none 0 0) := (blk_cell nO.out 0).trans rfl; have bPe := blk_frozen nO.out 0; have cG3 := aVc.out; have cG4 := aVb.out; have bV7 := cGx.out; have bV8 := cGw.out; have aN4 : w18.cell? ⟨aNd, 0, none⟩ = some (.int .i64 0) := (blk_cell mR.out 0).trans rfl; have bCa : w18.cell? ⟨aNd, 1, none⟩ = some (.int .i64 0) := (blk_cell mR.out 1).trans rfl; have aN5 := blk_frozen mR.out 0; have bCb := blk_frozen mR.out 1))
  (try simp only [Act.put, List.setIfInBounds_toArray, List.set_cons_zero, List.set_cons_succ])
  go_cut [36] (fun v36 wc => ∃ (kq : Nat) (dXv : Bool), v36 = .bool dXv ∧ Aside0 (changeforgelaw3_PackRoundTrip.j0 kq aD4 dXv aD = some r) ∧ Aside0 (kq ≤ k) ∧ Aside0 (Kd.R (Kd.int .u8) 5 wc w.heap.size (fun _ => True) (.slice aSk aD4.length aN0) aD4) ∧ Aside0 (Kd.S qL 46 wc w.heap.size (fun k_ => some k_ ≠ ((.slice aSk aD4.length aN0) : Value).ownBlock) (.slice bOl aWo.length bMd) aWo) ∧ Aside0 (wc.heap[aWz]? = some (.cells #[(.slice bP aD.length bK)] 24 (0, 0))) ∧ Aside0 (wc.heap[aWd]? = some (.cells #[.int .i64 bMc, .int .i64 cQ3] 28 (0, 0))) ∧ Aside0 (wc.heap[bHv]? = some (.cells #[(.slice bOl aWo.length bMd)] 24 (0, 0))) ∧ Aside0 (wc.heap[aNd]? = some (.cells #[.int .i64 bHu, .int .i64 cJc] 28 (0, 0))) ∧ Aside0 (Below w.heap.size w wc))
  case first =>
   have H := HC7.out
   clear HC7
   by_cases c27 : bHu = 0
   rotate_left
   · rw [if_neg c27] at H
     have bCi : (bHu == 0) = false := beq_eq_false_iff_ne.mpr c27
     have cSj : (bHu != 0) = true := bne_iff_ne.mpr c27
     (first | rw [bCi] | (simp only [i64_w, i32_w]; rw [bCi]) | skip)
     have H' := aZ H
     clear H
     have cSr := aVc.out
     have cSs := aVb.out
     have cMh := cGx.out
     have cMi := cGw.out
     have cMj := bHw.out
     have cMk := aVd.out
     have cU8 : w18.cell? ⟨aNd, 0, none⟩ = some (.int .i64 0) := (blk_cell mR.out 0).trans rfl
     have cU9 : w18.cell? ⟨aNd, 1, none⟩ = some (.int .i64 0) := (blk_cell mR.out 1).trans rfl
     have cVa := blk_frozen mR.out 0
     have cVb := blk_frozen mR.out 1
     go_wp2
     go_meet
     case rel => exact ⟨_, (true), xrs, H', ⟨by first | omega | exact Nat.le_refl _⟩, ⟨by (with_reducible repeat (first | apply Kd.rA | apply Kd.rN | apply Kd.rD)); exact Kd.R_mono (Kd.R_far (p := ⟨aNd, 1, none⟩) (Kd.R_far (p := ⟨aNd, 0, none⟩) (Kd.R_far (p := ⟨bHv, 0, none⟩) (Kd.R_types (Kd.R_types aPn.out nO.out (by decide)) mR.out (by decide)) (fun _ hk => hk.1.2) (.slice bOl aWo.length bMd)) (fun _ hk => hk.2) (.int .i64 bHu)) (fun _ hk => hk.2) (.int .i64 cJc)) (fun _ hk => trivial)⟩, ⟨by (with_reducible repeat (first | apply Kd.S_alloc | apply Kd.S_drewN | apply Kd.S_drew)); exact Kd.S_mono (Kd.S_far (p := ⟨aNd, 1, none⟩) (Kd.S_far (p := ⟨aNd, 0, none⟩) (Kd.S_far (p := ⟨bHv, 0, none⟩) (Kd.S_types (Kd.S_types bOk.out nO.out (by decide)) mR.out (by decide)) (fun _ hk => hk.1.2) (.slice bOl aWo.length bMd)) (fun _ hk => hk.2) (.int .i64 bHu)) (fun _ hk => hk.2) (.int .i64 cJc)) (fun _ hk => hk.1.1.2)⟩, xk jD, xk lW, ⟨by refine xpl ?_; refine blk_far ?_ aVd.out _; refine xpl ?_; refine blk_far ?_ aVd.out _; refine xpl ?_; refine blk_put (cs := #[.slice none 0 0]) ?_ 0 _ rfl; refine xpl ?_; exact nO.out⟩, ⟨by refine xpl ?_; refine blk_put (cs := #[.int .i64 bHu, .int .i64 0]) ?_ 1 _ rfl; refine xpl ?_; refine blk_put (cs := #[.int .i64 0, .int .i64 0]) ?_ 0 _ rfl; refine xpl ?_; refine blk_far ?_ bHw.out _; refine xpl ?_; exact mR.out⟩, xb HB⟩
   rw [if_pos c27] at H
   have bCi : (bHu == 0) = true := beq_iff_eq.mpr c27
   have cSj : (bHu != 0) = false := bne_eq_false_iff_eq.mpr c27
   clear c27
   (first | rw [bCi] | (simp only [i64_w, i32_w]; rw [bCi]) | skip)
   replace H := Option.bind_eq_some_iff.mp H
   obtain ⟨bU8, eE6, H⟩ := H
   replace H : (changeforgelaw3_PackRoundTrip.j0 k aD4 (!bU8) aD) = some r := H
   have A28 := aZ eE6
   clear eE6
   have H' := aZ H
   clear H
   have bVx := aVc.out
   have bVy := aVb.out
   have bSo := cGx.out
   have bSp := cGw.out
   have bVz := bHw.out
   have bV0 := aVd.out
   have aFo : w18.cell? ⟨aNd, 0, none⟩ = some (.int .i64 0) := (blk_cell mR.out 0).trans rfl
   have aJu : w18.cell? ⟨aNd, 1, none⟩ = some (.int .i64 0) := (blk_cell mR.out 1).trans rfl
   have aFp := blk_frozen mR.out 0
   have aJv := blk_frozen mR.out 1
   have cM8 := aPo.out
   have cM9 := aPp.out
   have dEh := bAm.out
   have dEi := bAn.out
   have cLn : w18.cell? ⟨aWz, 0, none⟩ = some (.slice bP aD.length bK) := (blk_cell jD.out 0).trans rfl
   have cLo := blk_frozen jD.out 0
   have cG0 := cU1.out
   have cG1 := cU0.out
   have bO5 : w18.cell? ⟨bHv, 0, none⟩ = some (.slice none 0 0) := (blk_cell nO.out 0).trans rfl
   have bO6 := blk_frozen nO.out 0
   go_wp2_with (first | (go_at_call 22; (with_reducible refine (aI.calls k _ _ aD _ _ aWo bU8 _ ?side1 ?side2 ?side3 ?side4 A28.out).mono ?_); (case side1 => exact Kd.C_below fI.out (by repeat (first | (with_reducible first | exact HB.out | apply lA | apply lN | apply lD | refine lS ?_ bL2.out | refine lS ?_ cBa.out | refine lS ?_ cQ4.out | refine lS ?_ cQ5.out) | exact HB.out))); (case side2 => exact lC.out); (case side3 => refine (Kd.S_reads' (e := 46) (base := w.heap.size) (ok := fun k_ => (True ∧ some k_ ≠ (.slice aSk aD4.length aN0 : Value).ownBlock)) (n := aWo.length) (c := bMd) ?_).2.2; exact (by (with_reducible repeat (first | apply Kd.S_alloc | apply Kd.S_drewN | apply Kd.S_drew)); exact (Kd.S_mono (Kd.S_mono (Kd.S_far (p := ⟨aNd, 1, none⟩) (Kd.S_far (p := ⟨aNd, 0, none⟩) (Kd.S_far (p := ⟨bHv, 0, none⟩) (Kd.S_types (Kd.S_types bOk.out nO.out (by decide)) mR.out (by decide)) (fun _ hk => hk.1.2) (.slice bOl aWo.length bMd)) (fun _ hk => hk.2) (.int .i64 bHu)) (fun _ hk => hk.2) (.int .i64 cJc)) (fun _ h_ => h_.1)) (fun _ h_ => h_.1)))); (case side4 => exact (Kd.S_reads' bOk.out).2.1); rintro e w38 ⟨rfl, hb⟩; replace aPn := aZ (Kd.R_below (by (with_reducible repeat (first | apply Kd.rA | apply Kd.rN | apply Kd.rD)); exact (Kd.R_mono (Kd.R_mono (Kd.R_far (p := ⟨aNd, 1, none⟩) (Kd.R_far (p := ⟨aNd, 0, none⟩) (Kd.R_far (p := ⟨bHv, 0, none⟩) (Kd.R_types (Kd.R_types aPn.out nO.out (by decide)) mR.out (by decide)) (fun _ hk => hk.1.2) (.slice bOl aWo.length bMd)) (fun _ hk => hk.2) (.int .i64 bHu)) (fun _ hk => hk.2) (.int .i64 cJc)) (fun _ h_ => h_.1)) (fun _ h_ => h_.1))) hb); replace bOk := aZ (Kd.S_below (by (with_reducible repeat (first | apply Kd.S_alloc | apply Kd.S_drewN | apply Kd.S_drew)); exact (Kd.S_mono (Kd.S_mono (Kd.S_far (p := ⟨aNd, 1, none⟩) (Kd.S_far (p := ⟨aNd, 0, none⟩) (Kd.S_far (p := ⟨bHv, 0, none⟩) (Kd.S_types (Kd.S_types bOk.out nO.out (by decide)) mR.out (by decide)) (fun _ hk => hk.1.2) (.slice bOl aWo.length bMd)) (fun _ hk => hk.2) (.int .i64 bHu)) (fun _ hk => hk.2) (.int .i64 cJc)) (fun _ h_ => h_.1)) (fun _ h_ => h_.1))) hb); replace jD := xbb jD hb; replace lW := xbb lW hb; replace nO := aZ (blk_below (g := bHv) (o := .cells #[.slice bOl aWo.length bMd] 24 (0, 0)) (by refine xpl ?_; refine blk_far ?_ aVd.out _; refine xpl ?_; refine blk_far ?_ aVd.out _; refine xpl ?_; refine blk_put (cs := #[.slice none 0 0]) ?_ 0 _ rfl; refine xpl ?_; exact nO.out) hb); replace mR := aZ (blk_below (g := aNd) (o := .cells #[.int .i64 bHu, .int .i64 cJc] 28 (0, 0)) (by refine xpl ?_; refine blk_put (cs := #[.int .i64 bHu, .int .i64 0]) ?_ 1 _ rfl; refine xpl ?_; refine blk_put (cs := #[.int .i64 0, .int .i64 0]) ?_ 0 _ rfl; refine xpl ?_; refine blk_far ?_ bHw.out _; refine xpl ?_; exact mR.out) hb); replace HB := xhl HB hb; (try clear hb); (try clear iV); (try clear hk); (try clear hi)))
   go_meet
   case rel => exact ⟨_, (!bU8), xrs, H', ⟨by first | omega | exact Nat.le_refl _⟩, ⟨by (with_reducible repeat (first | apply Kd.rA | apply Kd.rN | apply Kd.rD)); exact aPn.out⟩, ⟨by (with_reducible repeat (first | apply Kd.S_alloc | apply Kd.S_drewN | apply Kd.S_drew)); exact Kd.S_mono bOk.out (fun _ hk => hk.2)⟩, xk jD, xk lW, xk nO, xk mR, xb HB⟩
  case rest =>
   clear HC7
   (try clear c3); (try clear c5); (try clear bAy); (try clear cWj); (try clear aA3); (try clear aQl); (try clear aVn); (try clear bPd); (try clear aN4); (try clear bCa); (try clear aA4); (try clear aQm); (try clear aVo); (try clear bPe); (try clear aN5); (try clear bCb)
   obtain ⟨kq, dXv, rfl, HA, HJ6, nT, jQ, jD, lW, nO, mR, HB⟩ := hcut
   cases kq with
   | zero => exact absurd HA.out (by simp [changeforgelaw3_PackRoundTrip.j0])
   | succ kj6 =>
    have H := HA.out
    clear HA
    simp only [changeforgelaw3_PackRoundTrip.j0] at H
    by_cases c43 : dXv = true
    · subst c43
      have H1 : (some false) = some r := by rw [if_pos rfl] at H; exact H
      clear H
      have H := H1
      clear H1
      obtain rfl := Option.some.inj H
      go_wp2
      go_ret
      exact ⟨xre, xq HB⟩
    replace c43 := Bool.eq_false_iff.mpr c43
    subst c43
    have H1 : (changeforgelaw3_PackRoundTrip.l0 kj6 aD4 0 aD) = some r := by rw [if_neg (show ¬ (false = true) by decide)] at H; exact H
    clear H
    have H := H1
    clear H1
    have H' := aZ H
    clear H
    go_wp2
    go_loopg [7] kj6 (fun kq v7 w' => ∃ (sP : Int), v7 = .int .i64 sP ∧ Aside0 (changeforgelaw3_PackRoundTrip.l0 kq aD4 sP aD = some r) ∧ Aside0 (kq ≤ kj6) ∧ Aside0 (Kd.R (Kd.int .u8) 5 w' w.heap.size (fun _ => True) (.slice aSk aD4.length aN0) aD4) ∧ Aside0 (Kd.S qL 46 w' w.heap.size (fun k_ => some k_ ≠ ((.slice aSk aD4.length aN0) : Value).ownBlock) (.slice bOl aWo.length bMd) aWo) ∧ Aside0 (w'.heap[aWz]? = some (.cells #[(.slice bP aD.length bK)] 24 (0, 0))) ∧ Aside0 (w'.heap[aWd]? = some (.cells #[.int .i64 bMc, .int .i64 cQ3] 28 (0, 0))) ∧ Aside0 (w'.heap[bHv]? = some (.cells #[(.slice bOl aWo.length bMd)] 24 (0, 0))) ∧ Aside0 (w'.heap[aNd]? = some (.cells #[.int .i64 bHu, .int .i64 cJc] 28 (0, 0))) ∧ Aside0 (Below w.heap.size w w'))
    case atStart => exact ⟨(0), xrs, H', ⟨Nat.le_refl _⟩, ⟨by (with_reducible repeat (first | apply Kd.rA | apply Kd.rN | apply Kd.rD)); exact nT.out⟩, ⟨by (with_reducible repeat (first | apply Kd.S_alloc | apply Kd.S_drewN | apply Kd.S_drew)); exact jQ.out⟩, xk jD, xk lW, xk nO, xk mR, xb HB⟩
    case round =>
     clear H'
     (try clear c43)
     obtain ⟨sP, rfl, HA, HK2, nT, jQ, jD, lW, nO, mR, HB⟩ := hrel
     cases gk with
     | zero => exact absurd HA.out (by simp [changeforgelaw3_PackRoundTrip.l0])
     | succ k2 =>
      have H := HA.out
      clear HA
      simp only [changeforgelaw3_PackRoundTrip.l0] at H
      by_cases c44 : sP < (aD.length : Int)
      rotate_left
      · rw [if_neg c44] at H
        have gQ7 : decide (sP < (aD.length : Int)) = false := decide_eq_false c44
        clear c44
        obtain rfl := Option.some.inj H
        have cC9 := aPo.out
        have cDa := aPp.out
        have bTx := bAm.out
        have bTy := bAn.out
        have cD2 := aVb.out
        have cD3 := aVc.out
        have dHk : wr.cell? ⟨aWz, 0, none⟩ = some (.slice bP aD.length bK) := (blk_cell jD.out 0).trans rfl
        have dHl := blk_frozen jD.out 0
        go_wp2
        go_ret
        exact ⟨xre, xq HB⟩
      rw [if_pos c44] at H
      have gQ7 : decide (sP < (aD.length : Int)) = true := decide_eq_true c44
      clear c44
      by_cases c45 : 0 ≤ sP
      rotate_left
      · rw [if_neg c45] at H
        exact absurd H (by simp)
      rw [if_pos c45] at H
      have fCa : decide (0 ≤ sP) = true := decide_eq_true c45
      clear c45
      replace H := Option.bind_eq_some_iff.mp H
      obtain ⟨⟨vI, uD, uE, vT, yR⟩, eLf, H⟩ := H
      replace H : (if vT = 0 then ((aU.f k2 vI uD uE ((aA aD sP).f1.f0) ((aA aD sP).f1.f1) ((aA aD sP).f1.f2)).bind fun eA3 => (if eA3 = true then (changeforgelaw3_PackRoundTrip.l0 k2 aD4 (wrap64 (sP + 1)) aD) else (some false))) else (some false)) = some r := H
      have A46 := aZ eLf
      clear eLf
      by_cases c47 : vT = 0
      rotate_left
      · rw [if_neg c47] at H
        have cTu : (vT == 0) = false := beq_eq_false_iff_ne.mpr c47
        have eLg : (vT != 0) = true := bne_iff_ne.mpr c47
        obtain rfl := Option.some.inj H
        have dQp := aPo.out
        have dQq := aPp.out
        have dF0 := bAm.out
        have dF1 := bAn.out
        have dTm := aVb.out
        have dTn := aVc.out
        have cYq : wr.cell? ⟨aWz, 0, none⟩ = some (.slice bP aD.length bK) := (blk_cell jD.out 0).trans rfl
        have cYr := blk_frozen jD.out 0
        have cQ6 : 0 ≤ (sP : Int) := of_decide_eq_true xas
        have cQ7 : sP < (aD.length : Int) := of_decide_eq_true xas
        obtain ⟨aJp, eOd, eOe, eOf, eOg, eOh, bDp, bDq, bDr, bDs, bDt, bDu, bDv, bDw⟩ := gY fI.out sP cQ6 cQ7
        cases eOh
        replace bDp := xcl HB bDp
        replace bDq := xcl HB bDq
        replace bDr := xcl HB bDr
        replace bDs := xcl HB bDs
        have dXw := aZ bDu
        have dXx := aZ bDt
        clear bDu bDt
        have dXy := aZ bDw
        have dXz := aZ bDv
        clear bDw bDv
        replace cQ6 := eq_true cQ6
        replace cQ7 := eq_true cQ7
        try go_wp2_with (first | ((with_reducible refine gate_callee (f := 23) rfl ?_); refine goesL_ (some 52) rfl rfl Try.func23 (by kernel_rfl) rfl #[.slice aSk aD4.length aN0, .int .i64 ((aA aD sP).f0)] rfl xmp ?_; (with_reducible refine (pack_Lookup.calls k2 _ _ aD4 ((aA aD sP).f0) vI uD uE vT yR _ ?side1 ?side2 A46.out).mono ?_); (case side1 => repeat (first | exact (Kd.R_reads' nT.out).2.2 | (with_reducible refine Kd.C_alloc ?_ _) | (with_reducible refine Kd.C_drewN ?_ _) | (with_reducible refine Kd.C_drew ?_))); (case side2 => exact (Kd.R_reads' nT.out).2.1); rintro e fZz ⟨gQ8, gQ9, rfl, gZ, ho1, hb⟩; refine ⟨_, rfl, ?_⟩; replace jQ := aZ (Kd.S_mono (Kd.S_told (Kd.S_told (Kd.S_old (by (with_reducible repeat (first | apply Kd.S_alloc | apply Kd.S_drewN | apply Kd.S_drew)); exact jQ.out) hb) (Kd.R_base gZ)) (Kd.R_base ho1)) (fun _ h_ => h_.1)); have wC := aZ (Kd.R_lower gZ (lZ (by repeat (first | (with_reducible first | exact HB.out | apply lA | apply lN | apply lD | refine lS ?_ bL2.out | refine lS ?_ cBa.out | refine lS ?_ cQ4.out | refine lS ?_ cQ5.out) | exact HB.out)))); have wD := aZ (Kd.R_lower (Kd.R_new' ho1 (Kd.R_lt (by (with_reducible repeat (first | apply Kd.rA | apply Kd.rN | apply Kd.rD)); exact nT.out))) (lZ (by repeat (first | (with_reducible first | exact HB.out | apply lA | apply lN | apply lD | refine lS ?_ bL2.out | refine lS ?_ cBa.out | refine lS ?_ cQ4.out | refine lS ?_ cQ5.out) | exact HB.out)))); replace nT := aZ (Kd.R_elder' (by (with_reducible repeat (first | apply Kd.rA | apply Kd.rN | apply Kd.rD)); exact nT.out) (Kd.R_base ho1) hb); replace jD := xbb jD hb; replace lW := xbb lW hb; replace nO := xbb nO hb; replace mR := xbb mR hb; replace HB := xhl HB hb; (try clear hb); (try clear iV); (try clear hk); (try clear hi); (try clear gZ); (try clear ho1)) | ((with_reducible refine gate_dst (N := 8) rfl ?_); refine box_event ?hg (N := 8) ?hd (cs := #[.int .i64 0, .slice none 0 0, .slice none 0 0]) (t := 44) ?hr ?_; (case hd => rfl); (case hg => rfl); (case hr => first | (go_simp; done) | (go_simp; rfl)); intro eO hg hKi hbox hb; replace nT := xR nT hb; replace jQ := xS jQ hb; replace wC := xR wC hb; replace wD := xR wD hb; have mP := aZ (hbox); have fDp := xgh hg HB; have fDq := xgh hg HB; replace HB := xhl HB hb; have bHx := xnl hg jD; have bHy := xng hg jD; replace jD := xbb jD hb; have bHz := xnl hg lW; have bH0 := xng hg lW; replace lW := xbb lW hb; have bH1 := xnl hg nO; have bH2 := xng hg nO; replace nO := xbb nO hb; have bH3 := xnl hg mR; have bH4 := xng hg mR; replace mR := xbb mR hb; clear hb hbox hg) | ((with_reducible refine gate_dst (N := 9) rfl ?_); refine box_event ?hg (N := 9) ?hd (cs := #[.int .i64 0, .int .i64 0]) (t := 28) ?hr ?_; (case hd => rfl); (case hg => rfl); (case hr => first | (go_simp; done) | (go_simp; rfl)); intro iQ hg bOm hbox hb; replace nT := xR nT hb; replace jQ := xS jQ hb; replace wC := xR wC hb; replace wD := xR wD hb; have qN := aZ (hbox); have fDr := xgh hg HB; have fDs := xgh hg HB; replace HB := xhl HB hb; have bH5 := xnl hg jD; have bH6 := xng hg jD; replace jD := xbb jD hb; have bH7 := xnl hg lW; have bH8 := xng hg lW; replace lW := xbb lW hb; have bH9 := xnl hg nO; have bIa := xng hg nO; replace nO := xbb nO hb; have bIb := xnl hg mR; have bIc := xng hg mR; replace mR := xbb mR hb; have aFe := xnl hg mP; have aAo := xng hg mP; replace mP := xbb mP hb; clear hb hbox hg; have cYz := bHy.out; have cY0 := bHx.out; have cD6 := bH0.out; have cD7 := bHz.out; have cOz := bH2.out; have cO0 := bH1.out; have cDy := bH4.out; have cDz := bH3.out; have cD0 := aFe.out; have cD1 := aAo.out; have dGm : bOm.cell? ⟨eO, 0, none⟩ = some (.int .i64 0) := (blk_cell mP.out 0).trans rfl; have eHm : bOm.cell? ⟨eO, 1, none⟩ = some (.slice none 0 0) := (blk_cell mP.out 1).trans rfl; have eHn : bOm.cell? ⟨eO, 2, none⟩ = some (.slice none 0 0) := (blk_cell mP.out 2).trans rfl; have dGn := blk_frozen mP.out 0; have eHo := blk_frozen mP.out 1; have eHp := blk_frozen mP.out 2; obtain ⟨aJf, aJg, eLv⟩ := Kd.R_slice wC.out; subst eLv; obtain ⟨nG, nC, dGo⟩ := Kd.R_slice wD.out; subst dGo; have bTr := bH6.out; have bTs := bH5.out; have bTt := bH8.out; have bTu := bH7.out; have cC7 := bIa.out; have cC8 := bH9.out; have bUk := bIc.out; have bUl := bIb.out; have bYt : bOm.cell? ⟨iQ, 0, none⟩ = some (.int .i64 0) := (blk_cell qN.out 0).trans rfl; have dIi : bOm.cell? ⟨iQ, 1, none⟩ = some (.int .i64 0) := (blk_cell qN.out 1).trans rfl; have bYu := blk_frozen qN.out 0; have dIj := blk_frozen qN.out 1))
        replace nT : Aside0 (Kd.R (Kd.int .u8) 5 (((((bOm.setCell ⟨eO, 0, none⟩ (.int .i64 vI)).setCell ⟨eO, 1, none⟩ (.slice aJf uD.length aJg)).setCell ⟨eO, 2, none⟩ (.slice nG uE.length nC)).setCell ⟨iQ, 0, none⟩ (.int .i64 vT)).setCell ⟨iQ, 1, none⟩ (.int .i64 yR)) w.heap.size (fun k_ => some k_ ≠ (.slice nG uE.length nC : Value).ownBlock) (.slice aSk aD4.length aN0) aD4) := ⟨by (with_reducible repeat (first | apply Kd.rA | apply Kd.rN | apply Kd.rD)); exact Kd.R_mono (Kd.R_far (p := ⟨iQ, 1, none⟩) (Kd.R_far (p := ⟨iQ, 0, none⟩) (Kd.R_far (p := ⟨eO, 2, none⟩) (Kd.R_far (p := ⟨eO, 1, none⟩) (Kd.R_far (p := ⟨eO, 0, none⟩) (Kd.R_types (Kd.R_types nT.out mP.out (by decide)) qN.out (by decide)) (fun _ hk => hk.1.2) (.int .i64 vI)) (fun _ hk => hk.1.2) (.slice aJf uD.length aJg)) (fun _ hk => hk.1.2) (.slice nG uE.length nC)) (fun _ hk => hk.2) (.int .i64 vT)) (fun _ hk => hk.2) (.int .i64 yR)) (fun _ hk => hk.1.1.2)⟩
        replace jQ : Aside0 (Kd.S qL 46 (((((bOm.setCell ⟨eO, 0, none⟩ (.int .i64 vI)).setCell ⟨eO, 1, none⟩ (.slice aJf uD.length aJg)).setCell ⟨eO, 2, none⟩ (.slice nG uE.length nC)).setCell ⟨iQ, 0, none⟩ (.int .i64 vT)).setCell ⟨iQ, 1, none⟩ (.int .i64 yR)) w.heap.size (fun k_ => some k_ ≠ (.slice aSk aD4.length aN0 : Value).ownBlock ∧ some k_ ≠ (.slice aJf uD.length aJg : Value).ownBlock ∧ some k_ ≠ (.slice nG uE.length nC : Value).ownBlock) (.slice bOl aWo.length bMd) aWo) := ⟨by (with_reducible repeat (first | apply Kd.S_alloc | apply Kd.S_drewN | apply Kd.S_drew)); exact Kd.S_mono (Kd.S_far (p := ⟨iQ, 1, none⟩) (Kd.S_far (p := ⟨iQ, 0, none⟩) (Kd.S_far (p := ⟨eO, 2, none⟩) (Kd.S_far (p := ⟨eO, 1, none⟩) (Kd.S_far (p := ⟨eO, 0, none⟩) (Kd.S_types (Kd.S_types jQ.out mP.out (by decide)) qN.out (by decide)) (fun _ hk => hk.1.2) (.int .i64 vI)) (fun _ hk => hk.1.2) (.slice aJf uD.length aJg)) (fun _ hk => hk.1.2) (.slice nG uE.length nC)) (fun _ hk => hk.2) (.int .i64 vT)) (fun _ hk => hk.2) (.int .i64 yR)) (fun _ hk => ⟨hk.1.1.1.1, ⟨hk.1.1.1.2, hk.1.1.2⟩⟩)⟩
        replace wC : Aside0 (Kd.R (Kd.int .i64) 3 (((((bOm.setCell ⟨eO, 0, none⟩ (.int .i64 vI)).setCell ⟨eO, 1, none⟩ (.slice aJf uD.length aJg)).setCell ⟨eO, 2, none⟩ (.slice nG uE.length nC)).setCell ⟨iQ, 0, none⟩ (.int .i64 vT)).setCell ⟨iQ, 1, none⟩ (.int .i64 yR)) w.heap.size (fun _ => True) (.slice aJf uD.length aJg) uD) := ⟨by (with_reducible repeat (first | apply Kd.rA | apply Kd.rN | apply Kd.rD)); exact Kd.R_mono (Kd.R_far (p := ⟨iQ, 1, none⟩) (Kd.R_far (p := ⟨iQ, 0, none⟩) (Kd.R_far (p := ⟨eO, 2, none⟩) (Kd.R_far (p := ⟨eO, 1, none⟩) (Kd.R_far (p := ⟨eO, 0, none⟩) (Kd.R_types (Kd.R_types wC.out mP.out (by decide)) qN.out (by decide)) (fun _ hk => hk.1.2) (.int .i64 vI)) (fun _ hk => hk.1.2) (.slice aJf uD.length aJg)) (fun _ hk => hk.1.2) (.slice nG uE.length nC)) (fun _ hk => hk.2) (.int .i64 vT)) (fun _ hk => hk.2) (.int .i64 yR)) (fun _ hk => trivial)⟩
        replace wD : Aside0 (Kd.R (Kd.int .u8) 5 (((((bOm.setCell ⟨eO, 0, none⟩ (.int .i64 vI)).setCell ⟨eO, 1, none⟩ (.slice aJf uD.length aJg)).setCell ⟨eO, 2, none⟩ (.slice nG uE.length nC)).setCell ⟨iQ, 0, none⟩ (.int .i64 vT)).setCell ⟨iQ, 1, none⟩ (.int .i64 yR)) w.heap.size (fun k_ => some k_ ≠ (.slice aSk aD4.length aN0 : Value).ownBlock) (.slice nG uE.length nC) uE) := ⟨by (with_reducible repeat (first | apply Kd.rA | apply Kd.rN | apply Kd.rD)); exact Kd.R_mono (Kd.R_far (p := ⟨iQ, 1, none⟩) (Kd.R_far (p := ⟨iQ, 0, none⟩) (Kd.R_far (p := ⟨eO, 2, none⟩) (Kd.R_far (p := ⟨eO, 1, none⟩) (Kd.R_far (p := ⟨eO, 0, none⟩) (Kd.R_types (Kd.R_types wD.out mP.out (by decide)) qN.out (by decide)) (fun _ hk => hk.1.2) (.int .i64 vI)) (fun _ hk => hk.1.2) (.slice aJf uD.length aJg)) (fun _ hk => hk.1.2) (.slice nG uE.length nC)) (fun _ hk => hk.2) (.int .i64 vT)) (fun _ hk => hk.2) (.int .i64 yR)) (fun _ hk => hk.1.1.2)⟩
        replace jD : Aside0 ((((((bOm.setCell ⟨eO, 0, none⟩ (.int .i64 vI)).setCell ⟨eO, 1, none⟩ (.slice aJf uD.length aJg)).setCell ⟨eO, 2, none⟩ (.slice nG uE.length nC)).setCell ⟨iQ, 0, none⟩ (.int .i64 vT)).setCell ⟨iQ, 1, none⟩ (.int .i64 yR)).heap[aWz]? = some (.cells #[.slice (some aJp) aD.length bK] 24 (0, 0))) := xk jD
        replace lW : Aside0 ((((((bOm.setCell ⟨eO, 0, none⟩ (.int .i64 vI)).setCell ⟨eO, 1, none⟩ (.slice aJf uD.length aJg)).setCell ⟨eO, 2, none⟩ (.slice nG uE.length nC)).setCell ⟨iQ, 0, none⟩ (.int .i64 vT)).setCell ⟨iQ, 1, none⟩ (.int .i64 yR)).heap[aWd]? = some (.cells #[.int .i64 bMc, .int .i64 cQ3] 28 (0, 0))) := xk lW
        replace nO : Aside0 ((((((bOm.setCell ⟨eO, 0, none⟩ (.int .i64 vI)).setCell ⟨eO, 1, none⟩ (.slice aJf uD.length aJg)).setCell ⟨eO, 2, none⟩ (.slice nG uE.length nC)).setCell ⟨iQ, 0, none⟩ (.int .i64 vT)).setCell ⟨iQ, 1, none⟩ (.int .i64 yR)).heap[bHv]? = some (.cells #[.slice bOl aWo.length bMd] 24 (0, 0))) := xk nO
        replace mR : Aside0 ((((((bOm.setCell ⟨eO, 0, none⟩ (.int .i64 vI)).setCell ⟨eO, 1, none⟩ (.slice aJf uD.length aJg)).setCell ⟨eO, 2, none⟩ (.slice nG uE.length nC)).setCell ⟨iQ, 0, none⟩ (.int .i64 vT)).setCell ⟨iQ, 1, none⟩ (.int .i64 yR)).heap[aNd]? = some (.cells #[.int .i64 bHu, .int .i64 cJc] 28 (0, 0))) := xk mR
        replace mP : Aside0 ((((((bOm.setCell ⟨eO, 0, none⟩ (.int .i64 vI)).setCell ⟨eO, 1, none⟩ (.slice aJf uD.length aJg)).setCell ⟨eO, 2, none⟩ (.slice nG uE.length nC)).setCell ⟨iQ, 0, none⟩ (.int .i64 vT)).setCell ⟨iQ, 1, none⟩ (.int .i64 yR)).heap[eO]? = some (.cells #[.int .i64 vI, .slice aJf uD.length aJg, .slice nG uE.length nC] 44 (0, 0))) := ⟨by refine xpl ?_; refine blk_far ?_ aFe.out _; refine xpl ?_; refine blk_far ?_ aFe.out _; refine xpl ?_; refine blk_put (cs := #[.int .i64 vI, .slice aJf uD.length aJg, .slice none 0 0]) ?_ 2 _ rfl; refine xpl ?_; refine blk_put (cs := #[.int .i64 vI, .slice none 0 0, .slice none 0 0]) ?_ 1 _ rfl; refine xpl ?_; refine blk_put (cs := #[.int .i64 0, .slice none 0 0, .slice none 0 0]) ?_ 0 _ rfl; refine xpl ?_; exact mP.out⟩
        replace qN : Aside0 ((((((bOm.setCell ⟨eO, 0, none⟩ (.int .i64 vI)).setCell ⟨eO, 1, none⟩ (.slice aJf uD.length aJg)).setCell ⟨eO, 2, none⟩ (.slice nG uE.length nC)).setCell ⟨iQ, 0, none⟩ (.int .i64 vT)).setCell ⟨iQ, 1, none⟩ (.int .i64 yR)).heap[iQ]? = some (.cells #[.int .i64 vT, .int .i64 yR] 28 (0, 0))) := ⟨by refine xpl ?_; refine blk_put (cs := #[.int .i64 vT, .int .i64 0]) ?_ 1 _ rfl; refine xpl ?_; refine blk_put (cs := #[.int .i64 0, .int .i64 0]) ?_ 0 _ rfl; refine xpl ?_; refine blk_far ?_ aAo.out _; refine xpl ?_; refine blk_far ?_ aAo.out _; refine xpl ?_; refine blk_far ?_ aAo.out _; refine xpl ?_; exact qN.out⟩
        replace HB : Aside0 (Below w.heap.size w (((((bOm.setCell ⟨eO, 0, none⟩ (.int .i64 vI)).setCell ⟨eO, 1, none⟩ (.slice aJf uD.length aJg)).setCell ⟨eO, 2, none⟩ (.slice nG uE.length nC)).setCell ⟨iQ, 0, none⟩ (.int .i64 vT)).setCell ⟨iQ, 1, none⟩ (.int .i64 yR))) := xb HB
        generalize (((((bOm.setCell ⟨eO, 0, none⟩ (.int .i64 vI)).setCell ⟨eO, 1, none⟩ (.slice aJf uD.length aJg)).setCell ⟨eO, 2, none⟩ (.slice nG uE.length nC)).setCell ⟨iQ, 0, none⟩ (.int .i64 vT)).setCell ⟨iQ, 1, none⟩ (.int .i64 yR)) = eUt at nT jQ wC wD jD lW nO mR mP qN HB ⊢
        replace nT := aZ (Kd.rD nT.out)
        replace jQ := aZ (Kd.S_drew jQ.out)
        replace wC := aZ (Kd.rD wC.out)
        replace wD := aZ (Kd.rD wD.out)
        replace jD := aZ (bD jD.out)
        replace lW := aZ (bD lW.out)
        replace nO := aZ (bD nO.out)
        replace mR := aZ (bD mR.out)
        replace mP := aZ (bD mP.out)
        replace qN := aZ (bD qN.out)
        replace HB := aZ (lD HB.out)
        refine start_ (n := 14) (S := fun w' => w'.cell? ⟨iQ, 0, none⟩ = some (.int .i64 vT) ∧ w'.cell? ⟨iQ, 1, none⟩ = some (.int .i64 yR)) (ds := []) Z1 (by kernel_rfl) rfl rfl ⟨(blk_cell qN.out 0).trans rfl, (blk_cell qN.out 1).trans rfl⟩ (fun hHeld => ?_); refine with_tabW changeforgelaw3_PackRoundTrip.tab13 changeforgelaw3_PackRoundTrip.bits13 (fun HT_ HW_ => ?_)
        generalize eUt.drew = eUs at nT jQ wC wD jD lW nO mR mP qN HB hHeld ⊢
        refine pu 0 55 Z2 HT_ rfl rfl (h := ?_)
        refine tk 1 56 Z3 HT_ HW_ rfl rfl hHeld (by rintro w' ⟨s0, s1⟩; go_simp; with_reducible rfl) (h := ?_)
        refine pu 2 57 Z4 HT_ rfl rfl (h := ?_)
        refine pu 3 58 Z5 HT_ rfl rfl (h := ?_)
        refine pv 4 59 Z16 HT_ rfl rfl (h := ?_)
        refine pv 5 60 Z17 HT_ rfl rfl (h := ?_)
        refine pv 6 61 Z18 HT_ rfl rfl (h := ?_)
        refine pv 7 62 Z9 HT_ rfl rfl (h := ?_)
        refine pv 8 63 Z10 HT_ rfl rfl (h := ?_)
        refine pv 9 64 Z11 HT_ rfl rfl (h := ?_)
        refine pv 10 65 Z12 HT_ rfl rfl (h := ?_)
        refine pv 11 66 Z13 HT_ rfl rfl (h := ?_)
        refine pv 12 67 Z14 HT_ rfl rfl (h := ?_)
        refine pu 13 68 Z15 HT_ rfl rfl (h := ?_)
        refine done_ (done_of HT_.out (by kernel_rfl)) ?_
        try go_wp2
        go_ret
        exact ⟨xre, xq HB⟩
      rw [if_pos c47] at H
      have cTu : (vT == 0) = true := beq_iff_eq.mpr c47
      have eLg : (vT != 0) = false := bne_eq_false_iff_eq.mpr c47
      clear c47
      replace H := Option.bind_eq_some_iff.mp H
      obtain ⟨eA3, cPs, H⟩ := H
      replace H : (if eA3 = true then (changeforgelaw3_PackRoundTrip.l0 k2 aD4 (wrap64 (sP + 1)) aD) else (some false)) = some r := H
      have A48 := aZ cPs
      clear cPs
      by_cases c49 : eA3 = true
      rotate_left
      · replace c49 := Bool.eq_false_iff.mpr c49
        subst c49
        have H1 : (some false) = some r := by rw [if_neg (show ¬ (false = true) by decide)] at H; exact H
        clear H
        have H := H1
        clear H1
        obtain rfl := Option.some.inj H
        have bMy := aPo.out
        have bMz := aPp.out
        have bSx := bAm.out
        have bSy := bAn.out
        have bM7 := aVb.out
        have bM8 := aVc.out
        have bJe : wr.cell? ⟨aWz, 0, none⟩ = some (.slice bP aD.length bK) := (blk_cell jD.out 0).trans rfl
        have bJf := blk_frozen jD.out 0
        have cQ6 : 0 ≤ (sP : Int) := of_decide_eq_true xas
        have cQ7 : sP < (aD.length : Int) := of_decide_eq_true xas
        obtain ⟨aJp, eOd, eOe, eOf, eOg, eOh, bDp, bDq, bDr, bDs, bDt, bDu, bDv, bDw⟩ := gY fI.out sP cQ6 cQ7
        cases eOh
        replace bDp := xcl HB bDp
        replace bDq := xcl HB bDq
        replace bDr := xcl HB bDr
        replace bDs := xcl HB bDs
        have dXw := aZ bDu
        have dXx := aZ bDt
        clear bDu bDt
        have dXy := aZ bDw
        have dXz := aZ bDv
        clear bDw bDv
        replace cQ6 := eq_true cQ6
        replace cQ7 := eq_true cQ7
        try go_wp2_with (first | ((with_reducible refine gate_callee (f := 23) rfl ?_); refine goesL_ (some 52) rfl rfl Try.func23 (by kernel_rfl) rfl #[.slice aSk aD4.length aN0, .int .i64 ((aA aD sP).f0)] rfl xmp ?_; (with_reducible refine (pack_Lookup.calls k2 _ _ aD4 ((aA aD sP).f0) vI uD uE vT yR _ ?side1 ?side2 A46.out).mono ?_); (case side1 => repeat (first | exact (Kd.R_reads' nT.out).2.2 | (with_reducible refine Kd.C_alloc ?_ _) | (with_reducible refine Kd.C_drewN ?_ _) | (with_reducible refine Kd.C_drew ?_))); (case side2 => exact (Kd.R_reads' nT.out).2.1); rintro e w77 ⟨gQ8, gQ9, rfl, gZ, ho1, hb⟩; refine ⟨_, rfl, ?_⟩; replace jQ := aZ (Kd.S_mono (Kd.S_told (Kd.S_told (Kd.S_old (by (with_reducible repeat (first | apply Kd.S_alloc | apply Kd.S_drewN | apply Kd.S_drew)); exact jQ.out) hb) (Kd.R_base gZ)) (Kd.R_base ho1)) (fun _ h_ => h_.1)); have wC := aZ (Kd.R_lower gZ (lZ (by repeat (first | (with_reducible first | exact HB.out | apply lA | apply lN | apply lD | refine lS ?_ bL2.out | refine lS ?_ cBa.out | refine lS ?_ cQ4.out | refine lS ?_ cQ5.out) | exact HB.out)))); have wD := aZ (Kd.R_lower (Kd.R_new' ho1 (Kd.R_lt (by (with_reducible repeat (first | apply Kd.rA | apply Kd.rN | apply Kd.rD)); exact nT.out))) (lZ (by repeat (first | (with_reducible first | exact HB.out | apply lA | apply lN | apply lD | refine lS ?_ bL2.out | refine lS ?_ cBa.out | refine lS ?_ cQ4.out | refine lS ?_ cQ5.out) | exact HB.out)))); replace nT := aZ (Kd.R_elder' (by (with_reducible repeat (first | apply Kd.rA | apply Kd.rN | apply Kd.rD)); exact nT.out) (Kd.R_base ho1) hb); replace jD := xbb jD hb; replace lW := xbb lW hb; replace nO := xbb nO hb; replace mR := xbb mR hb; replace HB := xhl HB hb; (try clear hb); (try clear iV); (try clear hk); (try clear hi); (try clear gZ); (try clear ho1)) | ((with_reducible refine gate_dst (N := 8) rfl ?_); refine box_event ?hg (N := 8) ?hd (cs := #[.int .i64 0, .slice none 0 0, .slice none 0 0]) (t := 44) ?hr ?_; (case hd => rfl); (case hg => rfl); (case hr => first | (go_simp; done) | (go_simp; rfl)); intro eO hg w78 hbox hb; replace nT := xR nT hb; replace jQ := xS jQ hb; replace wC := xR wC hb; replace wD := xR wD hb; have mP := aZ (hbox); have fDp := xgh hg HB; have fDq := xgh hg HB; replace HB := xhl HB hb; have bHx := xnl hg jD; have bHy := xng hg jD; replace jD := xbb jD hb; have bHz := xnl hg lW; have bH0 := xng hg lW; replace lW := xbb lW hb; have bH1 := xnl hg nO; have bH2 := xng hg nO; replace nO := xbb nO hb; have bH3 := xnl hg mR; have bH4 := xng hg mR; replace mR := xbb mR hb; clear hb hbox hg) | ((with_reducible refine gate_dst (N := 9) rfl ?_); refine box_event ?hg (N := 9) ?hd (cs := #[.int .i64 0, .int .i64 0]) (t := 28) ?hr ?_; (case hd => rfl); (case hg => rfl); (case hr => first | (go_simp; done) | (go_simp; rfl)); intro iQ hg w79 hbox hb; replace nT := xR nT hb; replace jQ := xS jQ hb; replace wC := xR wC hb; replace wD := xR wD hb; have qN := aZ (hbox); have fDr := xgh hg HB; have fDs := xgh hg HB; replace HB := xhl HB hb; have bH5 := xnl hg jD; have bH6 := xng hg jD; replace jD := xbb jD hb; have bH7 := xnl hg lW; have bH8 := xng hg lW; replace lW := xbb lW hb; have bH9 := xnl hg nO; have bIa := xng hg nO; replace nO := xbb nO hb; have bIb := xnl hg mR; have bIc := xng hg mR; replace mR := xbb mR hb; have aFe := xnl hg mP; have aAo := xng hg mP; replace mP := xbb mP hb; clear hb hbox hg; have bWn := bHy.out; have bWo := bHx.out; have cNd := bH0.out; have cNe := bHz.out; have cNf := bH2.out; have cNg := bH1.out; have dEw := bH4.out; have dEx := bH3.out; have bM0 := aFe.out; have bM1 := aAo.out; have bP1 : w79.cell? ⟨eO, 0, none⟩ = some (.int .i64 0) := (blk_cell mP.out 0).trans rfl; have cKz : w79.cell? ⟨eO, 1, none⟩ = some (.slice none 0 0) := (blk_cell mP.out 1).trans rfl; have hFq : w79.cell? ⟨eO, 2, none⟩ = some (.slice none 0 0) := (blk_cell mP.out 2).trans rfl; have bP2 := blk_frozen mP.out 0; have cK0 := blk_frozen mP.out 1; have hFr := blk_frozen mP.out 2; obtain ⟨aQa, aQb, cR2⟩ := Kd.R_slice wC.out; subst cR2; obtain ⟨bB1, bB2, hYx⟩ := Kd.R_slice wD.out; subst hYx; have cOm := bH6.out; have cOn := bH5.out; have cOo := bH8.out; have cOp := bH7.out; have bYr := bIa.out; have bYs := bH9.out; have bWj := bIc.out; have bWk := bIb.out; have dUu : w79.cell? ⟨iQ, 0, none⟩ = some (.int .i64 0) := (blk_cell qN.out 0).trans rfl; have eZc : w79.cell? ⟨iQ, 1, none⟩ = some (.int .i64 0) := (blk_cell qN.out 1).trans rfl; have dUv := blk_frozen qN.out 0; have eZd := blk_frozen qN.out 1))
        replace nT : Aside0 (Kd.R (Kd.int .u8) 5 (((((w79.setCell ⟨eO, 0, none⟩ (.int .i64 vI)).setCell ⟨eO, 1, none⟩ (.slice aQa uD.length aQb)).setCell ⟨eO, 2, none⟩ (.slice bB1 uE.length bB2)).setCell ⟨iQ, 0, none⟩ (.int .i64 vT)).setCell ⟨iQ, 1, none⟩ (.int .i64 yR)) w.heap.size (fun k_ => some k_ ≠ (.slice bB1 uE.length bB2 : Value).ownBlock) (.slice aSk aD4.length aN0) aD4) := ⟨by (with_reducible repeat (first | apply Kd.rA | apply Kd.rN | apply Kd.rD)); exact Kd.R_mono (Kd.R_far (p := ⟨iQ, 1, none⟩) (Kd.R_far (p := ⟨iQ, 0, none⟩) (Kd.R_far (p := ⟨eO, 2, none⟩) (Kd.R_far (p := ⟨eO, 1, none⟩) (Kd.R_far (p := ⟨eO, 0, none⟩) (Kd.R_types (Kd.R_types nT.out mP.out (by decide)) qN.out (by decide)) (fun _ hk => hk.1.2) (.int .i64 vI)) (fun _ hk => hk.1.2) (.slice aQa uD.length aQb)) (fun _ hk => hk.1.2) (.slice bB1 uE.length bB2)) (fun _ hk => hk.2) (.int .i64 vT)) (fun _ hk => hk.2) (.int .i64 yR)) (fun _ hk => hk.1.1.2)⟩
        replace jQ : Aside0 (Kd.S qL 46 (((((w79.setCell ⟨eO, 0, none⟩ (.int .i64 vI)).setCell ⟨eO, 1, none⟩ (.slice aQa uD.length aQb)).setCell ⟨eO, 2, none⟩ (.slice bB1 uE.length bB2)).setCell ⟨iQ, 0, none⟩ (.int .i64 vT)).setCell ⟨iQ, 1, none⟩ (.int .i64 yR)) w.heap.size (fun k_ => some k_ ≠ (.slice aSk aD4.length aN0 : Value).ownBlock ∧ some k_ ≠ (.slice aQa uD.length aQb : Value).ownBlock ∧ some k_ ≠ (.slice bB1 uE.length bB2 : Value).ownBlock) (.slice bOl aWo.length bMd) aWo) := ⟨by (with_reducible repeat (first | apply Kd.S_alloc | apply Kd.S_drewN | apply Kd.S_drew)); exact Kd.S_mono (Kd.S_far (p := ⟨iQ, 1, none⟩) (Kd.S_far (p := ⟨iQ, 0, none⟩) (Kd.S_far (p := ⟨eO, 2, none⟩) (Kd.S_far (p := ⟨eO, 1, none⟩) (Kd.S_far (p := ⟨eO, 0, none⟩) (Kd.S_types (Kd.S_types jQ.out mP.out (by decide)) qN.out (by decide)) (fun _ hk => hk.1.2) (.int .i64 vI)) (fun _ hk => hk.1.2) (.slice aQa uD.length aQb)) (fun _ hk => hk.1.2) (.slice bB1 uE.length bB2)) (fun _ hk => hk.2) (.int .i64 vT)) (fun _ hk => hk.2) (.int .i64 yR)) (fun _ hk => ⟨hk.1.1.1.1, ⟨hk.1.1.1.2, hk.1.1.2⟩⟩)⟩
        replace wC : Aside0 (Kd.R (Kd.int .i64) 3 (((((w79.setCell ⟨eO, 0, none⟩ (.int .i64 vI)).setCell ⟨eO, 1, none⟩ (.slice aQa uD.length aQb)).setCell ⟨eO, 2, none⟩ (.slice bB1 uE.length bB2)).setCell ⟨iQ, 0, none⟩ (.int .i64 vT)).setCell ⟨iQ, 1, none⟩ (.int .i64 yR)) w.heap.size (fun _ => True) (.slice aQa uD.length aQb) uD) := ⟨by (with_reducible repeat (first | apply Kd.rA | apply Kd.rN | apply Kd.rD)); exact Kd.R_mono (Kd.R_far (p := ⟨iQ, 1, none⟩) (Kd.R_far (p := ⟨iQ, 0, none⟩) (Kd.R_far (p := ⟨eO, 2, none⟩) (Kd.R_far (p := ⟨eO, 1, none⟩) (Kd.R_far (p := ⟨eO, 0, none⟩) (Kd.R_types (Kd.R_types wC.out mP.out (by decide)) qN.out (by decide)) (fun _ hk => hk.1.2) (.int .i64 vI)) (fun _ hk => hk.1.2) (.slice aQa uD.length aQb)) (fun _ hk => hk.1.2) (.slice bB1 uE.length bB2)) (fun _ hk => hk.2) (.int .i64 vT)) (fun _ hk => hk.2) (.int .i64 yR)) (fun _ hk => trivial)⟩
        replace wD : Aside0 (Kd.R (Kd.int .u8) 5 (((((w79.setCell ⟨eO, 0, none⟩ (.int .i64 vI)).setCell ⟨eO, 1, none⟩ (.slice aQa uD.length aQb)).setCell ⟨eO, 2, none⟩ (.slice bB1 uE.length bB2)).setCell ⟨iQ, 0, none⟩ (.int .i64 vT)).setCell ⟨iQ, 1, none⟩ (.int .i64 yR)) w.heap.size (fun k_ => some k_ ≠ (.slice aSk aD4.length aN0 : Value).ownBlock) (.slice bB1 uE.length bB2) uE) := ⟨by (with_reducible repeat (first | apply Kd.rA | apply Kd.rN | apply Kd.rD)); exact Kd.R_mono (Kd.R_far (p := ⟨iQ, 1, none⟩) (Kd.R_far (p := ⟨iQ, 0, none⟩) (Kd.R_far (p := ⟨eO, 2, none⟩) (Kd.R_far (p := ⟨eO, 1, none⟩) (Kd.R_far (p := ⟨eO, 0, none⟩) (Kd.R_types (Kd.R_types wD.out mP.out (by decide)) qN.out (by decide)) (fun _ hk => hk.1.2) (.int .i64 vI)) (fun _ hk => hk.1.2) (.slice aQa uD.length aQb)) (fun _ hk => hk.1.2) (.slice bB1 uE.length bB2)) (fun _ hk => hk.2) (.int .i64 vT)) (fun _ hk => hk.2) (.int .i64 yR)) (fun _ hk => hk.1.1.2)⟩
        replace jD : Aside0 ((((((w79.setCell ⟨eO, 0, none⟩ (.int .i64 vI)).setCell ⟨eO, 1, none⟩ (.slice aQa uD.length aQb)).setCell ⟨eO, 2, none⟩ (.slice bB1 uE.length bB2)).setCell ⟨iQ, 0, none⟩ (.int .i64 vT)).setCell ⟨iQ, 1, none⟩ (.int .i64 yR)).heap[aWz]? = some (.cells #[.slice (some aJp) aD.length bK] 24 (0, 0))) := xk jD
        replace lW : Aside0 ((((((w79.setCell ⟨eO, 0, none⟩ (.int .i64 vI)).setCell ⟨eO, 1, none⟩ (.slice aQa uD.length aQb)).setCell ⟨eO, 2, none⟩ (.slice bB1 uE.length bB2)).setCell ⟨iQ, 0, none⟩ (.int .i64 vT)).setCell ⟨iQ, 1, none⟩ (.int .i64 yR)).heap[aWd]? = some (.cells #[.int .i64 bMc, .int .i64 cQ3] 28 (0, 0))) := xk lW
        replace nO : Aside0 ((((((w79.setCell ⟨eO, 0, none⟩ (.int .i64 vI)).setCell ⟨eO, 1, none⟩ (.slice aQa uD.length aQb)).setCell ⟨eO, 2, none⟩ (.slice bB1 uE.length bB2)).setCell ⟨iQ, 0, none⟩ (.int .i64 vT)).setCell ⟨iQ, 1, none⟩ (.int .i64 yR)).heap[bHv]? = some (.cells #[.slice bOl aWo.length bMd] 24 (0, 0))) := xk nO
        replace mR : Aside0 ((((((w79.setCell ⟨eO, 0, none⟩ (.int .i64 vI)).setCell ⟨eO, 1, none⟩ (.slice aQa uD.length aQb)).setCell ⟨eO, 2, none⟩ (.slice bB1 uE.length bB2)).setCell ⟨iQ, 0, none⟩ (.int .i64 vT)).setCell ⟨iQ, 1, none⟩ (.int .i64 yR)).heap[aNd]? = some (.cells #[.int .i64 bHu, .int .i64 cJc] 28 (0, 0))) := xk mR
        replace mP : Aside0 ((((((w79.setCell ⟨eO, 0, none⟩ (.int .i64 vI)).setCell ⟨eO, 1, none⟩ (.slice aQa uD.length aQb)).setCell ⟨eO, 2, none⟩ (.slice bB1 uE.length bB2)).setCell ⟨iQ, 0, none⟩ (.int .i64 vT)).setCell ⟨iQ, 1, none⟩ (.int .i64 yR)).heap[eO]? = some (.cells #[.int .i64 vI, .slice aQa uD.length aQb, .slice bB1 uE.length bB2] 44 (0, 0))) := ⟨by refine xpl ?_; refine blk_far ?_ aFe.out _; refine xpl ?_; refine blk_far ?_ aFe.out _; refine xpl ?_; refine blk_put (cs := #[.int .i64 vI, .slice aQa uD.length aQb, .slice none 0 0]) ?_ 2 _ rfl; refine xpl ?_; refine blk_put (cs := #[.int .i64 vI, .slice none 0 0, .slice none 0 0]) ?_ 1 _ rfl; refine xpl ?_; refine blk_put (cs := #[.int .i64 0, .slice none 0 0, .slice none 0 0]) ?_ 0 _ rfl; refine xpl ?_; exact mP.out⟩
        replace qN : Aside0 ((((((w79.setCell ⟨eO, 0, none⟩ (.int .i64 vI)).setCell ⟨eO, 1, none⟩ (.slice aQa uD.length aQb)).setCell ⟨eO, 2, none⟩ (.slice bB1 uE.length bB2)).setCell ⟨iQ, 0, none⟩ (.int .i64 vT)).setCell ⟨iQ, 1, none⟩ (.int .i64 yR)).heap[iQ]? = some (.cells #[.int .i64 vT, .int .i64 yR] 28 (0, 0))) := ⟨by refine xpl ?_; refine blk_put (cs := #[.int .i64 vT, .int .i64 0]) ?_ 1 _ rfl; refine xpl ?_; refine blk_put (cs := #[.int .i64 0, .int .i64 0]) ?_ 0 _ rfl; refine xpl ?_; refine blk_far ?_ aAo.out _; refine xpl ?_; refine blk_far ?_ aAo.out _; refine xpl ?_; refine blk_far ?_ aAo.out _; refine xpl ?_; exact qN.out⟩
        replace HB : Aside0 (Below w.heap.size w (((((w79.setCell ⟨eO, 0, none⟩ (.int .i64 vI)).setCell ⟨eO, 1, none⟩ (.slice aQa uD.length aQb)).setCell ⟨eO, 2, none⟩ (.slice bB1 uE.length bB2)).setCell ⟨iQ, 0, none⟩ (.int .i64 vT)).setCell ⟨iQ, 1, none⟩ (.int .i64 yR))) := xb HB
        generalize (((((w79.setCell ⟨eO, 0, none⟩ (.int .i64 vI)).setCell ⟨eO, 1, none⟩ (.slice aQa uD.length aQb)).setCell ⟨eO, 2, none⟩ (.slice bB1 uE.length bB2)).setCell ⟨iQ, 0, none⟩ (.int .i64 vT)).setCell ⟨iQ, 1, none⟩ (.int .i64 yR)) = w93 at nT jQ wC wD jD lW nO mR mP qN HB ⊢
        replace nT := aZ (Kd.rD nT.out)
        replace jQ := aZ (Kd.S_drew jQ.out)
        replace wC := aZ (Kd.rD wC.out)
        replace wD := aZ (Kd.rD wD.out)
        replace jD := aZ (bD jD.out)
        replace lW := aZ (bD lW.out)
        replace nO := aZ (bD nO.out)
        replace mR := aZ (bD mR.out)
        replace mP := aZ (bD mP.out)
        replace qN := aZ (bD qN.out)
        replace HB := aZ (lD HB.out)
        have dOf : 0 ≤ (sP : Int) := of_decide_eq_true xas
        have dOg : sP < (aD.length : Int) := of_decide_eq_true xas
        obtain ⟨eOi, cQ8, cQ9, cRa, cRb, fTn, aYc, aYd, aYe, aYf, cBb, cBc, cBd, cBe⟩ := gY fI.out sP dOf dOg
        have cBf := aYf
        have cBg := aYe
        have cBh := aYd
        have cBi := aYc
        obtain rfl : aJp = eOi := (by injection fTn)
        replace aYc := xcl HB aYc
        replace aYd := xcl HB aYd
        replace aYe := xcl HB aYe
        replace aYf := xcl HB aYf
        have cBj := aZ cBc
        have dCo := aZ cBb
        clear cBc cBb
        have cBk := aZ cBe
        have dCp := aZ cBd
        clear cBe cBd
        replace dOf := eq_true dOf
        replace dOg := eq_true dOg
        refine start_ (n := 14) (S := fun w' => w'.cell? ⟨iQ, 0, none⟩ = some (.int .i64 vT) ∧ w'.cell? ⟨iQ, 1, none⟩ = some (.int .i64 yR) ∧ w'.cell? ⟨eO, 0, none⟩ = some (.int .i64 vI) ∧ w'.cell? ⟨eO, 1, none⟩ = some (.slice aQa uD.length aQb) ∧ w'.cell? ⟨eO, 2, none⟩ = some (.slice bB1 uE.length bB2) ∧ w'.cell? ⟨aWz, 0, none⟩ = some (.slice (some aJp) aD.length bK) ∧ w'.cell? (aJp.add ((sP).toNat * 4)) = some (.int .i64 ((aA aD sP).f0)) ∧ w'.cell? ⟨(aJp.add ((sP).toNat * 4)).block, (aJp.add ((sP).toNat * 4)).off + 1, none⟩ = some (.int .i64 ((aA aD sP).f1.f0)) ∧ w'.cell? ⟨(aJp.add ((sP).toNat * 4)).block, (aJp.add ((sP).toNat * 4)).off + 2, none⟩ = some (.slice cQ8 ((aA aD sP).f1.f1).length cQ9) ∧ w'.cell? ⟨(aJp.add ((sP).toNat * 4)).block, (aJp.add ((sP).toNat * 4)).off + 3, none⟩ = some (.slice cRa ((aA aD sP).f1.f2).length cRb)) (ds := []) Z1 (by kernel_rfl) rfl rfl ⟨(blk_cell qN.out 0).trans rfl, (blk_cell qN.out 1).trans rfl, (blk_cell mP.out 0).trans rfl, (blk_cell mP.out 1).trans rfl, (blk_cell mP.out 2).trans rfl, (blk_cell jD.out 0).trans rfl, (xcl HB cBi), (xcl HB cBh), (xcl HB cBg), (xcl HB cBf)⟩ (fun hHeld => ?_); refine with_tabW changeforgelaw3_PackRoundTrip.tab13 changeforgelaw3_PackRoundTrip.bits13 (fun HT_ HW_ => ?_)
        generalize w93.drew = w94 at nT jQ wC wD jD lW nO mR mP qN HB cBj cBk aYc aYd aYe aYf hHeld ⊢
        refine pu 0 55 Z2 HT_ rfl rfl (h := ?_)
        refine tk 1 56 Z3 HT_ HW_ rfl rfl hHeld (by rintro w' ⟨s0, s1, s2, s3, s4, s5, s6, s7, s8, s9⟩; go_simp; with_reducible rfl) (h := ?_)
        refine pu 2 57 Z4 HT_ rfl rfl (h := ?_)
        refine pu 3 58 Z5 HT_ rfl rfl (h := ?_)
        refine pu 5 60 Z6 HT_ rfl rfl (h := ?_)
        refine pu 7 62 Z7 HT_ rfl rfl (h := ?_)
        refine tk 4 59 Z8 HT_ HW_ rfl rfl hHeld (by rintro w' ⟨s0, s1, s2, s3, s4, s5, s6, s7, s8, s9⟩; go_simp; with_reducible rfl) (h := ?_)
        refine tk 6 61 Z9 HT_ HW_ rfl rfl hHeld (by rintro w' ⟨s0, s1, s2, s3, s4, s5, s6, s7, s8, s9⟩; go_simp; with_reducible rfl) (h := ?_)
        refine pu 8 63 Z10 HT_ rfl rfl (h := ?_)
        refine pu 9 64 Z11 HT_ rfl rfl (h := ?_)
        refine tk 10 65 Z12 HT_ HW_ rfl rfl hHeld (by rintro w' ⟨s0, s1, s2, s3, s4, s5, s6, s7, s8, s9⟩; go_simp; with_reducible rfl) (h := ?_)
        refine one_ (i := 11) (N := some 66) Z13 rfl rfl (one_of HT_.out (by kernel_rfl)) (by decide) (fun K hK => ?_)
        refine goes_ Try.func24 (by kernel_rfl) rfl #[.agg #[.int .i64 vI, .slice aQa uD.length aQb, .slice bB1 uE.length bB2], .agg #[.int .i64 ((aA aD sP).f1.f0), .slice cQ8 ((aA aD sP).f1.f1).length cQ9, .slice cRa ((aA aD sP).f1.f2).length cRb]] (by rfl) rfl rfl xmp ?_
        with_reducible refine (aU.calls k2 vI _ _ uD _ _ uE ((aA aD sP).f1.f0) _ _ ((aA aD sP).f1.f1) _ _ ((aA aD sP).f1.f2) false _ ?side1 ?side2 ?side3 ?side4 ?side5 ?side6 ?side7 ?side8 A48.out).mono ?_
        (case side1 => repeat (first | exact (Kd.R_reads' wC.out).2.2 | (with_reducible refine Kd.C_alloc ?_ _) | (with_reducible refine Kd.C_drewN ?_ _) | (with_reducible refine Kd.C_drew ?_)))
        (case side2 => exact (Kd.R_reads' wC.out).2.1)
        (case side3 => repeat (first | exact (Kd.R_reads' wD.out).2.2 | (with_reducible refine Kd.C_alloc ?_ _) | (with_reducible refine Kd.C_drewN ?_ _) | (with_reducible refine Kd.C_drew ?_)))
        (case side4 => exact (Kd.R_reads' wD.out).2.1)
        (case side5 => exact xcb cBj HB)
        (case side6 => exact dCo.out)
        (case side7 => exact xcb cBk HB)
        (case side8 => exact dCp.out)
        rintro e w95 ⟨rfl, hb⟩
        refine ⟨_, rfl, ?_⟩
        replace nT := xR nT hb
        replace jQ := xS jQ hb
        replace wC := xR wC hb
        replace wD := xR wD hb
        replace jD := xbb jD hb
        replace lW := xbb lW hb
        replace nO := xbb nO hb
        replace mR := xbb mR hb
        replace mP := xbb mP hb
        replace qN := xbb qN hb
        replace HB := xhl HB hb
        (try clear hb)
        (try clear iV)
        (try clear hk)
        (try clear hi)
        refine hK.out _ _ ⟨(blk_cell qN.out 0).trans rfl, (blk_cell qN.out 1).trans rfl, (blk_cell mP.out 0).trans rfl, (blk_cell mP.out 1).trans rfl, (blk_cell mP.out 2).trans rfl, (blk_cell jD.out 0).trans rfl, (xcl HB cBi), (xcl HB cBh), (xcl HB cBg), (xcl HB cBf)⟩ (fun hHeld => ?_)
        clear hK K
        refine norm_ (a' := ?_) ?_ ?_
        rotate_left
        · show Act.put _ (some 66) _ = _
          simp only [Act.put, List.setIfInBounds_toArray, List.set_cons_zero, List.set_cons_succ, i64_w, i32_w]
          rfl
        refine pu 12 67 Z14 HT_ rfl rfl (h := ?_)
        refine pu 13 68 Z15 HT_ rfl rfl (h := ?_)
        refine done_ (done_of HT_.out (by kernel_rfl)) ?_
        try go_wp2
        go_ret
        exact ⟨xre, xq HB⟩
      subst c49
      have H1 : (changeforgelaw3_PackRoundTrip.l0 k2 aD4 (wrap64 (sP + 1)) aD) = some r := by rw [if_pos rfl] at H; exact H
      clear H
      have H := H1
      clear H1
      have H' := aZ H
      clear H
      have bSm := aPo.out
      have bSn := aPp.out
      have bVi := bAm.out
      have bVj := bAn.out
      have cTi := aVb.out
      have cTj := aVc.out
      have cVe : wr.cell? ⟨aWz, 0, none⟩ = some (.slice bP aD.length bK) := (blk_cell jD.out 0).trans rfl
      have cVf := blk_frozen jD.out 0
      have cQ6 : 0 ≤ (sP : Int) := of_decide_eq_true xas
      have cQ7 : sP < (aD.length : Int) := of_decide_eq_true xas
      obtain ⟨aJp, eOd, eOe, eOf, eOg, eOh, bDp, bDq, bDr, bDs, bDt, bDu, bDv, bDw⟩ := gY fI.out sP cQ6 cQ7
      cases eOh
      replace bDp := xcl HB bDp
      replace bDq := xcl HB bDq
      replace bDr := xcl HB bDr
      replace bDs := xcl HB bDs
      have dXw := aZ bDu
      have dXx := aZ bDt
      clear bDu bDt
      have dXy := aZ bDw
      have dXz := aZ bDv
      clear bDw bDv
      replace cQ6 := eq_true cQ6
      replace cQ7 := eq_true cQ7
      try go_wp2_with (first | ((with_reducible refine gate_callee (f := 23) rfl ?_); refine goesL_ (some 52) rfl rfl Try.func23 (by kernel_rfl) rfl #[.slice aSk aD4.length aN0, .int .i64 ((aA aD sP).f0)] rfl xmp ?_; (with_reducible refine (pack_Lookup.calls k2 _ _ aD4 ((aA aD sP).f0) vI uD uE vT yR _ ?side1 ?side2 A46.out).mono ?_); (case side1 => repeat (first | exact (Kd.R_reads' nT.out).2.2 | (with_reducible refine Kd.C_alloc ?_ _) | (with_reducible refine Kd.C_drewN ?_ _) | (with_reducible refine Kd.C_drew ?_))); (case side2 => exact (Kd.R_reads' nT.out).2.1); rintro e w54 ⟨gQ8, gQ9, rfl, gZ, ho1, hb⟩; refine ⟨_, rfl, ?_⟩; replace jQ := aZ (Kd.S_mono (Kd.S_told (Kd.S_told (Kd.S_old (by (with_reducible repeat (first | apply Kd.S_alloc | apply Kd.S_drewN | apply Kd.S_drew)); exact jQ.out) hb) (Kd.R_base gZ)) (Kd.R_base ho1)) (fun _ h_ => h_.1)); have wC := aZ (Kd.R_lower gZ (lZ (by repeat (first | (with_reducible first | exact HB.out | apply lA | apply lN | apply lD | refine lS ?_ bL2.out | refine lS ?_ cBa.out | refine lS ?_ cQ4.out | refine lS ?_ cQ5.out) | exact HB.out)))); have wD := aZ (Kd.R_lower (Kd.R_new' ho1 (Kd.R_lt (by (with_reducible repeat (first | apply Kd.rA | apply Kd.rN | apply Kd.rD)); exact nT.out))) (lZ (by repeat (first | (with_reducible first | exact HB.out | apply lA | apply lN | apply lD | refine lS ?_ bL2.out | refine lS ?_ cBa.out | refine lS ?_ cQ4.out | refine lS ?_ cQ5.out) | exact HB.out)))); replace nT := aZ (Kd.R_elder' (by (with_reducible repeat (first | apply Kd.rA | apply Kd.rN | apply Kd.rD)); exact nT.out) (Kd.R_base ho1) hb); replace jD := xbb jD hb; replace lW := xbb lW hb; replace nO := xbb nO hb; replace mR := xbb mR hb; replace HB := xhl HB hb; (try clear hb); (try clear iV); (try clear hk); (try clear hi); (try clear gZ); (try clear ho1)) | ((with_reducible refine gate_dst (N := 8) rfl ?_); refine box_event ?hg (N := 8) ?hd (cs := #[.int .i64 0, .slice none 0 0, .slice none 0 0]) (t := 44) ?hr ?_; (case hd => rfl); (case hg => rfl); (case hr => first | (go_simp; done) | (go_simp; rfl)); intro eO hg w55 hbox hb; replace nT := xR nT hb; replace jQ := xS jQ hb; replace wC := xR wC hb; replace wD := xR wD hb; have mP := aZ (hbox); have fDp := xgh hg HB; have fDq := xgh hg HB; replace HB := xhl HB hb; have bHx := xnl hg jD; have bHy := xng hg jD; replace jD := xbb jD hb; have bHz := xnl hg lW; have bH0 := xng hg lW; replace lW := xbb lW hb; have bH1 := xnl hg nO; have bH2 := xng hg nO; replace nO := xbb nO hb; have bH3 := xnl hg mR; have bH4 := xng hg mR; replace mR := xbb mR hb; clear hb hbox hg) | ((with_reducible refine gate_dst (N := 9) rfl ?_); refine box_event ?hg (N := 9) ?hd (cs := #[.int .i64 0, .int .i64 0]) (t := 28) ?hr ?_; (case hd => rfl); (case hg => rfl); (case hr => first | (go_simp; done) | (go_simp; rfl)); intro iQ hg w56 hbox hb; replace nT := xR nT hb; replace jQ := xS jQ hb; replace wC := xR wC hb; replace wD := xR wD hb; have qN := aZ (hbox); have fDr := xgh hg HB; have fDs := xgh hg HB; replace HB := xhl HB hb; have bH5 := xnl hg jD; have bH6 := xng hg jD; replace jD := xbb jD hb; have bH7 := xnl hg lW; have bH8 := xng hg lW; replace lW := xbb lW hb; have bH9 := xnl hg nO; have bIa := xng hg nO; replace nO := xbb nO hb; have bIb := xnl hg mR; have bIc := xng hg mR; replace mR := xbb mR hb; have aFe := xnl hg mP; have aAo := xng hg mP; replace mP := xbb mP hb; clear hb hbox hg; have cN6 := bHy.out; have cN7 := bHx.out; have cHr := bH0.out; have cHs := bHz.out; have cGy := bH2.out; have cGz := bH1.out; have bWt := bH4.out; have bWu := bH3.out; have dTa := aFe.out; have dTb := aAo.out; have eT9 : w56.cell? ⟨eO, 0, none⟩ = some (.int .i64 0) := (blk_cell mP.out 0).trans rfl; have hFs : w56.cell? ⟨eO, 1, none⟩ = some (.slice none 0 0) := (blk_cell mP.out 1).trans rfl; have hFt : w56.cell? ⟨eO, 2, none⟩ = some (.slice none 0 0) := (blk_cell mP.out 2).trans rfl; have eUa := blk_frozen mP.out 0; have hFu := blk_frozen mP.out 1; have hFv := blk_frozen mP.out 2; obtain ⟨aJd, aJe, fQb⟩ := Kd.R_slice wC.out; subst fQb; obtain ⟨bB3, bB4, hYy⟩ := Kd.R_slice wD.out; subst hYy; have bLk := bH6.out; have bLl := bH5.out; have bWg := bH8.out; have bWh := bH7.out; have cG8 := bIa.out; have cG9 := bH9.out; have dRf := bIc.out; have dRg := bIb.out; have eQr : w56.cell? ⟨iQ, 0, none⟩ = some (.int .i64 0) := (blk_cell qN.out 0).trans rfl; have eQs : w56.cell? ⟨iQ, 1, none⟩ = some (.int .i64 0) := (blk_cell qN.out 1).trans rfl; have eQt := blk_frozen qN.out 0; have eQu := blk_frozen qN.out 1))
      replace nT : Aside0 (Kd.R (Kd.int .u8) 5 (((((w56.setCell ⟨eO, 0, none⟩ (.int .i64 vI)).setCell ⟨eO, 1, none⟩ (.slice aJd uD.length aJe)).setCell ⟨eO, 2, none⟩ (.slice bB3 uE.length bB4)).setCell ⟨iQ, 0, none⟩ (.int .i64 vT)).setCell ⟨iQ, 1, none⟩ (.int .i64 yR)) w.heap.size (fun k_ => some k_ ≠ (.slice bB3 uE.length bB4 : Value).ownBlock) (.slice aSk aD4.length aN0) aD4) := ⟨by (with_reducible repeat (first | apply Kd.rA | apply Kd.rN | apply Kd.rD)); exact Kd.R_mono (Kd.R_far (p := ⟨iQ, 1, none⟩) (Kd.R_far (p := ⟨iQ, 0, none⟩) (Kd.R_far (p := ⟨eO, 2, none⟩) (Kd.R_far (p := ⟨eO, 1, none⟩) (Kd.R_far (p := ⟨eO, 0, none⟩) (Kd.R_types (Kd.R_types nT.out mP.out (by decide)) qN.out (by decide)) (fun _ hk => hk.1.2) (.int .i64 vI)) (fun _ hk => hk.1.2) (.slice aJd uD.length aJe)) (fun _ hk => hk.1.2) (.slice bB3 uE.length bB4)) (fun _ hk => hk.2) (.int .i64 vT)) (fun _ hk => hk.2) (.int .i64 yR)) (fun _ hk => hk.1.1.2)⟩
      replace jQ : Aside0 (Kd.S qL 46 (((((w56.setCell ⟨eO, 0, none⟩ (.int .i64 vI)).setCell ⟨eO, 1, none⟩ (.slice aJd uD.length aJe)).setCell ⟨eO, 2, none⟩ (.slice bB3 uE.length bB4)).setCell ⟨iQ, 0, none⟩ (.int .i64 vT)).setCell ⟨iQ, 1, none⟩ (.int .i64 yR)) w.heap.size (fun k_ => some k_ ≠ (.slice aSk aD4.length aN0 : Value).ownBlock ∧ some k_ ≠ (.slice aJd uD.length aJe : Value).ownBlock ∧ some k_ ≠ (.slice bB3 uE.length bB4 : Value).ownBlock) (.slice bOl aWo.length bMd) aWo) := ⟨by (with_reducible repeat (first | apply Kd.S_alloc | apply Kd.S_drewN | apply Kd.S_drew)); exact Kd.S_mono (Kd.S_far (p := ⟨iQ, 1, none⟩) (Kd.S_far (p := ⟨iQ, 0, none⟩) (Kd.S_far (p := ⟨eO, 2, none⟩) (Kd.S_far (p := ⟨eO, 1, none⟩) (Kd.S_far (p := ⟨eO, 0, none⟩) (Kd.S_types (Kd.S_types jQ.out mP.out (by decide)) qN.out (by decide)) (fun _ hk => hk.1.2) (.int .i64 vI)) (fun _ hk => hk.1.2) (.slice aJd uD.length aJe)) (fun _ hk => hk.1.2) (.slice bB3 uE.length bB4)) (fun _ hk => hk.2) (.int .i64 vT)) (fun _ hk => hk.2) (.int .i64 yR)) (fun _ hk => ⟨hk.1.1.1.1, ⟨hk.1.1.1.2, hk.1.1.2⟩⟩)⟩
      replace wC : Aside0 (Kd.R (Kd.int .i64) 3 (((((w56.setCell ⟨eO, 0, none⟩ (.int .i64 vI)).setCell ⟨eO, 1, none⟩ (.slice aJd uD.length aJe)).setCell ⟨eO, 2, none⟩ (.slice bB3 uE.length bB4)).setCell ⟨iQ, 0, none⟩ (.int .i64 vT)).setCell ⟨iQ, 1, none⟩ (.int .i64 yR)) w.heap.size (fun _ => True) (.slice aJd uD.length aJe) uD) := ⟨by (with_reducible repeat (first | apply Kd.rA | apply Kd.rN | apply Kd.rD)); exact Kd.R_mono (Kd.R_far (p := ⟨iQ, 1, none⟩) (Kd.R_far (p := ⟨iQ, 0, none⟩) (Kd.R_far (p := ⟨eO, 2, none⟩) (Kd.R_far (p := ⟨eO, 1, none⟩) (Kd.R_far (p := ⟨eO, 0, none⟩) (Kd.R_types (Kd.R_types wC.out mP.out (by decide)) qN.out (by decide)) (fun _ hk => hk.1.2) (.int .i64 vI)) (fun _ hk => hk.1.2) (.slice aJd uD.length aJe)) (fun _ hk => hk.1.2) (.slice bB3 uE.length bB4)) (fun _ hk => hk.2) (.int .i64 vT)) (fun _ hk => hk.2) (.int .i64 yR)) (fun _ hk => trivial)⟩
      replace wD : Aside0 (Kd.R (Kd.int .u8) 5 (((((w56.setCell ⟨eO, 0, none⟩ (.int .i64 vI)).setCell ⟨eO, 1, none⟩ (.slice aJd uD.length aJe)).setCell ⟨eO, 2, none⟩ (.slice bB3 uE.length bB4)).setCell ⟨iQ, 0, none⟩ (.int .i64 vT)).setCell ⟨iQ, 1, none⟩ (.int .i64 yR)) w.heap.size (fun k_ => some k_ ≠ (.slice aSk aD4.length aN0 : Value).ownBlock) (.slice bB3 uE.length bB4) uE) := ⟨by (with_reducible repeat (first | apply Kd.rA | apply Kd.rN | apply Kd.rD)); exact Kd.R_mono (Kd.R_far (p := ⟨iQ, 1, none⟩) (Kd.R_far (p := ⟨iQ, 0, none⟩) (Kd.R_far (p := ⟨eO, 2, none⟩) (Kd.R_far (p := ⟨eO, 1, none⟩) (Kd.R_far (p := ⟨eO, 0, none⟩) (Kd.R_types (Kd.R_types wD.out mP.out (by decide)) qN.out (by decide)) (fun _ hk => hk.1.2) (.int .i64 vI)) (fun _ hk => hk.1.2) (.slice aJd uD.length aJe)) (fun _ hk => hk.1.2) (.slice bB3 uE.length bB4)) (fun _ hk => hk.2) (.int .i64 vT)) (fun _ hk => hk.2) (.int .i64 yR)) (fun _ hk => hk.1.1.2)⟩
      replace jD : Aside0 ((((((w56.setCell ⟨eO, 0, none⟩ (.int .i64 vI)).setCell ⟨eO, 1, none⟩ (.slice aJd uD.length aJe)).setCell ⟨eO, 2, none⟩ (.slice bB3 uE.length bB4)).setCell ⟨iQ, 0, none⟩ (.int .i64 vT)).setCell ⟨iQ, 1, none⟩ (.int .i64 yR)).heap[aWz]? = some (.cells #[.slice (some aJp) aD.length bK] 24 (0, 0))) := xk jD
      replace lW : Aside0 ((((((w56.setCell ⟨eO, 0, none⟩ (.int .i64 vI)).setCell ⟨eO, 1, none⟩ (.slice aJd uD.length aJe)).setCell ⟨eO, 2, none⟩ (.slice bB3 uE.length bB4)).setCell ⟨iQ, 0, none⟩ (.int .i64 vT)).setCell ⟨iQ, 1, none⟩ (.int .i64 yR)).heap[aWd]? = some (.cells #[.int .i64 bMc, .int .i64 cQ3] 28 (0, 0))) := xk lW
      replace nO : Aside0 ((((((w56.setCell ⟨eO, 0, none⟩ (.int .i64 vI)).setCell ⟨eO, 1, none⟩ (.slice aJd uD.length aJe)).setCell ⟨eO, 2, none⟩ (.slice bB3 uE.length bB4)).setCell ⟨iQ, 0, none⟩ (.int .i64 vT)).setCell ⟨iQ, 1, none⟩ (.int .i64 yR)).heap[bHv]? = some (.cells #[.slice bOl aWo.length bMd] 24 (0, 0))) := xk nO
      replace mR : Aside0 ((((((w56.setCell ⟨eO, 0, none⟩ (.int .i64 vI)).setCell ⟨eO, 1, none⟩ (.slice aJd uD.length aJe)).setCell ⟨eO, 2, none⟩ (.slice bB3 uE.length bB4)).setCell ⟨iQ, 0, none⟩ (.int .i64 vT)).setCell ⟨iQ, 1, none⟩ (.int .i64 yR)).heap[aNd]? = some (.cells #[.int .i64 bHu, .int .i64 cJc] 28 (0, 0))) := xk mR
      replace mP : Aside0 ((((((w56.setCell ⟨eO, 0, none⟩ (.int .i64 vI)).setCell ⟨eO, 1, none⟩ (.slice aJd uD.length aJe)).setCell ⟨eO, 2, none⟩ (.slice bB3 uE.length bB4)).setCell ⟨iQ, 0, none⟩ (.int .i64 vT)).setCell ⟨iQ, 1, none⟩ (.int .i64 yR)).heap[eO]? = some (.cells #[.int .i64 vI, .slice aJd uD.length aJe, .slice bB3 uE.length bB4] 44 (0, 0))) := ⟨by refine xpl ?_; refine blk_far ?_ aFe.out _; refine xpl ?_; refine blk_far ?_ aFe.out _; refine xpl ?_; refine blk_put (cs := #[.int .i64 vI, .slice aJd uD.length aJe, .slice none 0 0]) ?_ 2 _ rfl; refine xpl ?_; refine blk_put (cs := #[.int .i64 vI, .slice none 0 0, .slice none 0 0]) ?_ 1 _ rfl; refine xpl ?_; refine blk_put (cs := #[.int .i64 0, .slice none 0 0, .slice none 0 0]) ?_ 0 _ rfl; refine xpl ?_; exact mP.out⟩
      replace qN : Aside0 ((((((w56.setCell ⟨eO, 0, none⟩ (.int .i64 vI)).setCell ⟨eO, 1, none⟩ (.slice aJd uD.length aJe)).setCell ⟨eO, 2, none⟩ (.slice bB3 uE.length bB4)).setCell ⟨iQ, 0, none⟩ (.int .i64 vT)).setCell ⟨iQ, 1, none⟩ (.int .i64 yR)).heap[iQ]? = some (.cells #[.int .i64 vT, .int .i64 yR] 28 (0, 0))) := ⟨by refine xpl ?_; refine blk_put (cs := #[.int .i64 vT, .int .i64 0]) ?_ 1 _ rfl; refine xpl ?_; refine blk_put (cs := #[.int .i64 0, .int .i64 0]) ?_ 0 _ rfl; refine xpl ?_; refine blk_far ?_ aAo.out _; refine xpl ?_; refine blk_far ?_ aAo.out _; refine xpl ?_; refine blk_far ?_ aAo.out _; refine xpl ?_; exact qN.out⟩
      replace HB : Aside0 (Below w.heap.size w (((((w56.setCell ⟨eO, 0, none⟩ (.int .i64 vI)).setCell ⟨eO, 1, none⟩ (.slice aJd uD.length aJe)).setCell ⟨eO, 2, none⟩ (.slice bB3 uE.length bB4)).setCell ⟨iQ, 0, none⟩ (.int .i64 vT)).setCell ⟨iQ, 1, none⟩ (.int .i64 yR))) := xb HB
      generalize (((((w56.setCell ⟨eO, 0, none⟩ (.int .i64 vI)).setCell ⟨eO, 1, none⟩ (.slice aJd uD.length aJe)).setCell ⟨eO, 2, none⟩ (.slice bB3 uE.length bB4)).setCell ⟨iQ, 0, none⟩ (.int .i64 vT)).setCell ⟨iQ, 1, none⟩ (.int .i64 yR)) = w70 at nT jQ wC wD jD lW nO mR mP qN HB ⊢
      replace nT := aZ (Kd.rD nT.out)
      replace jQ := aZ (Kd.S_drew jQ.out)
      replace wC := aZ (Kd.rD wC.out)
      replace wD := aZ (Kd.rD wD.out)
      replace jD := aZ (bD jD.out)
      replace lW := aZ (bD lW.out)
      replace nO := aZ (bD nO.out)
      replace mR := aZ (bD mR.out)
      replace mP := aZ (bD mP.out)
      replace qN := aZ (bD qN.out)
      replace HB := aZ (lD HB.out)
      have dOf : 0 ≤ (sP : Int) := of_decide_eq_true xas
      have dOg : sP < (aD.length : Int) := of_decide_eq_true xas
      obtain ⟨eOi, cQ8, cQ9, cRa, cRb, fTn, aYc, aYd, aYe, aYf, cBb, cBc, cBd, cBe⟩ := gY fI.out sP dOf dOg
      have cBf := aYf
      have cBg := aYe
      have cBh := aYd
      have cBi := aYc
      obtain rfl : aJp = eOi := (by injection fTn)
      replace aYc := xcl HB aYc
      replace aYd := xcl HB aYd
      replace aYe := xcl HB aYe
      replace aYf := xcl HB aYf
      have cBj := aZ cBc
      have dCo := aZ cBb
      clear cBc cBb
      have cBk := aZ cBe
      have dCp := aZ cBd
      clear cBe cBd
      replace dOf := eq_true dOf
      replace dOg := eq_true dOg
      refine start_ (n := 14) (S := fun w' => w'.cell? ⟨iQ, 0, none⟩ = some (.int .i64 vT) ∧ w'.cell? ⟨iQ, 1, none⟩ = some (.int .i64 yR) ∧ w'.cell? ⟨eO, 0, none⟩ = some (.int .i64 vI) ∧ w'.cell? ⟨eO, 1, none⟩ = some (.slice aJd uD.length aJe) ∧ w'.cell? ⟨eO, 2, none⟩ = some (.slice bB3 uE.length bB4) ∧ w'.cell? ⟨aWz, 0, none⟩ = some (.slice (some aJp) aD.length bK) ∧ w'.cell? (aJp.add ((sP).toNat * 4)) = some (.int .i64 ((aA aD sP).f0)) ∧ w'.cell? ⟨(aJp.add ((sP).toNat * 4)).block, (aJp.add ((sP).toNat * 4)).off + 1, none⟩ = some (.int .i64 ((aA aD sP).f1.f0)) ∧ w'.cell? ⟨(aJp.add ((sP).toNat * 4)).block, (aJp.add ((sP).toNat * 4)).off + 2, none⟩ = some (.slice cQ8 ((aA aD sP).f1.f1).length cQ9) ∧ w'.cell? ⟨(aJp.add ((sP).toNat * 4)).block, (aJp.add ((sP).toNat * 4)).off + 3, none⟩ = some (.slice cRa ((aA aD sP).f1.f2).length cRb)) (ds := []) Z1 (by kernel_rfl) rfl rfl ⟨(blk_cell qN.out 0).trans rfl, (blk_cell qN.out 1).trans rfl, (blk_cell mP.out 0).trans rfl, (blk_cell mP.out 1).trans rfl, (blk_cell mP.out 2).trans rfl, (blk_cell jD.out 0).trans rfl, (xcl HB cBi), (xcl HB cBh), (xcl HB cBg), (xcl HB cBf)⟩ (fun hHeld => ?_); refine with_tabW changeforgelaw3_PackRoundTrip.tab13 changeforgelaw3_PackRoundTrip.bits13 (fun HT_ HW_ => ?_)
      generalize w70.drew = w71 at nT jQ wC wD jD lW nO mR mP qN HB cBj cBk aYc aYd aYe aYf hHeld ⊢
      refine pu 0 55 Z2 HT_ rfl rfl (h := ?_)
      refine tk 1 56 Z3 HT_ HW_ rfl rfl hHeld (by rintro w' ⟨s0, s1, s2, s3, s4, s5, s6, s7, s8, s9⟩; go_simp; with_reducible rfl) (h := ?_)
      refine pu 2 57 Z4 HT_ rfl rfl (h := ?_)
      refine pu 3 58 Z5 HT_ rfl rfl (h := ?_)
      refine pu 5 60 Z6 HT_ rfl rfl (h := ?_)
      refine pu 7 62 Z7 HT_ rfl rfl (h := ?_)
      refine tk 4 59 Z8 HT_ HW_ rfl rfl hHeld (by rintro w' ⟨s0, s1, s2, s3, s4, s5, s6, s7, s8, s9⟩; go_simp; with_reducible rfl) (h := ?_)
      refine tk 6 61 Z9 HT_ HW_ rfl rfl hHeld (by rintro w' ⟨s0, s1, s2, s3, s4, s5, s6, s7, s8, s9⟩; go_simp; with_reducible rfl) (h := ?_)
      refine pu 8 63 Z10 HT_ rfl rfl (h := ?_)
      refine pu 9 64 Z11 HT_ rfl rfl (h := ?_)
      refine tk 10 65 Z12 HT_ HW_ rfl rfl hHeld (by rintro w' ⟨s0, s1, s2, s3, s4, s5, s6, s7, s8, s9⟩; go_simp; with_reducible rfl) (h := ?_)
      refine one_ (i := 11) (N := some 66) Z13 rfl rfl (one_of HT_.out (by kernel_rfl)) (by decide) (fun K hK => ?_)
      refine goes_ Try.func24 (by kernel_rfl) rfl #[.agg #[.int .i64 vI, .slice aJd uD.length aJe, .slice bB3 uE.length bB4], .agg #[.int .i64 ((aA aD sP).f1.f0), .slice cQ8 ((aA aD sP).f1.f1).length cQ9, .slice cRa ((aA aD sP).f1.f2).length cRb]] (by rfl) rfl rfl xmp ?_
      with_reducible refine (aU.calls k2 vI _ _ uD _ _ uE ((aA aD sP).f1.f0) _ _ ((aA aD sP).f1.f1) _ _ ((aA aD sP).f1.f2) true _ ?side1 ?side2 ?side3 ?side4 ?side5 ?side6 ?side7 ?side8 A48.out).mono ?_
      (case side1 => repeat (first | exact (Kd.R_reads' wC.out).2.2 | (with_reducible refine Kd.C_alloc ?_ _) | (with_reducible refine Kd.C_drewN ?_ _) | (with_reducible refine Kd.C_drew ?_)))
      (case side2 => exact (Kd.R_reads' wC.out).2.1)
      (case side3 => repeat (first | exact (Kd.R_reads' wD.out).2.2 | (with_reducible refine Kd.C_alloc ?_ _) | (with_reducible refine Kd.C_drewN ?_ _) | (with_reducible refine Kd.C_drew ?_)))
      (case side4 => exact (Kd.R_reads' wD.out).2.1)
      (case side5 => exact xcb cBj HB)
      (case side6 => exact dCo.out)
      (case side7 => exact xcb cBk HB)
      (case side8 => exact dCp.out)
      rintro e w72 ⟨rfl, hb⟩
      refine ⟨_, rfl, ?_⟩
      replace nT := xR nT hb
      replace jQ := xS jQ hb
      replace wC := xR wC hb
      replace wD := xR wD hb
      replace jD := xbb jD hb
      replace lW := xbb lW hb
      replace nO := xbb nO hb
      replace mR := xbb mR hb
      replace mP := xbb mP hb
      replace qN := xbb qN hb
      replace HB := xhl HB hb
      (try clear hb)
      (try clear iV)
      (try clear hk)
      (try clear hi)
      refine hK.out _ _ ⟨(blk_cell qN.out 0).trans rfl, (blk_cell qN.out 1).trans rfl, (blk_cell mP.out 0).trans rfl, (blk_cell mP.out 1).trans rfl, (blk_cell mP.out 2).trans rfl, (blk_cell jD.out 0).trans rfl, (xcl HB cBi), (xcl HB cBh), (xcl HB cBg), (xcl HB cBf)⟩ (fun hHeld => ?_)
      clear hK K
      refine norm_ (a' := ?_) ?_ ?_
      rotate_left
      · show Act.put _ (some 66) _ = _
        simp only [Act.put, List.setIfInBounds_toArray, List.set_cons_zero, List.set_cons_succ, i64_w, i32_w]
        rfl
      refine pu 12 67 Z14 HT_ rfl rfl (h := ?_)
      refine pu 13 68 Z15 HT_ rfl rfl (h := ?_)
      refine done_ (done_of HT_.out (by kernel_rfl)) ?_
      try go_wp2
      go_roundg k2
      case measure => have := HJ6.out; have := HK2.out; omega
      case rel => exact ⟨(wrap64 (sP + 1)), xrs, H', ⟨by have := HJ6.out; have := HK2.out; omega⟩, ⟨by (with_reducible repeat (first | apply Kd.rA | apply Kd.rN | apply Kd.rD)); exact Kd.R_mono nT.out (fun _ hk => trivial)⟩, ⟨by (with_reducible repeat (first | apply Kd.S_alloc | apply Kd.S_drewN | apply Kd.S_drew)); exact Kd.S_mono jQ.out (fun _ hk => hk.1)⟩, xk jD, xk lW, xk nO, xk mR, xb HB⟩
/-- THE PURE STATEMENT of changeforgelaw3_PackRoundTrip. -/
def changeforgelaw3_PackRoundTrip.Pure : Prop := ∀ (x0 : S24), S24.ok x0 → ∃ k, changeforgelaw3_PackRoundTrip.f k x0.f0 = some true

end Go.Proofs.Ytnmkmamobhkcbaa.P

/- The pure statement of PackRoundTrip. -/
namespace Go.Proofs.Ytnmkmamobhkcbaa.Pure
open Go.RowKit Go.Proofs.YtnmkmamobhkcbaaW.PrintWords Go.Proofs.YtnmkmamobhkcbaaW.PrintEv Go.Proofs.Ytnmkmamobhkcbaa.P Go.Proofs.Ytnmkmamobhkcbaa.Dig Go.Proofs.Ytnmkmamobhkcbaa.Obj
set_option linter.unusedVariables false
theorem found_at {l : List SO} (hs : Store l) {i j : Nat} (hi : i < l.length) {b : Bool} (hf : Obj.Found l (at_ l (i : Int)).f0 j b) : b = true ∧ j = i := by
  cases b with
  | false => exact absurd rfl (hf.no rfl (i : Int) (by omega) (by omega))
  | true =>
    obtain ⟨h1, h2⟩ := hf.yes rfl
    refine ⟨rfl, ?_⟩
    rcases Nat.lt_trichotomy j i with h | h | h
    · have := asc_all hs (i := (j : Int)) (j := (i : Int)) (by omega) (by omega) (by omega)
      omega
    · exact h
    · have := asc_all hs (i := (i : Int)) (j := (j : Int)) (by omega) (by omega) (by omega)
      omega
theorem PackRoundTrip : changeforgelaw3_PackRoundTrip.Pure := by
  intro s hs
  refine ev_ex ?_
  have hp := hs.2
  obtain ⟨l⟩ := s
  have hp : ∀ x ∈ l, fB.ok x := hp
  show Ev (fun k => changeforgelaw3_PackRoundTrip.f k l) true
  unfold changeforgelaw3_PackRoundTrip.f
  refine ev_bind pexample_ev (ev_pos rfl (ev_bind (build_ev hp) ?_))
  unfold pbR
  by_cases h : (sf l).1 ≠ 0
  · rw [if_pos h]
    exact ev_neg h (ev_now _)
  obtain ⟨e, hv⟩ := sf_zero (Decidable.not_not.1 h)
  rw [if_neg h]
  by_cases c : ((pkl l).length : Int) > 4088
  · rw [if_pos c]
    exact ev_neg (by decide) (ev_now _)
  rw [if_neg c]
  have hl := hv.len
  have hr := read_pk hp hv (by omega)
  have hR : Ev (fun k => pack_Read.f k (pkb l)) (l, 0, 0) := by
    unfold pack_Read.f
    exact ev_bind hr (ev_now _)
  have hnl : ∀ i : Int, 0 ≤ i → i < l.length → (((at_ l i).f1.f1.length : Int) ≤ 30) := fun i h0 h1 => (hv.good i h0 h1).1.nl
  have hst : Ev (fun k => aI.f k l l) true := stores_ev (by omega) (fun x hx => by
    obtain ⟨n, hn, rfl⟩ := List.mem_iff_getElem.1 hx
    have := hnl (n : Int) (by omega) (by omega)
    have e : at_ l (n : Int) = l[n] := rdOf_nat _ l hn
    rw [e] at this
    omega)
  have loop : ∀ (m i : Nat), i + m = l.length → Ev (fun k => changeforgelaw3_PackRoundTrip.l0 k (pkb l) (i : Int) l) true := by
    intro m
    induction m with
    | zero =>
      intro i hi
      refine Ev.step (fun k_ => by rw [changeforgelaw3_PackRoundTrip.l0]) ?_
      exact ev_neg (by omega) (ev_now _)
    | succ m ih =>
      intro i hi
      have next := ih (i + 1) (by omega)
      rw [show ((i + 1 : Nat) : Int) = (i : Int) + 1 by omega] at next
      have hd := dig_at hv (i := (i : Int)) (by omega) (by omega)
      have hG : Ev (fun k => objects_Get.f k l (at_ l (i : Int)).f0) ((at_ l (i : Int)).f1.f0, (at_ l (i : Int)).f1.f1, (at_ l (i : Int)).f1.f2, 0, 0) := by
        rcases has_ev hp (d := (at_ l (i : Int)).f0) (by omega) with ⟨h', _, _⟩ | ⟨_, _, j, b, hf, _, hg⟩
        · rw [e] at h'; exact absurd rfl h'
        · obtain ⟨rfl, rfl⟩ := found_at hv (by omega) hf
          exact hg
      have hL : Ev (fun k => pack_Lookup.f k (pkb l) (at_ l (i : Int)).f0) ((at_ l (i : Int)).f1.f0, (at_ l (i : Int)).f1.f1, (at_ l (i : Int)).f1.f2, 0, 0) := by
        unfold pack_Lookup.f
        exact ev_bind hR (ev_neg (by simp) (ev_bind hG (ev_now _)))
      refine Ev.step (fun k_ => by rw [changeforgelaw3_PackRoundTrip.l0]) ?_
      rw [w64 (x := (i : Int) + 1) (by omega)]
      exact ev_pos (by omega) (ev_pos (by omega) (ev_bind hL (ev_pos rfl (ev_bind (robjects_ev (Int.le_trans (hnl (i : Int) (by omega) (by omega)) (by decide))) (ev_pos (same_refl _ _ _) next)))))
  refine ev_pos rfl (ev_bind hR (ev_pos rfl (ev_bind hst ?_)))
  refine Ev.step (fun k_ => by rw [changeforgelaw3_PackRoundTrip.j0]) ?_
  exact ev_neg (by decide) (loop l.length 0 (by omega))
end Go.Proofs.Ytnmkmamobhkcbaa.Pure

/- The statement PackRoundTrip holds: for every input the law returns true and its arguments read as before. The row, out of the pure statement (PurePackRoundTrip) and the printed contract. -/
namespace Go.Proofs.Ytnmkmamobhkcbaa.packRoundTrip
open Go.ChangeShapes Go.WideShapes Go.ChangeAt Go.RowKit
open Go.ChangeMaps (open_string shut_string)
open Go.Proofs.YtnmkmamobhkcbaaW.PrintWords Go.Proofs.YtnmkmamobhkcbaaW.PrintOpen Go.Proofs.Ytnmkmamobhkcbaa.P
set_option linter.unusedVariables false
theorem own : ownKnob Try.prog.godebug = none := by kernel_rfl
theorem laidOut : laidOutB Try.prog = true := by kernel_rfl
set_option maxRecDepth 100000 in
theorem lifted (os : Os) (started : os.Started) (H : Type) (enc : TypeId × Value → H) :
    ReturnsInHanded {} Try.checked os 6 .any (Rows.packRoundTripSpec.pre6 enc Try.prog Try.f6 Rows.packRoundTripRow.domain false) (Rows.packRoundTripSpec.post enc Try.prog Try.f6 false true false false) := by
  refine returnsInHanded_of_change_sized (C := Try.checked) own started (by kernel_rfl) Try.func6
    (ChangeSpec.witness6 (enc := enc) (C := Try.checked) false ⟨#[], #[.agg #[.slice none 0 0]], []⟩ 8 (by kernel_rfl) (by kernel_rfl) (by kernel_rfl) (by kernel_rfl)) ?_
  intro W base args ds gs before aDj hW hcnd aQc _
  have hsz : (DataW.weightsEach Try.prog (Try.f6.params.toList ++ Rows.packRoundTripSpec.plain.varTypes Try.prog) (ds ++ gs)).all (· ≤ reachBytes) = true := aQc
  have hval : ∀ (j : Nat) t v, Try.f6.params[j]? = some t → args[j]? = some v → Value.okWide Try.prog W .any base t v := aDj
  have hW' := hW
  obtain ⟨p, q, hA0, hV, rfl, hfz, hnd⟩ := hW
  have hA : DataW.TrodAll enc Try.prog W 0 (fun _ => true) true Try.f6.params.toList args.toList ds p := hA0
  rw [Try.params6] at hA hval hsz
  obtain ⟨v0, vs0, d0, ds0, p0, q0, hargs, rfl, rfl, h0, r0⟩ := trodAll_cons hA
  obtain ⟨rfl, rfl, rfl⟩ := trodAll_nil r0
  obtain rfl : args = #[v0] := by cases args; simp_all
  obtain ⟨rfl, rfl⟩ := trodVars_none hV
  obtain ⟨cs0, rfl, _⟩ := okWide_struct Try.underlying24 (hval 0 24 v0 rfl rfl)
  have k0 := h0
  have lt0 : ∀ x ∈ p0, x.block < W.heap.size := by obtain ⟨m, hm⟩ := k0; exact DataW.trod_lt m _ _ _ hm
  obtain ⟨x0, hk0, y0⟩ := open_arg_struct aEm h0 (fits_arg hsz (j := 0) rfl rfl)
  obtain ⟨bUg, bUh, z0, nA, mZ⟩ := aDk hk0
  have z0_ := Array.toList_inj.1 (z0.trans (show _ = Array.toList #[.slice bUg x0.f0.length bUh] from rfl))
  subst z0_
  clear hA0 aDj aQc hsz
  obtain ⟨k, hp⟩ := Pure.PackRoundTrip x0 y0
  refine (P.changeforgelaw3_PackRoundTrip.calls k _ _ x0.f0 true W mZ nA hp).mono fun e W' ⟨he, bel⟩ => ?_
  subst he
  exact ⟨_, rfl, _, _, _, [], _, [], hW', trodAll_mk1 (shut_bool Try.underlying4 _), (trodAll_cons_mk (Below.trod laidOut (by kernel_rfl) (of_decide_eq_true (by kernel_rfl)) k0 bel lt0) trodAll_mk0), rfl, bel.frame _, fun h => by cases h⟩
theorem over : Rows.packRoundTripRow.holds Try.pinned (OpenSpec.ofChange Rows.packRoundTripSpec) :=
  OpenClaim.holds_of_wide 6 Try.f6 rfl rfl rfl rfl rfl rfl rfl ⟨rfl, rfl, rfl, rfl, rfl⟩ rfl rfl rfl rfl rfl (by kernel_rfl) Try.func6 (by kernel_rfl)
    (of_decide_eq_true (by kernel_rfl)) (by unfold Func.isWrapper; first | (rw [if_pos (by decide +kernel)]; kernel_rfl) | (rw [if_neg (by decide +kernel)]; exact ⟨rfl, rfl⟩))
    (fun os started H enc _ => lifted os started H enc)
theorem proved : Rows.PackRoundTripSaid := over
#print axioms proved
end Go.Proofs.Ytnmkmamobhkcbaa.packRoundTrip
namespace Go.Proofs.Ytnmkmamobhkcbaa
/-- The row, under a short name, for the claim. -/
theorem packRoundTrip_holds : Rows.PackRoundTripSaid := packRoundTrip.proved
end Go.Proofs.Ytnmkmamobhkcbaa
