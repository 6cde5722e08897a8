/- Texts of the proofs of ObjectsGetMatchesSpec: what the printed functions come to, plain laws, rows (no condition beyond the statements' own). -/
import Derived.Test.YtnmkmamobhkcbaaGP0
import Derived.Test.YtnmkmamobhkcbaaGP10
import Derived.Test.YtnmkmamobhkcbaaGP24
import Derived.Test.YtnmkmamobhkcbaaGP35
import Derived.Test.YtnmkmamobhkcbaaGP44
import Derived.Test.YtnmkmamobhkcbaaGP60
import Derived.Test.YtnmkmamobhkcbaaGP62
import Derived.Test.YtnmkmamobhkcbaaRows
import Derived.WalkKit
import Derived.ProofKit
import Derived.OpenShut
import Derived.ShutString
import Derived.ChangeOld
import Derived.Below
import Derived.SizedLaws
import Derived.Carry
namespace Go.Proofs.Ytnmkmamobhkcbaa.P
open Go.RowKit Go.Proofs.YtnmkmamobhkcbaaW.PrintWords Go.Proofs.YtnmkmamobhkcbaaW.PrintLast Go.Proofs.YtnmkmamobhkcbaaW.PrintMore
attribute [local go_sem] max2_int min2_int max_two min_two max_three min_three max_four min_four   -- for this text's walks alone
set_option linter.unusedVariables false
set_option linter.unusedSimpArgs false
section
attribute [local go_sem high] bAt
mutual
def changeforgelaw3_ObjectsGetMatchesSpec.j0 : Nat → Int → List (fB) → Option (Bool)
  | 0, _, _ => none
  | k + 1, x1, aVp => (objects_Has.f k aVp x1).bind fun cTh => ((objects_Get.f k aVp x1).bind fun aNu => ((aH.f k aVp).bind fun aVw => (if aVw.1 = 0 then (changeforgelaw3_ObjectsGetMatchesSpec.j1 k x1 cTh.1 aVp cTh.2.1 cTh.2.2 aNu.1 aNu.2.1 aNu.2.2.1 aNu.2.2.2.1 aNu.2.2.2.2) else (if (cTh.2.1 == aVw.1 && (cTh.2.2 == aVw.2)) = true then (if (aNu.2.2.2.1 == aVw.1 && (aNu.2.2.2.2 == aVw.2)) = true then (if cTh.1 = true then (some false) else ((aU.f k aNu.1 aNu.2.1 aNu.2.2.1 0 ([] : List Int) ([] : List Int)).bind fun cIs => (some cIs))) else (some false)) else (some false)))))
def changeforgelaw3_ObjectsGetMatchesSpec.j1 : Nat → Int → Bool → List (fB) → Int → Int → Int → List Int → List Int → Int → Int → Option (Bool)
  | 0, _, _, _, _, _, _, _, _, _, _ => none
  | k + 1, x1, x5, aVp, dSz, gYm, dS0, dS1, dS2, dS3, eTg => (bH.f k aVp x1).bind fun zU => (if zU < 0 then (if dSz = 0 then (if x5 = true then (some false) else ((aT.f 6 (-1)).bind fun cHo => (if (dS3 == cHo.1 && (eTg == cHo.2)) = true then ((aU.f k dS0 dS1 dS2 0 ([] : List Int) ([] : List Int)).bind fun cRt => (some cRt)) else (some false)))) else (some false)) else (if dSz = 0 then (if x5 = true then (if dS3 = 0 then (if 0 ≤ zU then (if zU < (aVp.length : Int) then ((aU.f k dS0 dS1 dS2 ((aA aVp zU).f1.f0) ((aA aVp zU).f1.f1) ((aA aVp zU).f1.f2)).bind fun dFx => (some dFx)) else (none)) else (none)) else (some false)) else (some false)) else (some false)))
end
def changeforgelaw3_ObjectsGetMatchesSpec.f (k : Nat) (aD : List (fB)) (a1 : Int) : Option (Bool) := (aW.f k).bind fun dLz => (if dLz = true then (changeforgelaw3_ObjectsGetMatchesSpec.j0 k a1 aD) else (some false))
theorem changeforgelaw3_ObjectsGetMatchesSpec.mono_l : ∀ k, (∀ y0 y1, LeO (changeforgelaw3_ObjectsGetMatchesSpec.j0 k y0 y1) (changeforgelaw3_ObjectsGetMatchesSpec.j0 (k + 1) y0 y1)) ∧ (∀ y0 y1 y2 y3 y4 y5 y6 y7 y8 y9, LeO (changeforgelaw3_ObjectsGetMatchesSpec.j1 k y0 y1 y2 y3 y4 y5 y6 y7 y8 y9) (changeforgelaw3_ObjectsGetMatchesSpec.j1 (k + 1) y0 y1 y2 y3 y4 y5 y6 y7 y8 y9))
  | 0 => ⟨fun _ _ r h => by simp [changeforgelaw3_ObjectsGetMatchesSpec.j0] at h, fun _ _ _ _ _ _ _ _ _ _ r h => by simp [changeforgelaw3_ObjectsGetMatchesSpec.j1] at h⟩
  | k + 1 => by
    obtain ⟨mU, ih1⟩ := changeforgelaw3_ObjectsGetMatchesSpec.mono_l k
    refine ⟨?_, ?_⟩
    all_goals intros; first | unfold changeforgelaw3_ObjectsGetMatchesSpec.j0 | unfold changeforgelaw3_ObjectsGetMatchesSpec.j1
    all_goals repeat' first | (with_reducible first | exact mU _ _ | exact ih1 _ _ _ _ _ _ _ _ _ _ | exact aW.mono _ | exact bH.mono _ _ _ | exact aU.mono _ _ _ _ _ _ _ | exact aH.mono _ _ | exact objects_Get.mono _ _ _ | exact objects_Has.mono _ _ _ | exact LeO.refl _ | exact LeO.none _ | refine LeO.ite ?_ ?_ | refine LeO.bind ?_ (fun _ => ?_)) | exact mU _ _ | exact ih1 _ _ _ _ _ _ _ _ _ _ | exact aW.mono _ | exact bH.mono _ _ _ | exact aU.mono _ _ _ _ _ _ _ | exact aH.mono _ _ | exact objects_Get.mono _ _ _ | exact objects_Has.mono _ _ _ | exact LeO.none _ | refine LeO.ite ?_ ?_ | refine LeO.bind ?_ (fun _ => ?_)
theorem changeforgelaw3_ObjectsGetMatchesSpec.mono : ∀ a0 a1 k, LeO (changeforgelaw3_ObjectsGetMatchesSpec.f k a0 a1) (changeforgelaw3_ObjectsGetMatchesSpec.f (k + 1) a0 a1) := by
  intro a0 a1 k
  obtain ⟨mU, ih1⟩ := changeforgelaw3_ObjectsGetMatchesSpec.mono_l k
  unfold changeforgelaw3_ObjectsGetMatchesSpec.f
  repeat' first | (with_reducible first | exact mU _ _ | exact ih1 _ _ _ _ _ _ _ _ _ _ | exact aW.mono _ | exact bH.mono _ _ _ | exact aU.mono _ _ _ _ _ _ _ | exact aH.mono _ _ | exact objects_Get.mono _ _ _ | exact objects_Has.mono _ _ _ | exact LeO.refl _ | exact LeO.none _ | refine LeO.ite ?_ ?_ | refine LeO.bind ?_ (fun _ => ?_)) | exact mU _ _ | exact ih1 _ _ _ _ _ _ _ _ _ _ | exact aW.mono _ | exact bH.mono _ _ _ | exact aU.mono _ _ _ _ _ _ _ | exact aH.mono _ _ | exact objects_Get.mono _ _ _ | exact objects_Has.mono _ _ _ | exact LeO.none _ | refine LeO.ite ?_ ?_ | refine LeO.bind ?_ (fun _ => ?_)
def changeforgelaw3_ObjectsGetMatchesSpec.T10 : Bool × List (List Nat × List Nat) := (true, [([], []), ([0], [0]), ([1], [1]), ([2], [2]), ([3], [3]), ([4, 3], [3, 4]), ([3, 5], [3, 5]), ([6, 3], [6]), ([7], [7]), ([7, 7], [7]), ([8, 9, 7], [7, 8, 9]), ([7, 10], [7, 10]), ([11, 9], [11]), ([12], [12]), ([12], [12]), ([13, 14, 12, 12], [12, 13, 14]), ([12, 15], [12, 15]), ([16, 15, 0, 1, 2, 3, 4, 5, 6, 7, 8, 9, 10, 11, 12, 13, 14, 15, 16], [16])])
def changeforgelaw3_ObjectsGetMatchesSpec.B10 : List Nat := [0, 1, 3, 7, 15, 31, 63, 127, 255, 255, 1023, 2047, 4095, 8191, 8191, 32767, 65535, 131071]
theorem changeforgelaw3_ObjectsGetMatchesSpec.tab10 : rtab .any (opsOf Try.f11 10) = changeforgelaw3_ObjectsGetMatchesSpec.T10 := by kernel_rfl
theorem changeforgelaw3_ObjectsGetMatchesSpec.bits10 : waitsOk changeforgelaw3_ObjectsGetMatchesSpec.T10.2 changeforgelaw3_ObjectsGetMatchesSpec.B10 = true := by kernel_rfl
def changeforgelaw3_ObjectsGetMatchesSpec.T11 : Bool × List (List Nat × List Nat) := (true, [([], []), ([0], [0]), ([1], [1]), ([2], [2]), ([3], [3]), ([3, 4], [3, 4]), ([5, 3], [5]), ([6], [6]), ([7, 6], [6, 7]), ([8, 6], [6, 8]), ([6, 9], [6, 9]), ([10, 6], [10]), ([11], [11]), ([11], [11]), ([13, 11], [11, 13]), ([11], [11]), ([14, 15, 11], [11, 14, 15]), ([16, 11], [11, 16]), ([17, 11], [11, 17]), ([12, 18, 11, 11], [11, 12, 18]), ([11, 19], [11, 19]), ([20, 19, 0, 1, 2, 3, 4, 5, 6, 7, 8, 9, 10, 11, 12, 13, 14, 15, 16, 17, 18, 19, 20], [20])])
def changeforgelaw3_ObjectsGetMatchesSpec.B11 : List Nat := [0, 1, 3, 7, 15, 31, 63, 127, 255, 511, 1023, 2047, 4095, 4095, 12287, 4095, 61439, 126975, 258047, 524287, 1048575, 2097151]
theorem changeforgelaw3_ObjectsGetMatchesSpec.tab11 : rtab .any (opsOf Try.f11 11) = changeforgelaw3_ObjectsGetMatchesSpec.T11 := by kernel_rfl
theorem changeforgelaw3_ObjectsGetMatchesSpec.bits11 : waitsOk changeforgelaw3_ObjectsGetMatchesSpec.T11.2 changeforgelaw3_ObjectsGetMatchesSpec.B11 = true := by kernel_rfl
abbrev changeforgelaw3_ObjectsGetMatchesSpec.Z1 : Array Bool := #[U,U,U,U,U,U,U,U,U,U,U,U,U,U,U,U,U,U]
abbrev changeforgelaw3_ObjectsGetMatchesSpec.Z2 : Array Bool := #[J,U,U,U,U,U,U,U,U,U,U,U,U,U,U,U,U,U]
abbrev changeforgelaw3_ObjectsGetMatchesSpec.Z3 : Array Bool := #[J,J,U,U,U,U,U,U,U,U,U,U,U,U,U,U,U,U]
abbrev changeforgelaw3_ObjectsGetMatchesSpec.Z4 : Array Bool := #[J,J,J,U,U,U,U,U,U,U,U,U,U,U,U,U,U,U]
abbrev changeforgelaw3_ObjectsGetMatchesSpec.Z5 : Array Bool := #[J,J,J,J,U,U,U,U,U,U,U,U,U,U,U,U,U,U]
abbrev changeforgelaw3_ObjectsGetMatchesSpec.Z6 : Array Bool := #[J,J,J,J,J,U,U,U,U,U,U,U,U,U,U,U,U,U]
abbrev changeforgelaw3_ObjectsGetMatchesSpec.Z7 : Array Bool := #[J,J,J,J,J,J,U,U,U,U,U,U,U,U,U,U,U,U]
abbrev changeforgelaw3_ObjectsGetMatchesSpec.Z8 : Array Bool := #[J,J,J,J,J,J,J,U,U,U,U,U,U,U,U,U,U,U]
abbrev changeforgelaw3_ObjectsGetMatchesSpec.Z9 : Array Bool := #[J,J,J,J,J,J,J,J,U,U,U,U,U,U,U,U,U,U]
abbrev changeforgelaw3_ObjectsGetMatchesSpec.Z10 : Array Bool := #[J,J,J,J,J,J,J,J,J,U,U,U,U,U,U,U,U,U]
abbrev changeforgelaw3_ObjectsGetMatchesSpec.Z11 : Array Bool := #[J,J,J,J,J,J,J,J,J,J,U,U,U,U,U,U,U,U]
abbrev changeforgelaw3_ObjectsGetMatchesSpec.Z12 : Array Bool := #[J,J,J,J,J,J,J,J,J,J,J,U,U,U,U,U,U,U]
abbrev changeforgelaw3_ObjectsGetMatchesSpec.Z13 : Array Bool := #[J,J,J,J,J,J,J,J,J,J,J,J,U,U,U,U,U,U]
abbrev changeforgelaw3_ObjectsGetMatchesSpec.Z14 : Array Bool := #[J,J,J,J,J,J,J,J,J,J,J,J,J,U,U,U,U,U]
abbrev changeforgelaw3_ObjectsGetMatchesSpec.Z15 : Array Bool := #[J,J,J,J,J,J,J,J,J,J,J,J,J,J,U,U,U,U]
abbrev changeforgelaw3_ObjectsGetMatchesSpec.Z16 : Array Bool := #[J,J,J,J,J,J,J,J,J,J,J,J,J,J,J,U,U,U]
abbrev changeforgelaw3_ObjectsGetMatchesSpec.Z17 : Array Bool := #[J,J,J,J,J,J,J,J,J,J,J,J,J,J,J,J,U,U]
abbrev changeforgelaw3_ObjectsGetMatchesSpec.Z18 : Array Bool := #[J,J,J,J,J,J,J,J,J,J,J,J,J,J,J,J,J,U]
abbrev changeforgelaw3_ObjectsGetMatchesSpec.Z19 : Array Bool := #[J,J,J,J,J,J,J,J,J,J,J,J,J,J,J,J,J,J]
abbrev changeforgelaw3_ObjectsGetMatchesSpec.Z20 : Array Bool := #[J,J,J,J,J,J,J,J,J,J,J,J,J,U,J,U,U,U]
abbrev changeforgelaw3_ObjectsGetMatchesSpec.Z21 : Array Bool := #[U,U,U,U,U,U,U,U,U,U,U,U,U,U,U,U,U,U,U,U,U,U]
abbrev changeforgelaw3_ObjectsGetMatchesSpec.Z22 : Array Bool := #[J,U,U,U,U,U,U,U,U,U,U,U,U,U,U,U,U,U,U,U,U,U]
abbrev changeforgelaw3_ObjectsGetMatchesSpec.Z23 : Array Bool := #[J,J,U,U,U,U,U,U,U,U,U,U,U,U,U,U,U,U,U,U,U,U]
abbrev changeforgelaw3_ObjectsGetMatchesSpec.Z24 : Array Bool := #[J,J,J,U,U,U,U,U,U,U,U,U,U,U,U,U,U,U,U,U,U,U]
abbrev changeforgelaw3_ObjectsGetMatchesSpec.Z25 : Array Bool := #[J,J,J,J,U,U,U,U,U,U,U,U,U,U,U,U,U,U,U,U,U,U]
abbrev changeforgelaw3_ObjectsGetMatchesSpec.Z26 : Array Bool := #[J,J,J,J,J,U,U,U,U,U,U,U,U,U,U,U,U,U,U,U,U,U]
abbrev changeforgelaw3_ObjectsGetMatchesSpec.Z27 : Array Bool := #[J,J,J,J,J,J,U,U,U,U,U,U,U,U,U,U,U,U,U,U,U,U]
abbrev changeforgelaw3_ObjectsGetMatchesSpec.Z28 : Array Bool := #[J,J,J,J,J,J,J,U,U,U,U,U,U,U,U,U,U,U,U,U,U,U]
abbrev changeforgelaw3_ObjectsGetMatchesSpec.Z29 : Array Bool := #[J,J,J,J,J,J,J,J,U,U,U,U,U,U,U,U,U,U,U,U,U,U]
abbrev changeforgelaw3_ObjectsGetMatchesSpec.Z30 : Array Bool := #[J,J,J,J,J,J,J,J,J,U,U,U,U,U,U,U,U,U,U,U,U,U]
abbrev changeforgelaw3_ObjectsGetMatchesSpec.Z31 : Array Bool := #[J,J,J,J,J,J,J,J,J,J,U,U,U,U,U,U,U,U,U,U,U,U]
abbrev changeforgelaw3_ObjectsGetMatchesSpec.Z32 : Array Bool := #[J,J,J,J,J,J,J,J,J,J,J,U,U,U,U,U,U,U,U,U,U,U]
abbrev changeforgelaw3_ObjectsGetMatchesSpec.Z33 : Array Bool := #[J,J,J,J,J,J,J,J,J,J,J,J,U,U,U,U,U,U,U,U,U,U]
abbrev changeforgelaw3_ObjectsGetMatchesSpec.Z34 : Array Bool := #[J,J,J,J,J,J,J,J,J,J,J,J,U,J,U,U,U,U,U,U,U,U]
abbrev changeforgelaw3_ObjectsGetMatchesSpec.Z35 : Array Bool := #[J,J,J,J,J,J,J,J,J,J,J,J,U,J,U,J,U,U,U,U,U,U]
abbrev changeforgelaw3_ObjectsGetMatchesSpec.Z36 : Array Bool := #[J,J,J,J,J,J,J,J,J,J,J,J,J,J,U,J,U,U,U,U,U,U]
abbrev changeforgelaw3_ObjectsGetMatchesSpec.Z37 : Array Bool := #[J,J,J,J,J,J,J,J,J,J,J,J,J,J,J,J,U,U,U,U,U,U]
abbrev changeforgelaw3_ObjectsGetMatchesSpec.Z38 : Array Bool := #[J,J,J,J,J,J,J,J,J,J,J,J,J,J,J,J,J,U,U,U,U,U]
abbrev changeforgelaw3_ObjectsGetMatchesSpec.Z39 : Array Bool := #[J,J,J,J,J,J,J,J,J,J,J,J,J,J,J,J,J,J,U,U,U,U]
abbrev changeforgelaw3_ObjectsGetMatchesSpec.Z40 : Array Bool := #[J,J,J,J,J,J,J,J,J,J,J,J,J,J,J,J,J,J,J,U,U,U]
abbrev changeforgelaw3_ObjectsGetMatchesSpec.Z41 : Array Bool := #[J,J,J,J,J,J,J,J,J,J,J,J,J,J,J,J,J,J,J,J,U,U]
abbrev changeforgelaw3_ObjectsGetMatchesSpec.Z42 : Array Bool := #[J,J,J,J,J,J,J,J,J,J,J,J,J,J,J,J,J,J,J,J,J,U]
abbrev changeforgelaw3_ObjectsGetMatchesSpec.Z43 : Array Bool := #[J,J,J,J,J,J,J,J,J,J,J,J,J,J,J,J,J,J,J,J,J,J]
abbrev changeforgelaw3_ObjectsGetMatchesSpec.Z44 : Array Bool := #[J,J,J,J,J,J,J,J,J,J,J,J,J,U,U,U,U,U,U,U,U,U]
abbrev changeforgelaw3_ObjectsGetMatchesSpec.Z45 : Array Bool := #[J,J,J,J,J,J,J,J,J,J,J,J,J,J,U,U,U,U,U,U,U,U]
abbrev changeforgelaw3_ObjectsGetMatchesSpec.Z46 : Array Bool := #[J,J,J,J,J,J,J,J,J,J,J,J,J,J,J,U,U,U,U,U,U,U]
set_option maxHeartbeats 8000000 in
set_option maxRecDepth 100000 in
theorem changeforgelaw3_ObjectsGetMatchesSpec.calls (k : Nat) (bP : Option Addr) (bK : Nat) (aD : List (fB)) (a1 : Int) (r : Bool) (w : World) (mZ : Kd.C qL w bP aD.length aD) (nA : aD.length ≤ bK) (h : changeforgelaw3_ObjectsGetMatchesSpec.f k aD a1 = some r) :
  Calls Try.prog 11 #[.agg #[.slice bP aD.length bK], .int .i64 a1] w fun e w' => e = .returned (.bool r) ∧ Below w.heap.size w w' := by
  have aP7 := Try.underlying24
  have aQg := Try.underlying28
  have aQf := Try.underlying44
  have fI := aZ mZ
  have lC := aZ nA
  clear mZ nA
  have HB := aZ (Below.refl w.heap.size w)
  have H : ((aW.f k).bind fun dLz => (if dLz = true then (changeforgelaw3_ObjectsGetMatchesSpec.j0 k a1 aD) else (some false))) = some r := h
  clear h
  replace H := Option.bind_eq_some_iff.mp H
  obtain ⟨dLz, A30, H⟩ := H
  replace H : (if dLz = true then (changeforgelaw3_ObjectsGetMatchesSpec.j0 k a1 aD) else (some false)) = some r := H
  have A3 := aZ A30
  clear A30
  have HC4 := aZ H
  clear H
  go_enter Try.func11, Try.ntmps11
  go_upto_if 12 with (first | ((with_reducible refine gate_dst (N := 2) rfl ?_); refine box_event ?hg (N := 2) ?hd (cs := #[.slice bP aD.length bK]) (t := 24) ?hr ?_; (case hd => rfl); (case hg => rfl); (case hr => first | (go_simp; done) | (go_simp; rfl)); intro bCx hg w5 hbox hb; have jP := aZ (hbox); have iCf := xgh hg HB; have dS4 := xgh hg HB; replace HB := xhl HB hb; clear hb hbox hg) | ((with_reducible refine gate_callee (f := 28) rfl ?_); refine goesL_ (some 11) rfl rfl Try.func28 (by kernel_rfl) rfl #[] rfl xmp ?_; (with_reducible refine (aW.calls k  dLz _ A3.out).mono ?_); rintro e w6 ⟨rfl, hb⟩; refine ⟨_, rfl, ?_⟩; replace jP := xbb jP hb; replace HB := xhl HB hb; skip; (try clear hb); (try clear iV); (try clear hk); (try clear hi)))
  (try simp only [Act.put, List.setIfInBounds_toArray, List.set_cons_zero, List.set_cons_succ])
  go_cut [] (fun wc => ∃ (kq : Nat), Aside0 (changeforgelaw3_ObjectsGetMatchesSpec.j0 kq a1 aD = some r) ∧ Aside0 (kq ≤ k) ∧ Aside0 (wc.heap[bCx]? = some (.cells #[(.slice bP aD.length bK)] 24 (0, 0))) ∧ Aside0 (Below w.heap.size w wc))
  case first =>
   have H := HC4.out
   clear HC4
   by_cases c7 : dLz = true
   rotate_left
   · replace c7 := Bool.eq_false_iff.mpr c7
     subst c7
     have H1 : (some false) = some r := by rw [if_neg (show ¬ (false = true) by decide)] at H; exact H
     clear H
     have H := H1
     clear H1
     as_aux_lemma =>
      obtain rfl := Option.some.inj H
      go_wp2
      go_ret
      exact ⟨xre, xq HB⟩
   subst c7
   have H1 : (changeforgelaw3_ObjectsGetMatchesSpec.j0 k a1 aD) = some r := by rw [if_pos rfl] at H; exact H
   clear H
   have H := H1
   clear H1
   as_aux_lemma =>
    have H' := aZ H
    clear H
    go_wp2
    go_meet
    case rel => exact ⟨_, H', ⟨by first | omega | exact Nat.le_refl _⟩, xk jP, xb HB⟩
  case rest =>
   clear HC4
   obtain ⟨kq, HA, HJ3, jP, HB⟩ := hcut
   cases kq with
   | zero => exact absurd HA.out (by simp [changeforgelaw3_ObjectsGetMatchesSpec.j0])
   | succ kj3 =>
    have H := HA.out
    clear HA
    simp only [changeforgelaw3_ObjectsGetMatchesSpec.j0] at H
    replace H := Option.bind_eq_some_iff.mp H
    obtain ⟨⟨cDv, aD3, aP9⟩, A80, H⟩ := H
    replace H : ((objects_Get.f kj3 aD a1).bind fun aNu => ((aH.f kj3 aD).bind fun aVw => (if aVw.1 = 0 then (changeforgelaw3_ObjectsGetMatchesSpec.j1 kj3 a1 cDv aD aD3 aP9 aNu.1 aNu.2.1 aNu.2.2.1 aNu.2.2.2.1 aNu.2.2.2.2) else (if (aD3 == aVw.1 && (aP9 == aVw.2)) = true then (if (aNu.2.2.2.1 == aVw.1 && (aNu.2.2.2.2 == aVw.2)) = true then (if cDv = true then (some false) else ((aU.f kj3 aNu.1 aNu.2.1 aNu.2.2.1 0 ([] : List Int) ([] : List Int)).bind fun cIs => (some cIs))) else (some false)) else (some false))))) = some r := H
    have A8 := aZ A80
    clear A80
    replace H := Option.bind_eq_some_iff.mp H
    obtain ⟨⟨aVx, aSh, aTe, aDs, aIt⟩, A90, H⟩ := H
    replace H : ((aH.f kj3 aD).bind fun aVw => (if aVw.1 = 0 then (changeforgelaw3_ObjectsGetMatchesSpec.j1 kj3 a1 cDv aD aD3 aP9 aVx aSh aTe aDs aIt) else (if (aD3 == aVw.1 && (aP9 == aVw.2)) = true then (if (aDs == aVw.1 && (aIt == aVw.2)) = true then (if cDv = true then (some false) else ((aU.f kj3 aVx aSh aTe 0 ([] : List Int) ([] : List Int)).bind fun cIs => (some cIs))) else (some false)) else (some false)))) = some r := H
    have A9 := aZ A90
    clear A90
    replace H := Option.bind_eq_some_iff.mp H
    obtain ⟨⟨aI7, aTf⟩, dFy, H⟩ := H
    replace H : (if aI7 = 0 then (changeforgelaw3_ObjectsGetMatchesSpec.j1 kj3 a1 cDv aD aD3 aP9 aVx aSh aTe aDs aIt) else (if (aD3 == aI7 && (aP9 == aTf)) = true then (if (aDs == aI7 && (aIt == aTf)) = true then (if cDv = true then (some false) else ((aU.f kj3 aVx aSh aTe 0 ([] : List Int) ([] : List Int)).bind fun cIs => (some cIs))) else (some false)) else (some false))) = some r := H
    have A10 := aZ dFy
    clear dFy
    have dL1 := aZ H
    clear H
    have aHh : wc.cell? ⟨bCx, 0, none⟩ = some (.slice bP aD.length bK) := (blk_cell jP.out 0).trans rfl
    have aHi := blk_frozen jP.out 0
    go_upto_if 29 with (first | ((with_reducible refine gate_callee (f := 35) rfl ?_); refine goesL_ (some 16) rfl rfl Try.func35 (by kernel_rfl) rfl #[.agg #[.slice bP aD.length bK], .int .i64 a1] rfl xmp ?_; (with_reducible refine (objects_Has.calls kj3 _ _ aD a1 cDv aD3 aP9 _ ?side1 ?side2 A8.out).mono ?_); (case side1 => exact xcb fI HB); (case side2 => exact lC.out); rintro e w13 ⟨rfl, hb⟩; refine ⟨_, rfl, ?_⟩; replace jP := xbb jP hb; replace HB := xhl HB hb; skip; (try clear hb); (try clear iV); (try clear hk); (try clear hi)) | ((with_reducible refine gate_dst (N := 6) rfl ?_); refine box_event ?hg (N := 6) ?hd (cs := #[.int .i64 0, .int .i64 0]) (t := 28) ?hr ?_; (case hd => rfl); (case hg => rfl); (case hr => first | (go_simp; done) | (go_simp; rfl)); intro aEb hg w14 hbox hb; have iR := aZ (hbox); have iCg := xgh hg HB; have dS5 := xgh hg HB; replace HB := xhl HB hb; have aBs := xnl hg jP; have aBt := xng hg jP; replace jP := xbb jP hb; clear hb hbox hg; have bVv := aBt.out; have bVw := aBs.out; have aQj : w14.cell? ⟨aEb, 0, none⟩ = some (.int .i64 0) := (blk_cell iR.out 0).trans rfl; have bIp : w14.cell? ⟨aEb, 1, none⟩ = some (.int .i64 0) := (blk_cell iR.out 1).trans rfl; have aQk := blk_frozen iR.out 0; have bIq := blk_frozen iR.out 1; have bIy : w14.cell? ⟨bCx, 0, none⟩ = some (.slice bP aD.length bK) := (blk_cell jP.out 0).trans rfl; have bIz := blk_frozen jP.out 0) | ((with_reducible refine gate_callee (f := 36) rfl ?_); refine goesL_ (some 22) rfl rfl Try.func36 (by kernel_rfl) rfl #[.agg #[.slice bP aD.length bK], .int .i64 a1] rfl xmp ?_; (with_reducible refine (objects_Get.calls kj3 _ _ aD a1 aVx aSh aTe aDs aIt _ ?side1 ?side2 A9.out).mono ?_); (case side1 => exact Kd.C_below fI.out (by repeat (first | (with_reducible first | exact HB.out | apply lA | apply lN | apply lD | refine lS ?_ dS4.out | refine lS ?_ dS5.out) | exact HB.out))); (case side2 => exact lC.out); rintro e w18 ⟨iIb, iIc, rfl, gZ, ho1, hb⟩; refine ⟨_, rfl, ?_⟩; have bCy := aZ (Kd.R_lower gZ (lZ (by repeat (first | (with_reducible first | exact HB.out | apply lA | apply lN | apply lD | refine lS ?_ dS4.out | refine lS ?_ dS5.out) | exact HB.out)))); have bCz := aZ (Kd.R_lower ho1 (lZ (by repeat (first | (with_reducible first | exact HB.out | apply lA | apply lN | apply lD | refine lS ?_ dS4.out | refine lS ?_ dS5.out) | exact HB.out)))); replace jP := xbb jP hb; replace iR := aZ (blk_below (g := aEb) (o := .cells #[.int .i64 aD3, .int .i64 aP9] 28 (0, 0)) (by (with_reducible repeat (first | refine bN ?_ _ | refine bD ?_ | refine bA ?_ _)); refine blk_put (cs := #[.int .i64 aD3, .int .i64 0]) ?_ 1 _ rfl; (with_reducible repeat (first | refine bN ?_ _ | refine bD ?_ | refine bA ?_ _)); refine blk_put (cs := #[.int .i64 0, .int .i64 0]) ?_ 0 _ rfl; (with_reducible repeat (first | refine bN ?_ _ | refine bD ?_ | refine bA ?_ _)); exact iR.out) hb); replace HB := xhl HB hb; (try clear hb); (try clear iV); (try clear hk); (try clear hi); (try clear gZ); (try clear ho1)) | ((with_reducible refine gate_dst (N := 7) rfl ?_); refine box_event ?hg (N := 7) ?hd (cs := #[.int .i64 0, .slice none 0 0, .slice none 0 0]) (t := 44) ?hr ?_; (case hd => rfl); (case hg => rfl); (case hr => first | (go_simp; done) | (go_simp; rfl)); intro aOq hg w19 hbox hb; replace bCy := xR bCy hb; replace bCz := xR bCz hb; have kP := aZ (hbox); have iCh := xgh hg HB; have fZk := xgh hg HB; replace HB := xhl HB hb; have aGo := xnl hg jP; have aGp := xng hg jP; replace jP := xbb jP hb; have bE0 := xnl hg iR; have bE1 := xng hg iR; replace iR := xbb iR hb; clear hb hbox hg) | ((with_reducible refine gate_dst (N := 8) rfl ?_); refine box_event ?hg (N := 8) ?hd (cs := #[.int .i64 0, .int .i64 0]) (t := 28) ?hr ?_; (case hd => rfl); (case hg => rfl); (case hr => first | (go_simp; done) | (go_simp; rfl)); intro aM8 hg w20 hbox hb; replace bCy := xR bCy hb; replace bCz := xR bCz hb; have kN := aZ (hbox); have iCi := xgh hg HB; have fZl := xgh hg HB; replace HB := xhl HB hb; have aCy := xnl hg jP; have aCz := xng hg jP; replace jP := xbb jP hb; have bE2 := xnl hg iR; have bE3 := xng hg iR; replace iR := xbb iR hb; have aYs := xnl hg kP; have aTg := xng hg kP; replace kP := xbb kP hb; clear hb hbox hg; have eEg := aGp.out; have eEh := aGo.out; have cHp := bE1.out; have cHq := bE0.out; have bMl := aYs.out; have bMm := aTg.out; have bCn : w20.cell? ⟨aOq, 0, none⟩ = some (.int .i64 0) := (blk_cell kP.out 0).trans rfl; have bP5 : w20.cell? ⟨aOq, 1, none⟩ = some (.slice none 0 0) := (blk_cell kP.out 1).trans rfl; have eTh : w20.cell? ⟨aOq, 2, none⟩ = some (.slice none 0 0) := (blk_cell kP.out 2).trans rfl; have bCo := blk_frozen kP.out 0; have bP6 := blk_frozen kP.out 1; have eTi := blk_frozen kP.out 2; obtain ⟨cIt, cDw, fH7⟩ := Kd.R_slice bCy.out; subst fH7; obtain ⟨cDs, bW7, eSo⟩ := Kd.R_slice bCz.out; subst eSo; have dDx := aCz.out; have dDy := aCy.out; have bV9 := bE3.out; have bWa := bE2.out; have bIs : w20.cell? ⟨aM8, 0, none⟩ = some (.int .i64 0) := (blk_cell kN.out 0).trans rfl; have bVr : w20.cell? ⟨aM8, 1, none⟩ = some (.int .i64 0) := (blk_cell kN.out 1).trans rfl; have bIt := blk_frozen kN.out 0; have bVs := blk_frozen kN.out 1; have bI0 : w20.cell? ⟨bCx, 0, none⟩ = some (.slice bP aD.length bK) := (blk_cell jP.out 0).trans rfl; have bI1 := blk_frozen jP.out 0) | ((with_reducible refine gate_callee (f := 16) rfl ?_); refine goesL_ (some 26) rfl rfl Try.func16 (by kernel_rfl) rfl #[.agg #[.slice bP aD.length bK]] rfl xmp ?_; (with_reducible refine (aH.calls kj3 _ _ aD aI7 aTf _ ?side1 ?side2 A10.out).mono ?_); (case side1 => exact Kd.C_below fI.out (by repeat (first | (with_reducible first | exact HB.out | apply lA | apply lN | apply lD | refine lS ?_ dS4.out | refine lS ?_ dS5.out | refine lS ?_ fZk.out | refine lS ?_ fZl.out) | exact HB.out))); (case side2 => exact lC.out); rintro e w31 ⟨rfl, hb⟩; refine ⟨_, rfl, ?_⟩; replace bCy := aZ (Kd.R_below (by (with_reducible repeat (first | apply Kd.rA | apply Kd.rN | apply Kd.rD)); exact (Kd.R_mono (Kd.R_mono (Kd.R_far (p := ⟨aM8, 1, none⟩) (Kd.R_far (p := ⟨aM8, 0, none⟩) (Kd.R_far (p := ⟨aOq, 2, none⟩) (Kd.R_far (p := ⟨aOq, 1, none⟩) (Kd.R_far (p := ⟨aOq, 0, none⟩) (Kd.R_types (Kd.R_types bCy.out kP.out (by decide)) kN.out (by decide)) (fun _ hk => hk.1.2) (.int .i64 aVx)) (fun _ hk => hk.1.2) (.slice cIt aSh.length cDw)) (fun _ hk => hk.1.2) (.slice cDs aTe.length bW7)) (fun _ hk => hk.2) (.int .i64 aDs)) (fun _ hk => hk.2) (.int .i64 aIt)) (fun _ h_ => h_.1)) (fun _ h_ => h_.1))) hb); replace bCz := aZ (Kd.R_below (by (with_reducible repeat (first | apply Kd.rA | apply Kd.rN | apply Kd.rD)); exact (Kd.R_mono (Kd.R_mono (Kd.R_far (p := ⟨aM8, 1, none⟩) (Kd.R_far (p := ⟨aM8, 0, none⟩) (Kd.R_far (p := ⟨aOq, 2, none⟩) (Kd.R_far (p := ⟨aOq, 1, none⟩) (Kd.R_far (p := ⟨aOq, 0, none⟩) (Kd.R_types (Kd.R_types bCz.out kP.out (by decide)) kN.out (by decide)) (fun _ hk => hk.1.2) (.int .i64 aVx)) (fun _ hk => hk.1.2) (.slice cIt aSh.length cDw)) (fun _ hk => hk.1.2) (.slice cDs aTe.length bW7)) (fun _ hk => hk.2) (.int .i64 aDs)) (fun _ hk => hk.2) (.int .i64 aIt)) (fun _ h_ => h_.1)) (fun _ h_ => h_.1))) hb); replace jP := xbb jP hb; replace iR := xbb iR hb; replace kP := aZ (blk_below (g := aOq) (o := .cells #[.int .i64 aVx, .slice cIt aSh.length cDw, .slice cDs aTe.length bW7] 44 (0, 0)) (by (with_reducible repeat (first | refine bN ?_ _ | refine bD ?_ | refine bA ?_ _)); refine blk_far ?_ aYs.out _; (with_reducible repeat (first | refine bN ?_ _ | refine bD ?_ | refine bA ?_ _)); refine blk_far ?_ aYs.out _; (with_reducible repeat (first | refine bN ?_ _ | refine bD ?_ | refine bA ?_ _)); refine blk_put (cs := #[.int .i64 aVx, .slice cIt aSh.length cDw, .slice none 0 0]) ?_ 2 _ rfl; (with_reducible repeat (first | refine bN ?_ _ | refine bD ?_ | refine bA ?_ _)); refine blk_put (cs := #[.int .i64 aVx, .slice none 0 0, .slice none 0 0]) ?_ 1 _ rfl; (with_reducible repeat (first | refine bN ?_ _ | refine bD ?_ | refine bA ?_ _)); refine blk_put (cs := #[.int .i64 0, .slice none 0 0, .slice none 0 0]) ?_ 0 _ rfl; (with_reducible repeat (first | refine bN ?_ _ | refine bD ?_ | refine bA ?_ _)); exact kP.out) hb); replace kN := aZ (blk_below (g := aM8) (o := .cells #[.int .i64 aDs, .int .i64 aIt] 28 (0, 0)) (by (with_reducible repeat (first | refine bN ?_ _ | refine bD ?_ | refine bA ?_ _)); refine blk_put (cs := #[.int .i64 aDs, .int .i64 0]) ?_ 1 _ rfl; (with_reducible repeat (first | refine bN ?_ _ | refine bD ?_ | refine bA ?_ _)); refine blk_put (cs := #[.int .i64 0, .int .i64 0]) ?_ 0 _ rfl; (with_reducible repeat (first | refine bN ?_ _ | refine bD ?_ | refine bA ?_ _)); refine blk_far ?_ aTg.out _; (with_reducible repeat (first | refine bN ?_ _ | refine bD ?_ | refine bA ?_ _)); refine blk_far ?_ aTg.out _; (with_reducible repeat (first | refine bN ?_ _ | refine bD ?_ | refine bA ?_ _)); refine blk_far ?_ aTg.out _; (with_reducible repeat (first | refine bN ?_ _ | refine bD ?_ | refine bA ?_ _)); exact kN.out) hb); replace HB := xhl HB hb; (try clear hb); (try clear iV); (try clear hk); (try clear hi)) | ((with_reducible refine gate_dst (N := 9) rfl ?_); refine box_event ?hg (N := 9) ?hd (cs := #[.int .i64 0, .int .i64 0]) (t := 28) ?hr ?_; (case hd => rfl); (case hg => rfl); (case hr => first | (go_simp; done) | (go_simp; rfl)); intro aH6 hg w32 hbox hb; replace bCy := xR bCy hb; replace bCz := xR bCz hb; have mM := aZ (hbox); have iCj := xgh hg HB; have iCk := xgh hg HB; replace HB := xhl HB hb; have aBu := xnl hg jP; have aBv := xng hg jP; replace jP := xbb jP hb; have bE4 := xnl hg iR; have bE5 := xng hg iR; replace iR := xbb iR hb; have bE6 := xnl hg kP; have bE7 := xng hg kP; replace kP := xbb kP hb; have bE8 := xnl hg kN; have bE9 := xng hg kN; replace kN := xbb kN hb; clear hb hbox hg; have cM8 := aBv.out; have cM9 := aBu.out; have dEh := bE5.out; have dEi := bE4.out; have cR9 := bE7.out; have cSa := bE6.out; have cG0 := bE9.out; have cG1 := bE8.out; have bO5 : w32.cell? ⟨aH6, 0, none⟩ = some (.int .i64 0) := (blk_cell mM.out 0).trans rfl; have bVo : w32.cell? ⟨aH6, 1, none⟩ = some (.int .i64 0) := (blk_cell mM.out 1).trans rfl; have bO6 := blk_frozen mM.out 0; have bVp := blk_frozen mM.out 1))
    (try simp only [Act.put, List.setIfInBounds_toArray, List.set_cons_zero, List.set_cons_succ])
    go_cut [] (fun wc => ∃ (kq : Nat), Aside0 (changeforgelaw3_ObjectsGetMatchesSpec.j1 kq a1 cDv aD aD3 aP9 aVx aSh aTe aDs aIt = some r) ∧ Aside0 (kq ≤ kj3) ∧ Aside0 (Kd.R (Kd.int .i64) 3 wc w.heap.size (fun _ => True) (.slice cIt aSh.length cDw) aSh) ∧ Aside0 (Kd.R (Kd.int .u8) 5 wc w.heap.size (fun _ => True) (.slice cDs aTe.length bW7) aTe) ∧ Aside0 (wc.heap[bCx]? = some (.cells #[(.slice bP aD.length bK)] 24 (0, 0))) ∧ Aside0 (wc.heap[aEb]? = some (.cells #[.int .i64 aD3, .int .i64 aP9] 28 (0, 0))) ∧ Aside0 (wc.heap[aOq]? = some (.cells #[.int .i64 aVx, (.slice cIt aSh.length cDw), (.slice cDs aTe.length bW7)] 44 (0, 0))) ∧ Aside0 (wc.heap[aM8]? = some (.cells #[.int .i64 aDs, .int .i64 aIt] 28 (0, 0))) ∧ Aside0 (wc.heap[aH6]? = some (.cells #[.int .i64 aI7, .int .i64 aTf] 28 (0, 0))) ∧ Aside0 (Below w.heap.size w wc))
    case first =>
     have H := dL1.out
     clear dL1
     by_cases c38 : aI7 = 0
     · rw [if_pos c38] at H
       have cSn : (aI7 == 0) = true := beq_iff_eq.mpr c38
       have fZm : (aI7 != 0) = false := bne_eq_false_iff_eq.mpr c38
       clear c38
       (first | rw [cSn] | (simp only [i64_w, i32_w]; rw [cSn]) | skip)
       as_aux_lemma =>
        have H' := aZ H
        clear H
        go_wp2
        go_meet
        case rel => exact ⟨_, H', ⟨by have := HJ3.out; first | omega | exact Nat.le_refl _⟩, ⟨by (with_reducible repeat (first | apply Kd.rA | apply Kd.rN | apply Kd.rD)); exact Kd.R_mono (Kd.R_far (p := ⟨aH6, 1, none⟩) (Kd.R_far (p := ⟨aH6, 0, none⟩) (Kd.R_types bCy.out mM.out (by decide)) (fun _ hk => hk.2) (.int .i64 aI7)) (fun _ hk => hk.2) (.int .i64 aTf)) (fun _ hk => trivial)⟩, ⟨by (with_reducible repeat (first | apply Kd.rA | apply Kd.rN | apply Kd.rD)); exact Kd.R_mono (Kd.R_far (p := ⟨aH6, 1, none⟩) (Kd.R_far (p := ⟨aH6, 0, none⟩) (Kd.R_types bCz.out mM.out (by decide)) (fun _ hk => hk.2) (.int .i64 aI7)) (fun _ hk => hk.2) (.int .i64 aTf)) (fun _ hk => trivial)⟩, xk jP, xk iR, xk kP, xk kN, ⟨by (with_reducible repeat (first | refine bN ?_ _ | refine bD ?_ | refine bA ?_ _)); refine blk_put (cs := #[.int .i64 aI7, .int .i64 0]) ?_ 1 _ rfl; (with_reducible repeat (first | refine bN ?_ _ | refine bD ?_ | refine bA ?_ _)); refine blk_put (cs := #[.int .i64 0, .int .i64 0]) ?_ 0 _ rfl; (with_reducible repeat (first | refine bN ?_ _ | refine bD ?_ | refine bA ?_ _)); exact mM.out⟩, xb HB⟩
     rw [if_neg c38] at H
     have cSn : (aI7 == 0) = false := beq_eq_false_iff_ne.mpr c38
     have fZm : (aI7 != 0) = true := bne_iff_ne.mpr c38
     (first | rw [cSn] | (simp only [i64_w, i32_w]; rw [cSn]) | skip)
     by_cases c39 : (aD3 == aI7 && (aP9 == aTf)) = true
     rotate_left
     · rw [if_neg c39] at H
       have dC8 : (aD3 == aI7 && (aP9 == aTf)) = false := by simpa using c39
       (try (have eBv : decide (aD3 = aI7 && (aP9 == aTf)) = false := by simpa using c39))
       (try (have eBw : (aD3 == aI7 && (aP9 == aTf)) = false := by simpa using c39))
       (try (have fVt : ¬ (aD3 = aI7 && (aP9 == aTf)) := by simpa using c39))
       clear c39
       as_aux_lemma =>
        obtain rfl := Option.some.inj H
        have cNf := aBt.out
        have cNg := aBs.out
        have dEw := bE0.out
        have dEx := bE1.out
        have bM0 := bE2.out
        have bM1 := bE3.out
        have dEy := bE4.out
        have dEz := bE5.out
        have cKm : w32.cell? ⟨aEb, 0, none⟩ = some (.int .i64 aD3) := (blk_cell iR.out 0).trans rfl
        have cKn : w32.cell? ⟨aEb, 1, none⟩ = some (.int .i64 aP9) := (blk_cell iR.out 1).trans rfl
        have cKo := blk_frozen iR.out 0
        have cKp := blk_frozen iR.out 1
        have cOk := aBv.out
        have cOl := aBu.out
        have cOm := bE7.out
        have cOn := bE6.out
        have cOo := bE9.out
        have cOp := bE8.out
        have eTj : w32.cell? ⟨aH6, 0, none⟩ = some (.int .i64 0) := (blk_cell mM.out 0).trans rfl
        have eTk : w32.cell? ⟨aH6, 1, none⟩ = some (.int .i64 0) := (blk_cell mM.out 1).trans rfl
        have eTl := blk_frozen mM.out 0
        have eTm := blk_frozen mM.out 1
        go_wp2
        go_ret
        exact ⟨xre, xq HB⟩
     rw [if_pos c39] at H
     have dC8 : (aD3 == aI7 && (aP9 == aTf)) = true := c39
     (try (have eBv : decide (aD3 = aI7 && (aP9 == aTf)) = true := by simpa using c39))
     (try (have eBw : (aD3 == aI7 && (aP9 == aTf)) = true := by simpa using c39))
     clear c39
     by_cases c40 : (aDs == aI7 && (aIt == aTf)) = true
     rotate_left
     · rw [if_neg c40] at H
       have cOq : (aDs == aI7 && (aIt == aTf)) = false := by simpa using c40
       (try (have eEu : decide (aDs = aI7 && (aIt == aTf)) = false := by simpa using c40))
       (try (have eEv : (aDs == aI7 && (aIt == aTf)) = false := by simpa using c40))
       (try (have fZn : ¬ (aDs = aI7 && (aIt == aTf)) := by simpa using c40))
       clear c40
       as_aux_lemma =>
        obtain rfl := Option.some.inj H
        have cHi := aBt.out
        have cHj := aBs.out
        have cSv := bE0.out
        have cSw := bE1.out
        have dEs := bE2.out
        have dEt := bE3.out
        have bMy := bE4.out
        have bMz := bE5.out
        have dS6 : w32.cell? ⟨aEb, 0, none⟩ = some (.int .i64 aD3) := (blk_cell iR.out 0).trans rfl
        have dS7 : w32.cell? ⟨aEb, 1, none⟩ = some (.int .i64 aP9) := (blk_cell iR.out 1).trans rfl
        have dS8 := blk_frozen iR.out 0
        have dS9 := blk_frozen iR.out 1
        have bM7 := aBv.out
        have bM8 := aBu.out
        have dEu := bE7.out
        have dEv := bE6.out
        have cSx := bE9.out
        have cSy := bE8.out
        have cWx : w32.cell? ⟨aH6, 0, none⟩ = some (.int .i64 0) := (blk_cell mM.out 0).trans rfl
        have dQj : w32.cell? ⟨aH6, 1, none⟩ = some (.int .i64 0) := (blk_cell mM.out 1).trans rfl
        have cWy := blk_frozen mM.out 0
        have dQk := blk_frozen mM.out 1
        have cHg := aCz.out
        have cHh := aCy.out
        have bWn := aTg.out
        have bWo := aYs.out
        have bXb : w32.cell? ⟨aM8, 0, none⟩ = some (.int .i64 aDs) := (blk_cell kN.out 0).trans rfl
        have dSn : w32.cell? ⟨aM8, 1, none⟩ = some (.int .i64 aIt) := (blk_cell kN.out 1).trans rfl
        have bXc := blk_frozen kN.out 0
        have dSo := blk_frozen kN.out 1
        go_wp2
        go_ret
        exact ⟨xre, xq HB⟩
     rw [if_pos c40] at H
     have cOq : (aDs == aI7 && (aIt == aTf)) = true := c40
     (try (have eEu : decide (aDs = aI7 && (aIt == aTf)) = true := by simpa using c40))
     (try (have eEv : (aDs == aI7 && (aIt == aTf)) = true := by simpa using c40))
     clear c40
     by_cases c41 : cDv = true
     · subst c41
       have H1 : (some false) = some r := by rw [if_pos rfl] at H; exact H
       clear H
       have H := H1
       clear H1
       as_aux_lemma =>
        obtain rfl := Option.some.inj H
        have bSu := aBt.out
        have bSv := aBs.out
        have bLs := bE0.out
        have bLt := bE1.out
        have bLo := bE2.out
        have bLp := bE3.out
        have bLh := bE4.out
        have bLi := bE5.out
        have aVl : w32.cell? ⟨aEb, 0, none⟩ = some (.int .i64 aD3) := (blk_cell iR.out 0).trans rfl
        have bVg : w32.cell? ⟨aEb, 1, none⟩ = some (.int .i64 aP9) := (blk_cell iR.out 1).trans rfl
        have aVm := blk_frozen iR.out 0
        have bVh := blk_frozen iR.out 1
        have cSt := aBv.out
        have cSu := aBu.out
        have cSl := bE7.out
        have cSm := bE6.out
        have dEo := bE9.out
        have dEp := bE8.out
        have cV8 : w32.cell? ⟨aH6, 0, none⟩ = some (.int .i64 0) := (blk_cell mM.out 0).trans rfl
        have cV9 : w32.cell? ⟨aH6, 1, none⟩ = some (.int .i64 0) := (blk_cell mM.out 1).trans rfl
        have cWa := blk_frozen mM.out 0
        have cWb := blk_frozen mM.out 1
        have bVi := aCz.out
        have bVj := aCy.out
        have cTi := aTg.out
        have cTj := aYs.out
        have cVe : w32.cell? ⟨aM8, 0, none⟩ = some (.int .i64 aDs) := (blk_cell kN.out 0).trans rfl
        have ePp : w32.cell? ⟨aM8, 1, none⟩ = some (.int .i64 aIt) := (blk_cell kN.out 1).trans rfl
        have cVf := blk_frozen kN.out 0
        have ePq := blk_frozen kN.out 1
        go_wp2
        go_ret
        exact ⟨xre, xq HB⟩
     replace c41 := Bool.eq_false_iff.mpr c41
     subst c41
     have H1 : ((aU.f kj3 aVx aSh aTe 0 ([] : List Int) ([] : List Int)).bind fun cIs => (some cIs)) = some r := by rw [if_neg (show ¬ (false = true) by decide)] at H; exact H
     clear H
     have H := H1
     clear H1
     replace H := Option.bind_eq_some_iff.mp H
     obtain ⟨cIs, fZo, H⟩ := H
     replace H : (some cIs) = some r := H
     have A54 := aZ fZo
     clear fZo
     as_aux_lemma =>
      obtain rfl := Option.some.inj H
      have bNa := aBt.out
      have bNb := aBs.out
      have dFe := bE0.out
      have dFf := bE1.out
      have cN6 := bE2.out
      have cN7 := bE3.out
      have cHr := bE4.out
      have cHs := bE5.out
      have cK5 : w32.cell? ⟨aEb, 0, none⟩ = some (.int .i64 aD3) := (blk_cell iR.out 0).trans rfl
      have cK6 : w32.cell? ⟨aEb, 1, none⟩ = some (.int .i64 aP9) := (blk_cell iR.out 1).trans rfl
      have cK7 := blk_frozen iR.out 0
      have cK8 := blk_frozen iR.out 1
      have bWt := aBv.out
      have bWu := aBu.out
      have dTa := bE7.out
      have dTb := bE6.out
      have cTc := bE9.out
      have cTd := bE8.out
      have dSp : w32.cell? ⟨aH6, 0, none⟩ = some (.int .i64 0) := (blk_cell mM.out 0).trans rfl
      have eTn : w32.cell? ⟨aH6, 1, none⟩ = some (.int .i64 0) := (blk_cell mM.out 1).trans rfl
      have dSq := blk_frozen mM.out 0
      have eTo := blk_frozen mM.out 1
      have bAu := aCz.out
      have bAv := aCy.out
      have bLk := aTg.out
      have bLl := aYs.out
      have bOz : w32.cell? ⟨aM8, 0, none⟩ = some (.int .i64 aDs) := (blk_cell kN.out 0).trans rfl
      have bO0 : w32.cell? ⟨aM8, 1, none⟩ = some (.int .i64 aIt) := (blk_cell kN.out 1).trans rfl
      have bO1 := blk_frozen kN.out 0
      have bO2 := blk_frozen kN.out 1
      have cG8 := aGp.out
      have cG9 := aGo.out
      have bI7 : w32.cell? ⟨aOq, 0, none⟩ = some (.int .i64 aVx) := (blk_cell kP.out 0).trans rfl
      have dP5 : w32.cell? ⟨aOq, 1, none⟩ = some (.slice cIt aSh.length cDw) := (blk_cell kP.out 1).trans rfl
      have gYn : w32.cell? ⟨aOq, 2, none⟩ = some (.slice cDs aTe.length bW7) := (blk_cell kP.out 2).trans rfl
      have bI8 := blk_frozen kP.out 0
      have dP6 := blk_frozen kP.out 1
      have gYo := blk_frozen kP.out 2
      go_wp2_with (first | (go_at_call 24; (refine (aU.calls kj3 aVx _ _ aSh _ _ aTe 0 _ _ ([] : List Int) _ _ ([] : List Int) cIs _ ?side1 ?side2 ?side3 ?side4 ?side5 ?side6 ?side7 ?side8 A54.out).mono ?_); (case side1 => refine (Kd.R_reads' (e := 3) (base := w.heap.size) (ok := fun k_ => True) (n := aSh.length) (c := cDw) ?_).2.2; exact (by (with_reducible repeat (first | apply Kd.rA | apply Kd.rN | apply Kd.rD)); exact (Kd.R_mono (Kd.R_far (p := ⟨aH6, 1, none⟩) (Kd.R_far (p := ⟨aH6, 0, none⟩) (Kd.R_types bCy.out mM.out (by decide)) (fun _ hk => hk.2) (.int .i64 aI7)) (fun _ hk => hk.2) (.int .i64 aTf)) (fun _ h_ => h_.1)))); (case side2 => exact (Kd.R_reads' bCy.out).2.1); (case side3 => refine (Kd.R_reads' (e := 5) (base := w.heap.size) (ok := fun k_ => True) (n := aTe.length) (c := bW7) ?_).2.2; exact (by (with_reducible repeat (first | apply Kd.rA | apply Kd.rN | apply Kd.rD)); exact (Kd.R_mono (Kd.R_far (p := ⟨aH6, 1, none⟩) (Kd.R_far (p := ⟨aH6, 0, none⟩) (Kd.R_types bCz.out mM.out (by decide)) (fun _ hk => hk.2) (.int .i64 aI7)) (fun _ hk => hk.2) (.int .i64 aTf)) (fun _ h_ => h_.1)))); (case side4 => exact (Kd.R_reads' bCz.out).2.1); (case side5 => exact Kd.C_nil _ _); (case side6 => exact Nat.le_refl _); (case side7 => exact Kd.C_nil _ _); (case side8 => exact Nat.le_refl _); rintro e w69 ⟨rfl, hb⟩; replace bCy := aZ (Kd.R_below (by (with_reducible repeat (first | apply Kd.rA | apply Kd.rN | apply Kd.rD)); exact (Kd.R_mono (Kd.R_far (p := ⟨aH6, 1, none⟩) (Kd.R_far (p := ⟨aH6, 0, none⟩) (Kd.R_types bCy.out mM.out (by decide)) (fun _ hk => hk.2) (.int .i64 aI7)) (fun _ hk => hk.2) (.int .i64 aTf)) (fun _ h_ => h_.1))) hb); replace bCz := aZ (Kd.R_below (by (with_reducible repeat (first | apply Kd.rA | apply Kd.rN | apply Kd.rD)); exact (Kd.R_mono (Kd.R_far (p := ⟨aH6, 1, none⟩) (Kd.R_far (p := ⟨aH6, 0, none⟩) (Kd.R_types bCz.out mM.out (by decide)) (fun _ hk => hk.2) (.int .i64 aI7)) (fun _ hk => hk.2) (.int .i64 aTf)) (fun _ h_ => h_.1))) hb); replace jP := xbb jP hb; replace iR := xbb iR hb; replace kP := xbb kP hb; replace kN := xbb kN hb; replace mM := aZ (blk_below (g := aH6) (o := .cells #[.int .i64 aI7, .int .i64 aTf] 28 (0, 0)) (by (with_reducible repeat (first | refine bN ?_ _ | refine bD ?_ | refine bA ?_ _)); refine blk_put (cs := #[.int .i64 aI7, .int .i64 0]) ?_ 1 _ rfl; (with_reducible repeat (first | refine bN ?_ _ | refine bD ?_ | refine bA ?_ _)); refine blk_put (cs := #[.int .i64 0, .int .i64 0]) ?_ 0 _ rfl; (with_reducible repeat (first | refine bN ?_ _ | refine bD ?_ | refine bA ?_ _)); exact mM.out) hb); replace HB := xhl HB hb; (try clear hb); (try clear iV); (try clear hk); (try clear hi)))
      go_ret
      exact ⟨xre, xq HB⟩
    case rest =>
     clear dL1
     (try clear aHh); (try clear aQj); (try clear bIp); (try clear bIy); (try clear bCn); (try clear bP5); (try clear eTh); (try clear bIs); (try clear bVr); (try clear bI0); (try clear bO5); (try clear bVo); (try clear aHi); (try clear aQk); (try clear bIq); (try clear bIz); (try clear bCo); (try clear bP6); (try clear eTi); (try clear bIt); (try clear bVs); (try clear bI1); (try clear bO6); (try clear bVp)
     obtain ⟨kq, HA, fH8, gV, gW, jP, iR, kP, kN, mM, HB⟩ := hcut
     cases kq with
     | zero => exact absurd HA.out (by simp [changeforgelaw3_ObjectsGetMatchesSpec.j1])
     | succ bJ7 =>
      have H := HA.out
      clear HA
      simp only [changeforgelaw3_ObjectsGetMatchesSpec.j1] at H
      replace H := Option.bind_eq_some_iff.mp H
      obtain ⟨zU, fZp, H⟩ := H
      replace H : (if zU < 0 then (if aD3 = 0 then (if cDv = true then (some false) else ((aT.f 6 (-1)).bind fun cHo => (if (aDs == cHo.1 && (aIt == cHo.2)) = true then ((aU.f bJ7 aVx aSh aTe 0 ([] : List Int) ([] : List Int)).bind fun cRt => (some cRt)) else (some false)))) else (some false)) else (if aD3 = 0 then (if cDv = true then (if aDs = 0 then (if 0 ≤ zU then (if zU < (aD.length : Int) then ((aU.f bJ7 aVx aSh aTe ((aA aD zU).f1.f0) ((aA aD zU).f1.f1) ((aA aD zU).f1.f2)).bind fun dFx => (some dFx)) else (none)) else (none)) else (some false)) else (some false)) else (some false))) = some r := H
      have A91 := aZ fZp
      clear fZp
      by_cases c92 : zU < 0
      rotate_left
      · rw [if_neg c92] at H
        have fZq : decide (zU < 0) = false := decide_eq_false c92
        clear c92
        by_cases cDx : aD3 = 0
        rotate_left
        · rw [if_neg cDx] at H
          have fH9 : (aD3 == 0) = false := beq_eq_false_iff_ne.mpr cDx
          have fIa : (aD3 != 0) = true := bne_iff_ne.mpr cDx
          as_aux_lemma =>
           obtain rfl := Option.some.inj H
           have cDj := aBs.out
           have cDk := aBt.out
           have cOr := aGo.out
           have cOs := aGp.out
           have cYl := aCy.out
           have cYm := aCz.out
           have cOt := aBu.out
           have cOu := aBv.out
           have fZr : wc.cell? ⟨bCx, 0, none⟩ = some (.slice bP aD.length bK) := (blk_cell jP.out 0).trans rfl
           have fZs := blk_frozen jP.out 0
           try go_wp2_with (first | ((with_reducible refine gate_callee (f := 27) rfl ?_); refine goesL_ (some 49) rfl rfl Try.func27 (by kernel_rfl) rfl #[.agg #[.slice bP aD.length bK], .int .i64 a1] rfl xmp ?_; (with_reducible refine (bH.calls bJ7 _ _ aD a1 zU _ ?side1 ?side2 A91.out).mono ?_); (case side1 => exact xcb fI HB); (case side2 => exact lC.out); rintro e eEw ⟨rfl, hb⟩; refine ⟨_, rfl, ?_⟩; replace gV := xR gV hb; replace gW := xR gW hb; replace jP := xbb jP hb; replace iR := xbb iR hb; replace kP := xbb kP hb; replace kN := xbb kN hb; replace mM := xbb mM hb; replace HB := xhl HB hb; (try clear hb); (try clear iV); (try clear hk); (try clear hi)))
           replace gV := aZ (Kd.rD gV.out)
           replace gW := aZ (Kd.rD gW.out)
           replace jP := aZ (bD jP.out)
           replace iR := aZ (bD iR.out)
           replace kP := aZ (bD kP.out)
           replace kN := aZ (bD kN.out)
           replace mM := aZ (bD mM.out)
           replace HB := aZ (lD HB.out)
           refine start_ (n := 22) (S := fun w' => w'.cell? ⟨aEb, 0, none⟩ = some (.int .i64 aD3) ∧ w'.cell? ⟨aEb, 1, none⟩ = some (.int .i64 aP9)) (ds := []) Z21 (by kernel_rfl) rfl rfl ⟨(blk_cell iR.out 0).trans rfl, (blk_cell iR.out 1).trans rfl⟩ (fun hHeld => ?_); refine with_tabW changeforgelaw3_ObjectsGetMatchesSpec.tab11 changeforgelaw3_ObjectsGetMatchesSpec.bits11 (fun HT_ HW_ => ?_)
           generalize eEw.drew = bUi at gV gW jP iR kP kN mM HB hHeld ⊢
           refine pu 0 69 Z22 HT_ rfl rfl (h := ?_)
           refine tk 1 70 Z23 HT_ HW_ rfl rfl hHeld (by rintro w' ⟨s0, s1⟩; go_simp; with_reducible rfl) (h := ?_)
           refine pu 2 71 Z24 HT_ rfl rfl (h := ?_)
           refine pu 3 72 Z25 HT_ rfl rfl (h := ?_)
           refine pv 4 73 Z26 HT_ rfl rfl (h := ?_)
           refine pu 5 74 Z27 HT_ rfl rfl (h := ?_)
           refine pu 6 75 Z28 HT_ rfl rfl (h := ?_)
           refine pv 7 76 Z29 HT_ rfl rfl (h := ?_)
           refine pv 8 77 Z30 HT_ rfl rfl (h := ?_)
           refine pv 9 78 Z31 HT_ rfl rfl (h := ?_)
           refine pu 10 79 Z32 HT_ rfl rfl (h := ?_)
           refine pu 11 80 Z33 HT_ rfl rfl (h := ?_)
           refine pv 12 81 Z44 HT_ rfl rfl (h := ?_)
           refine pv 13 82 Z45 HT_ rfl rfl (h := ?_)
           refine pv 14 83 Z46 HT_ rfl rfl (h := ?_)
           refine pv 15 84 Z37 HT_ rfl rfl (h := ?_)
           refine pv 16 85 Z38 HT_ rfl rfl (h := ?_)
           refine pv 17 86 Z39 HT_ rfl rfl (h := ?_)
           refine pv 18 87 Z40 HT_ rfl rfl (h := ?_)
           refine pv 19 88 Z41 HT_ rfl rfl (h := ?_)
           refine pu 20 89 Z42 HT_ rfl rfl (h := ?_)
           refine pu 21 4 Z43 HT_ rfl rfl (h := ?_)
           refine done_ (done_of HT_.out (by kernel_rfl)) ?_
           try go_wp2
           go_ret
           exact ⟨xre, xq HB⟩

        rw [if_pos cDx] at H
        have fH9 : (aD3 == 0) = true := beq_iff_eq.mpr cDx
        have fIa : (aD3 != 0) = false := bne_eq_false_iff_eq.mpr cDx
        clear cDx
        by_cases cOv : cDv = true
        rotate_left
        · replace cOv := Bool.eq_false_iff.mpr cOv
          subst cOv
          have H1 : (some false) = some r := by rw [if_neg (show ¬ (false = true) by decide)] at H; exact H
          clear H
          have H := H1
          clear H1
          as_aux_lemma =>
           obtain rfl := Option.some.inj H
           have cXc := aBs.out
           have cXd := aBt.out
           have cNt := aGo.out
           have cNu := aGp.out
           have cXe := aCy.out
           have cXf := aCz.out
           have cYn := aBu.out
           have cYo := aBv.out
           have fZt : wc.cell? ⟨bCx, 0, none⟩ = some (.slice bP aD.length bK) := (blk_cell jP.out 0).trans rfl
           have fZu := blk_frozen jP.out 0
           try go_wp2_with (first | ((with_reducible refine gate_callee (f := 27) rfl ?_); refine goesL_ (some 49) rfl rfl Try.func27 (by kernel_rfl) rfl #[.agg #[.slice bP aD.length bK], .int .i64 a1] rfl xmp ?_; (with_reducible refine (bH.calls bJ7 _ _ aD a1 zU _ ?side1 ?side2 A91.out).mono ?_); (case side1 => exact xcb fI HB); (case side2 => exact lC.out); rintro e fZv ⟨rfl, hb⟩; refine ⟨_, rfl, ?_⟩; replace gV := xR gV hb; replace gW := xR gW hb; replace jP := xbb jP hb; replace iR := xbb iR hb; replace kP := xbb kP hb; replace kN := xbb kN hb; replace mM := xbb mM hb; replace HB := xhl HB hb; (try clear hb); (try clear iV); (try clear hk); (try clear hi)))
           replace gV := aZ (Kd.rD gV.out)
           replace gW := aZ (Kd.rD gW.out)
           replace jP := aZ (bD jP.out)
           replace iR := aZ (bD iR.out)
           replace kP := aZ (bD kP.out)
           replace kN := aZ (bD kN.out)
           replace mM := aZ (bD mM.out)
           replace HB := aZ (lD HB.out)
           refine start_ (n := 22) (S := fun w' => w'.cell? ⟨aEb, 0, none⟩ = some (.int .i64 aD3) ∧ w'.cell? ⟨aEb, 1, none⟩ = some (.int .i64 aP9)) (ds := []) Z21 (by kernel_rfl) rfl rfl ⟨(blk_cell iR.out 0).trans rfl, (blk_cell iR.out 1).trans rfl⟩ (fun hHeld => ?_); refine with_tabW changeforgelaw3_ObjectsGetMatchesSpec.tab11 changeforgelaw3_ObjectsGetMatchesSpec.bits11 (fun HT_ HW_ => ?_)
           generalize fZv.drew = fZw at gV gW jP iR kP kN mM HB hHeld ⊢
           refine pu 0 69 Z22 HT_ rfl rfl (h := ?_)
           refine tk 1 70 Z23 HT_ HW_ rfl rfl hHeld (by rintro w' ⟨s0, s1⟩; go_simp; with_reducible rfl) (h := ?_)
           refine pu 2 71 Z24 HT_ rfl rfl (h := ?_)
           refine pu 3 72 Z25 HT_ rfl rfl (h := ?_)
           refine pu 4 73 Z26 HT_ rfl rfl (h := ?_)
           refine pu 5 74 Z27 HT_ rfl rfl (h := ?_)
           refine pu 6 75 Z28 HT_ rfl rfl (h := ?_)
           refine pv 7 76 Z29 HT_ rfl rfl (h := ?_)
           refine pv 8 77 Z30 HT_ rfl rfl (h := ?_)
           refine pv 9 78 Z31 HT_ rfl rfl (h := ?_)
           refine pu 10 79 Z32 HT_ rfl rfl (h := ?_)
           refine pu 11 80 Z33 HT_ rfl rfl (h := ?_)
           refine pv 12 81 Z44 HT_ rfl rfl (h := ?_)
           refine pv 13 82 Z45 HT_ rfl rfl (h := ?_)
           refine pv 14 83 Z46 HT_ rfl rfl (h := ?_)
           refine pv 15 84 Z37 HT_ rfl rfl (h := ?_)
           refine pv 16 85 Z38 HT_ rfl rfl (h := ?_)
           refine pv 17 86 Z39 HT_ rfl rfl (h := ?_)
           refine pv 18 87 Z40 HT_ rfl rfl (h := ?_)
           refine pv 19 88 Z41 HT_ rfl rfl (h := ?_)
           refine pu 20 89 Z42 HT_ rfl rfl (h := ?_)
           refine pu 21 4 Z43 HT_ rfl rfl (h := ?_)
           refine done_ (done_of HT_.out (by kernel_rfl)) ?_
           try go_wp2
           go_ret
           exact ⟨xre, xq HB⟩
        subst cOv
        have H1 : (if aDs = 0 then (if 0 ≤ zU then (if zU < (aD.length : Int) then ((aU.f bJ7 aVx aSh aTe ((aA aD zU).f1.f0) ((aA aD zU).f1.f1) ((aA aD zU).f1.f2)).bind fun dFx => (some dFx)) else (none)) else (none)) else (some false)) = some r := by rw [if_pos rfl] at H; exact H
        clear H
        have H := H1
        clear H1
        by_cases cIu : aDs = 0
        rotate_left
        · rw [if_neg cIu] at H
          have eEx : (aDs == 0) = false := beq_eq_false_iff_ne.mpr cIu
          have fIb : (aDs != 0) = true := bne_iff_ne.mpr cIu
          as_aux_lemma =>
           obtain rfl := Option.some.inj H
           have dJ8 := aBs.out
           have dJ9 := aBt.out
           have cNn := aGo.out
           have cNo := aGp.out
           have cNp := aCy.out
           have cNq := aCz.out
           have bT4 := aBu.out
           have bT5 := aBv.out
           have eDj : wc.cell? ⟨bCx, 0, none⟩ = some (.slice bP aD.length bK) := (blk_cell jP.out 0).trans rfl
           have eDk := blk_frozen jP.out 0
           try go_wp2_with (first | ((with_reducible refine gate_callee (f := 27) rfl ?_); refine goesL_ (some 49) rfl rfl Try.func27 (by kernel_rfl) rfl #[.agg #[.slice bP aD.length bK], .int .i64 a1] rfl xmp ?_; (with_reducible refine (bH.calls bJ7 _ _ aD a1 zU _ ?side1 ?side2 A91.out).mono ?_); (case side1 => exact xcb fI HB); (case side2 => exact lC.out); rintro e hKd ⟨rfl, hb⟩; refine ⟨_, rfl, ?_⟩; replace gV := xR gV hb; replace gW := xR gW hb; replace jP := xbb jP hb; replace iR := xbb iR hb; replace kP := xbb kP hb; replace kN := xbb kN hb; replace mM := xbb mM hb; replace HB := xhl HB hb; (try clear hb); (try clear iV); (try clear hk); (try clear hi)))
           replace gV := aZ (Kd.rD gV.out)
           replace gW := aZ (Kd.rD gW.out)
           replace jP := aZ (bD jP.out)
           replace iR := aZ (bD iR.out)
           replace kP := aZ (bD kP.out)
           replace kN := aZ (bD kN.out)
           replace mM := aZ (bD mM.out)
           replace HB := aZ (lD HB.out)
           refine start_ (n := 22) (S := fun w' => w'.cell? ⟨aEb, 0, none⟩ = some (.int .i64 aD3) ∧ w'.cell? ⟨aEb, 1, none⟩ = some (.int .i64 aP9) ∧ w'.cell? ⟨aM8, 0, none⟩ = some (.int .i64 aDs) ∧ w'.cell? ⟨aM8, 1, none⟩ = some (.int .i64 aIt)) (ds := []) Z21 (by kernel_rfl) rfl rfl ⟨(blk_cell iR.out 0).trans rfl, (blk_cell iR.out 1).trans rfl, (blk_cell kN.out 0).trans rfl, (blk_cell kN.out 1).trans rfl⟩ (fun hHeld => ?_); refine with_tabW changeforgelaw3_ObjectsGetMatchesSpec.tab11 changeforgelaw3_ObjectsGetMatchesSpec.bits11 (fun HT_ HW_ => ?_)
           generalize hKd.drew = iIe at gV gW jP iR kP kN mM HB hHeld ⊢
           refine pu 0 69 Z22 HT_ rfl rfl (h := ?_)
           refine tk 1 70 Z23 HT_ HW_ rfl rfl hHeld (by rintro w' ⟨s0, s1, s2, s3⟩; go_simp; with_reducible rfl) (h := ?_)
           refine pu 2 71 Z24 HT_ rfl rfl (h := ?_)
           refine pu 3 72 Z25 HT_ rfl rfl (h := ?_)
           refine pu 4 73 Z26 HT_ rfl rfl (h := ?_)
           refine pu 5 74 Z27 HT_ rfl rfl (h := ?_)
           refine pu 6 75 Z28 HT_ rfl rfl (h := ?_)
           refine pu 7 76 Z29 HT_ rfl rfl (h := ?_)
           refine tk 8 77 Z30 HT_ HW_ rfl rfl hHeld (by rintro w' ⟨s0, s1, s2, s3⟩; go_simp; with_reducible rfl) (h := ?_)
           refine pu 9 78 Z31 HT_ rfl rfl (h := ?_)
           refine pu 10 79 Z32 HT_ rfl rfl (h := ?_)
           refine pu 11 80 Z33 HT_ rfl rfl (h := ?_)
           refine pv 12 81 Z44 HT_ rfl rfl (h := ?_)
           refine pv 13 82 Z45 HT_ rfl rfl (h := ?_)
           refine pv 14 83 Z46 HT_ rfl rfl (h := ?_)
           refine pv 15 84 Z37 HT_ rfl rfl (h := ?_)
           refine pv 16 85 Z38 HT_ rfl rfl (h := ?_)
           refine pv 17 86 Z39 HT_ rfl rfl (h := ?_)
           refine pv 18 87 Z40 HT_ rfl rfl (h := ?_)
           refine pv 19 88 Z41 HT_ rfl rfl (h := ?_)
           refine pu 20 89 Z42 HT_ rfl rfl (h := ?_)
           refine pu 21 4 Z43 HT_ rfl rfl (h := ?_)
           refine done_ (done_of HT_.out (by kernel_rfl)) ?_
           try go_wp2
           go_ret
           exact ⟨xre, xq HB⟩
        rw [if_pos cIu] at H
        have eEx : (aDs == 0) = true := beq_iff_eq.mpr cIu
        have fIb : (aDs != 0) = false := bne_eq_false_iff_eq.mpr cIu
        clear cIu
        by_cases cYp : 0 ≤ zU
        rotate_left
        · rw [if_neg cYp] at H
          exact absurd H (by simp)
        rw [if_pos cYp] at H
        have fIc : decide (0 ≤ zU) = true := decide_eq_true cYp
        clear cYp
        by_cases cOw : zU < (aD.length : Int)
        rotate_left
        · rw [if_neg cOw] at H
          exact absurd H (by simp)
        rw [if_pos cOw] at H
        have eEy : decide (zU < (aD.length : Int)) = true := decide_eq_true cOw
        clear cOw
        replace H := Option.bind_eq_some_iff.mp H
        obtain ⟨dFx, fBg, H⟩ := H
        replace H : (some dFx) = some r := H
        have hKe := aZ fBg
        clear fBg
        as_aux_lemma =>
         obtain rfl := Option.some.inj H
         have cDh := aBs.out
         have cDi := aBt.out
         have eDf := aGo.out
         have eDg := aGp.out
         have dJ4 := aCy.out
         have dJ5 := aCz.out
         have eDh := aBu.out
         have eDi := aBv.out
         have dE5 : wc.cell? ⟨bCx, 0, none⟩ = some (.slice bP aD.length bK) := (blk_cell jP.out 0).trans rfl
         have dE6 := blk_frozen jP.out 0
         try go_wp2_with (first | ((with_reducible refine gate_callee (f := 27) rfl ?_); refine goesL_ (some 49) rfl rfl Try.func27 (by kernel_rfl) rfl #[.agg #[.slice bP aD.length bK], .int .i64 a1] rfl xmp ?_; (with_reducible refine (bH.calls bJ7 _ _ aD a1 zU _ ?side1 ?side2 A91.out).mono ?_); (case side1 => exact xcb fI HB); (case side2 => exact lC.out); rintro e eTp ⟨rfl, hb⟩; refine ⟨_, rfl, ?_⟩; replace gV := xR gV hb; replace gW := xR gW hb; replace jP := xbb jP hb; replace iR := xbb iR hb; replace kP := xbb kP hb; replace kN := xbb kN hb; replace mM := xbb mM hb; replace HB := xhl HB hb; (try clear hb); (try clear iV); (try clear hk); (try clear hi)))
         replace gV := aZ (Kd.rD gV.out)
         replace gW := aZ (Kd.rD gW.out)
         replace jP := aZ (bD jP.out)
         replace iR := aZ (bD iR.out)
         replace kP := aZ (bD kP.out)
         replace kN := aZ (bD kN.out)
         replace mM := aZ (bD mM.out)
         replace HB := aZ (lD HB.out)
         have fId : 0 ≤ (zU : Int) := of_decide_eq_true xas
         have fIe : zU < (aD.length : Int) := of_decide_eq_true xas
         obtain ⟨cHt, eEz, eE0, eE1, eE2, hKg, cK9, cLa, cLb, cLc, dTc, dTd, dTe, dTf⟩ := gY fI.out zU fId fIe
         have dTg := cLc
         have dTh := cLb
         have dTi := cLa
         have dTj := cK9
         cases hKg
         replace cK9 := xcl HB cK9
         replace cLa := xcl HB cLa
         replace cLb := xcl HB cLb
         replace cLc := xcl HB cLc
         have dTk := aZ dTd
         have eTq := aZ dTc
         clear dTd dTc
         have dTl := aZ dTf
         have eTr := aZ dTe
         clear dTf dTe
         replace fId := eq_true fId
         replace fIe := eq_true fIe
         refine start_ (n := 22) (S := fun w' => w'.cell? ⟨aEb, 0, none⟩ = some (.int .i64 aD3) ∧ w'.cell? ⟨aEb, 1, none⟩ = some (.int .i64 aP9) ∧ w'.cell? ⟨aM8, 0, none⟩ = some (.int .i64 aDs) ∧ w'.cell? ⟨aM8, 1, none⟩ = some (.int .i64 aIt) ∧ w'.cell? ⟨aOq, 0, none⟩ = some (.int .i64 aVx) ∧ w'.cell? ⟨aOq, 1, none⟩ = some (.slice cIt aSh.length cDw) ∧ w'.cell? ⟨aOq, 2, none⟩ = some (.slice cDs aTe.length bW7) ∧ w'.cell? ⟨bCx, 0, none⟩ = some (.slice (some cHt) aD.length bK) ∧ w'.cell? (cHt.add ((zU).toNat * 4)) = some (.int .i64 ((aA aD zU).f0)) ∧ w'.cell? ⟨(cHt.add ((zU).toNat * 4)).block, (cHt.add ((zU).toNat * 4)).off + 1, none⟩ = some (.int .i64 ((aA aD zU).f1.f0)) ∧ w'.cell? ⟨(cHt.add ((zU).toNat * 4)).block, (cHt.add ((zU).toNat * 4)).off + 2, none⟩ = some (.slice eEz ((aA aD zU).f1.f1).length eE0) ∧ w'.cell? ⟨(cHt.add ((zU).toNat * 4)).block, (cHt.add ((zU).toNat * 4)).off + 3, none⟩ = some (.slice eE1 ((aA aD zU).f1.f2).length eE2)) (ds := []) Z21 (by kernel_rfl) rfl rfl ⟨(blk_cell iR.out 0).trans rfl, (blk_cell iR.out 1).trans rfl, (blk_cell kN.out 0).trans rfl, (blk_cell kN.out 1).trans rfl, (blk_cell kP.out 0).trans rfl, (blk_cell kP.out 1).trans rfl, (blk_cell kP.out 2).trans rfl, (blk_cell jP.out 0).trans rfl, (xcl HB dTj), (xcl HB dTi), (xcl HB dTh), (xcl HB dTg)⟩ (fun hHeld => ?_); refine with_tabW changeforgelaw3_ObjectsGetMatchesSpec.tab11 changeforgelaw3_ObjectsGetMatchesSpec.bits11 (fun HT_ HW_ => ?_)
         generalize eTp.drew = bUj at gV gW jP iR kP kN mM HB dTk dTl cK9 cLa cLb cLc hHeld ⊢
         refine pu 0 69 Z22 HT_ rfl rfl (h := ?_)
         refine tk 1 70 Z23 HT_ HW_ rfl rfl hHeld (by rintro w' ⟨s0, s1, s2, s3, s4, s5, s6, s7, s8, s9, s10, s11⟩; go_simp; with_reducible rfl) (h := ?_)
         refine pu 2 71 Z24 HT_ rfl rfl (h := ?_)
         refine pu 3 72 Z25 HT_ rfl rfl (h := ?_)
         refine pu 4 73 Z26 HT_ rfl rfl (h := ?_)
         refine pu 5 74 Z27 HT_ rfl rfl (h := ?_)
         refine pu 6 75 Z28 HT_ rfl rfl (h := ?_)
         refine pu 7 76 Z29 HT_ rfl rfl (h := ?_)
         refine tk 8 77 Z30 HT_ HW_ rfl rfl hHeld (by rintro w' ⟨s0, s1, s2, s3, s4, s5, s6, s7, s8, s9, s10, s11⟩; go_simp; with_reducible rfl) (h := ?_)
         refine pu 9 78 Z31 HT_ rfl rfl (h := ?_)
         refine pu 10 79 Z32 HT_ rfl rfl (h := ?_)
         refine pu 11 80 Z33 HT_ rfl rfl (h := ?_)
         refine pu 13 82 Z34 HT_ rfl rfl (h := ?_)
         refine pu 15 84 Z35 HT_ rfl rfl (h := ?_)
         refine tk 12 81 Z36 HT_ HW_ rfl rfl hHeld (by rintro w' ⟨s0, s1, s2, s3, s4, s5, s6, s7, s8, s9, s10, s11⟩; go_simp; with_reducible rfl) (h := ?_)
         refine tk 14 83 Z37 HT_ HW_ rfl rfl hHeld (by rintro w' ⟨s0, s1, s2, s3, s4, s5, s6, s7, s8, s9, s10, s11⟩; go_simp; with_reducible rfl) (h := ?_)
         refine pu 16 85 Z38 HT_ rfl rfl (h := ?_)
         refine pu 17 86 Z39 HT_ rfl rfl (h := ?_)
         refine tk 18 87 Z40 HT_ HW_ rfl rfl hHeld (by rintro w' ⟨s0, s1, s2, s3, s4, s5, s6, s7, s8, s9, s10, s11⟩; go_simp; with_reducible rfl) (h := ?_)
         refine one_ (i := 19) (N := some 88) Z41 rfl rfl (one_of HT_.out (by kernel_rfl)) (by decide) (fun K hK => ?_)
         refine goes_ Try.func24 (by kernel_rfl) rfl #[.agg #[.int .i64 aVx, .slice cIt aSh.length cDw, .slice cDs aTe.length bW7], .agg #[.int .i64 ((aA aD zU).f1.f0), .slice eEz ((aA aD zU).f1.f1).length eE0, .slice eE1 ((aA aD zU).f1.f2).length eE2]] (by rfl) rfl rfl xmp ?_
         with_reducible refine (aU.calls bJ7 aVx _ _ aSh _ _ aTe ((aA aD zU).f1.f0) _ _ ((aA aD zU).f1.f1) _ _ ((aA aD zU).f1.f2) dFx _ ?side1 ?side2 ?side3 ?side4 ?side5 ?side6 ?side7 ?side8 hKe.out).mono ?_
         (case side1 => repeat (first | exact (Kd.R_reads' gV.out).2.2 | (with_reducible refine Kd.C_alloc ?_ _) | (with_reducible refine Kd.C_drewN ?_ _) | (with_reducible refine Kd.C_drew ?_)))
         (case side2 => exact (Kd.R_reads' gV.out).2.1)
         (case side3 => repeat (first | exact (Kd.R_reads' gW.out).2.2 | (with_reducible refine Kd.C_alloc ?_ _) | (with_reducible refine Kd.C_drewN ?_ _) | (with_reducible refine Kd.C_drew ?_)))
         (case side4 => exact (Kd.R_reads' gW.out).2.1)
         (case side5 => exact xcb dTk HB)
         (case side6 => exact eTq.out)
         (case side7 => exact xcb dTl HB)
         (case side8 => exact eTr.out)
         rintro e eTs ⟨rfl, hb⟩
         refine ⟨_, rfl, ?_⟩
         replace gV := xR gV hb
         replace gW := xR gW hb
         replace jP := xbb jP hb
         replace iR := xbb iR hb
         replace kP := xbb kP hb
         replace kN := xbb kN hb
         replace mM := xbb mM hb
         replace HB := xhl HB hb
         (try clear hb)
         (try clear iV)
         (try clear hk)
         (try clear hi)
         refine hK.out _ _ ⟨(blk_cell iR.out 0).trans rfl, (blk_cell iR.out 1).trans rfl, (blk_cell kN.out 0).trans rfl, (blk_cell kN.out 1).trans rfl, (blk_cell kP.out 0).trans rfl, (blk_cell kP.out 1).trans rfl, (blk_cell kP.out 2).trans rfl, (blk_cell jP.out 0).trans rfl, (xcl HB dTj), (xcl HB dTi), (xcl HB dTh), (xcl HB dTg)⟩ (fun hHeld => ?_)
         clear hK K
         refine norm_ (a' := ?_) ?_ ?_
         rotate_left
         · show Act.put _ (some 88) _ = _
           simp only [Act.put, List.setIfInBounds_toArray, List.set_cons_zero, List.set_cons_succ, i64_w, i32_w]
           rfl
         refine pu 20 89 Z42 HT_ rfl rfl (h := ?_)
         refine pu 21 4 Z43 HT_ rfl rfl (h := ?_)
         refine done_ (done_of HT_.out (by kernel_rfl)) ?_
         try go_wp2
         go_ret
         exact ⟨xre, xq HB⟩
      rw [if_pos c92] at H
      have fZq : decide (zU < 0) = true := decide_eq_true c92
      clear c92
      by_cases c93 : aD3 = 0
      rotate_left
      · rw [if_neg c93] at H
        have fZx : (aD3 == 0) = false := beq_eq_false_iff_ne.mpr c93
        have fZy : (aD3 != 0) = true := bne_iff_ne.mpr c93
        as_aux_lemma =>
         obtain rfl := Option.some.inj H
         have bM2 := aBs.out
         have bM3 := aBt.out
         have cNl := aGo.out
         have cNm := aGp.out
         have cDb := aCy.out
         have cDc := aCz.out
         have cDd := aBu.out
         have cDe := aBv.out
         have eE3 : wc.cell? ⟨bCx, 0, none⟩ = some (.slice bP aD.length bK) := (blk_cell jP.out 0).trans rfl
         have eE4 := blk_frozen jP.out 0
         try go_wp2_with (first | ((with_reducible refine gate_callee (f := 27) rfl ?_); refine goesL_ (some 49) rfl rfl Try.func27 (by kernel_rfl) rfl #[.agg #[.slice bP aD.length bK], .int .i64 a1] rfl xmp ?_; (with_reducible refine (bH.calls bJ7 _ _ aD a1 zU _ ?side1 ?side2 A91.out).mono ?_); (case side1 => exact xcb fI HB); (case side2 => exact lC.out); rintro e hKh ⟨rfl, hb⟩; refine ⟨_, rfl, ?_⟩; replace gV := xR gV hb; replace gW := xR gW hb; replace jP := xbb jP hb; replace iR := xbb iR hb; replace kP := xbb kP hb; replace kN := xbb kN hb; replace mM := xbb mM hb; replace HB := xhl HB hb; (try clear hb); (try clear iV); (try clear hk); (try clear hi)))
         replace gV := aZ (Kd.rD gV.out)
         replace gW := aZ (Kd.rD gW.out)
         replace jP := aZ (bD jP.out)
         replace iR := aZ (bD iR.out)
         replace kP := aZ (bD kP.out)
         replace kN := aZ (bD kN.out)
         replace mM := aZ (bD mM.out)
         replace HB := aZ (lD HB.out)
         refine start_ (n := 18) (S := fun w' => w'.cell? ⟨aEb, 0, none⟩ = some (.int .i64 aD3) ∧ w'.cell? ⟨aEb, 1, none⟩ = some (.int .i64 aP9)) (ds := []) Z1 (by kernel_rfl) rfl rfl ⟨(blk_cell iR.out 0).trans rfl, (blk_cell iR.out 1).trans rfl⟩ (fun hHeld => ?_); refine with_tabW changeforgelaw3_ObjectsGetMatchesSpec.tab10 changeforgelaw3_ObjectsGetMatchesSpec.bits10 (fun HT_ HW_ => ?_)
         generalize hKh.drew = iIf at gV gW jP iR kP kN mM HB hHeld ⊢
         refine pu 0 52 Z2 HT_ rfl rfl (h := ?_)
         refine tk 1 53 Z3 HT_ HW_ rfl rfl hHeld (by rintro w' ⟨s0, s1⟩; go_simp; with_reducible rfl) (h := ?_)
         refine pu 2 54 Z4 HT_ rfl rfl (h := ?_)
         refine pu 3 55 Z5 HT_ rfl rfl (h := ?_)
         refine pv 4 56 Z6 HT_ rfl rfl (h := ?_)
         refine pv 5 57 Z7 HT_ rfl rfl (h := ?_)
         refine pu 6 58 Z8 HT_ rfl rfl (h := ?_)
         refine pu 7 59 Z9 HT_ rfl rfl (h := ?_)
         refine pv 8 60 Z10 HT_ rfl rfl (h := ?_)
         refine pv 9 61 Z11 HT_ rfl rfl (h := ?_)
         refine pv 10 62 Z12 HT_ rfl rfl (h := ?_)
         refine pu 11 63 Z13 HT_ rfl rfl (h := ?_)
         refine pu 12 64 Z14 HT_ rfl rfl (h := ?_)
         refine pv 13 65 Z15 HT_ rfl rfl (h := ?_)
         refine pv 14 66 Z16 HT_ rfl rfl (h := ?_)
         refine pv 15 67 Z17 HT_ rfl rfl (h := ?_)
         refine pu 16 68 Z18 HT_ rfl rfl (h := ?_)
         refine pu 17 4 Z19 HT_ rfl rfl (h := ?_)
         refine done_ (done_of HT_.out (by kernel_rfl)) ?_
         try go_wp2
         go_ret
         exact ⟨xre, xq HB⟩
      rw [if_pos c93] at H
      have fZx : (aD3 == 0) = true := beq_iff_eq.mpr c93
      have fZy : (aD3 != 0) = false := bne_eq_false_iff_eq.mpr c93
      clear c93
      by_cases c94 : cDv = true
      · subst c94
        have H1 : (some false) = some r := by rw [if_pos rfl] at H; exact H
        clear H
        have H := H1
        clear H1
        as_aux_lemma =>
         obtain rfl := Option.some.inj H
         have dQn := aBs.out
         have dQo := aBt.out
         have dQp := aGo.out
         have dQq := aGp.out
         have dF0 := aCy.out
         have dF1 := aCz.out
         have dTm := aBu.out
         have dTn := aBv.out
         have cYq : wc.cell? ⟨bCx, 0, none⟩ = some (.slice bP aD.length bK) := (blk_cell jP.out 0).trans rfl
         have cYr := blk_frozen jP.out 0
         try go_wp2_with (first | ((with_reducible refine gate_callee (f := 27) rfl ?_); refine goesL_ (some 49) rfl rfl Try.func27 (by kernel_rfl) rfl #[.agg #[.slice bP aD.length bK], .int .i64 a1] rfl xmp ?_; (with_reducible refine (bH.calls bJ7 _ _ aD a1 zU _ ?side1 ?side2 A91.out).mono ?_); (case side1 => exact xcb fI HB); (case side2 => exact lC.out); rintro e fZz ⟨rfl, hb⟩; refine ⟨_, rfl, ?_⟩; replace gV := xR gV hb; replace gW := xR gW hb; replace jP := xbb jP hb; replace iR := xbb iR hb; replace kP := xbb kP hb; replace kN := xbb kN hb; replace mM := xbb mM hb; replace HB := xhl HB hb; (try clear hb); (try clear iV); (try clear hk); (try clear hi)))
         replace gV := aZ (Kd.rD gV.out)
         replace gW := aZ (Kd.rD gW.out)
         replace jP := aZ (bD jP.out)
         replace iR := aZ (bD iR.out)
         replace kP := aZ (bD kP.out)
         replace kN := aZ (bD kN.out)
         replace mM := aZ (bD mM.out)
         replace HB := aZ (lD HB.out)
         refine start_ (n := 18) (S := fun w' => w'.cell? ⟨aEb, 0, none⟩ = some (.int .i64 aD3) ∧ w'.cell? ⟨aEb, 1, none⟩ = some (.int .i64 aP9)) (ds := []) Z1 (by kernel_rfl) rfl rfl ⟨(blk_cell iR.out 0).trans rfl, (blk_cell iR.out 1).trans rfl⟩ (fun hHeld => ?_); refine with_tabW changeforgelaw3_ObjectsGetMatchesSpec.tab10 changeforgelaw3_ObjectsGetMatchesSpec.bits10 (fun HT_ HW_ => ?_)
         generalize fZz.drew = hKi at gV gW jP iR kP kN mM HB hHeld ⊢
         refine pu 0 52 Z2 HT_ rfl rfl (h := ?_)
         refine tk 1 53 Z3 HT_ HW_ rfl rfl hHeld (by rintro w' ⟨s0, s1⟩; go_simp; with_reducible rfl) (h := ?_)
         refine pu 2 54 Z4 HT_ rfl rfl (h := ?_)
         refine pu 3 55 Z5 HT_ rfl rfl (h := ?_)
         refine pu 4 56 Z6 HT_ rfl rfl (h := ?_)
         refine pu 5 57 Z7 HT_ rfl rfl (h := ?_)
         refine pu 6 58 Z8 HT_ rfl rfl (h := ?_)
         refine pu 7 59 Z9 HT_ rfl rfl (h := ?_)
         refine pv 8 60 Z10 HT_ rfl rfl (h := ?_)
         refine pv 9 61 Z11 HT_ rfl rfl (h := ?_)
         refine pv 10 62 Z12 HT_ rfl rfl (h := ?_)
         refine pu 11 63 Z13 HT_ rfl rfl (h := ?_)
         refine pu 12 64 Z14 HT_ rfl rfl (h := ?_)
         refine pv 13 65 Z15 HT_ rfl rfl (h := ?_)
         refine pv 14 66 Z16 HT_ rfl rfl (h := ?_)
         refine pv 15 67 Z17 HT_ rfl rfl (h := ?_)
         refine pu 16 68 Z18 HT_ rfl rfl (h := ?_)
         refine pu 17 4 Z19 HT_ rfl rfl (h := ?_)
         refine done_ (done_of HT_.out (by kernel_rfl)) ?_
         try go_wp2
         go_ret
         exact ⟨xre, xq HB⟩
      replace c94 := Bool.eq_false_iff.mpr c94
      subst c94
      have H1 : ((aT.f 6 (-1)).bind fun cHo => (if (aDs == cHo.1 && (aIt == cHo.2)) = true then ((aU.f bJ7 aVx aSh aTe 0 ([] : List Int) ([] : List Int)).bind fun cRt => (some cRt)) else (some false))) = some r := by rw [if_neg (show ¬ (false = true) by decide)] at H; exact H
      clear H
      have H := H1
      clear H1
      replace H := Option.bind_eq_some_iff.mp H
      obtain ⟨⟨cOx, cOy⟩, fBh, H⟩ := H
      replace H : (if (aDs == cOx && (aIt == cOy)) = true then ((aU.f bJ7 aVx aSh aTe 0 ([] : List Int) ([] : List Int)).bind fun cRt => (some cRt)) else (some false)) = some r := H
      have fZ0 := aZ fBh
      clear fBh
      by_cases bA5 : (aDs == cOx && (aIt == cOy)) = true
      rotate_left
      · rw [if_neg bA5] at H
        have dL2 : (aDs == cOx && (aIt == cOy)) = false := by simpa using bA5
        (try (have dL3 : decide (aDs = cOx && (aIt == cOy)) = false := by simpa using bA5))
        (try (have dL4 : (aDs == cOx && (aIt == cOy)) = false := by simpa using bA5))
        (try (have fIg : ¬ (aDs = cOx && (aIt == cOy)) := by simpa using bA5))
        clear bA5
        as_aux_lemma =>
         obtain rfl := Option.some.inj H
         have bUk := aBs.out
         have bUl := aBt.out
         have cNj := aGo.out
         have cNk := aGp.out
         have cW4 := aCy.out
         have cW5 := aCz.out
         have bTv := aBu.out
         have bTw := aBv.out
         have dF2 : wc.cell? ⟨bCx, 0, none⟩ = some (.slice bP aD.length bK) := (blk_cell jP.out 0).trans rfl
         have dF3 := blk_frozen jP.out 0
         try go_wp2_with (first | ((with_reducible refine gate_callee (f := 27) rfl ?_); refine goesL_ (some 49) rfl rfl Try.func27 (by kernel_rfl) rfl #[.agg #[.slice bP aD.length bK], .int .i64 a1] rfl xmp ?_; (with_reducible refine (bH.calls bJ7 _ _ aD a1 zU _ ?side1 ?side2 A91.out).mono ?_); (case side1 => exact xcb fI HB); (case side2 => exact lC.out); rintro e hKj ⟨rfl, hb⟩; refine ⟨_, rfl, ?_⟩; replace gV := xR gV hb; replace gW := xR gW hb; replace jP := xbb jP hb; replace iR := xbb iR hb; replace kP := xbb kP hb; replace kN := xbb kN hb; replace mM := xbb mM hb; replace HB := xhl HB hb; (try clear hb); (try clear iV); (try clear hk); (try clear hi)))
         replace gV := aZ (Kd.rD gV.out)
         replace gW := aZ (Kd.rD gW.out)
         replace jP := aZ (bD jP.out)
         replace iR := aZ (bD iR.out)
         replace kP := aZ (bD kP.out)
         replace kN := aZ (bD kN.out)
         replace mM := aZ (bD mM.out)
         replace HB := aZ (lD HB.out)
         refine start_ (n := 18) (S := fun w' => w'.cell? ⟨aEb, 0, none⟩ = some (.int .i64 aD3) ∧ w'.cell? ⟨aEb, 1, none⟩ = some (.int .i64 aP9) ∧ w'.cell? ⟨aM8, 0, none⟩ = some (.int .i64 aDs) ∧ w'.cell? ⟨aM8, 1, none⟩ = some (.int .i64 aIt)) (ds := []) Z1 (by kernel_rfl) rfl rfl ⟨(blk_cell iR.out 0).trans rfl, (blk_cell iR.out 1).trans rfl, (blk_cell kN.out 0).trans rfl, (blk_cell kN.out 1).trans rfl⟩ (fun hHeld => ?_); refine with_tabW changeforgelaw3_ObjectsGetMatchesSpec.tab10 changeforgelaw3_ObjectsGetMatchesSpec.bits10 (fun HT_ HW_ => ?_)
         generalize hKj.drew = cRu at gV gW jP iR kP kN mM HB hHeld ⊢
         refine pu 0 52 Z2 HT_ rfl rfl (h := ?_)
         refine tk 1 53 Z3 HT_ HW_ rfl rfl hHeld (by rintro w' ⟨s0, s1, s2, s3⟩; go_simp; with_reducible rfl) (h := ?_)
         refine pu 2 54 Z4 HT_ rfl rfl (h := ?_)
         refine pu 3 55 Z5 HT_ rfl rfl (h := ?_)
         refine pu 4 56 Z6 HT_ rfl rfl (h := ?_)
         refine pu 5 57 Z7 HT_ rfl rfl (h := ?_)
         refine pu 6 58 Z8 HT_ rfl rfl (h := ?_)
         refine pu 7 59 Z9 HT_ rfl rfl (h := ?_)
         refine tk 8 60 Z10 HT_ HW_ rfl rfl hHeld (by rintro w' ⟨s0, s1, s2, s3⟩; go_simp; with_reducible rfl) (h := ?_)
         refine one_ (i := 9) (N := some 61) Z11 rfl rfl (one_of HT_.out (by kernel_rfl)) (by decide) (fun K hK => ?_)
         refine goes_ Try.func18 (by kernel_rfl) rfl #[.int .i64 6, .int .i64 (-1)] (by rfl) rfl rfl xmp ?_
         with_reducible refine (aT.calls 6 (-1) cOx cOy _ fZ0.out).mono ?_
         rintro e iIg ⟨rfl, hb⟩
         refine ⟨_, rfl, ?_⟩
         replace gV := xR gV hb
         replace gW := xR gW hb
         replace jP := xbb jP hb
         replace iR := xbb iR hb
         replace kP := xbb kP hb
         replace kN := xbb kN hb
         replace mM := xbb mM hb
         replace HB := xhl HB hb
         (try clear hb)
         (try clear iV)
         (try clear hk)
         (try clear hi)
         refine hK.out _ _ ⟨(blk_cell iR.out 0).trans rfl, (blk_cell iR.out 1).trans rfl, (blk_cell kN.out 0).trans rfl, (blk_cell kN.out 1).trans rfl⟩ (fun hHeld => ?_)
         clear hK K
         refine norm_ (a' := ?_) ?_ ?_
         rotate_left
         · show Act.put _ (some 61) _ = _
           simp only [Act.put, List.setIfInBounds_toArray, List.set_cons_zero, List.set_cons_succ, i64_w, i32_w]
           rfl
         refine pu 10 62 Z12 HT_ rfl rfl (h := ?_)
         refine pu 11 63 Z13 HT_ rfl rfl (h := ?_)
         refine pu 12 64 Z14 HT_ rfl rfl (h := ?_)
         refine pv 13 65 Z15 HT_ rfl rfl (h := ?_)
         refine pv 14 66 Z16 HT_ rfl rfl (h := ?_)
         refine pv 15 67 Z17 HT_ rfl rfl (h := ?_)
         refine pu 16 68 Z18 HT_ rfl rfl (h := ?_)
         refine pu 17 4 Z19 HT_ rfl rfl (h := ?_)
         refine done_ (done_of HT_.out (by kernel_rfl)) ?_
         try go_wp2
         go_ret
         exact ⟨xre, xq HB⟩
      rw [if_pos bA5] at H
      have dL2 : (aDs == cOx && (aIt == cOy)) = true := bA5
      (try (have dL3 : decide (aDs = cOx && (aIt == cOy)) = true := by simpa using bA5))
      (try (have dL4 : (aDs == cOx && (aIt == cOy)) = true := by simpa using bA5))
      clear bA5
      replace H := Option.bind_eq_some_iff.mp H
      obtain ⟨cRt, dF4, H⟩ := H
      replace H : (some cRt) = some r := H
      have eTt := aZ dF4
      clear dF4
      as_aux_lemma =>
       obtain rfl := Option.some.inj H
       have cOz := aBs.out
       have cO0 := aBt.out
       have cDy := aGo.out
       have cDz := aGp.out
       have cD0 := aCy.out
       have cD1 := aCz.out
       have cNh := aBu.out
       have cNi := aBv.out
       have fZ1 : wc.cell? ⟨bCx, 0, none⟩ = some (.slice bP aD.length bK) := (blk_cell jP.out 0).trans rfl
       have fZ2 := blk_frozen jP.out 0
       try go_wp2_with (first | ((with_reducible refine gate_callee (f := 27) rfl ?_); refine goesL_ (some 49) rfl rfl Try.func27 (by kernel_rfl) rfl #[.agg #[.slice bP aD.length bK], .int .i64 a1] rfl xmp ?_; (with_reducible refine (bH.calls bJ7 _ _ aD a1 zU _ ?side1 ?side2 A91.out).mono ?_); (case side1 => exact xcb fI HB); (case side2 => exact lC.out); rintro e hKk ⟨rfl, hb⟩; refine ⟨_, rfl, ?_⟩; replace gV := xR gV hb; replace gW := xR gW hb; replace jP := xbb jP hb; replace iR := xbb iR hb; replace kP := xbb kP hb; replace kN := xbb kN hb; replace mM := xbb mM hb; replace HB := xhl HB hb; (try clear hb); (try clear iV); (try clear hk); (try clear hi)))
       replace gV := aZ (Kd.rD gV.out)
       replace gW := aZ (Kd.rD gW.out)
       replace jP := aZ (bD jP.out)
       replace iR := aZ (bD iR.out)
       replace kP := aZ (bD kP.out)
       replace kN := aZ (bD kN.out)
       replace mM := aZ (bD mM.out)
       replace HB := aZ (lD HB.out)
       refine start_ (n := 18) (S := fun w' => w'.cell? ⟨aEb, 0, none⟩ = some (.int .i64 aD3) ∧ w'.cell? ⟨aEb, 1, none⟩ = some (.int .i64 aP9) ∧ w'.cell? ⟨aM8, 0, none⟩ = some (.int .i64 aDs) ∧ w'.cell? ⟨aM8, 1, none⟩ = some (.int .i64 aIt) ∧ w'.cell? ⟨aOq, 0, none⟩ = some (.int .i64 aVx) ∧ w'.cell? ⟨aOq, 1, none⟩ = some (.slice cIt aSh.length cDw) ∧ w'.cell? ⟨aOq, 2, none⟩ = some (.slice cDs aTe.length bW7)) (ds := []) Z1 (by kernel_rfl) rfl rfl ⟨(blk_cell iR.out 0).trans rfl, (blk_cell iR.out 1).trans rfl, (blk_cell kN.out 0).trans rfl, (blk_cell kN.out 1).trans rfl, (blk_cell kP.out 0).trans rfl, (blk_cell kP.out 1).trans rfl, (blk_cell kP.out 2).trans rfl⟩ (fun hHeld => ?_); refine with_tabW changeforgelaw3_ObjectsGetMatchesSpec.tab10 changeforgelaw3_ObjectsGetMatchesSpec.bits10 (fun HT_ HW_ => ?_)
       generalize hKk.drew = iIh at gV gW jP iR kP kN mM HB hHeld ⊢
       refine pu 0 52 Z2 HT_ rfl rfl (h := ?_)
       refine tk 1 53 Z3 HT_ HW_ rfl rfl hHeld (by rintro w' ⟨s0, s1, s2, s3, s4, s5, s6⟩; go_simp; with_reducible rfl) (h := ?_)
       refine pu 2 54 Z4 HT_ rfl rfl (h := ?_)
       refine pu 3 55 Z5 HT_ rfl rfl (h := ?_)
       refine pu 4 56 Z6 HT_ rfl rfl (h := ?_)
       refine pu 5 57 Z7 HT_ rfl rfl (h := ?_)
       refine pu 6 58 Z8 HT_ rfl rfl (h := ?_)
       refine pu 7 59 Z9 HT_ rfl rfl (h := ?_)
       refine tk 8 60 Z10 HT_ HW_ rfl rfl hHeld (by rintro w' ⟨s0, s1, s2, s3, s4, s5, s6⟩; go_simp; with_reducible rfl) (h := ?_)
       refine one_ (i := 9) (N := some 61) Z11 rfl rfl (one_of HT_.out (by kernel_rfl)) (by decide) (fun K hK => ?_)
       refine goes_ Try.func18 (by kernel_rfl) rfl #[.int .i64 6, .int .i64 (-1)] (by rfl) rfl rfl xmp ?_
       with_reducible refine (aT.calls 6 (-1) cOx cOy _ fZ0.out).mono ?_
       rintro e fZ3 ⟨rfl, hb⟩
       refine ⟨_, rfl, ?_⟩
       replace gV := xR gV hb
       replace gW := xR gW hb
       replace jP := xbb jP hb
       replace iR := xbb iR hb
       replace kP := xbb kP hb
       replace kN := xbb kN hb
       replace mM := xbb mM hb
       replace HB := xhl HB hb
       (try clear hb)
       (try clear iV)
       (try clear hk)
       (try clear hi)
       refine hK.out _ _ ⟨(blk_cell iR.out 0).trans rfl, (blk_cell iR.out 1).trans rfl, (blk_cell kN.out 0).trans rfl, (blk_cell kN.out 1).trans rfl, (blk_cell kP.out 0).trans rfl, (blk_cell kP.out 1).trans rfl, (blk_cell kP.out 2).trans rfl⟩ (fun hHeld => ?_)
       clear hK K
       refine norm_ (a' := ?_) ?_ ?_
       rotate_left
       · show Act.put _ (some 61) _ = _
         simp only [Act.put, List.setIfInBounds_toArray, List.set_cons_zero, List.set_cons_succ, i64_w, i32_w]
         rfl
       refine pu 10 62 Z12 HT_ rfl rfl (h := ?_)
       refine pu 11 63 Z13 HT_ rfl rfl (h := ?_)
       refine pu 12 64 Z14 HT_ rfl rfl (h := ?_)
       refine pu 14 66 Z20 HT_ rfl rfl (h := ?_)
       refine tk 13 65 Z16 HT_ HW_ rfl rfl hHeld (by rintro w' ⟨s0, s1, s2, s3, s4, s5, s6⟩; go_simp; with_reducible rfl) (h := ?_)
       refine one_ (i := 15) (N := some 67) Z17 rfl rfl (one_of HT_.out (by kernel_rfl)) (by decide) (fun K hK => ?_)
       refine goes_ Try.func24 (by kernel_rfl) rfl #[.agg #[.int .i64 aVx, .slice cIt aSh.length cDw, .slice cDs aTe.length bW7], .agg #[.int .i64 0, .slice none 0 0, .slice none 0 0]] (by rfl) rfl rfl xmp ?_
       refine (aU.calls bJ7 aVx _ _ aSh _ _ aTe 0 _ _ ([] : List Int) _ _ ([] : List Int) cRt _ ?side1 ?side2 ?side3 ?side4 ?side5 ?side6 ?side7 ?side8 eTt.out).mono ?_
       (case side1 => repeat (first | exact (Kd.R_reads' gV.out).2.2 | (with_reducible refine Kd.C_alloc ?_ _) | (with_reducible refine Kd.C_drewN ?_ _) | (with_reducible refine Kd.C_drew ?_)))
       (case side2 => exact (Kd.R_reads' gV.out).2.1)
       (case side3 => repeat (first | exact (Kd.R_reads' gW.out).2.2 | (with_reducible refine Kd.C_alloc ?_ _) | (with_reducible refine Kd.C_drewN ?_ _) | (with_reducible refine Kd.C_drew ?_)))
       (case side4 => exact (Kd.R_reads' gW.out).2.1)
       (case side5 => exact Kd.C_nil _ _)
       (case side6 => exact Nat.le_refl _)
       (case side7 => exact Kd.C_nil _ _)
       (case side8 => exact Nat.le_refl _)
       rintro e eTu ⟨rfl, hb⟩
       refine ⟨_, rfl, ?_⟩
       replace gV := xR gV hb
       replace gW := xR gW hb
       replace jP := xbb jP hb
       replace iR := xbb iR hb
       replace kP := xbb kP hb
       replace kN := xbb kN hb
       replace mM := xbb mM hb
       replace HB := xhl HB hb
       (try clear hb)
       (try clear iV)
       (try clear hk)
       (try clear hi)
       refine hK.out _ _ ⟨(blk_cell iR.out 0).trans rfl, (blk_cell iR.out 1).trans rfl, (blk_cell kN.out 0).trans rfl, (blk_cell kN.out 1).trans rfl, (blk_cell kP.out 0).trans rfl, (blk_cell kP.out 1).trans rfl, (blk_cell kP.out 2).trans rfl⟩ (fun hHeld => ?_)
       clear hK K
       refine norm_ (a' := ?_) ?_ ?_
       rotate_left
       · show Act.put _ (some 67) _ = _
         simp only [Act.put, List.setIfInBounds_toArray, List.set_cons_zero, List.set_cons_succ, i64_w, i32_w]
         rfl
       refine pu 16 68 Z18 HT_ rfl rfl (h := ?_)
       refine pu 17 4 Z19 HT_ rfl rfl (h := ?_)
       refine done_ (done_of HT_.out (by kernel_rfl)) ?_
       try go_wp2
       go_ret
       exact ⟨xre, xq HB⟩
/-- THE PURE STATEMENT of changeforgelaw3_ObjectsGetMatchesSpec. -/
def changeforgelaw3_ObjectsGetMatchesSpec.Pure : Prop := ∀ (x0 : S24) (a1 : Int), S24.ok x0 → (Lit.int .i64 a1).wf = true → ∃ k, changeforgelaw3_ObjectsGetMatchesSpec.f k x0.f0 a1 = some true
end

end Go.Proofs.Ytnmkmamobhkcbaa.P

/- The pure statement of ObjectsGetMatchesSpec. -/
namespace Go.Proofs.Ytnmkmamobhkcbaa.Pure
open Go.RowKit Go.Proofs.YtnmkmamobhkcbaaW.PrintWords Go.Proofs.YtnmkmamobhkcbaaW.PrintEv Go.Proofs.Ytnmkmamobhkcbaa.P Go.Proofs.Ytnmkmamobhkcbaa.Dig Go.Proofs.Ytnmkmamobhkcbaa.Obj
set_option linter.unusedVariables false
theorem ObjectsGetMatchesSpec : changeforgelaw3_ObjectsGetMatchesSpec.Pure := by
  intro s d hs hd
  refine ev_ex ?_
  have hp := hs.2
  obtain ⟨l⟩ := s
  have hp : ∀ x ∈ l, fB.ok x := hp
  have hd : -9223372036854775808 ≤ d ∧ d ≤ 9223372036854775807 := by
    simp [Lit.wf, IntKind.min, IntKind.max, IntKind.bits, IntKind.signed] at hd
    omega
  have nil_same : Ev (fun k => aU.f k 0 ([] : List Int) ([] : List Int) 0 ([] : List Int) ([] : List Int)) true := by
    have := robjects_ev (k1 := 0) (k2 := 0) (l1 := []) (d1 := []) (l2 := []) (d2 := []) (by simp)
    rwa [same_refl] at this
  show Ev (fun k => changeforgelaw3_ObjectsGetMatchesSpec.f k l d) true
  unfold changeforgelaw3_ObjectsGetMatchesSpec.f
  refine ev_bind oexample_ev (ev_pos rfl ?_)
  refine Ev.step (fun k_ => by rw [changeforgelaw3_ObjectsGetMatchesSpec.j0]) ?_
  rcases has_ev hp hd with ⟨h, he, hg⟩ | ⟨e, hv, i, b, hf, he, hg⟩
  · exact ev_bind he (ev_bind hg (ev_bind (sflt_ev hp) (ev_neg h (ev_pos (by simp) (ev_pos (by simp) (ev_neg Bool.false_ne_true (ev_bind nil_same (ev_now _))))))))
  · have hsf := sflt_ev hp
    rw [e] at hsf
    have ha := at_ev hv hf
    refine ev_bind he (ev_bind hg (ev_bind hsf (ev_pos rfl ?_)))
    refine Ev.step (fun k_ => by rw [changeforgelaw3_ObjectsGetMatchesSpec.j1]) ?_
    refine ev_bind ha ?_
    cases b with
    | true =>
      have hy := (hf.yes rfl).1
      have hl := hv.len
      have g1 := (hv.good (i : Int) (by omega) (by omega)).1.nl
      have hsm := robjects_ev (k1 := (at_ l (i : Int)).f1.f0) (k2 := (at_ l (i : Int)).f1.f0) (l1 := (at_ l (i : Int)).f1.f1) (d1 := (at_ l (i : Int)).f1.f2) (l2 := (at_ l (i : Int)).f1.f1) (d2 := (at_ l (i : Int)).f1.f2) (by omega)
      rw [same_refl] at hsm
      rw [if_pos rfl, if_pos rfl]
      exact ev_neg (by omega) (ev_pos rfl (ev_pos rfl (ev_pos rfl (ev_pos (by omega) (ev_pos (by omega) (ev_bind hsm (ev_now _)))))))
    | false =>
      rw [if_neg (by decide), if_neg (by decide)]
      exact ev_pos (by decide) (ev_pos rfl (ev_neg (by decide) (ev_some (ev_pos (by decide) (ev_bind nil_same (ev_now _))))))
end Go.Proofs.Ytnmkmamobhkcbaa.Pure

/- The statement ObjectsGetMatchesSpec holds: for every input the law returns true and its arguments read as before. The row, out of the pure statement (PureObjectsGetMatchesSpec) and the printed contract. -/
namespace Go.Proofs.Ytnmkmamobhkcbaa.objectsGetMatchesSpec
open Go.ChangeShapes Go.WideShapes Go.ChangeAt Go.RowKit
open Go.ChangeMaps (open_string shut_string)
open Go.Proofs.YtnmkmamobhkcbaaW.PrintWords Go.Proofs.YtnmkmamobhkcbaaW.PrintOpen Go.Proofs.Ytnmkmamobhkcbaa.P
set_option linter.unusedVariables false
theorem own : ownKnob Try.prog.godebug = none := by kernel_rfl
theorem laidOut : laidOutB Try.prog = true := by kernel_rfl
set_option maxRecDepth 100000 in
theorem lifted (os : Os) (started : os.Started) (H : Type) (enc : TypeId × Value → H) :
    ReturnsInHanded {} Try.checked os 11 .any (Rows.objectsGetMatchesSpecSpec.pre6 enc Try.prog Try.f11 Rows.objectsGetMatchesSpecRow.domain false) (Rows.objectsGetMatchesSpecSpec.post enc Try.prog Try.f11 false true false false) := by
  refine returnsInHanded_of_change_sized (C := Try.checked) own started (by kernel_rfl) Try.func11
    (ChangeSpec.witness6 (enc := enc) (C := Try.checked) false ⟨#[], #[.agg #[.slice none 0 0], .int .i64 0], []⟩ 8 (by kernel_rfl) (by kernel_rfl) (by kernel_rfl) (by kernel_rfl)) ?_
  intro W base args ds gs before aDj hW hcnd aQc _
  have hsz : (DataW.weightsEach Try.prog (Try.f11.params.toList ++ Rows.objectsGetMatchesSpecSpec.plain.varTypes Try.prog) (ds ++ gs)).all (· ≤ reachBytes) = true := aQc
  have hval : ∀ (j : Nat) t v, Try.f11.params[j]? = some t → args[j]? = some v → Value.okWide Try.prog W .any base t v := aDj
  have hW' := hW
  obtain ⟨p, q, hA0, hV, rfl, hfz, hnd⟩ := hW
  have hA : DataW.TrodAll enc Try.prog W 0 (fun _ => true) true Try.f11.params.toList args.toList ds p := hA0
  rw [Try.params11] at hA hval hsz
  obtain ⟨v0, vs0, d0, ds0, p0, q0, hargs, rfl, rfl, h0, r0⟩ := trodAll_cons hA
  obtain ⟨v1, vs1, d1, ds1, p1, q1, rfl, rfl, rfl, h1, r1⟩ := trodAll_cons r0
  obtain ⟨rfl, rfl, rfl⟩ := trodAll_nil r1
  obtain rfl : args = #[v0, v1] := by cases args; simp_all
  obtain ⟨rfl, rfl⟩ := trodVars_none hV
  obtain ⟨cs0, rfl, _⟩ := okWide_struct Try.underlying24 (hval 0 24 v0 rfl rfl)
  have k0 := h0
  have lt0 : ∀ x ∈ p0, x.block < W.heap.size := by obtain ⟨m, hm⟩ := k0; exact DataW.trod_lt m _ _ _ hm
  obtain ⟨x0, hk0, y0⟩ := open_arg_struct aEm h0 (fits_arg hsz (j := 0) rfl rfl)
  obtain ⟨bUg, bUh, z0, nA, mZ⟩ := aDk hk0
  have z0_ := Array.toList_inj.1 (z0.trans (show _ = Array.toList #[.slice bUg x0.f0.length bUh] from rfl))
  subst z0_
  obtain ⟨a1, rfl, rfl, rfl, w1⟩ := open_int Try.underlying3 (hval 1 3 v1 rfl rfl) h1
  clear hA0 aDj aQc hsz
  obtain ⟨k, hp⟩ := Pure.ObjectsGetMatchesSpec x0 a1 y0 w1
  refine (P.changeforgelaw3_ObjectsGetMatchesSpec.calls k _ _ x0.f0 a1 true W mZ nA hp).mono fun e W' ⟨he, bel⟩ => ?_
  subst he
  exact ⟨_, rfl, _, _, _, [], _, [], hW', trodAll_mk1 (shut_bool Try.underlying4 _), (trodAll_cons_mk (Below.trod laidOut (by kernel_rfl) (of_decide_eq_true (by kernel_rfl)) k0 bel lt0) (trodAll_cons_mk (shut_int Try.underlying3 w1) trodAll_mk0)), rfl, bel.frame _, fun h => by cases h⟩
theorem over : Rows.objectsGetMatchesSpecRow.holds Try.pinned (OpenSpec.ofChange Rows.objectsGetMatchesSpecSpec) :=
  OpenClaim.holds_of_wide 11 Try.f11 rfl rfl rfl rfl rfl rfl rfl ⟨rfl, rfl, rfl, rfl, rfl⟩ rfl rfl rfl rfl rfl (by kernel_rfl) Try.func11 (by kernel_rfl)
    (of_decide_eq_true (by kernel_rfl)) (by unfold Func.isWrapper; first | (rw [if_pos (by decide +kernel)]; kernel_rfl) | (rw [if_neg (by decide +kernel)]; exact ⟨rfl, rfl⟩))
    (fun os started H enc _ => lifted os started H enc)
theorem proved : Rows.ObjectsGetMatchesSpecSaid := over
#print axioms proved
end Go.Proofs.Ytnmkmamobhkcbaa.objectsGetMatchesSpec
namespace Go.Proofs.Ytnmkmamobhkcbaa
/-- The row, under a short name, for the claim. -/
theorem objectsGetMatchesSpec_holds : Rows.ObjectsGetMatchesSpecSaid := objectsGetMatchesSpec.proved
end Go.Proofs.Ytnmkmamobhkcbaa
