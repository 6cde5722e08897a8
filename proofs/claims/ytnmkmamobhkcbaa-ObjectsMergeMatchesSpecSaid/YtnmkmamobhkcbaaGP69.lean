/- Texts of the proofs of ObjectsMergeMatchesSpec: what the printed functions come to, plain laws, rows (no condition beyond the statements' own). -/
import Derived.Test.YtnmkmamobhkcbaaGP0
import Derived.Test.YtnmkmamobhkcbaaGP10
import Derived.Test.YtnmkmamobhkcbaaGP35
namespace Go.Proofs.Ytnmkmamobhkcbaa.P
open Go.RowKit Go.Proofs.YtnmkmamobhkcbaaW.PrintWords Go.Proofs.YtnmkmamobhkcbaaW.PrintLast Go.Proofs.YtnmkmamobhkcbaaW.PrintMore
attribute [local go_sem] max2_int min2_int max_two min_two max_three min_three max_four min_four   -- for this text's walks alone
set_option linter.unusedVariables false
set_option linter.unusedSimpArgs false
mutual
def aC.l0 : Nat → Int → Int → List (fB) → List (fB) → List (fB) → Option ((List (fB)) × Int × Int)
  | 0, _, _, _, _, _ => none
  | k + 1, x7, x8, uW, sD, aCh => if x7 < (uW.length : Int) then (aC.j1 k x7 x8 true uW sD aCh) else (aC.j1 k x7 x8 (decide (x8 < (sD.length : Int))) uW sD aCh)
def aC.j1 : Nat → Int → Int → Bool → List (fB) → List (fB) → List (fB) → Option ((List (fB)) × Int × Int)
  | 0, _, _, _, _, _, _ => none
  | k + 1, x7, x8, x21, uW, sD, aCh => if x21 = true then (if x8 = (sD.length : Int) then (aC.j2 k x7 x8 true uW sD aCh) else (if x7 < (uW.length : Int) then (if 0 ≤ x7 then (if 0 ≤ x8 then (if x8 < (sD.length : Int) then (aC.j2 k x7 x8 (decide (((aA uW x7).f0) < ((aA sD x8).f0))) uW sD aCh) else (none)) else (none)) else (none)) else (aC.j2 k x7 x8 false uW sD aCh))) else (if (aCh.length : Int) > 40 then ((aT.f 14 (-1)).bind fun dHm => (some (([] : List (fB)), dHm.1, dHm.2))) else (some (aCh, 0, 0)))
def aC.j2 : Nat → Int → Int → Bool → List (fB) → List (fB) → List (fB) → Option ((List (fB)) × Int × Int)
  | 0, _, _, _, _, _, _ => none
  | k + 1, x7, x8, x48, uW, sD, aCh => if x48 = true then (if 0 ≤ x7 then (if x7 < (uW.length : Int) then (if aCh.length < 2199023255552 then (aC.l0 k (wrap64 (x7 + 1)) x8 uW sD (aCh ++ [(⟨(aA uW x7).f0, (⟨(aA uW x7).f1.f0, (aA uW x7).f1.f1, (aA uW x7).f1.f2⟩ : S44)⟩ : fB)])) else (none)) else (none)) else (none)) else (if x7 < (uW.length : Int) then (if 0 ≤ x7 then (if 0 ≤ x8 then (if x8 < (sD.length : Int) then (aC.j3 k x7 x8 (((aA uW x7).f0) == ((aA sD x8).f0)) uW sD aCh) else (none)) else (none)) else (none)) else (aC.j3 k x7 x8 false uW sD aCh))
def aC.j3 : Nat → Int → Int → Bool → List (fB) → List (fB) → List (fB) → Option ((List (fB)) × Int × Int)
  | 0, _, _, _, _, _, _ => none
  | k + 1, x7, x8, x80, uW, sD, aCh => if x80 = true then (if 0 ≤ x7 then (if x7 < (uW.length : Int) then (if 0 ≤ x8 then (if x8 < (sD.length : Int) then ((aU.f k ((aA uW x7).f1.f0) ((aA uW x7).f1.f1) ((aA uW x7).f1.f2) ((aA sD x8).f1.f0) ((aA sD x8).f1.f1) ((aA sD x8).f1.f2)).bind fun dZt => (if dZt = true then (if aCh.length < 2199023255552 then (aC.l0 k (wrap64 (x7 + 1)) (wrap64 (x8 + 1)) uW sD (aCh ++ [(⟨(aA sD x8).f0, (⟨(aA sD x8).f1.f0, (aA sD x8).f1.f1, (aA sD x8).f1.f2⟩ : S44)⟩ : fB)])) else (none)) else ((aT.f 19 x8).bind fun bNy => (some (([] : List (fB)), bNy.1, bNy.2))))) else (none)) else (none)) else (none)) else (none)) else (if 0 ≤ x8 then (if x8 < (sD.length : Int) then (if aCh.length < 2199023255552 then (aC.l0 k x7 (wrap64 (x8 + 1)) uW sD (aCh ++ [(⟨(aA sD x8).f0, (⟨(aA sD x8).f1.f0, (aA sD x8).f1.f1, (aA sD x8).f1.f2⟩ : S44)⟩ : fB)])) else (none)) else (none)) else (none))
end
def aC.f (k : Nat) (aD : List (fB)) (bR : List (fB)) : Option ((List (fB)) × Int × Int) := aC.l0 k 0 0 aD bR ([] : List (fB))
theorem aC.mono_l : ∀ k, (∀ y0 y1 y2 y3 y4, LeO (aC.l0 k y0 y1 y2 y3 y4) (aC.l0 (k + 1) y0 y1 y2 y3 y4)) ∧ (∀ y0 y1 y2 y3 y4 y5, LeO (aC.j1 k y0 y1 y2 y3 y4 y5) (aC.j1 (k + 1) y0 y1 y2 y3 y4 y5)) ∧ (∀ y0 y1 y2 y3 y4 y5, LeO (aC.j2 k y0 y1 y2 y3 y4 y5) (aC.j2 (k + 1) y0 y1 y2 y3 y4 y5)) ∧ (∀ y0 y1 y2 y3 y4 y5, LeO (aC.j3 k y0 y1 y2 y3 y4 y5) (aC.j3 (k + 1) y0 y1 y2 y3 y4 y5))
  | 0 => ⟨fun _ _ _ _ _ r h => by simp [aC.l0] at h, fun _ _ _ _ _ _ r h => by simp [aC.j1] at h, fun _ _ _ _ _ _ r h => by simp [aC.j2] at h, fun _ _ _ _ _ _ r h => by simp [aC.j3] at h⟩
  | k + 1 => by
    obtain ⟨mU, ih1, ih2, ih3⟩ := aC.mono_l k
    refine ⟨?_, ?_, ?_, ?_⟩
    all_goals intros; first | unfold aC.l0 | unfold aC.j1 | unfold aC.j2 | unfold aC.j3
    all_goals repeat' first | (with_reducible first | exact mU _ _ _ _ _ | exact ih1 _ _ _ _ _ _ | exact ih2 _ _ _ _ _ _ | exact ih3 _ _ _ _ _ _ | exact aU.mono _ _ _ _ _ _ _ | exact LeO.refl _ | exact LeO.none _ | refine LeO.ite ?_ ?_ | refine LeO.bind ?_ (fun _ => ?_)) | exact mU _ _ _ _ _ | exact ih1 _ _ _ _ _ _ | exact ih2 _ _ _ _ _ _ | exact ih3 _ _ _ _ _ _ | exact aU.mono _ _ _ _ _ _ _ | exact LeO.none _ | refine LeO.ite ?_ ?_ | refine LeO.bind ?_ (fun _ => ?_)
theorem aC.mono : ∀ a0 a1 k, LeO (aC.f k a0 a1) (aC.f (k + 1) a0 a1) := by
  intro a0 a1 k
  obtain ⟨mU, ih1, ih2, ih3⟩ := aC.mono_l k
  unfold aC.f
  repeat' first | (with_reducible first | exact mU _ _ _ _ _ | exact ih1 _ _ _ _ _ _ | exact ih2 _ _ _ _ _ _ | exact ih3 _ _ _ _ _ _ | exact aU.mono _ _ _ _ _ _ _ | exact LeO.refl _ | exact LeO.none _ | refine LeO.ite ?_ ?_ | refine LeO.bind ?_ (fun _ => ?_)) | exact mU _ _ _ _ _ | exact ih1 _ _ _ _ _ _ | exact ih2 _ _ _ _ _ _ | exact ih3 _ _ _ _ _ _ | exact aU.mono _ _ _ _ _ _ _ | exact LeO.none _ | refine LeO.ite ?_ ?_ | refine LeO.bind ?_ (fun _ => ?_)
def aC.T4 : Bool × List (List Nat × List Nat) := (true, [([], []), ([], []), ([1], [1]), ([2], [2]), ([0, 3], [0, 3]), ([4], [4]), ([5], [5]), ([5], [5]), ([7, 5], [5, 7]), ([8, 5], [5, 8]), ([6, 9, 5], [5, 6, 9]), ([10, 5, 5], [5, 10]), ([11], [11]), ([12, 11], [11, 12]), ([11], [11]), ([13, 14, 11], [11, 13, 14]), ([15, 11], [11, 15]), ([16, 11], [11, 16]), ([11], [11]), ([18, 11], [11, 18]), ([11], [11]), ([19, 20, 11], [11, 19, 20]), ([21, 11], [11, 21]), ([22, 11], [11, 22]), ([17, 23, 11], [11, 17, 23]), ([11, 24, 5], [5, 11, 24]), ([5, 25], [5, 25])])
def aC.B4 : List Nat := [0, 0, 2, 6, 15, 31, 63, 63, 191, 447, 1023, 2047, 4095, 8191, 4095, 32767, 65535, 131071, 4095, 266239, 4095, 1839103, 3936255, 8130559, 16777215, 33554431, 67108863]
theorem aC.tab4 : rtab .any (opsOf Try.f38 4) = aC.T4 := by kernel_rfl
theorem aC.bits4 : waitsOk aC.T4.2 aC.B4 = true := by kernel_rfl
def aC.T5 : Bool × List (List Nat × List Nat) := (true, [([], []), ([0], [0]), ([], []), ([2], [2]), ([], []), ([3, 4], [3, 4]), ([5], [5]), ([6], [6]), ([1, 7], [1, 7]), ([0, 1, 2, 3, 4, 5, 6, 7, 8], []), ([9, 8, 8, 0, 1, 2, 3, 4, 5, 6, 7, 8], [8, 9])])
def aC.B5 : List Nat := [0, 1, 0, 4, 0, 28, 60, 124, 255, 511, 1023]
theorem aC.tab5 : rtab .any (opsOf Try.f38 5) = aC.T5 := by kernel_rfl
theorem aC.bits5 : waitsOk aC.T5.2 aC.B5 = true := by kernel_rfl
def aC.T7 : Bool × List (List Nat × List Nat) := (true, [([], []), ([], []), ([1], [1]), ([2], [2]), ([0, 3], [0, 3]), ([4], [4]), ([5], [5]), ([6, 5], [5, 6]), ([5], [5]), ([7, 8, 5], [5, 7, 8]), ([9, 5], [5, 9]), ([10, 5], [5, 10]), ([5], [5]), ([12, 5], [5, 12]), ([5], [5]), ([13, 14, 5], [5, 13, 14]), ([15, 5], [5, 15]), ([16, 5], [5, 16]), ([11, 17, 5], [5, 11, 17]), ([5, 18], [5, 18])])
def aC.B7 : List Nat := [0, 0, 2, 6, 15, 31, 63, 127, 63, 511, 1023, 2047, 63, 4159, 63, 28735, 61503, 127039, 262143, 524287]
theorem aC.tab7 : rtab .any (opsOf Try.f38 7) = aC.T7 := by kernel_rfl
theorem aC.bits7 : waitsOk aC.T7.2 aC.B7 = true := by kernel_rfl
def aC.T8 : Bool × List (List Nat × List Nat) := (true, [([], []), ([0], [0]), ([], []), ([1, 2], [1, 2]), ([3], [3]), ([4], [4]), ([], []), ([6], [6]), ([], []), ([7, 8], [7, 8]), ([9], [9]), ([10], [10]), ([5, 11], [5, 11]), ([12], [12])])
def aC.B8 : List Nat := [0, 1, 0, 7, 15, 31, 0, 64, 0, 448, 960, 1984, 4095, 8191]
theorem aC.tab8 : rtab .any (opsOf Try.f38 8) = aC.T8 := by kernel_rfl
theorem aC.bits8 : waitsOk aC.T8.2 aC.B8 = true := by kernel_rfl
def aC.T11 : Bool × List (List Nat × List Nat) := (true, [([], []), ([0], [0]), ([], []), ([2], [2]), ([], []), ([3, 4], [3, 4]), ([5], [5]), ([6], [6]), ([1, 7], [1, 7]), ([0, 1, 2, 3, 4, 5, 6, 7, 8], []), ([9, 8, 8, 0, 1, 2, 3, 4, 5, 6, 7, 8], [8, 9])])
def aC.B11 : List Nat := [0, 1, 0, 4, 0, 28, 60, 124, 255, 511, 1023]
theorem aC.tab11 : rtab .any (opsOf Try.f38 11) = aC.T11 := by kernel_rfl
theorem aC.bits11 : waitsOk aC.T11.2 aC.B11 = true := by kernel_rfl
abbrev aC.Z1 : Array Bool := #[U,U,U,U,U,U,U,U,U,U,U,U,U,U,U,U,U,U,U,U,U,U,U,U,U,U,U]
abbrev aC.Z2 : Array Bool := #[J,U,U,U,U,U,U,U,U,U,U,U,U,U,U,U,U,U,U,U,U,U,U,U,U,U,U]
abbrev aC.Z3 : Array Bool := #[J,J,U,U,U,U,U,U,U,U,U,U,U,U,U,U,U,U,U,U,U,U,U,U,U,U,U]
abbrev aC.Z4 : Array Bool := #[J,J,J,U,U,U,U,U,U,U,U,U,U,U,U,U,U,U,U,U,U,U,U,U,U,U,U]
abbrev aC.Z5 : Array Bool := #[J,J,J,J,U,U,U,U,U,U,U,U,U,U,U,U,U,U,U,U,U,U,U,U,U,U,U]
abbrev aC.Z6 : Array Bool := #[J,J,J,J,J,U,U,U,U,U,U,U,U,U,U,U,U,U,U,U,U,U,U,U,U,U,U]
abbrev aC.Z7 : Array Bool := #[J,J,J,J,J,J,U,U,U,U,U,U,U,U,U,U,U,U,U,U,U,U,U,U,U,U,U]
abbrev aC.Z8 : Array Bool := #[J,J,J,J,J,J,J,U,U,U,U,U,U,U,U,U,U,U,U,U,U,U,U,U,U,U,U]
abbrev aC.Z9 : Array Bool := #[J,J,J,J,J,J,J,J,U,U,U,U,U,U,U,U,U,U,U,U,U,U,U,U,U,U,U]
abbrev aC.Z10 : Array Bool := #[J,J,J,J,J,J,J,J,J,U,U,U,U,U,U,U,U,U,U,U,U,U,U,U,U,U,U]
abbrev aC.Z11 : Array Bool := #[J,J,J,J,J,J,J,J,J,J,U,U,U,U,U,U,U,U,U,U,U,U,U,U,U,U,U]
abbrev aC.Z12 : Array Bool := #[J,J,J,J,J,J,J,J,J,J,J,U,U,U,U,U,U,U,U,U,U,U,U,U,U,U,U]
abbrev aC.Z13 : Array Bool := #[J,J,J,J,J,J,J,J,J,J,J,J,U,U,U,U,U,U,U,U,U,U,U,U,U,U,U]
abbrev aC.Z14 : Array Bool := #[J,J,J,J,J,J,J,J,J,J,J,J,J,U,U,U,U,U,U,U,U,U,U,U,U,U,U]
abbrev aC.Z15 : Array Bool := #[J,J,J,J,J,J,J,J,J,J,J,J,J,J,U,U,U,U,U,U,U,U,U,U,U,U,U]
abbrev aC.Z16 : Array Bool := #[J,J,J,J,J,J,J,J,J,J,J,J,J,J,J,U,U,U,U,U,U,U,U,U,U,U,U]
abbrev aC.Z17 : Array Bool := #[J,J,J,J,J,J,J,J,J,J,J,J,J,J,J,J,U,U,U,U,U,U,U,U,U,U,U]
abbrev aC.Z18 : Array Bool := #[J,J,J,J,J,J,J,J,J,J,J,J,J,J,J,J,J,U,U,U,U,U,U,U,U,U,U]
abbrev aC.Z19 : Array Bool := #[J,J,J,J,J,J,J,J,J,J,J,J,J,J,J,J,J,J,U,U,U,U,U,U,U,U,U]
abbrev aC.Z20 : Array Bool := #[J,J,J,J,J,J,J,J,J,J,J,J,J,J,J,J,J,J,J,U,U,U,U,U,U,U,U]
abbrev aC.Z21 : Array Bool := #[J,J,J,J,J,J,J,J,J,J,J,J,J,J,J,J,J,J,J,J,U,U,U,U,U,U,U]
abbrev aC.Z22 : Array Bool := #[J,J,J,J,J,J,J,J,J,J,J,J,J,J,J,J,J,J,J,J,J,U,U,U,U,U,U]
abbrev aC.Z23 : Array Bool := #[J,J,J,J,J,J,J,J,J,J,J,J,J,J,J,J,J,J,J,J,J,J,U,U,U,U,U]
abbrev aC.Z24 : Array Bool := #[J,J,J,J,J,J,J,J,J,J,J,J,J,J,J,J,J,J,J,J,J,J,J,U,U,U,U]
abbrev aC.Z25 : Array Bool := #[J,J,J,J,J,J,J,J,J,J,J,J,J,J,J,J,J,J,J,J,J,J,J,J,U,U,U]
abbrev aC.Z26 : Array Bool := #[J,J,J,J,J,J,J,J,J,J,J,J,J,J,J,J,J,J,J,J,J,J,J,J,J,U,U]
abbrev aC.Z27 : Array Bool := #[J,J,J,J,J,J,J,J,J,J,J,J,J,J,J,J,J,J,J,J,J,J,J,J,J,J,U]
abbrev aC.Z28 : Array Bool := #[J,J,J,J,J,J,J,J,J,J,J,J,J,J,J,J,J,J,J,J,J,J,J,J,J,J,J]
abbrev aC.Z29 : Array Bool := #[J,J,J,J,J,J,J,J,J,J,J,J,J,U,J,U,U,U,U,U,U,U,U,U,U,U,U]
abbrev aC.Z30 : Array Bool := #[J,J,J,J,J,J,J,J,J,J,J,J,J,U,J,U,U,U,J,U,U,U,U,U,U,U,U]
abbrev aC.Z31 : Array Bool := #[J,J,J,J,J,J,J,J,J,J,J,J,J,U,J,U,U,U,J,U,J,U,U,U,U,U,U]
abbrev aC.Z32 : Array Bool := #[J,J,J,J,J,J,J,J,J,J,J,J,J,J,J,U,U,U,J,U,J,U,U,U,U,U,U]
abbrev aC.Z33 : Array Bool := #[J,J,J,J,J,J,J,J,J,J,J,J,J,J,J,J,U,U,J,U,J,U,U,U,U,U,U]
abbrev aC.Z34 : Array Bool := #[J,J,J,J,J,J,J,J,J,J,J,J,J,J,J,J,J,U,J,U,J,U,U,U,U,U,U]
abbrev aC.Z35 : Array Bool := #[J,J,J,J,J,J,J,J,J,J,J,J,J,J,J,J,J,J,J,U,J,U,U,U,U,U,U]
abbrev aC.Z36 : Array Bool := #[U,U,U,U,U,U,U,U,U,U,U]
abbrev aC.Z37 : Array Bool := #[J,U,U,U,U,U,U,U,U,U,U]
abbrev aC.Z38 : Array Bool := #[J,U,J,U,U,U,U,U,U,U,U]
abbrev aC.Z39 : Array Bool := #[J,U,J,U,J,U,U,U,U,U,U]
abbrev aC.Z40 : Array Bool := #[J,J,J,U,J,U,U,U,U,U,U]
abbrev aC.Z41 : Array Bool := #[J,J,J,J,J,U,U,U,U,U,U]
abbrev aC.Z42 : Array Bool := #[J,J,J,J,J,J,U,U,U,U,U]
abbrev aC.Z43 : Array Bool := #[J,J,J,J,J,J,J,U,U,U,U]
abbrev aC.Z44 : Array Bool := #[J,J,J,J,J,J,J,J,U,U,U]
abbrev aC.Z45 : Array Bool := #[J,J,J,J,J,J,J,J,J,U,U]
abbrev aC.Z46 : Array Bool := #[J,J,J,J,J,J,J,J,J,J,U]
abbrev aC.Z47 : Array Bool := #[J,J,J,J,J,J,J,J,J,J,J]
abbrev aC.Z48 : Array Bool := #[U,U,U,U,U,U,U,U,U,U,U,U,U,U,U,U,U,U,U,U]
abbrev aC.Z49 : Array Bool := #[J,U,U,U,U,U,U,U,U,U,U,U,U,U,U,U,U,U,U,U]
abbrev aC.Z50 : Array Bool := #[J,J,U,U,U,U,U,U,U,U,U,U,U,U,U,U,U,U,U,U]
abbrev aC.Z51 : Array Bool := #[J,J,J,U,U,U,U,U,U,U,U,U,U,U,U,U,U,U,U,U]
abbrev aC.Z52 : Array Bool := #[J,J,J,J,U,U,U,U,U,U,U,U,U,U,U,U,U,U,U,U]
abbrev aC.Z53 : Array Bool := #[J,J,J,J,J,U,U,U,U,U,U,U,U,U,U,U,U,U,U,U]
abbrev aC.Z54 : Array Bool := #[J,J,J,J,J,J,U,U,U,U,U,U,U,U,U,U,U,U,U,U]
abbrev aC.Z55 : Array Bool := #[J,J,J,J,J,J,J,U,U,U,U,U,U,U,U,U,U,U,U,U]
abbrev aC.Z56 : Array Bool := #[J,J,J,J,J,J,J,U,J,U,U,U,U,U,U,U,U,U,U,U]
abbrev aC.Z57 : Array Bool := #[J,J,J,J,J,J,J,U,J,U,U,U,J,U,U,U,U,U,U,U]
abbrev aC.Z58 : Array Bool := #[J,J,J,J,J,J,J,U,J,U,U,U,J,U,J,U,U,U,U,U]
abbrev aC.Z59 : Array Bool := #[J,J,J,J,J,J,J,J,J,U,U,U,J,U,J,U,U,U,U,U]
abbrev aC.Z60 : Array Bool := #[J,J,J,J,J,J,J,J,J,J,U,U,J,U,J,U,U,U,U,U]
abbrev aC.Z61 : Array Bool := #[J,J,J,J,J,J,J,J,J,J,J,U,J,U,J,U,U,U,U,U]
abbrev aC.Z62 : Array Bool := #[J,J,J,J,J,J,J,J,J,J,J,J,J,U,J,U,U,U,U,U]
abbrev aC.Z63 : Array Bool := #[J,J,J,J,J,J,J,J,J,J,J,J,J,J,J,U,U,U,U,U]
abbrev aC.Z64 : Array Bool := #[J,J,J,J,J,J,J,J,J,J,J,J,J,J,J,J,U,U,U,U]
abbrev aC.Z65 : Array Bool := #[J,J,J,J,J,J,J,J,J,J,J,J,J,J,J,J,J,U,U,U]
abbrev aC.Z66 : Array Bool := #[J,J,J,J,J,J,J,J,J,J,J,J,J,J,J,J,J,J,U,U]
abbrev aC.Z67 : Array Bool := #[J,J,J,J,J,J,J,J,J,J,J,J,J,J,J,J,J,J,J,U]
abbrev aC.Z68 : Array Bool := #[J,J,J,J,J,J,J,J,J,J,J,J,J,J,J,J,J,J,J,J]
abbrev aC.Z69 : Array Bool := #[J,J,J,J,J,J,J,J,U,U,U,U,U,U,U,U,U,U,U,U]
abbrev aC.Z70 : Array Bool := #[J,J,J,J,J,J,J,J,J,U,U,U,U,U,U,U,U,U,U,U]
abbrev aC.Z71 : Array Bool := #[J,J,J,J,J,J,J,J,J,J,U,U,U,U,U,U,U,U,U,U]
abbrev aC.Z72 : Array Bool := #[J,J,J,J,J,J,J,J,J,J,J,U,U,U,U,U,U,U,U,U]
abbrev aC.Z73 : Array Bool := #[J,J,J,J,J,J,J,J,J,J,J,J,U,U,U,U,U,U,U,U]
abbrev aC.Z74 : Array Bool := #[J,J,J,J,J,J,J,J,J,J,J,J,J,U,U,U,U,U,U,U]
abbrev aC.Z75 : Array Bool := #[J,J,J,J,J,J,J,J,J,J,J,J,J,J,U,U,U,U,U,U]
abbrev aC.Z76 : Array Bool := #[U,U,U,U,U,U,U,U,U,U,U,U,U,U]
abbrev aC.Z77 : Array Bool := #[J,U,U,U,U,U,U,U,U,U,U,U,U,U]
abbrev aC.Z78 : Array Bool := #[J,U,J,U,U,U,U,U,U,U,U,U,U,U]
abbrev aC.Z79 : Array Bool := #[J,U,J,U,U,U,J,U,U,U,U,U,U,U]
abbrev aC.Z80 : Array Bool := #[J,U,J,U,U,U,J,U,J,U,U,U,U,U]
abbrev aC.Z81 : Array Bool := #[J,J,J,U,U,U,J,U,J,U,U,U,U,U]
abbrev aC.Z82 : Array Bool := #[J,J,J,J,U,U,J,U,J,U,U,U,U,U]
abbrev aC.Z83 : Array Bool := #[J,J,J,J,J,U,J,U,J,U,U,U,U,U]
abbrev aC.Z84 : Array Bool := #[J,J,J,J,J,J,J,U,J,U,U,U,U,U]
abbrev aC.Z85 : Array Bool := #[J,J,J,J,J,J,J,J,J,U,U,U,U,U]
abbrev aC.Z86 : Array Bool := #[J,J,J,J,J,J,J,J,J,J,U,U,U,U]
abbrev aC.Z87 : Array Bool := #[J,J,J,J,J,J,J,J,J,J,J,U,U,U]
abbrev aC.Z88 : Array Bool := #[J,J,J,J,J,J,J,J,J,J,J,J,U,U]
abbrev aC.Z89 : Array Bool := #[J,J,J,J,J,J,J,J,J,J,J,J,J,U]
abbrev aC.Z90 : Array Bool := #[J,J,J,J,J,J,J,J,J,J,J,J,J,J]
set_option maxHeartbeats 8000000 in
set_option maxRecDepth 100000 in
theorem aC.calls (k : Nat) (eP : Nat → Prop) (bP : Option Addr) (bK : Nat) (aD : List (fB)) (kT : Nat → Prop) (tT : Option Addr) (qD : Nat) (bR : List (fB)) (r1 : List (fB)) (r2 : Int) (r3 : Int) (w : World) (dGw : Kd.V qL 46 w w.heap.size (fun k_ => eP k_) (.slice bP aD.length bK) aD) (eLj : Kd.V qL 46 w w.heap.size (fun k_ => kT k_) (.slice tT bR.length qD) bR) (h : aC.f k aD bR = some (r1, r2, r3)) :
  Calls Try.prog 38 #[.agg #[.slice bP aD.length bK], .agg #[.slice tT bR.length qD]] w fun e w' => ∃ v0_ : Value, e = .returned (.tuple #[.agg #[v0_], .agg #[.int .i64 r2, .int .i64 r3]]) ∧ Kd.N qL 46 w' w.heap.size (fun k_ => ((eP k_ ∨ kT k_) ∨ w.heap.size ≤ k_)) v0_ r1 ∧ Below w.heap.size w w' := by
  have aP7 := Try.underlying24
  have aQg := Try.underlying28
  have cRq := Try.underlying46
  have aQf := Try.underlying44
  have kK := aZ (show Kd.V qL 46 w w.heap.size (fun k_ => ((eP k_ ∨ kT k_) ∨ w.heap.size ≤ k_)) (.slice bP aD.length bK) aD from Kd.V_mono dGw (fun k_ hk => .inl (.inl hk)))
  have aF8 := aZ (show Kd.V qL 46 w w.heap.size (fun k_ => ((eP k_ ∨ kT k_) ∨ w.heap.size ≤ k_)) (.slice tT bR.length qD) bR from Kd.V_mono eLj (fun k_ hk => .inl (.inr hk)))
  have HB := aZ (Below.refl w.heap.size w)
  have H : (aC.l0 k 0 0 aD bR ([] : List (fB))) = some (r1, r2, r3) := h
  clear h
  have H' := aZ H
  clear H
  go_enter Try.func38, Try.ntmps38
  go_wp2_with (first | ((with_reducible refine gate_dst (N := 2) rfl ?_); (try (refine gate_guard (by rfl) ?_; dsimp only)); refine box_event ?hg (N := 2) ?hd (cs := #[.slice bP aD.length bK]) (t := 24) ?hr ?_; (case hd => rfl); (case hg => rfl); (case hr => first | (go_simp; done) | (go_simp; rfl)); intro oM hg w3 hbox hb; replace kK := xVB kK hg hb; replace aF8 := xVB aF8 hg hb; have kI := aZ (hbox); have iDy := xgh hg HB; have bZ8 := xgh hg HB; replace HB := xhl HB hb; clear hb hbox hg) | ((with_reducible refine gate_dst (N := 3) rfl ?_); (try (refine gate_guard (by rfl) ?_; dsimp only)); refine box_event ?hg (N := 3) ?hd (cs := #[.slice tT bR.length qD]) (t := 24) ?hr ?_; (case hd => rfl); (case hg => rfl); (case hr => first | (go_simp; done) | (go_simp; rfl)); intro oN hg w4 hbox hb; replace kK := xVB kK hg hb; replace aF8 := xVB aF8 hg hb; have kQ := aZ (hbox); have iDz := xgh hg HB; have bZ9 := xgh hg HB; replace HB := xhl HB hb; have cTx := xnl hg kI; have cTy := xng hg kI; replace kI := xbb kI hb; clear hb hbox hg) | ((with_reducible refine gate_dst (N := 4) rfl ?_); (try (refine gate_guard (by rfl) ?_; dsimp only)); refine box_event ?hg (N := 4) ?hd (cs := #[.slice none 0 0]) (t := 24) ?hr ?_; (case hd => rfl); (case hg => rfl); (case hr => first | (go_simp; done) | (go_simp; rfl)); intro oP hg w5 hbox hb; replace kK := xVB kK hg hb; replace aF8 := xVB aF8 hg hb; have lU := aZ (hbox); have iD0 := xgh hg HB; have cAa := xgh hg HB; replace HB := xhl HB hb; have bF6 := xnl hg kI; have bF7 := xng hg kI; replace kI := xbb kI hb; have bQf := xnl hg kQ; have bQg := xng hg kQ; replace kQ := xbb kQ hb; clear hb hbox hg) | ((with_reducible refine gate_dst (N := 5) rfl ?_); (try (refine gate_guard (by rfl) ?_; dsimp only)); refine box_event ?hg (N := 5) ?hd (cs := #[.int .i64 0, .int .i64 0]) (t := 28) ?hr ?_; (case hd => rfl); (case hg => rfl); (case hr => first | (go_simp; done) | (go_simp; rfl)); intro oF hg w6 hbox hb; replace kK := xVB kK hg hb; replace aF8 := xVB aF8 hg hb; have lI := aZ (hbox); have iD1 := xgh hg HB; have cAb := xgh hg HB; replace HB := xhl HB hb; have bF8 := xnl hg kI; have bF9 := xng hg kI; replace kI := xbb kI hb; have bQh := xnl hg kQ; have bQi := xng hg kQ; replace kQ := xbb kQ hb; have aMj := xnl hg lU; have aZs := xng hg lU; replace lU := xbb lU hb; clear hb hbox hg) | ((with_reducible refine gate_dst (N := 6) rfl ?_); (try (refine gate_guard (by rfl) ?_; dsimp only)); refine box_event ?hg (N := 6) ?hd (cs := #[.slice none 0 0]) (t := 24) ?hr ?_; (case hd => rfl); (case hg => rfl); (case hr => first | (go_simp; done) | (go_simp; rfl)); intro lF hg w7 hbox hb; replace kK := xVB kK hg hb; replace aF8 := xVB aF8 hg hb; have lM := aZ (hbox); have iD2 := xgh hg HB; have cAc := xgh hg HB; replace HB := xhl HB hb; have aO9 := xnl hg kI; have aPa := xng hg kI; replace kI := xbb kI hb; have aUj := xnl hg kQ; have aUk := xng hg kQ; replace kQ := xbb kQ hb; have aUl := xnl hg lU; have aUm := xng hg lU; replace lU := xbb lU hb; have aUn := xnl hg lI; have aUo := xng hg lI; replace lI := xbb lI hb; clear hb hbox hg; have dYw := aPa.out; have dYx := aO9.out; have dJq := aUk.out; have dJr := aUj.out; have dDc := aUm.out; have dDd := aUl.out; have bMj := aUo.out; have bMk := aUn.out; have aHh : w7.cell? ⟨lF, 0, none⟩ = some (.slice none 0 0) := (blk_cell lM.out 0).trans rfl; have aHi := blk_frozen lM.out 0))
  go_loopg [7, 8] k (fun kq v7 v8 w' => ∃ (iN : Int) (fF : Int) (uH : Int) (rR : Int) (jS : List (fB)) (u873000 : Value), v7 = .int .i64 iN ∧ v8 = .int .i64 fF ∧ Aside0 (aC.l0 kq iN fF aD bR jS = some (r1, r2, r3)) ∧ Aside0 (kq ≤ k) ∧ Aside0 (Kd.V qL 46 w' w.heap.size (fun k_ => ((eP k_ ∨ kT k_) ∨ w.heap.size ≤ k_) ∧ some k_ ≠ (u873000 : Value).ownBlock ∧ k_ ≠ oM ∧ k_ ≠ oN ∧ k_ ≠ oP ∧ k_ ≠ oF ∧ k_ ≠ lF) (.slice bP aD.length bK) aD) ∧ Aside0 (Kd.V qL 46 w' w.heap.size (fun k_ => ((eP k_ ∨ kT k_) ∨ w.heap.size ≤ k_) ∧ some k_ ≠ (u873000 : Value).ownBlock ∧ k_ ≠ oM ∧ k_ ≠ oN ∧ k_ ≠ oP ∧ k_ ≠ oF ∧ k_ ≠ lF) (.slice tT bR.length qD) bR) ∧ Aside0 (Kd.N qL 46 w' w.heap.size (fun k_ => ((eP k_ ∨ kT k_) ∨ w.heap.size ≤ k_) ∧ k_ ≠ oM ∧ k_ ≠ oN ∧ k_ ≠ oP ∧ k_ ≠ oF ∧ k_ ≠ lF) u873000 jS) ∧ Aside0 (w'.heap[oM]? = some (.cells #[(.slice bP aD.length bK)] 24 (0, 0))) ∧ Aside0 (w'.heap[oN]? = some (.cells #[(.slice tT bR.length qD)] 24 (0, 0))) ∧ Aside0 (w'.heap[oP]? = some (.cells #[(.slice none 0 0)] 24 (0, 0))) ∧ Aside0 (w'.heap[oF]? = some (.cells #[.int .i64 uH, .int .i64 rR] 28 (0, 0))) ∧ Aside0 (w'.heap[lF]? = some (.cells #[u873000] 24 (0, 0))) ∧ Aside0 (Below w.heap.size w w'))
  case atStart => exact ⟨(0), (0), (0), (0), (([] : List (fB))), (.slice none 0 0), xrs, xrs, H', ⟨Nat.le_refl _⟩, ⟨by (with_reducible repeat (first | apply Kd.V_alloc | apply Kd.V_drewN | apply Kd.V_drew)); exact Kd.V_mono (Kd.V_far (p := ⟨lF, 0, none⟩) (Kd.V_mono kK.out (fun k_ hk => (⟨hk, hk.2⟩ : _ ∧ k_ ≠ lF))) (fun _ hk => hk.2) (.slice none 0 0)) (fun _ hk => ⟨hk.1.1.1.1.1.1, ⟨(by simp [Value.ownBlock]), ⟨hk.1.1.1.1.1.2, ⟨hk.1.1.1.1.2, ⟨hk.1.1.1.2, ⟨hk.1.1.2, hk.1.2⟩⟩⟩⟩⟩⟩)⟩, ⟨by (with_reducible repeat (first | apply Kd.V_alloc | apply Kd.V_drewN | apply Kd.V_drew)); exact Kd.V_mono (Kd.V_far (p := ⟨lF, 0, none⟩) (Kd.V_mono aF8.out (fun k_ hk => (⟨hk, hk.2⟩ : _ ∧ k_ ≠ lF))) (fun _ hk => hk.2) (.slice none 0 0)) (fun _ hk => ⟨hk.1.1.1.1.1.1, ⟨(by simp [Value.ownBlock]), ⟨hk.1.1.1.1.1.2, ⟨hk.1.1.1.1.2, ⟨hk.1.1.1.2, ⟨hk.1.1.2, hk.1.2⟩⟩⟩⟩⟩⟩)⟩, ⟨by first | exact Kd.S_nil _ _ _ _ _ | exact Kd.N_nil _ _ _ _ _ | exact Kd.V_nil _ _ _ _ _ | exact Kd.Q_nil _ _ _ _ _ | exact Kd.R_nil _ _ _ _ _⟩, xk kI, xk kQ, xk lU, xk lI, ⟨by (with_reducible repeat (first | refine bN ?_ _ | refine bD ?_ | refine bA ?_ _)); refine blk_put (cs := #[.slice none 0 0]) ?_ 0 _ rfl; (with_reducible repeat (first | refine bN ?_ _ | refine bD ?_ | refine bA ?_ _)); exact lM.out⟩, xb HB⟩
  case round =>
   clear H'
   (try clear aHh); (try clear aHi)
   obtain ⟨iN, fF, uH, rR, jS, u873000, rfl, rfl, HA, yS, dV, dO, dW, kI, kQ, lU, lI, lM, HB⟩ := hrel
   cases gk with
   | zero => exact absurd HA.out (by simp [aC.l0])
   | succ k1 =>
    have H := HA.out
    clear HA
    simp only [aC.l0] at H
    have dM1 := aZ H
    clear H
    go_upto_region 3 with (fail)
    go_cut [21] (fun v21 wc => ∃ (kq : Nat) (dAl : Bool), v21 = .bool dAl ∧ Aside0 (aC.j1 kq iN fF dAl aD bR jS = some (r1, r2, r3)) ∧ Aside0 (kq ≤ k1) ∧ Aside0 (Kd.V qL 46 wc w.heap.size (fun k_ => ((eP k_ ∨ kT k_) ∨ w.heap.size ≤ k_) ∧ some k_ ≠ (u873000 : Value).ownBlock ∧ k_ ≠ oM ∧ k_ ≠ oN ∧ k_ ≠ oP ∧ k_ ≠ oF ∧ k_ ≠ lF) (.slice bP aD.length bK) aD) ∧ Aside0 (Kd.V qL 46 wc w.heap.size (fun k_ => ((eP k_ ∨ kT k_) ∨ w.heap.size ≤ k_) ∧ some k_ ≠ (u873000 : Value).ownBlock ∧ k_ ≠ oM ∧ k_ ≠ oN ∧ k_ ≠ oP ∧ k_ ≠ oF ∧ k_ ≠ lF) (.slice tT bR.length qD) bR) ∧ Aside0 (Kd.N qL 46 wc w.heap.size (fun k_ => ((eP k_ ∨ kT k_) ∨ w.heap.size ≤ k_) ∧ k_ ≠ oM ∧ k_ ≠ oN ∧ k_ ≠ oP ∧ k_ ≠ oF ∧ k_ ≠ lF) u873000 jS) ∧ Aside0 (wc.heap[oM]? = some (.cells #[(.slice bP aD.length bK)] 24 (0, 0))) ∧ Aside0 (wc.heap[oN]? = some (.cells #[(.slice tT bR.length qD)] 24 (0, 0))) ∧ Aside0 (wc.heap[oP]? = some (.cells #[(.slice none 0 0)] 24 (0, 0))) ∧ Aside0 (wc.heap[oF]? = some (.cells #[.int .i64 uH, .int .i64 rR] 28 (0, 0))) ∧ Aside0 (wc.heap[lF]? = some (.cells #[u873000] 24 (0, 0))) ∧ Aside0 (Below w.heap.size w wc))
    case first =>
     have H := dM1.out
     clear dM1
     by_cases c14 : iN < (aD.length : Int)
     · rw [if_pos c14] at H
       have bEd : decide (iN < (aD.length : Int)) = true := decide_eq_true c14
       clear c14
       (first | rw [bEd] | (simp only [i64_w, i32_w]; rw [bEd]) | skip)
       have H' := aZ H
       clear H
       have bVv := cTx.out
       have bVw := cTy.out
       have dEj := bF6.out
       have dEk := bF7.out
       have cMx := bF8.out
       have cMy := bF9.out
       have cNa := aO9.out
       have cNb := aPa.out
       have bI4 : wr.cell? ⟨oM, 0, none⟩ = some (.slice bP aD.length bK) := (blk_cell kI.out 0).trans rfl
       have bI5 := blk_frozen kI.out 0
       go_wp2
       go_meet
       case rel => exact ⟨_, (true), xrs, H', ⟨by have := yS.out; first | omega | exact Nat.le_refl _⟩, ⟨by (with_reducible repeat (first | apply Kd.V_alloc | apply Kd.V_drewN | apply Kd.V_drew)); exact dV.out⟩, ⟨by (with_reducible repeat (first | apply Kd.V_alloc | apply Kd.V_drewN | apply Kd.V_drew)); exact dO.out⟩, ⟨by (with_reducible repeat (first | apply Kd.N_alloc | apply Kd.N_drewN | apply Kd.N_drew)); exact dW.out⟩, xk kI, xk kQ, xk lU, xk lI, xk lM, xb HB⟩
     rw [if_neg c14] at H
     have bEd : decide (iN < (aD.length : Int)) = false := decide_eq_false c14
     clear c14
     (first | rw [bEd] | (simp only [i64_w, i32_w]; rw [bEd]) | skip)
     have H' := aZ H
     clear H
     have dO8 := cTx.out
     have dO9 := cTy.out
     have eEg := bF6.out
     have eEh := bF7.out
     have cHp := bF8.out
     have cHq := bF9.out
     have bMl := aO9.out
     have bMm := aPa.out
     have bCn : wr.cell? ⟨oM, 0, none⟩ = some (.slice bP aD.length bK) := (blk_cell kI.out 0).trans rfl
     have bCo := blk_frozen kI.out 0
     have bV7 := bQf.out
     have bV8 := bQg.out
     have cHa := bQh.out
     have cHb := bQi.out
     have dDx := aUj.out
     have dDy := aUk.out
     have cJ9 : wr.cell? ⟨oN, 0, none⟩ = some (.slice tT bR.length qD) := (blk_cell kQ.out 0).trans rfl
     have cKa := blk_frozen kQ.out 0
     go_wp2
     go_meet
     case rel => exact ⟨_, (decide (fF < (bR.length : Int))), xrs, H', ⟨by have := yS.out; first | omega | exact Nat.le_refl _⟩, ⟨by (with_reducible repeat (first | apply Kd.V_alloc | apply Kd.V_drewN | apply Kd.V_drew)); exact dV.out⟩, ⟨by (with_reducible repeat (first | apply Kd.V_alloc | apply Kd.V_drewN | apply Kd.V_drew)); exact dO.out⟩, ⟨by (with_reducible repeat (first | apply Kd.N_alloc | apply Kd.N_drewN | apply Kd.N_drew)); exact dW.out⟩, xk kI, xk kQ, xk lU, xk lI, xk lM, xb HB⟩
    case rest =>
     clear dM1
     obtain ⟨kq, dAl, rfl, HA, cIx, dV, dO, dW, kI, kQ, lU, lI, lM, HB⟩ := hcut
     cases kq with
     | zero => exact absurd HA.out (by simp [aC.j1])
     | succ bBy =>
      have H := HA.out
      clear HA
      simp only [aC.j1] at H
      by_cases c29 : dAl = true
      rotate_left
      · replace c29 := Bool.eq_false_iff.mpr c29
        subst c29
        have H1 : (if (jS.length : Int) > 40 then ((aT.f 14 (-1)).bind fun dHm => (some (([] : List (fB)), dHm.1, dHm.2))) else (some (jS, 0, 0))) = some (r1, r2, r3) := by rw [if_neg (show ¬ (false = true) by decide)] at H; exact H
        clear H
        have H := H1
        clear H1
        by_cases c88 : (jS.length : Int) > 40
        rotate_left
        · rw [if_neg c88] at H
          have gJc : decide (40 < (jS.length : Int)) = false := decide_eq_false c88
          have gJd : decide (40 < jS.length) = false := decide_eq_false (by omega)
          clear c88
          simp only [Option.some.injEq, Prod.mk.injEq] at H
          obtain ⟨rfl, rfl, rfl⟩ := H
          have cD6 := aPa.out
          have cD7 := aO9.out
          have cOz := aUk.out
          have cO0 := aUj.out
          have cDy := aUm.out
          have cDz := aUl.out
          have cD0 := aUo.out
          have cD1 := aUn.out
          have dGm : wc.cell? ⟨lF, 0, none⟩ = some (u873000) := (blk_cell lM.out 0).trans rfl
          have dGn := blk_frozen lM.out 0
          obtain ⟨aJf, aJg, eLv⟩ := Kd.N_slice dW.out
          subst eLv
          have bTp := bF7.out
          have bTq := bF6.out
          have bTr := bQg.out
          have bTs := bQf.out
          have bTt := aMj.out
          have bTu := aZs.out
          have eHq : wc.cell? ⟨oP, 0, none⟩ = some (.slice none 0 0) := (blk_cell lU.out 0).trans rfl
          have eHr := blk_frozen lU.out 0
          have bUk := bF9.out
          have bUl := bF8.out
          have cNj := bQi.out
          have cNk := bQh.out
          have eLb : wc.cell? ⟨oF, 0, none⟩ = some (.int .i64 uH) := (blk_cell lI.out 0).trans rfl
          have eLc : wc.cell? ⟨oF, 1, none⟩ = some (.int .i64 rR) := (blk_cell lI.out 1).trans rfl
          have eLd := blk_frozen lI.out 0
          have eLe := blk_frozen lI.out 1
          go_wp2
          refine bodyPost_ret (results_cc rfl _ _ oP oF 24 28 #[.slice aJf jS.length aJg] #[.int .i64 0, .int .i64 0] (0, 0) (0, 0) _ _ rfl (by (with_reducible repeat (first | refine bN ?_ _ | refine bD ?_ | refine bA ?_ _)); refine blk_far ?_ aMj.out _; (with_reducible repeat (first | refine bN ?_ _ | refine bD ?_ | refine bA ?_ _)); refine blk_far ?_ aMj.out _; (with_reducible repeat (first | refine bN ?_ _ | refine bD ?_ | refine bA ?_ _)); refine blk_put (cs := #[.slice none 0 0]) ?_ 0 _ rfl; (with_reducible repeat (first | refine bN ?_ _ | refine bD ?_ | refine bA ?_ _)); exact lU.out) Try.underlying24 rfl (by kernel_rfl) rfl (by (with_reducible repeat (first | refine bN ?_ _ | refine bD ?_ | refine bA ?_ _)); refine blk_put (cs := #[.int .i64 0, .int .i64 rR]) ?_ 1 _ rfl; (with_reducible repeat (first | refine bN ?_ _ | refine bD ?_ | refine bA ?_ _)); refine blk_put (cs := #[.int .i64 uH, .int .i64 rR]) ?_ 0 _ rfl; (with_reducible repeat (first | refine bN ?_ _ | refine bD ?_ | refine bA ?_ _)); refine blk_far ?_ aZs.out _; (with_reducible repeat (first | refine bN ?_ _ | refine bD ?_ | refine bA ?_ _)); exact lI.out) Try.underlying28 rfl (by kernel_rfl)) rfl ?_
          exact ⟨_, xre, by (with_reducible repeat (first | apply Kd.N_alloc | apply Kd.N_drewN | apply Kd.N_drew)); exact Kd.N_mono (Kd.N_far (p := ⟨oF, 1, none⟩) (Kd.N_far (p := ⟨oF, 0, none⟩) (Kd.N_far (p := ⟨oP, 0, none⟩) (Kd.N_mono (Kd.N_mono dW.out (fun k_ hk => (⟨hk, hk.2.2.2.1⟩ : _ ∧ k_ ≠ oP))) (fun k_ hk => (⟨hk, hk.1.2.2.2.2.1⟩ : _ ∧ k_ ≠ oF))) (fun _ hk => hk.1.2) (.slice aJf jS.length aJg)) (fun _ hk => hk.2) (.int .i64 0)) (fun _ hk => hk.2) (.int .i64 0)) (fun _ hk => hk.1.1.1), xq HB⟩

        rw [if_pos c88] at H
        have gJc : decide (40 < (jS.length : Int)) = true := decide_eq_true c88
        have gJd : decide (40 < jS.length) = true := decide_eq_true (by omega)
        clear c88
        replace H := Option.bind_eq_some_iff.mp H
        obtain ⟨⟨eWm, fQi⟩, gJe, H⟩ := H
        replace H : (some (([] : List (fB)), eWm, fQi)) = some (r1, r2, r3) := H
        have A89 := aZ gJe
        clear gJe
        simp only [Option.some.injEq, Prod.mk.injEq] at H
        obtain ⟨rfl, rfl, rfl⟩ := H
        have bYr := aPa.out
        have bYs := aO9.out
        have bWj := aUk.out
        have bWk := aUj.out
        have cSz := aUm.out
        have cS0 := aUl.out
        have dE1 := aUo.out
        have dE2 := aUn.out
        have cLr : wc.cell? ⟨lF, 0, none⟩ = some (u873000) := (blk_cell lM.out 0).trans rfl
        have dAf := blk_frozen lM.out 0
        obtain ⟨gI0, eLr, fQg⟩ := Kd.N_slice dW.out
        subst fQg
        go_wp2_with (first | ((with_reducible refine gate_callee (f := 18) rfl ?_); refine goesL_ (some 117) rfl rfl Try.func18 (by kernel_rfl) rfl #[.int .i64 14, .int .i64 (-1)] rfl xmp ?_; (with_reducible refine (aT.calls 14 (-1) eWm fQi _ A89.out).mono ?_); rintro e w96 ⟨rfl, hb⟩; refine ⟨_, rfl, ?_⟩; replace dV := xV dV hb; replace dO := xV dO hb; replace dW := aZ (Kd.N_below (by (with_reducible repeat (first | apply Kd.N_alloc | apply Kd.N_drewN | apply Kd.N_drew)); exact dW.out) hb); replace kI := xbb kI hb; replace kQ := xbb kQ hb; replace lU := xbb lU hb; replace lI := xbb lI hb; replace lM := xbb lM hb; replace HB := xhl HB hb; (try clear hb); (try clear iV); (try clear hk); (try clear hi); have dF0 := bF7.out; have dF1 := bF6.out; have dTm := bQg.out; have dTn := bQf.out; have fBs := aMj.out; have fBt := aZs.out; have eLh : w96.cell? ⟨oP, 0, none⟩ = some (.slice none 0 0) := (blk_cell lU.out 0).trans rfl; have eLi := blk_frozen lU.out 0; have bUr := bF9.out; have bUs := bF8.out; have bUm := bQi.out; have bUn := bQh.out; have cPg : w96.cell? ⟨oF, 0, none⟩ = some (.int .i64 uH) := (blk_cell lI.out 0).trans rfl; have eLw : w96.cell? ⟨oF, 1, none⟩ = some (.int .i64 rR) := (blk_cell lI.out 1).trans rfl; have cPh := blk_frozen lI.out 0; have eLx := blk_frozen lI.out 1))
        refine bodyPost_ret (results_cc rfl _ _ oP oF 24 28 #[.slice none 0 0] #[.int .i64 eWm, .int .i64 fQi] (0, 0) (0, 0) _ _ rfl (by (with_reducible repeat (first | refine bN ?_ _ | refine bD ?_ | refine bA ?_ _)); refine blk_far ?_ aMj.out _; (with_reducible repeat (first | refine bN ?_ _ | refine bD ?_ | refine bA ?_ _)); refine blk_far ?_ aMj.out _; (with_reducible repeat (first | refine bN ?_ _ | refine bD ?_ | refine bA ?_ _)); refine blk_put (cs := #[.slice none 0 0]) ?_ 0 _ rfl; (with_reducible repeat (first | refine bN ?_ _ | refine bD ?_ | refine bA ?_ _)); exact lU.out) Try.underlying24 rfl (by kernel_rfl) rfl (by (with_reducible repeat (first | refine bN ?_ _ | refine bD ?_ | refine bA ?_ _)); refine blk_put (cs := #[.int .i64 eWm, .int .i64 rR]) ?_ 1 _ rfl; (with_reducible repeat (first | refine bN ?_ _ | refine bD ?_ | refine bA ?_ _)); refine blk_put (cs := #[.int .i64 uH, .int .i64 rR]) ?_ 0 _ rfl; (with_reducible repeat (first | refine bN ?_ _ | refine bD ?_ | refine bA ?_ _)); refine blk_far ?_ aZs.out _; (with_reducible repeat (first | refine bN ?_ _ | refine bD ?_ | refine bA ?_ _)); exact lI.out) Try.underlying28 rfl (by kernel_rfl)) rfl ?_
        exact ⟨_, xre, by first | exact Kd.S_nil _ _ _ _ _ | exact Kd.N_nil _ _ _ _ _ | exact Kd.V_nil _ _ _ _ _ | exact Kd.Q_nil _ _ _ _ _ | exact Kd.R_nil _ _ _ _ _, xq HB⟩
      subst c29
      have H1 : (if fF = (bR.length : Int) then (aC.j2 bBy iN fF true aD bR jS) else (if iN < (aD.length : Int) then (if 0 ≤ iN then (if 0 ≤ fF then (if fF < (bR.length : Int) then (aC.j2 bBy iN fF (decide (((aA aD iN).f0) < ((aA bR fF).f0))) aD bR jS) else (none)) else (none)) else (none)) else (aC.j2 bBy iN fF false aD bR jS))) = some (r1, r2, r3) := by rw [if_pos rfl] at H; exact H
      clear H
      have H := H1
      clear H1
      have fQj := aZ H
      clear H
      go_upto_region 4 with (fail)
      go_cut [48] (fun v48 wc => ∃ (kq : Nat) (dAm : Bool), v48 = .bool dAm ∧ Aside0 (aC.j2 kq iN fF dAm aD bR jS = some (r1, r2, r3)) ∧ Aside0 (kq ≤ bBy) ∧ Aside0 (Kd.V qL 46 wc w.heap.size (fun k_ => ((eP k_ ∨ kT k_) ∨ w.heap.size ≤ k_) ∧ some k_ ≠ (u873000 : Value).ownBlock ∧ k_ ≠ oM ∧ k_ ≠ oN ∧ k_ ≠ oP ∧ k_ ≠ oF ∧ k_ ≠ lF) (.slice bP aD.length bK) aD) ∧ Aside0 (Kd.V qL 46 wc w.heap.size (fun k_ => ((eP k_ ∨ kT k_) ∨ w.heap.size ≤ k_) ∧ some k_ ≠ (u873000 : Value).ownBlock ∧ k_ ≠ oM ∧ k_ ≠ oN ∧ k_ ≠ oP ∧ k_ ≠ oF ∧ k_ ≠ lF) (.slice tT bR.length qD) bR) ∧ Aside0 (Kd.N qL 46 wc w.heap.size (fun k_ => ((eP k_ ∨ kT k_) ∨ w.heap.size ≤ k_) ∧ k_ ≠ oM ∧ k_ ≠ oN ∧ k_ ≠ oP ∧ k_ ≠ oF ∧ k_ ≠ lF) u873000 jS) ∧ Aside0 (wc.heap[oM]? = some (.cells #[(.slice bP aD.length bK)] 24 (0, 0))) ∧ Aside0 (wc.heap[oN]? = some (.cells #[(.slice tT bR.length qD)] 24 (0, 0))) ∧ Aside0 (wc.heap[oP]? = some (.cells #[(.slice none 0 0)] 24 (0, 0))) ∧ Aside0 (wc.heap[oF]? = some (.cells #[.int .i64 uH, .int .i64 rR] 28 (0, 0))) ∧ Aside0 (wc.heap[lF]? = some (.cells #[u873000] 24 (0, 0))) ∧ Aside0 (Below w.heap.size w wc))
      case first =>
       have H := fQj.out
       clear fQj
       by_cases c31 : fF = (bR.length : Int)
       · rw [if_pos c31] at H
         have bVt : (fF == (bR.length : Int)) = true := beq_iff_eq.mpr c31
         have eZ3 : (fF != (bR.length : Int)) = false := bne_eq_false_iff_eq.mpr c31
         clear c31
         (first | rw [bVt] | (simp only [i64_w, i32_w]; rw [bVt]) | skip)
         have H' := aZ H
         clear H
         try go_wp2
         replace dV := aZ (Kd.V_drew dV.out)
         replace dO := aZ (Kd.V_drew dO.out)
         replace dW := aZ (Kd.N_drew dW.out)
         replace kI := aZ (bD kI.out)
         replace kQ := aZ (bD kQ.out)
         replace lU := aZ (bD lU.out)
         replace lI := aZ (bD lI.out)
         replace lM := aZ (bD lM.out)
         replace HB := aZ (lD HB.out)
         refine start_ (n := 27) (S := fun w' => w'.cell? ⟨oN, 0, none⟩ = some (.slice tT bR.length qD)) (ds := []) Z1 (by kernel_rfl) rfl rfl ((blk_cell kQ.out 0).trans rfl) (fun hHeld => ?_); refine with_tabW aC.tab4 aC.bits4 (fun HT_ HW_ => ?_)
         generalize wc.drew = w32 at dV dO dW kI kQ lU lI lM HB hHeld ⊢
         refine pu 0 22 Z2 HT_ rfl rfl (h := ?_)
         refine pu 1 23 Z3 HT_ rfl rfl (h := ?_)
         refine tk 2 24 Z4 HT_ HW_ rfl rfl hHeld (by intro w' s0; go_simp; with_reducible rfl) (h := ?_)
         refine pu 3 25 Z5 HT_ rfl rfl (h := ?_)
         refine pu 4 26 Z6 HT_ rfl rfl (h := ?_)
         refine pu 5 27 Z7 HT_ rfl rfl (h := ?_)
         refine pv 6 28 Z8 HT_ rfl rfl (h := ?_)
         refine pv 7 29 Z9 HT_ rfl rfl (h := ?_)
         refine pv 8 30 Z10 HT_ rfl rfl (h := ?_)
         refine pv 9 31 Z11 HT_ rfl rfl (h := ?_)
         refine pv 10 32 Z12 HT_ rfl rfl (h := ?_)
         refine pv 11 33 Z13 HT_ rfl rfl (h := ?_)
         refine pv 12 34 Z14 HT_ rfl rfl (h := ?_)
         refine pv 13 35 Z15 HT_ rfl rfl (h := ?_)
         refine pv 14 36 Z16 HT_ rfl rfl (h := ?_)
         refine pv 15 37 Z17 HT_ rfl rfl (h := ?_)
         refine pv 16 38 Z18 HT_ rfl rfl (h := ?_)
         refine pv 17 39 Z19 HT_ rfl rfl (h := ?_)
         refine pv 18 40 Z20 HT_ rfl rfl (h := ?_)
         refine pv 19 41 Z21 HT_ rfl rfl (h := ?_)
         refine pv 20 42 Z22 HT_ rfl rfl (h := ?_)
         refine pv 21 43 Z23 HT_ rfl rfl (h := ?_)
         refine pv 22 44 Z24 HT_ rfl rfl (h := ?_)
         refine pv 23 45 Z25 HT_ rfl rfl (h := ?_)
         refine pv 24 46 Z26 HT_ rfl rfl (h := ?_)
         refine pv 25 47 Z27 HT_ rfl rfl (h := ?_)
         refine pu 26 48 Z28 HT_ rfl rfl (h := ?_)
         refine done_ (done_of HT_.out (by kernel_rfl)) ?_
         try go_wp2
         go_meet
         case rel => exact ⟨_, (true), xrs, H', ⟨by have := yS.out; have := cIx.out; first | omega | exact Nat.le_refl _⟩, ⟨by (with_reducible repeat (first | apply Kd.V_alloc | apply Kd.V_drewN | apply Kd.V_drew)); exact dV.out⟩, ⟨by (with_reducible repeat (first | apply Kd.V_alloc | apply Kd.V_drewN | apply Kd.V_drew)); exact dO.out⟩, ⟨by (with_reducible repeat (first | apply Kd.N_alloc | apply Kd.N_drewN | apply Kd.N_drew)); exact dW.out⟩, xk kI, xk kQ, xk lU, xk lI, xk lM, xb HB⟩
       rw [if_neg c31] at H
       have bVt : (fF == (bR.length : Int)) = false := beq_eq_false_iff_ne.mpr c31
       have eZ3 : (fF != (bR.length : Int)) = true := bne_iff_ne.mpr c31
       (first | rw [bVt] | (simp only [i64_w, i32_w]; rw [bVt]) | skip)
       by_cases c33 : iN < (aD.length : Int)
       rotate_left
       · rw [if_neg c33] at H
         have bEb : decide (iN < (aD.length : Int)) = false := decide_eq_false c33
         clear c33
         have H' := aZ H
         clear H
         try go_wp2
         replace dV := aZ (Kd.V_drew dV.out)
         replace dO := aZ (Kd.V_drew dO.out)
         replace dW := aZ (Kd.N_drew dW.out)
         replace kI := aZ (bD kI.out)
         replace kQ := aZ (bD kQ.out)
         replace lU := aZ (bD lU.out)
         replace lI := aZ (bD lI.out)
         replace lM := aZ (bD lM.out)
         replace HB := aZ (lD HB.out)
         refine start_ (n := 27) (S := fun w' => w'.cell? ⟨oN, 0, none⟩ = some (.slice tT bR.length qD) ∧ w'.cell? ⟨oM, 0, none⟩ = some (.slice bP aD.length bK)) (ds := []) Z1 (by kernel_rfl) rfl rfl ⟨(blk_cell kQ.out 0).trans rfl, (blk_cell kI.out 0).trans rfl⟩ (fun hHeld => ?_); refine with_tabW aC.tab4 aC.bits4 (fun HT_ HW_ => ?_)
         generalize wc.drew = w38 at dV dO dW kI kQ lU lI lM HB hHeld ⊢
         refine pu 0 22 Z2 HT_ rfl rfl (h := ?_)
         refine pu 1 23 Z3 HT_ rfl rfl (h := ?_)
         refine tk 2 24 Z4 HT_ HW_ rfl rfl hHeld (by rintro w' ⟨s0, s1⟩; go_simp; with_reducible rfl) (h := ?_)
         refine pu 3 25 Z5 HT_ rfl rfl (h := ?_)
         refine pu 4 26 Z6 HT_ rfl rfl (h := ?_)
         refine pu 5 27 Z7 HT_ rfl rfl (h := ?_)
         refine pu 6 28 Z8 HT_ rfl rfl (h := ?_)
         refine pu 7 29 Z9 HT_ rfl rfl (h := ?_)
         refine tk 8 30 Z10 HT_ HW_ rfl rfl hHeld (by rintro w' ⟨s0, s1⟩; go_simp; with_reducible rfl) (h := ?_)
         refine pu 9 31 Z11 HT_ rfl rfl (h := ?_)
         refine pu 10 32 Z12 HT_ rfl rfl (h := ?_)
         refine pu 11 33 Z13 HT_ rfl rfl (h := ?_)
         refine pv 12 34 Z14 HT_ rfl rfl (h := ?_)
         refine pv 13 35 Z15 HT_ rfl rfl (h := ?_)
         refine pv 14 36 Z16 HT_ rfl rfl (h := ?_)
         refine pv 15 37 Z17 HT_ rfl rfl (h := ?_)
         refine pv 16 38 Z18 HT_ rfl rfl (h := ?_)
         refine pv 17 39 Z19 HT_ rfl rfl (h := ?_)
         refine pv 18 40 Z20 HT_ rfl rfl (h := ?_)
         refine pv 19 41 Z21 HT_ rfl rfl (h := ?_)
         refine pv 20 42 Z22 HT_ rfl rfl (h := ?_)
         refine pv 21 43 Z23 HT_ rfl rfl (h := ?_)
         refine pv 22 44 Z24 HT_ rfl rfl (h := ?_)
         refine pv 23 45 Z25 HT_ rfl rfl (h := ?_)
         refine pv 24 46 Z26 HT_ rfl rfl (h := ?_)
         refine pu 25 47 Z27 HT_ rfl rfl (h := ?_)
         refine pu 26 48 Z28 HT_ rfl rfl (h := ?_)
         refine done_ (done_of HT_.out (by kernel_rfl)) ?_
         try go_wp2
         go_meet
         case rel => exact ⟨_, (false), xrs, H', ⟨by have := yS.out; have := cIx.out; first | omega | exact Nat.le_refl _⟩, ⟨by (with_reducible repeat (first | apply Kd.V_alloc | apply Kd.V_drewN | apply Kd.V_drew)); exact dV.out⟩, ⟨by (with_reducible repeat (first | apply Kd.V_alloc | apply Kd.V_drewN | apply Kd.V_drew)); exact dO.out⟩, ⟨by (with_reducible repeat (first | apply Kd.N_alloc | apply Kd.N_drewN | apply Kd.N_drew)); exact dW.out⟩, xk kI, xk kQ, xk lU, xk lI, xk lM, xb HB⟩
       rw [if_pos c33] at H
       have bEb : decide (iN < (aD.length : Int)) = true := decide_eq_true c33
       clear c33
       by_cases c34 : 0 ≤ iN
       rotate_left
       · rw [if_neg c34] at H
         exact absurd H (by simp)
       rw [if_pos c34] at H
       have dDm : decide (0 ≤ iN) = true := decide_eq_true c34
       clear c34
       by_cases c35 : 0 ≤ fF
       rotate_left
       · rw [if_neg c35] at H
         exact absurd H (by simp)
       rw [if_pos c35] at H
       have cSi : decide (0 ≤ fF) = true := decide_eq_true c35
       clear c35
       by_cases c36 : fF < (bR.length : Int)
       rotate_left
       · rw [if_neg c36] at H
         exact absurd H (by simp)
       rw [if_pos c36] at H
       have dDz : decide (fF < (bR.length : Int)) = true := decide_eq_true c36
       clear c36
       have H' := aZ H
       clear H
       try go_wp2
       replace dV := aZ (Kd.V_drew dV.out)
       replace dO := aZ (Kd.V_drew dO.out)
       replace dW := aZ (Kd.N_drew dW.out)
       replace kI := aZ (bD kI.out)
       replace kQ := aZ (bD kQ.out)
       replace lU := aZ (bD lU.out)
       replace lI := aZ (bD lI.out)
       replace lM := aZ (bD lM.out)
       replace HB := aZ (lD HB.out)
       have eWn : 0 ≤ (iN : Int) := of_decide_eq_true xas
       have eWo : iN < (aD.length : Int) := of_decide_eq_true xas
       obtain ⟨cHx, fQk, fQl, fQm, fQn, hNw, dVl, dVm, dAn, dAo, dVn, dVo, dVp, dVq⟩ := gY (Kd.V_reads' dV.out).2.2 iN eWn eWo
       cases hNw
       obtain ⟨iD3, fQo, fQp, dNi⟩ := Kd.V_get dV.out z46 iN eWn (by first | exact eWo | exact of_decide_eq_true xas | (have e_ := (Kd.V_reads' dV.out).1; omega))
       obtain ⟨hBe, hBf, hBh, hBi, rfl, dAp, dAq, dAr, dAs⟩ := rM fQp
       have cLs := dNi 2 _ rfl
       rw [add_field _ _ 2 (by omega)] at cLs
       replace cLs := Option.some.inj (cLs.symm.trans dAn)
       injection cLs with hva_ hvn_ hvc_
       rw [hva_] at dAq
       rw [hvc_] at dAp
       have eWp := aZ (show Kd.V (Kd.int .i64) 3 _ w.heap.size _ _ ((aA aD iN).f1.f1) from Kd.V_mk dAp dAq)
       clear hva_ hvn_ hvc_ dAq dAp
       have cLt := dNi 3 _ rfl
       rw [add_field _ _ 3 (by omega)] at cLt
       replace cLt := Option.some.inj (cLt.symm.trans dAo)
       injection cLt with hva_ hvn_ hvc_
       rw [hva_] at dAs
       rw [hvc_] at dAr
       have eWq := aZ (show Kd.V (Kd.int .u8) 5 _ w.heap.size _ _ ((aA aD iN).f1.f2) from Kd.V_mk dAr dAs)
       clear hva_ hvn_ hvc_ dAs dAr
       clear dNi fQo
       have eWr := aZ dVo
       have hBj := aZ dVn
       clear dVo dVn
       have eWs := aZ dVq
       have hBk := aZ dVp
       clear dVq dVp
       replace eWn := eq_true eWn
       replace eWo := eq_true eWo
       have eWt : 0 ≤ (fF : Int) := of_decide_eq_true xas
       have eWu : fF < (bR.length : Int) := of_decide_eq_true xas
       obtain ⟨cHy, fQq, fQr, fQs, fQt, hNx, dVr, dVs, dAt, dAu, dVt, dVu, dVv, dVw⟩ := gY (Kd.V_reads' dO.out).2.2 fF eWt eWu
       cases hNx
       obtain ⟨iD4, fQu, fQv, dNj⟩ := Kd.V_get dO.out z46 fF eWt (by first | exact eWu | exact of_decide_eq_true xas | (have e_ := (Kd.V_reads' dO.out).1; omega))
       obtain ⟨hBn, hBo, hBp, hBq, rfl, dAv, dAw, dAx, dAy⟩ := rM fQv
       have cLu := dNj 2 _ rfl
       rw [add_field _ _ 2 (by omega)] at cLu
       replace cLu := Option.some.inj (cLu.symm.trans dAt)
       injection cLu with hva_ hvn_ hvc_
       rw [hva_] at dAw
       rw [hvc_] at dAv
       have eWv := aZ (show Kd.V (Kd.int .i64) 3 _ w.heap.size _ _ ((aA bR fF).f1.f1) from Kd.V_mk dAv dAw)
       clear hva_ hvn_ hvc_ dAw dAv
       have cLv := dNj 3 _ rfl
       rw [add_field _ _ 3 (by omega)] at cLv
       replace cLv := Option.some.inj (cLv.symm.trans dAu)
       injection cLv with hva_ hvn_ hvc_
       rw [hva_] at dAy
       rw [hvc_] at dAx
       have eWw := aZ (show Kd.V (Kd.int .u8) 5 _ w.heap.size _ _ ((aA bR fF).f1.f2) from Kd.V_mk dAx dAy)
       clear hva_ hvn_ hvc_ dAy dAx
       clear dNj fQu
       have eWx := aZ dVu
       have hBs := aZ dVt
       clear dVu dVt
       have eWy := aZ dVw
       have hBt := aZ dVv
       clear dVw dVv
       replace eWt := eq_true eWt
       replace eWu := eq_true eWu
       refine start_ (n := 27) (S := fun w' => w'.cell? ⟨oN, 0, none⟩ = some (.slice (some cHy) bR.length qD) ∧ w'.cell? ⟨oM, 0, none⟩ = some (.slice (some cHx) aD.length bK) ∧ w'.cell? (cHx.add ((iN).toNat * 4)) = some (.int .i64 ((aA aD iN).f0)) ∧ w'.cell? ⟨(cHx.add ((iN).toNat * 4)).block, (cHx.add ((iN).toNat * 4)).off + 1, none⟩ = some (.int .i64 ((aA aD iN).f1.f0)) ∧ w'.cell? ⟨(cHx.add ((iN).toNat * 4)).block, (cHx.add ((iN).toNat * 4)).off + 2, none⟩ = some (.slice fQk ((aA aD iN).f1.f1).length fQl) ∧ w'.cell? ⟨(cHx.add ((iN).toNat * 4)).block, (cHx.add ((iN).toNat * 4)).off + 3, none⟩ = some (.slice fQm ((aA aD iN).f1.f2).length fQn) ∧ w'.cell? (cHy.add ((fF).toNat * 4)) = some (.int .i64 ((aA bR fF).f0)) ∧ w'.cell? ⟨(cHy.add ((fF).toNat * 4)).block, (cHy.add ((fF).toNat * 4)).off + 1, none⟩ = some (.int .i64 ((aA bR fF).f1.f0)) ∧ w'.cell? ⟨(cHy.add ((fF).toNat * 4)).block, (cHy.add ((fF).toNat * 4)).off + 2, none⟩ = some (.slice fQq ((aA bR fF).f1.f1).length fQr) ∧ w'.cell? ⟨(cHy.add ((fF).toNat * 4)).block, (cHy.add ((fF).toNat * 4)).off + 3, none⟩ = some (.slice fQs ((aA bR fF).f1.f2).length fQt)) (ds := []) Z1 (by kernel_rfl) rfl rfl ⟨(blk_cell kQ.out 0).trans rfl, (blk_cell kI.out 0).trans rfl, dVl, dVm, dAn, dAo, dVr, dVs, dAt, dAu⟩ (fun hHeld => ?_); refine with_tabW aC.tab4 aC.bits4 (fun HT_ HW_ => ?_)
       generalize wc.drew = w37 at dV dO dW kI kQ lU lI lM HB eWp eWq eWv eWw eWr eWs eWx eWy dVl dVm dAn dAo dVr dVs dAt dAu hHeld ⊢
       refine pu 0 22 Z2 HT_ rfl rfl (h := ?_)
       refine pu 1 23 Z3 HT_ rfl rfl (h := ?_)
       refine tk 2 24 Z4 HT_ HW_ rfl rfl hHeld (by rintro w' ⟨s0, s1, s2, s3, s4, s5, s6, s7, s8, s9⟩; go_simp; with_reducible rfl) (h := ?_)
       refine pu 3 25 Z5 HT_ rfl rfl (h := ?_)
       refine pu 4 26 Z6 HT_ rfl rfl (h := ?_)
       refine pu 5 27 Z7 HT_ rfl rfl (h := ?_)
       refine pu 6 28 Z8 HT_ rfl rfl (h := ?_)
       refine pu 7 29 Z9 HT_ rfl rfl (h := ?_)
       refine tk 8 30 Z10 HT_ HW_ rfl rfl hHeld (by rintro w' ⟨s0, s1, s2, s3, s4, s5, s6, s7, s8, s9⟩; go_simp; with_reducible rfl) (h := ?_)
       refine pu 9 31 Z11 HT_ rfl rfl (h := ?_)
       refine pu 10 32 Z12 HT_ rfl rfl (h := ?_)
       refine pu 11 33 Z13 HT_ rfl rfl (h := ?_)
       refine pu 12 34 Z14 HT_ rfl rfl (h := ?_)
       refine pu 14 36 Z29 HT_ rfl rfl (h := ?_)
       refine pu 18 40 Z30 HT_ rfl rfl (h := ?_)
       refine pu 20 42 Z31 HT_ rfl rfl (h := ?_)
       refine tk 13 35 Z32 HT_ HW_ rfl rfl hHeld (by rintro w' ⟨s0, s1, s2, s3, s4, s5, s6, s7, s8, s9⟩; go_simp; with_reducible rfl) (h := ?_)
       refine pu 15 37 Z33 HT_ rfl rfl (h := ?_)
       refine pu 16 38 Z34 HT_ rfl rfl (h := ?_)
       refine tk 17 39 Z35 HT_ HW_ rfl rfl hHeld (by rintro w' ⟨s0, s1, s2, s3, s4, s5, s6, s7, s8, s9⟩; go_simp; with_reducible rfl) (h := ?_)
       refine tk 19 41 Z22 HT_ HW_ rfl rfl hHeld (by rintro w' ⟨s0, s1, s2, s3, s4, s5, s6, s7, s8, s9⟩; go_simp; with_reducible rfl) (h := ?_)
       refine pu 21 43 Z23 HT_ rfl rfl (h := ?_)
       refine pu 22 44 Z24 HT_ rfl rfl (h := ?_)
       refine tk 23 45 Z25 HT_ HW_ rfl rfl hHeld (by rintro w' ⟨s0, s1, s2, s3, s4, s5, s6, s7, s8, s9⟩; go_simp; with_reducible rfl) (h := ?_)
       refine pu 24 46 Z26 HT_ rfl rfl (h := ?_)
       refine pu 25 47 Z27 HT_ rfl rfl (h := ?_)
       refine pu 26 48 Z28 HT_ rfl rfl (h := ?_)
       refine done_ (done_of HT_.out (by kernel_rfl)) ?_
       try go_wp2
       go_meet
       case rel => exact ⟨_, (decide (((aA aD iN).f0) < ((aA bR fF).f0))), xrs, H', ⟨by have := yS.out; have := cIx.out; first | omega | exact Nat.le_refl _⟩, ⟨by (with_reducible repeat (first | apply Kd.V_alloc | apply Kd.V_drewN | apply Kd.V_drew)); exact dV.out⟩, ⟨by (with_reducible repeat (first | apply Kd.V_alloc | apply Kd.V_drewN | apply Kd.V_drew)); exact dO.out⟩, ⟨by (with_reducible repeat (first | apply Kd.N_alloc | apply Kd.N_drewN | apply Kd.N_drew)); exact dW.out⟩, xk kI, xk kQ, xk lU, xk lI, xk lM, xb HB⟩
      case rest =>
       clear fQj
       obtain ⟨kq, dAm, rfl, HA, dHn, dV, dO, dW, kI, kQ, lU, lI, lM, HB⟩ := hcut
       cases kq with
       | zero => exact absurd HA.out (by simp [aC.j2])
       | succ dZu =>
        have H := HA.out
        clear HA
        simp only [aC.j2] at H
        by_cases c39 : dAm = true
        · subst c39
          have H1 : (if 0 ≤ iN then (if iN < (aD.length : Int) then (if jS.length < 2199023255552 then (aC.l0 dZu (wrap64 (iN + 1)) fF aD bR (jS ++ [(⟨(aA aD iN).f0, (⟨(aA aD iN).f1.f0, (aA aD iN).f1.f1, (aA aD iN).f1.f2⟩ : S44)⟩ : fB)])) else (none)) else (none)) else (none)) = some (r1, r2, r3) := by rw [if_pos rfl] at H; exact H
          clear H
          have H := H1
          clear H1
          by_cases c40 : 0 ≤ iN
          rotate_left
          · rw [if_neg c40] at H
            exact absurd H (by simp)
          rw [if_pos c40] at H
          have cOq : decide (0 ≤ iN) = true := decide_eq_true c40
          clear c40
          by_cases c41 : iN < (aD.length : Int)
          rotate_left
          · rw [if_neg c41] at H
            exact absurd H (by simp)
          rw [if_pos c41] at H
          have eLy : decide (iN < (aD.length : Int)) = true := decide_eq_true c41
          clear c41
          by_cases c42 : jS.length < 2199023255552
          rotate_left
          · rw [if_neg c42] at H
            exact absurd H (by simp)
          rw [if_pos c42] at H
          have gJf := aZ c42
          clear c42
          obtain ⟨dZv, dHo⟩ : ∃ y_ : List (fB), y_ = (jS ++ [(⟨(aA aD iN).f0, (⟨(aA aD iN).f1.f0, (aA aD iN).f1.f1, (aA aD iN).f1.f2⟩ : S44)⟩ : fB)]) := ⟨_, rfl⟩
          replace H : (aC.l0 dZu (wrap64 (iN + 1)) fF aD bR dZv) = some (r1, r2, r3) := by first | (rw [dHo]; with_reducible exact H) | (have qY := (Option.bind_some _ _).symm.trans H; rw [dHo]; with_reducible exact qY) | (have qY := (Option.bind_some _ _).symm.trans H; with_reducible exact qY) | with_reducible exact H | (rw [dHo]; exact H) | exact H
          have gJg := aZ dHo
          clear dHo
          have H' := aZ H
          clear H
          try go_wp2
          replace dV := aZ (Kd.V_drew dV.out)
          replace dO := aZ (Kd.V_drew dO.out)
          replace dW := aZ (Kd.N_drew dW.out)
          replace kI := aZ (bD kI.out)
          replace kQ := aZ (bD kQ.out)
          replace lU := aZ (bD lU.out)
          replace lI := aZ (bD lI.out)
          replace lM := aZ (bD lM.out)
          replace HB := aZ (lD HB.out)
          have eWz : 0 ≤ (iN : Int) := of_decide_eq_true xas
          have eW0 : iN < (aD.length : Int) := of_decide_eq_true xas
          obtain ⟨bTa, eLz, eL0, eL1, eL2, hNy, dVx, dVy, dAz, dA0, dVz, dV0, dV1, dV2⟩ := gY (Kd.V_reads' dV.out).2.2 iN eWz eW0
          cases hNy
          obtain ⟨iD5, fQw, fQx, dNk⟩ := Kd.V_get dV.out z46 iN eWz (by first | exact eW0 | exact of_decide_eq_true xas | (have e_ := (Kd.V_reads' dV.out).1; omega))
          obtain ⟨hBv, hBy, hBz, hB5, rfl, dA1, dA2, dA3, dA4⟩ := rM fQx
          have cLw := dNk 2 _ rfl
          rw [add_field _ _ 2 (by omega)] at cLw
          replace cLw := Option.some.inj (cLw.symm.trans dAz)
          injection cLw with hva_ hvn_ hvc_
          rw [hva_] at dA2
          rw [hvc_] at dA1
          have cAd := aZ (show Kd.V (Kd.int .i64) 3 _ w.heap.size _ _ ((aA aD iN).f1.f1) from Kd.V_mk dA1 dA2)
          clear hva_ hvn_ hvc_ dA2 dA1
          have cLx := dNk 3 _ rfl
          rw [add_field _ _ 3 (by omega)] at cLx
          replace cLx := Option.some.inj (cLx.symm.trans dA0)
          injection cLx with hva_ hvn_ hvc_
          rw [hva_] at dA4
          rw [hvc_] at dA3
          have cAe := aZ (show Kd.V (Kd.int .u8) 5 _ w.heap.size _ _ ((aA aD iN).f1.f2) from Kd.V_mk dA3 dA4)
          clear hva_ hvn_ hvc_ dA4 dA3
          clear dNk fQw
          have eW1 := aZ dV0
          have hB6 := aZ dVz
          clear dV0 dVz
          have eW2 := aZ dV2
          have hB7 := aZ dV1
          clear dV2 dV1
          replace eWz := eq_true eWz
          replace eW0 := eq_true eW0
          refine start_ (n := 11) (S := fun w' => w'.cell? ⟨lF, 0, none⟩ = some (u873000) ∧ w'.cell? ⟨oM, 0, none⟩ = some (.slice (some bTa) aD.length bK) ∧ w'.cell? (bTa.add ((iN).toNat * 4)) = some (.int .i64 ((aA aD iN).f0)) ∧ w'.cell? ⟨(bTa.add ((iN).toNat * 4)).block, (bTa.add ((iN).toNat * 4)).off + 1, none⟩ = some (.int .i64 ((aA aD iN).f1.f0)) ∧ w'.cell? ⟨(bTa.add ((iN).toNat * 4)).block, (bTa.add ((iN).toNat * 4)).off + 2, none⟩ = some (.slice eLz ((aA aD iN).f1.f1).length eL0) ∧ w'.cell? ⟨(bTa.add ((iN).toNat * 4)).block, (bTa.add ((iN).toNat * 4)).off + 3, none⟩ = some (.slice eL1 ((aA aD iN).f1.f2).length eL2)) (ds := [8, 10]) Z36 (by kernel_rfl) rfl rfl ⟨(blk_cell lM.out 0).trans rfl, (blk_cell kI.out 0).trans rfl, dVx, dVy, dAz, dA0⟩ (fun hHeld => ?_); refine with_tabW aC.tab5 aC.bits5 (fun HT_ HW_ => ?_)
          generalize wc.drew = w43 at dV dO dW kI kQ lU lI lM HB cAd cAe eW1 eW2 dVx dVy dAz dA0 hHeld ⊢
          refine pu 0 49 Z37 HT_ rfl rfl (h := ?_)
          refine pu 2 51 Z38 HT_ rfl rfl (h := ?_)
          refine pu 4 53 Z39 HT_ rfl rfl (h := ?_)
          refine tk 1 50 Z40 HT_ HW_ rfl rfl hHeld (by rintro w' ⟨s0, s1, s2, s3, s4, s5⟩; go_simp; with_reducible rfl) (h := ?_)
          refine tk 3 52 Z41 HT_ HW_ rfl rfl hHeld (by rintro w' ⟨s0, s1, s2, s3, s4, s5⟩; go_simp; with_reducible rfl) (h := ?_)
          refine pu 5 54 Z42 HT_ rfl rfl (h := ?_)
          refine tk 6 55 Z43 HT_ HW_ rfl rfl hHeld (by rintro w' ⟨s0, s1, s2, s3, s4, s5⟩; go_simp; with_reducible rfl) (h := ?_)
          refine one_ (i := 7) (N := some 56) Z44 rfl rfl (one_of HT_.out (by kernel_rfl)) (by decide) (fun K hK => ?_)
          refine value_ (w1 := ?_) (v := ?_) (by rfl) rfl ?_ ?_
          rotate_left 2
          · go_simp
            constructor
            · rfl
            · rfl
          refine hK.out _ _ ⟨(blk_cell (bA lM.out _) 0).trans rfl, (blk_cell (bA kI.out _) 0).trans rfl, (World.cell?_alloc_lt _ _ _ (World.block_lt_of_cell? _ _ (hHeld.2.2.1))).trans (hHeld.2.2.1), (World.cell?_alloc_lt _ _ _ (World.block_lt_of_cell? _ _ (hHeld.2.2.2.1))).trans (hHeld.2.2.2.1), (World.cell?_alloc_lt _ _ _ (World.block_lt_of_cell? _ _ (hHeld.2.2.2.2.1))).trans (hHeld.2.2.2.2.1), (World.cell?_alloc_lt _ _ _ (World.block_lt_of_cell? _ _ (hHeld.2.2.2.2.2))).trans (hHeld.2.2.2.2.2)⟩ (fun hHeld => ?_)
          clear hK K
          refine norm_ (a' := ?_) ?_ ?_
          rotate_left
          · show Act.put _ (some 56) _ = _
            simp only [Act.put, List.setIfInBounds_toArray, List.set_cons_zero, List.set_cons_succ, i64_w, i32_w]
            rfl
          refine last_ (i := 8) (N := some 57) Z45 rfl rfl (one_of HT_.out (by kernel_rfl)) (by decide) (fun K hK => ?_)
          refine Kd.N_append_step qL (w0 := w) w.heap.size (by rfl) (.tmp 50) (.tmp 56) 22 46 (.agg #[(.int .i64 0), (.int .i64 0), (.slice none 0 0), (.slice none 0 0)]) 64 rfl Try.underlying22 aNg rfl (by decide) (by omega) u873000 jS (⟨(aA aD iN).f0, (⟨(aA aD iN).f1.f0, (aA aD iN).f1.f1, (aA aD iN).f1.f2⟩ : S44)⟩ : fB) [.int .i64 ((aA aD iN).f0), .int .i64 ((aA aD iN).f1.f0), .slice eLz ((aA aD iN).f1.f1).length eL0, .slice eL1 ((aA aD iN).f1.f2).length eL2] (fun k_ => ((eP k_ ∨ kT k_) ∨ w.heap.size ≤ k_) ∧ k_ ≠ oM ∧ k_ ≠ oN ∧ k_ ≠ oP ∧ k_ ≠ oF ∧ k_ ≠ lF) (fun k_ => ((fun k_ => ((eP k_ ∨ kT k_) ∨ w.heap.size ≤ k_) ∧ k_ ≠ oM ∧ k_ ≠ oN ∧ k_ ≠ oP ∧ k_ ≠ oF ∧ k_ ≠ lF)) k_ ∧ some k_ ≠ (u873000 : Value).ownBlock) rfl rfl ?aP (fun _ hk => hk) ?aF ?aO ?aB ?aS ?aL ?_
          (case aP => exact (aW2 _ _ (⟨(aA aD iN).f0, (⟨(aA aD iN).f1.f0, (aA aD iN).f1.f1, (aA aD iN).f1.f2⟩ : S44)⟩ : fB) (Kd.V_reads' (Kd.V_mono (ok' := (fun k_ => ((fun k_ => ((eP k_ ∨ kT k_) ∨ w.heap.size ≤ k_) ∧ k_ ≠ oM ∧ k_ ≠ oN ∧ k_ ≠ oP ∧ k_ ≠ oF ∧ k_ ≠ lF)) k_ ∧ some k_ ≠ (u873000 : Value).ownBlock)) (cAd.out) (fun k_ hk => ⟨⟨hk.1, ⟨hk.2.2.1, ⟨hk.2.2.2.1, ⟨hk.2.2.2.2.1, ⟨hk.2.2.2.2.2.1, hk.2.2.2.2.2.2⟩⟩⟩⟩⟩, hk.2.1⟩))).2.1 (Kd.V_F (Kd.V_mono (ok' := (fun k_ => ((fun k_ => ((eP k_ ∨ kT k_) ∨ w.heap.size ≤ k_) ∧ k_ ≠ oM ∧ k_ ≠ oN ∧ k_ ≠ oP ∧ k_ ≠ oF ∧ k_ ≠ lF)) k_ ∧ some k_ ≠ (u873000 : Value).ownBlock)) (cAd.out) (fun k_ hk => ⟨⟨hk.1, ⟨hk.2.2.1, ⟨hk.2.2.2.1, ⟨hk.2.2.2.2.1, ⟨hk.2.2.2.2.2.1, hk.2.2.2.2.2.2⟩⟩⟩⟩⟩, hk.2.1⟩))) (Kd.V_reads' (Kd.V_mono (ok' := (fun k_ => ((fun k_ => ((eP k_ ∨ kT k_) ∨ w.heap.size ≤ k_) ∧ k_ ≠ oM ∧ k_ ≠ oN ∧ k_ ≠ oP ∧ k_ ≠ oF ∧ k_ ≠ lF)) k_ ∧ some k_ ≠ (u873000 : Value).ownBlock)) (cAe.out) (fun k_ hk => ⟨⟨hk.1, ⟨hk.2.2.1, ⟨hk.2.2.2.1, ⟨hk.2.2.2.2.1, ⟨hk.2.2.2.2.2.1, hk.2.2.2.2.2.2⟩⟩⟩⟩⟩, hk.2.1⟩))).2.1 (Kd.V_F (Kd.V_mono (ok' := (fun k_ => ((fun k_ => ((eP k_ ∨ kT k_) ∨ w.heap.size ≤ k_) ∧ k_ ≠ oM ∧ k_ ≠ oN ∧ k_ ≠ oP ∧ k_ ≠ oF ∧ k_ ≠ lF)) k_ ∧ some k_ ≠ (u873000 : Value).ownBlock)) (cAe.out) (fun k_ hk => ⟨⟨hk.1, ⟨hk.2.2.1, ⟨hk.2.2.2.1, ⟨hk.2.2.2.2.1, ⟨hk.2.2.2.2.2.1, hk.2.2.2.2.2.2⟩⟩⟩⟩⟩, hk.2.1⟩)))))
          (case aB => exact (by repeat (first | (with_reducible first | exact HB.out | apply lA | apply lN | apply lD | refine lS ?_ bZ8.out | refine lS ?_ bZ9.out | refine lS ?_ cAa.out | refine lS ?_ cAb.out | refine lS ?_ cAc.out) | exact HB.out)))
          (case aF => exact (fun k_ hk => ⟨(.inr (Nat.le_trans (lZ (by repeat (first | (with_reducible first | exact HB.out | apply lA | apply lN | apply lD | refine lS ?_ bZ8.out | refine lS ?_ bZ9.out | refine lS ?_ cAa.out | refine lS ?_ cAb.out | refine lS ?_ cAc.out) | exact HB.out))) hk)), Kd.freshB (g := oM) (o := .cells #[.slice (some bTa) aD.length bK] 24 (0, 0)) (xkq kI) k_ hk, Kd.freshB (g := oN) (o := .cells #[.slice tT bR.length qD] 24 (0, 0)) (xkq kQ) k_ hk, Kd.freshB (g := oP) (o := .cells #[.slice none 0 0] 24 (0, 0)) (xkq lU) k_ hk, Kd.freshB (g := oF) (o := .cells #[.int .i64 uH, .int .i64 rR] 28 (0, 0)) (xkq lI) k_ hk, Kd.freshB (g := lF) (o := .cells #[u873000] 24 (0, 0)) (xkq lM) k_ hk⟩))
          (case aO => exact (by (with_reducible repeat (first | apply Kd.N_alloc | apply Kd.N_drewN | apply Kd.N_drew)); exact dW.out))
          (case aS => exact (lZ (by repeat (first | (with_reducible first | exact HB.out | apply lA | apply lN | apply lD | refine lS ?_ bZ8.out | refine lS ?_ bZ9.out | refine lS ?_ cAa.out | refine lS ?_ cAb.out | refine lS ?_ cAc.out) | exact HB.out))))
          (case aL => have := gJf.out; omega)
          intro iJ1 w44 ho hb hg hat
          rw [← gJg.out] at ho
          replace dV := aZ (Kd.V_afterv (ok := (fun k_ => ((eP k_ ∨ kT k_) ∨ w.heap.size ≤ k_) ∧ k_ ≠ oM ∧ k_ ≠ oN ∧ k_ ≠ oP ∧ k_ ≠ oF ∧ k_ ≠ lF)) (by (with_reducible repeat (first | apply Kd.V_alloc | apply Kd.V_drewN | apply Kd.V_drew)); exact Kd.V_mono dV.out (fun _ hk => ⟨⟨hk.1, ⟨hk.2.2.1, ⟨hk.2.2.2.1, ⟨hk.2.2.2.2.1, ⟨hk.2.2.2.2.2.1, hk.2.2.2.2.2.2⟩⟩⟩⟩⟩, hk.2.1⟩)) hg hat)
          replace dO := aZ (Kd.V_afterv (ok := (fun k_ => ((eP k_ ∨ kT k_) ∨ w.heap.size ≤ k_) ∧ k_ ≠ oM ∧ k_ ≠ oN ∧ k_ ≠ oP ∧ k_ ≠ oF ∧ k_ ≠ lF)) (by (with_reducible repeat (first | apply Kd.V_alloc | apply Kd.V_drewN | apply Kd.V_drew)); exact Kd.V_mono dO.out (fun _ hk => ⟨⟨hk.1, ⟨hk.2.2.1, ⟨hk.2.2.2.1, ⟨hk.2.2.2.2.1, ⟨hk.2.2.2.2.2.1, hk.2.2.2.2.2.2⟩⟩⟩⟩⟩, hk.2.1⟩)) hg hat)
          replace kI := aZ (blk_grown (g := oM) (o := .cells #[.slice (some bTa) aD.length bK] 24 (0, 0)) (xkq kI) hg (Kd.N_ne dW.out kI.out (by decide)))
          replace kQ := aZ (blk_grown (g := oN) (o := .cells #[.slice tT bR.length qD] 24 (0, 0)) (xkq kQ) hg (Kd.N_ne dW.out kQ.out (by decide)))
          replace lU := aZ (blk_grown (g := oP) (o := .cells #[.slice none 0 0] 24 (0, 0)) (xkq lU) hg (Kd.N_ne dW.out lU.out (by decide)))
          replace lI := aZ (blk_grown (g := oF) (o := .cells #[.int .i64 uH, .int .i64 rR] 28 (0, 0)) (xkq lI) hg (Kd.N_ne dW.out lI.out (by decide)))
          replace lM := aZ (blk_grown (g := lF) (o := .cells #[u873000] 24 (0, 0)) (xkq lM) hg (Kd.N_ne dW.out lM.out (by decide)))
          replace cAd := aZ (Kd.V_afterv (ok := (fun k_ => ((eP k_ ∨ kT k_) ∨ w.heap.size ≤ k_) ∧ k_ ≠ oM ∧ k_ ≠ oN ∧ k_ ≠ oP ∧ k_ ≠ oF ∧ k_ ≠ lF)) (by (with_reducible repeat (first | apply Kd.V_alloc | apply Kd.V_drewN | apply Kd.V_drew)); exact Kd.V_mono cAd.out (fun _ hk => ⟨⟨hk.1, ⟨hk.2.2.1, ⟨hk.2.2.2.1, ⟨hk.2.2.2.2.1, ⟨hk.2.2.2.2.2.1, hk.2.2.2.2.2.2⟩⟩⟩⟩⟩, hk.2.1⟩)) hg hat)
          replace cAe := aZ (Kd.V_afterv (ok := (fun k_ => ((eP k_ ∨ kT k_) ∨ w.heap.size ≤ k_) ∧ k_ ≠ oM ∧ k_ ≠ oN ∧ k_ ≠ oP ∧ k_ ≠ oF ∧ k_ ≠ lF)) (by (with_reducible repeat (first | apply Kd.V_alloc | apply Kd.V_drewN | apply Kd.V_drew)); exact Kd.V_mono cAe.out (fun _ hk => ⟨⟨hk.1, ⟨hk.2.2.1, ⟨hk.2.2.2.1, ⟨hk.2.2.2.2.1, ⟨hk.2.2.2.2.2.1, hk.2.2.2.2.2.2⟩⟩⟩⟩⟩, hk.2.1⟩)) hg hat)
          replace HB := aZ (hb)
          have fCk := aZ (ho)
          clear dW
          clear ho hb hg hat
          obtain ⟨eW3, eW4, gJh⟩ := Kd.N_slice fCk.out
          (first | subst gJh | (injection gJh with f1_ f2_ f3_; have f4_ := f1_.symm; have f5_ := f3_.symm; clear f1_ f2_ f3_; subst f4_; subst f5_))
          refine hK.out _ _ ?_
          clear hK K
          refine norm_ (a' := ?_) ?_ ?_
          rotate_left
          · show Act.put _ (some 57) _ = _
            simp only [Act.put, List.setIfInBounds_toArray, List.set_cons_zero, List.set_cons_succ, i64_w, i32_w]
            rfl
          refine pu 9 58 Z46 HT_ rfl rfl (h := ?_)
          refine last_ (i := 10) (N := none) Z47 rfl rfl (one_of HT_.out (by kernel_rfl)) (by decide) (fun K hK => ?_)
          have iJ2 : w44.cell? ⟨lF, 0, none⟩ = some (u873000) := (blk_cell lM.out 0).trans rfl
          have iD6 := blk_frozen lM.out 0
          have hB8 := aO9.out
          have hB9 := aUj.out
          have hCa := aUl.out
          have hCb := aUn.out
          have hCc := aPa.out
          have hCd := aUk.out
          have hCe := aUm.out
          have hCf := aUo.out
          refine skip_ (w1 := ?_) (by rfl) rfl ?_ ?_
          rotate_left
          · go_simp
            rfl
          refine hK.out _ _ ?_
          clear hK K
          refine done_ (done_of HT_.out (by kernel_rfl)) ?_
          try go_wp2
          go_roundg dZu
          case measure => have := yS.out; have := cIx.out; have := dHn.out; omega
          case rel => exact ⟨(wrap64 (iN + 1)), (fF), (uH), (rR), (dZv), (.slice eW3 dZv.length eW4), xrs, xrs, H', ⟨by have := yS.out; have := cIx.out; have := dHn.out; omega⟩, ⟨by (with_reducible repeat (first | apply Kd.V_alloc | apply Kd.V_drewN | apply Kd.V_drew)); exact Kd.V_mono (Kd.V_far (p := ⟨lF, 0, none⟩) (Kd.V_mono dV.out (fun k_ hk => (⟨hk, hk.1.2.2.2.2.2⟩ : _ ∧ k_ ≠ lF))) (fun _ hk => hk.2) (.slice eW3 dZv.length eW4)) (fun _ hk => ⟨hk.1.1.1, ⟨hk.1.2, ⟨hk.1.1.2.1, ⟨hk.1.1.2.2.1, ⟨hk.1.1.2.2.2.1, ⟨hk.1.1.2.2.2.2.1, hk.1.1.2.2.2.2.2⟩⟩⟩⟩⟩⟩)⟩, ⟨by (with_reducible repeat (first | apply Kd.V_alloc | apply Kd.V_drewN | apply Kd.V_drew)); exact Kd.V_mono (Kd.V_far (p := ⟨lF, 0, none⟩) (Kd.V_mono dO.out (fun k_ hk => (⟨hk, hk.1.2.2.2.2.2⟩ : _ ∧ k_ ≠ lF))) (fun _ hk => hk.2) (.slice eW3 dZv.length eW4)) (fun _ hk => ⟨hk.1.1.1, ⟨hk.1.2, ⟨hk.1.1.2.1, ⟨hk.1.1.2.2.1, ⟨hk.1.1.2.2.2.1, ⟨hk.1.1.2.2.2.2.1, hk.1.1.2.2.2.2.2⟩⟩⟩⟩⟩⟩)⟩, ⟨by (with_reducible repeat (first | apply Kd.N_alloc | apply Kd.N_drewN | apply Kd.N_drew)); exact Kd.N_mono (Kd.N_far (p := ⟨lF, 0, none⟩) (Kd.N_mono fCk.out (fun k_ hk => (⟨hk, hk.2.2.2.2.2⟩ : _ ∧ k_ ≠ lF))) (fun _ hk => hk.2) (.slice eW3 dZv.length eW4)) (fun _ hk => ⟨hk.1.1, ⟨hk.1.2.1, ⟨hk.1.2.2.1, ⟨hk.1.2.2.2.1, ⟨hk.1.2.2.2.2.1, hk.1.2.2.2.2.2⟩⟩⟩⟩⟩)⟩, xk kI, xk kQ, xk lU, xk lI, ⟨by (with_reducible repeat (first | refine bN ?_ _ | refine bD ?_ | refine bA ?_ _)); refine blk_put (cs := #[u873000]) ?_ 0 _ rfl; (with_reducible repeat (first | refine bN ?_ _ | refine bD ?_ | refine bA ?_ _)); exact lM.out⟩, xb HB⟩
        replace c39 := Bool.eq_false_iff.mpr c39
        subst c39
        have H1 : (if iN < (aD.length : Int) then (if 0 ≤ iN then (if 0 ≤ fF then (if fF < (bR.length : Int) then (aC.j3 dZu iN fF (((aA aD iN).f0) == ((aA bR fF).f0)) aD bR jS) else (none)) else (none)) else (none)) else (aC.j3 dZu iN fF false aD bR jS)) = some (r1, r2, r3) := by rw [if_neg (show ¬ (false = true) by decide)] at H; exact H
        clear H
        have H := H1
        clear H1
        have fQy := aZ H
        clear H
        go_upto_region 7 with (fail)
        go_cut [80] (fun v80 wc => ∃ (kq : Nat) (dA5 : Bool), v80 = .bool dA5 ∧ Aside0 (aC.j3 kq iN fF dA5 aD bR jS = some (r1, r2, r3)) ∧ Aside0 (kq ≤ dZu) ∧ Aside0 (Kd.V qL 46 wc w.heap.size (fun k_ => ((eP k_ ∨ kT k_) ∨ w.heap.size ≤ k_) ∧ some k_ ≠ (u873000 : Value).ownBlock ∧ k_ ≠ oM ∧ k_ ≠ oN ∧ k_ ≠ oP ∧ k_ ≠ oF ∧ k_ ≠ lF) (.slice bP aD.length bK) aD) ∧ Aside0 (Kd.V qL 46 wc w.heap.size (fun k_ => ((eP k_ ∨ kT k_) ∨ w.heap.size ≤ k_) ∧ some k_ ≠ (u873000 : Value).ownBlock ∧ k_ ≠ oM ∧ k_ ≠ oN ∧ k_ ≠ oP ∧ k_ ≠ oF ∧ k_ ≠ lF) (.slice tT bR.length qD) bR) ∧ Aside0 (Kd.N qL 46 wc w.heap.size (fun k_ => ((eP k_ ∨ kT k_) ∨ w.heap.size ≤ k_) ∧ k_ ≠ oM ∧ k_ ≠ oN ∧ k_ ≠ oP ∧ k_ ≠ oF ∧ k_ ≠ lF) u873000 jS) ∧ Aside0 (wc.heap[oM]? = some (.cells #[(.slice bP aD.length bK)] 24 (0, 0))) ∧ Aside0 (wc.heap[oN]? = some (.cells #[(.slice tT bR.length qD)] 24 (0, 0))) ∧ Aside0 (wc.heap[oP]? = some (.cells #[(.slice none 0 0)] 24 (0, 0))) ∧ Aside0 (wc.heap[oF]? = some (.cells #[.int .i64 uH, .int .i64 rR] 28 (0, 0))) ∧ Aside0 (wc.heap[lF]? = some (.cells #[u873000] 24 (0, 0))) ∧ Aside0 (Below w.heap.size w wc))
        case first =>
         have H := fQy.out
         clear fQy
         by_cases c48 : iN < (aD.length : Int)
         rotate_left
         · rw [if_neg c48] at H
           have dHp : decide (iN < (aD.length : Int)) = false := decide_eq_false c48
           clear c48
           (first | rw [dHp] | (simp only [i64_w, i32_w]; rw [dHp]) | skip)
           have H' := aZ H
           clear H
           try go_wp2
           replace dV := aZ (Kd.V_drew dV.out)
           replace dO := aZ (Kd.V_drew dO.out)
           replace dW := aZ (Kd.N_drew dW.out)
           replace kI := aZ (bD kI.out)
           replace kQ := aZ (bD kQ.out)
           replace lU := aZ (bD lU.out)
           replace lI := aZ (bD lI.out)
           replace lM := aZ (bD lM.out)
           replace HB := aZ (lD HB.out)
           refine start_ (n := 20) (S := fun w' => w'.cell? ⟨oM, 0, none⟩ = some (.slice bP aD.length bK)) (ds := []) Z48 (by kernel_rfl) rfl rfl ((blk_cell kI.out 0).trans rfl) (fun hHeld => ?_); refine with_tabW aC.tab7 aC.bits7 (fun HT_ HW_ => ?_)
           generalize wc.drew = w53 at dV dO dW kI kQ lU lI lM HB hHeld ⊢
           refine pu 0 61 Z49 HT_ rfl rfl (h := ?_)
           refine pu 1 62 Z50 HT_ rfl rfl (h := ?_)
           refine tk 2 63 Z51 HT_ HW_ rfl rfl hHeld (by intro w' s0; go_simp; with_reducible rfl) (h := ?_)
           refine pu 3 64 Z52 HT_ rfl rfl (h := ?_)
           refine pu 4 65 Z53 HT_ rfl rfl (h := ?_)
           refine pu 5 66 Z54 HT_ rfl rfl (h := ?_)
           refine pv 6 67 Z55 HT_ rfl rfl (h := ?_)
           refine pv 7 68 Z69 HT_ rfl rfl (h := ?_)
           refine pv 8 69 Z70 HT_ rfl rfl (h := ?_)
           refine pv 9 70 Z71 HT_ rfl rfl (h := ?_)
           refine pv 10 71 Z72 HT_ rfl rfl (h := ?_)
           refine pv 11 72 Z73 HT_ rfl rfl (h := ?_)
           refine pv 12 73 Z74 HT_ rfl rfl (h := ?_)
           refine pv 13 74 Z75 HT_ rfl rfl (h := ?_)
           refine pv 14 75 Z63 HT_ rfl rfl (h := ?_)
           refine pv 15 76 Z64 HT_ rfl rfl (h := ?_)
           refine pv 16 77 Z65 HT_ rfl rfl (h := ?_)
           refine pv 17 78 Z66 HT_ rfl rfl (h := ?_)
           refine pv 18 79 Z67 HT_ rfl rfl (h := ?_)
           refine pu 19 80 Z68 HT_ rfl rfl (h := ?_)
           refine done_ (done_of HT_.out (by kernel_rfl)) ?_
           try go_wp2
           go_meet
           case rel => exact ⟨_, (false), xrs, H', ⟨by have := yS.out; have := cIx.out; have := dHn.out; first | omega | exact Nat.le_refl _⟩, ⟨by (with_reducible repeat (first | apply Kd.V_alloc | apply Kd.V_drewN | apply Kd.V_drew)); exact dV.out⟩, ⟨by (with_reducible repeat (first | apply Kd.V_alloc | apply Kd.V_drewN | apply Kd.V_drew)); exact dO.out⟩, ⟨by (with_reducible repeat (first | apply Kd.N_alloc | apply Kd.N_drewN | apply Kd.N_drew)); exact dW.out⟩, xk kI, xk kQ, xk lU, xk lI, xk lM, xb HB⟩
         rw [if_pos c48] at H
         have dHp : decide (iN < (aD.length : Int)) = true := decide_eq_true c48
         clear c48
         (first | rw [dHp] | (simp only [i64_w, i32_w]; rw [dHp]) | skip)
         by_cases c49 : 0 ≤ iN
         rotate_left
         · rw [if_neg c49] at H
           exact absurd H (by simp)
         rw [if_pos c49] at H
         have fCl : decide (0 ≤ iN) = true := decide_eq_true c49
         clear c49
         by_cases c50 : 0 ≤ fF
         rotate_left
         · rw [if_neg c50] at H
           exact absurd H (by simp)
         rw [if_pos c50] at H
         have cHw : decide (0 ≤ fF) = true := decide_eq_true c50
         clear c50
         by_cases c51 : fF < (bR.length : Int)
         rotate_left
         · rw [if_neg c51] at H
           exact absurd H (by simp)
         rw [if_pos c51] at H
         have cTp : decide (fF < (bR.length : Int)) = true := decide_eq_true c51
         clear c51
         have H' := aZ H
         clear H
         try go_wp2
         replace dV := aZ (Kd.V_drew dV.out)
         replace dO := aZ (Kd.V_drew dO.out)
         replace dW := aZ (Kd.N_drew dW.out)
         replace kI := aZ (bD kI.out)
         replace kQ := aZ (bD kQ.out)
         replace lU := aZ (bD lU.out)
         replace lI := aZ (bD lI.out)
         replace lM := aZ (bD lM.out)
         replace HB := aZ (lD HB.out)
         have eW5 : 0 ≤ (iN : Int) := of_decide_eq_true xas
         have eW6 : iN < (aD.length : Int) := of_decide_eq_true xas
         obtain ⟨cHz, fQz, fQ0, fQ1, fQ2, hNz, dV3, dV4, dA6, dA7, dV5, dV6, dV7, dV8⟩ := gY (Kd.V_reads' dV.out).2.2 iN eW5 eW6
         cases hNz
         obtain ⟨iD7, fQ3, fQ4, dNm⟩ := Kd.V_get dV.out z46 iN eW5 (by first | exact eW6 | exact of_decide_eq_true xas | (have e_ := (Kd.V_reads' dV.out).1; omega))
         obtain ⟨hCg, hCh, hCi, hCk, rfl, dA8, dA9, dBa, dBb⟩ := rM fQ4
         have cLy := dNm 2 _ rfl
         rw [add_field _ _ 2 (by omega)] at cLy
         replace cLy := Option.some.inj (cLy.symm.trans dA6)
         injection cLy with hva_ hvn_ hvc_
         rw [hva_] at dA9
         rw [hvc_] at dA8
         have eW7 := aZ (show Kd.V (Kd.int .i64) 3 _ w.heap.size _ _ ((aA aD iN).f1.f1) from Kd.V_mk dA8 dA9)
         clear hva_ hvn_ hvc_ dA9 dA8
         have cLz := dNm 3 _ rfl
         rw [add_field _ _ 3 (by omega)] at cLz
         replace cLz := Option.some.inj (cLz.symm.trans dA7)
         injection cLz with hva_ hvn_ hvc_
         rw [hva_] at dBb
         rw [hvc_] at dBa
         have eW8 := aZ (show Kd.V (Kd.int .u8) 5 _ w.heap.size _ _ ((aA aD iN).f1.f2) from Kd.V_mk dBa dBb)
         clear hva_ hvn_ hvc_ dBb dBa
         clear dNm fQ3
         have eW9 := aZ dV6
         have hCl := aZ dV5
         clear dV6 dV5
         have eXa := aZ dV8
         have hCm := aZ dV7
         clear dV8 dV7
         replace eW5 := eq_true eW5
         replace eW6 := eq_true eW6
         have eXb : 0 ≤ (fF : Int) := of_decide_eq_true xas
         have eXc : fF < (bR.length : Int) := of_decide_eq_true xas
         obtain ⟨cH0, fQ5, fQ6, fQ7, fQ8, hN2, dV9, dWa, dBc, dBd, dWb, dWc, dWd, dWe⟩ := gY (Kd.V_reads' dO.out).2.2 fF eXb eXc
         cases hN2
         obtain ⟨iD8, fQ9, fRa, dNn⟩ := Kd.V_get dO.out z46 fF eXb (by first | exact eXc | exact of_decide_eq_true xas | (have e_ := (Kd.V_reads' dO.out).1; omega))
         obtain ⟨hCn, hCo, hCp, hCq, rfl, dBe, dBf, dBg, dBh⟩ := rM fRa
         have cL0 := dNn 2 _ rfl
         rw [add_field _ _ 2 (by omega)] at cL0
         replace cL0 := Option.some.inj (cL0.symm.trans dBc)
         injection cL0 with hva_ hvn_ hvc_
         rw [hva_] at dBf
         rw [hvc_] at dBe
         have eXd := aZ (show Kd.V (Kd.int .i64) 3 _ w.heap.size _ _ ((aA bR fF).f1.f1) from Kd.V_mk dBe dBf)
         clear hva_ hvn_ hvc_ dBf dBe
         have cL1 := dNn 3 _ rfl
         rw [add_field _ _ 3 (by omega)] at cL1
         replace cL1 := Option.some.inj (cL1.symm.trans dBd)
         injection cL1 with hva_ hvn_ hvc_
         rw [hva_] at dBh
         rw [hvc_] at dBg
         have eXe := aZ (show Kd.V (Kd.int .u8) 5 _ w.heap.size _ _ ((aA bR fF).f1.f2) from Kd.V_mk dBg dBh)
         clear hva_ hvn_ hvc_ dBh dBg
         clear dNn fQ9
         have eXf := aZ dWc
         have hCr := aZ dWb
         clear dWc dWb
         have eXg := aZ dWe
         have hCt := aZ dWd
         clear dWe dWd
         replace eXb := eq_true eXb
         replace eXc := eq_true eXc
         refine start_ (n := 20) (S := fun w' => w'.cell? ⟨oM, 0, none⟩ = some (.slice (some cHz) aD.length bK) ∧ w'.cell? ⟨oN, 0, none⟩ = some (.slice (some cH0) bR.length qD) ∧ w'.cell? (cHz.add ((iN).toNat * 4)) = some (.int .i64 ((aA aD iN).f0)) ∧ w'.cell? ⟨(cHz.add ((iN).toNat * 4)).block, (cHz.add ((iN).toNat * 4)).off + 1, none⟩ = some (.int .i64 ((aA aD iN).f1.f0)) ∧ w'.cell? ⟨(cHz.add ((iN).toNat * 4)).block, (cHz.add ((iN).toNat * 4)).off + 2, none⟩ = some (.slice fQz ((aA aD iN).f1.f1).length fQ0) ∧ w'.cell? ⟨(cHz.add ((iN).toNat * 4)).block, (cHz.add ((iN).toNat * 4)).off + 3, none⟩ = some (.slice fQ1 ((aA aD iN).f1.f2).length fQ2) ∧ w'.cell? (cH0.add ((fF).toNat * 4)) = some (.int .i64 ((aA bR fF).f0)) ∧ w'.cell? ⟨(cH0.add ((fF).toNat * 4)).block, (cH0.add ((fF).toNat * 4)).off + 1, none⟩ = some (.int .i64 ((aA bR fF).f1.f0)) ∧ w'.cell? ⟨(cH0.add ((fF).toNat * 4)).block, (cH0.add ((fF).toNat * 4)).off + 2, none⟩ = some (.slice fQ5 ((aA bR fF).f1.f1).length fQ6) ∧ w'.cell? ⟨(cH0.add ((fF).toNat * 4)).block, (cH0.add ((fF).toNat * 4)).off + 3, none⟩ = some (.slice fQ7 ((aA bR fF).f1.f2).length fQ8)) (ds := []) Z48 (by kernel_rfl) rfl rfl ⟨(blk_cell kI.out 0).trans rfl, (blk_cell kQ.out 0).trans rfl, dV3, dV4, dA6, dA7, dV9, dWa, dBc, dBd⟩ (fun hHeld => ?_); refine with_tabW aC.tab7 aC.bits7 (fun HT_ HW_ => ?_)
         generalize wc.drew = w52 at dV dO dW kI kQ lU lI lM HB eW7 eW8 eXd eXe eW9 eXa eXf eXg dV3 dV4 dA6 dA7 dV9 dWa dBc dBd hHeld ⊢
         refine pu 0 61 Z49 HT_ rfl rfl (h := ?_)
         refine pu 1 62 Z50 HT_ rfl rfl (h := ?_)
         refine tk 2 63 Z51 HT_ HW_ rfl rfl hHeld (by rintro w' ⟨s0, s1, s2, s3, s4, s5, s6, s7, s8, s9⟩; go_simp; with_reducible rfl) (h := ?_)
         refine pu 3 64 Z52 HT_ rfl rfl (h := ?_)
         refine pu 4 65 Z53 HT_ rfl rfl (h := ?_)
         refine pu 5 66 Z54 HT_ rfl rfl (h := ?_)
         refine pu 6 67 Z55 HT_ rfl rfl (h := ?_)
         refine pu 8 69 Z56 HT_ rfl rfl (h := ?_)
         refine pu 12 73 Z57 HT_ rfl rfl (h := ?_)
         refine pu 14 75 Z58 HT_ rfl rfl (h := ?_)
         refine tk 7 68 Z59 HT_ HW_ rfl rfl hHeld (by rintro w' ⟨s0, s1, s2, s3, s4, s5, s6, s7, s8, s9⟩; go_simp; with_reducible rfl) (h := ?_)
         refine pu 9 70 Z60 HT_ rfl rfl (h := ?_)
         refine pu 10 71 Z61 HT_ rfl rfl (h := ?_)
         refine tk 11 72 Z62 HT_ HW_ rfl rfl hHeld (by rintro w' ⟨s0, s1, s2, s3, s4, s5, s6, s7, s8, s9⟩; go_simp; with_reducible rfl) (h := ?_)
         refine tk 13 74 Z63 HT_ HW_ rfl rfl hHeld (by rintro w' ⟨s0, s1, s2, s3, s4, s5, s6, s7, s8, s9⟩; go_simp; with_reducible rfl) (h := ?_)
         refine pu 15 76 Z64 HT_ rfl rfl (h := ?_)
         refine pu 16 77 Z65 HT_ rfl rfl (h := ?_)
         refine tk 17 78 Z66 HT_ HW_ rfl rfl hHeld (by rintro w' ⟨s0, s1, s2, s3, s4, s5, s6, s7, s8, s9⟩; go_simp; with_reducible rfl) (h := ?_)
         refine pu 18 79 Z67 HT_ rfl rfl (h := ?_)
         refine pu 19 80 Z68 HT_ rfl rfl (h := ?_)
         refine done_ (done_of HT_.out (by kernel_rfl)) ?_
         try go_wp2
         go_meet
         case rel => exact ⟨_, ((((aA aD iN).f0) == ((aA bR fF).f0))), xrs, H', ⟨by have := yS.out; have := cIx.out; have := dHn.out; first | omega | exact Nat.le_refl _⟩, ⟨by (with_reducible repeat (first | apply Kd.V_alloc | apply Kd.V_drewN | apply Kd.V_drew)); exact dV.out⟩, ⟨by (with_reducible repeat (first | apply Kd.V_alloc | apply Kd.V_drewN | apply Kd.V_drew)); exact dO.out⟩, ⟨by (with_reducible repeat (first | apply Kd.N_alloc | apply Kd.N_drewN | apply Kd.N_drew)); exact dW.out⟩, xk kI, xk kQ, xk lU, xk lI, xk lM, xb HB⟩
        case rest =>
         clear fQy
         (try clear c39)
         obtain ⟨kq, dA5, rfl, HA, eXh, dV, dO, dW, kI, kQ, lU, lI, lM, HB⟩ := hcut
         cases kq with
         | zero => exact absurd HA.out (by simp [aC.j3])
         | succ cP1 =>
          have H := HA.out
          clear HA
          simp only [aC.j3] at H
          by_cases c54 : dA5 = true
          rotate_left
          · replace c54 := Bool.eq_false_iff.mpr c54
            subst c54
            have H1 : (if 0 ≤ fF then (if fF < (bR.length : Int) then (if jS.length < 2199023255552 then (aC.l0 cP1 iN (wrap64 (fF + 1)) aD bR (jS ++ [(⟨(aA bR fF).f0, (⟨(aA bR fF).f1.f0, (aA bR fF).f1.f1, (aA bR fF).f1.f2⟩ : S44)⟩ : fB)])) else (none)) else (none)) else (none)) = some (r1, r2, r3) := by rw [if_neg (show ¬ (false = true) by decide)] at H; exact H
            clear H
            have H := H1
            clear H1
            by_cases c81 : 0 ≤ fF
            rotate_left
            · rw [if_neg c81] at H
              exact absurd H (by simp)
            rw [if_pos c81] at H
            have iD9 : decide (0 ≤ fF) = true := decide_eq_true c81
            clear c81
            by_cases c82 : fF < (bR.length : Int)
            rotate_left
            · rw [if_neg c82] at H
              exact absurd H (by simp)
            rw [if_pos c82] at H
            have eL3 : decide (fF < (bR.length : Int)) = true := decide_eq_true c82
            clear c82
            by_cases c83 : jS.length < 2199023255552
            rotate_left
            · rw [if_neg c83] at H
              exact absurd H (by simp)
            rw [if_pos c83] at H
            have gJi := aZ c83
            clear c83
            obtain ⟨dZw, dHq⟩ : ∃ y_ : List (fB), y_ = (jS ++ [(⟨(aA bR fF).f0, (⟨(aA bR fF).f1.f0, (aA bR fF).f1.f1, (aA bR fF).f1.f2⟩ : S44)⟩ : fB)]) := ⟨_, rfl⟩
            replace H : (aC.l0 cP1 iN (wrap64 (fF + 1)) aD bR dZw) = some (r1, r2, r3) := by first | (rw [dHq]; with_reducible exact H) | (have qY := (Option.bind_some _ _).symm.trans H; rw [dHq]; with_reducible exact qY) | (have qY := (Option.bind_some _ _).symm.trans H; with_reducible exact qY) | with_reducible exact H | (rw [dHq]; exact H) | exact H
            have gJj := aZ dHq
            clear dHq
            have H' := aZ H
            clear H
            try go_wp2
            replace dV := aZ (Kd.V_drew dV.out)
            replace dO := aZ (Kd.V_drew dO.out)
            replace dW := aZ (Kd.N_drew dW.out)
            replace kI := aZ (bD kI.out)
            replace kQ := aZ (bD kQ.out)
            replace lU := aZ (bD lU.out)
            replace lI := aZ (bD lI.out)
            replace lM := aZ (bD lM.out)
            replace HB := aZ (lD HB.out)
            have eXi : 0 ≤ (fF : Int) := of_decide_eq_true xas
            have eXj : fF < (bR.length : Int) := of_decide_eq_true xas
            obtain ⟨bTb, eL4, eL5, eL6, eL7, hN3, dWf, dWg, dBi, dBj, dWh, dWi, dWj, dWk⟩ := gY (Kd.V_reads' dO.out).2.2 fF eXi eXj
            cases hN3
            obtain ⟨iEa, fRb, fRc, dNo⟩ := Kd.V_get dO.out z46 fF eXi (by first | exact eXj | exact of_decide_eq_true xas | (have e_ := (Kd.V_reads' dO.out).1; omega))
            obtain ⟨hCv, hCw, hCx, hCy, rfl, dBk, dBl, dBm, dBn⟩ := rM fRc
            have cL2 := dNo 2 _ rfl
            rw [add_field _ _ 2 (by omega)] at cL2
            replace cL2 := Option.some.inj (cL2.symm.trans dBi)
            injection cL2 with hva_ hvn_ hvc_
            rw [hva_] at dBl
            rw [hvc_] at dBk
            have cAf := aZ (show Kd.V (Kd.int .i64) 3 _ w.heap.size _ _ ((aA bR fF).f1.f1) from Kd.V_mk dBk dBl)
            clear hva_ hvn_ hvc_ dBl dBk
            have cL3 := dNo 3 _ rfl
            rw [add_field _ _ 3 (by omega)] at cL3
            replace cL3 := Option.some.inj (cL3.symm.trans dBj)
            injection cL3 with hva_ hvn_ hvc_
            rw [hva_] at dBn
            rw [hvc_] at dBm
            have cAg := aZ (show Kd.V (Kd.int .u8) 5 _ w.heap.size _ _ ((aA bR fF).f1.f2) from Kd.V_mk dBm dBn)
            clear hva_ hvn_ hvc_ dBn dBm
            clear dNo fRb
            have eXk := aZ dWi
            have hCz := aZ dWh
            clear dWi dWh
            have eXl := aZ dWk
            have hC1 := aZ dWj
            clear dWk dWj
            replace eXi := eq_true eXi
            replace eXj := eq_true eXj
            refine start_ (n := 11) (S := fun w' => w'.cell? ⟨lF, 0, none⟩ = some (u873000) ∧ w'.cell? ⟨oN, 0, none⟩ = some (.slice (some bTb) bR.length qD) ∧ w'.cell? (bTb.add ((fF).toNat * 4)) = some (.int .i64 ((aA bR fF).f0)) ∧ w'.cell? ⟨(bTb.add ((fF).toNat * 4)).block, (bTb.add ((fF).toNat * 4)).off + 1, none⟩ = some (.int .i64 ((aA bR fF).f1.f0)) ∧ w'.cell? ⟨(bTb.add ((fF).toNat * 4)).block, (bTb.add ((fF).toNat * 4)).off + 2, none⟩ = some (.slice eL4 ((aA bR fF).f1.f1).length eL5) ∧ w'.cell? ⟨(bTb.add ((fF).toNat * 4)).block, (bTb.add ((fF).toNat * 4)).off + 3, none⟩ = some (.slice eL6 ((aA bR fF).f1.f2).length eL7)) (ds := [8, 10]) Z36 (by kernel_rfl) rfl rfl ⟨(blk_cell lM.out 0).trans rfl, (blk_cell kQ.out 0).trans rfl, dWf, dWg, dBi, dBj⟩ (fun hHeld => ?_); refine with_tabW aC.tab11 aC.bits11 (fun HT_ HW_ => ?_)
            generalize wc.drew = w84 at dV dO dW kI kQ lU lI lM HB cAf cAg eXk eXl dWf dWg dBi dBj hHeld ⊢
            refine pu 0 100 Z37 HT_ rfl rfl (h := ?_)
            refine pu 2 102 Z38 HT_ rfl rfl (h := ?_)
            refine pu 4 104 Z39 HT_ rfl rfl (h := ?_)
            refine tk 1 101 Z40 HT_ HW_ rfl rfl hHeld (by rintro w' ⟨s0, s1, s2, s3, s4, s5⟩; go_simp; with_reducible rfl) (h := ?_)
            refine tk 3 103 Z41 HT_ HW_ rfl rfl hHeld (by rintro w' ⟨s0, s1, s2, s3, s4, s5⟩; go_simp; with_reducible rfl) (h := ?_)
            refine pu 5 105 Z42 HT_ rfl rfl (h := ?_)
            refine tk 6 106 Z43 HT_ HW_ rfl rfl hHeld (by rintro w' ⟨s0, s1, s2, s3, s4, s5⟩; go_simp; with_reducible rfl) (h := ?_)
            refine one_ (i := 7) (N := some 107) Z44 rfl rfl (one_of HT_.out (by kernel_rfl)) (by decide) (fun K hK => ?_)
            refine value_ (w1 := ?_) (v := ?_) (by rfl) rfl ?_ ?_
            rotate_left 2
            · go_simp
              constructor
              · rfl
              · rfl
            refine hK.out _ _ ⟨(blk_cell (bA lM.out _) 0).trans rfl, (blk_cell (bA kQ.out _) 0).trans rfl, (World.cell?_alloc_lt _ _ _ (World.block_lt_of_cell? _ _ (hHeld.2.2.1))).trans (hHeld.2.2.1), (World.cell?_alloc_lt _ _ _ (World.block_lt_of_cell? _ _ (hHeld.2.2.2.1))).trans (hHeld.2.2.2.1), (World.cell?_alloc_lt _ _ _ (World.block_lt_of_cell? _ _ (hHeld.2.2.2.2.1))).trans (hHeld.2.2.2.2.1), (World.cell?_alloc_lt _ _ _ (World.block_lt_of_cell? _ _ (hHeld.2.2.2.2.2))).trans (hHeld.2.2.2.2.2)⟩ (fun hHeld => ?_)
            clear hK K
            refine norm_ (a' := ?_) ?_ ?_
            rotate_left
            · show Act.put _ (some 107) _ = _
              simp only [Act.put, List.setIfInBounds_toArray, List.set_cons_zero, List.set_cons_succ, i64_w, i32_w]
              rfl
            refine last_ (i := 8) (N := some 108) Z45 rfl rfl (one_of HT_.out (by kernel_rfl)) (by decide) (fun K hK => ?_)
            refine Kd.N_append_step qL (w0 := w) w.heap.size (by rfl) (.tmp 101) (.tmp 107) 22 46 (.agg #[(.int .i64 0), (.int .i64 0), (.slice none 0 0), (.slice none 0 0)]) 64 rfl Try.underlying22 aNg rfl (by decide) (by omega) u873000 jS (⟨(aA bR fF).f0, (⟨(aA bR fF).f1.f0, (aA bR fF).f1.f1, (aA bR fF).f1.f2⟩ : S44)⟩ : fB) [.int .i64 ((aA bR fF).f0), .int .i64 ((aA bR fF).f1.f0), .slice eL4 ((aA bR fF).f1.f1).length eL5, .slice eL6 ((aA bR fF).f1.f2).length eL7] (fun k_ => ((eP k_ ∨ kT k_) ∨ w.heap.size ≤ k_) ∧ k_ ≠ oM ∧ k_ ≠ oN ∧ k_ ≠ oP ∧ k_ ≠ oF ∧ k_ ≠ lF) (fun k_ => ((fun k_ => ((eP k_ ∨ kT k_) ∨ w.heap.size ≤ k_) ∧ k_ ≠ oM ∧ k_ ≠ oN ∧ k_ ≠ oP ∧ k_ ≠ oF ∧ k_ ≠ lF)) k_ ∧ some k_ ≠ (u873000 : Value).ownBlock) rfl rfl ?aP (fun _ hk => hk) ?aF ?aO ?aB ?aS ?aL ?_
            (case aP => exact (aW2 _ _ (⟨(aA bR fF).f0, (⟨(aA bR fF).f1.f0, (aA bR fF).f1.f1, (aA bR fF).f1.f2⟩ : S44)⟩ : fB) (Kd.V_reads' (Kd.V_mono (ok' := (fun k_ => ((fun k_ => ((eP k_ ∨ kT k_) ∨ w.heap.size ≤ k_) ∧ k_ ≠ oM ∧ k_ ≠ oN ∧ k_ ≠ oP ∧ k_ ≠ oF ∧ k_ ≠ lF)) k_ ∧ some k_ ≠ (u873000 : Value).ownBlock)) (cAf.out) (fun k_ hk => ⟨⟨hk.1, ⟨hk.2.2.1, ⟨hk.2.2.2.1, ⟨hk.2.2.2.2.1, ⟨hk.2.2.2.2.2.1, hk.2.2.2.2.2.2⟩⟩⟩⟩⟩, hk.2.1⟩))).2.1 (Kd.V_F (Kd.V_mono (ok' := (fun k_ => ((fun k_ => ((eP k_ ∨ kT k_) ∨ w.heap.size ≤ k_) ∧ k_ ≠ oM ∧ k_ ≠ oN ∧ k_ ≠ oP ∧ k_ ≠ oF ∧ k_ ≠ lF)) k_ ∧ some k_ ≠ (u873000 : Value).ownBlock)) (cAf.out) (fun k_ hk => ⟨⟨hk.1, ⟨hk.2.2.1, ⟨hk.2.2.2.1, ⟨hk.2.2.2.2.1, ⟨hk.2.2.2.2.2.1, hk.2.2.2.2.2.2⟩⟩⟩⟩⟩, hk.2.1⟩))) (Kd.V_reads' (Kd.V_mono (ok' := (fun k_ => ((fun k_ => ((eP k_ ∨ kT k_) ∨ w.heap.size ≤ k_) ∧ k_ ≠ oM ∧ k_ ≠ oN ∧ k_ ≠ oP ∧ k_ ≠ oF ∧ k_ ≠ lF)) k_ ∧ some k_ ≠ (u873000 : Value).ownBlock)) (cAg.out) (fun k_ hk => ⟨⟨hk.1, ⟨hk.2.2.1, ⟨hk.2.2.2.1, ⟨hk.2.2.2.2.1, ⟨hk.2.2.2.2.2.1, hk.2.2.2.2.2.2⟩⟩⟩⟩⟩, hk.2.1⟩))).2.1 (Kd.V_F (Kd.V_mono (ok' := (fun k_ => ((fun k_ => ((eP k_ ∨ kT k_) ∨ w.heap.size ≤ k_) ∧ k_ ≠ oM ∧ k_ ≠ oN ∧ k_ ≠ oP ∧ k_ ≠ oF ∧ k_ ≠ lF)) k_ ∧ some k_ ≠ (u873000 : Value).ownBlock)) (cAg.out) (fun k_ hk => ⟨⟨hk.1, ⟨hk.2.2.1, ⟨hk.2.2.2.1, ⟨hk.2.2.2.2.1, ⟨hk.2.2.2.2.2.1, hk.2.2.2.2.2.2⟩⟩⟩⟩⟩, hk.2.1⟩)))))
            (case aB => exact (by repeat (first | (with_reducible first | exact HB.out | apply lA | apply lN | apply lD | refine lS ?_ bZ8.out | refine lS ?_ bZ9.out | refine lS ?_ cAa.out | refine lS ?_ cAb.out | refine lS ?_ cAc.out) | exact HB.out)))
            (case aF => exact (fun k_ hk => ⟨(.inr (Nat.le_trans (lZ (by repeat (first | (with_reducible first | exact HB.out | apply lA | apply lN | apply lD | refine lS ?_ bZ8.out | refine lS ?_ bZ9.out | refine lS ?_ cAa.out | refine lS ?_ cAb.out | refine lS ?_ cAc.out) | exact HB.out))) hk)), Kd.freshB (g := oM) (o := .cells #[.slice bP aD.length bK] 24 (0, 0)) (xkq kI) k_ hk, Kd.freshB (g := oN) (o := .cells #[.slice (some bTb) bR.length qD] 24 (0, 0)) (xkq kQ) k_ hk, Kd.freshB (g := oP) (o := .cells #[.slice none 0 0] 24 (0, 0)) (xkq lU) k_ hk, Kd.freshB (g := oF) (o := .cells #[.int .i64 uH, .int .i64 rR] 28 (0, 0)) (xkq lI) k_ hk, Kd.freshB (g := lF) (o := .cells #[u873000] 24 (0, 0)) (xkq lM) k_ hk⟩))
            (case aO => exact (by (with_reducible repeat (first | apply Kd.N_alloc | apply Kd.N_drewN | apply Kd.N_drew)); exact dW.out))
            (case aS => exact (lZ (by repeat (first | (with_reducible first | exact HB.out | apply lA | apply lN | apply lD | refine lS ?_ bZ8.out | refine lS ?_ bZ9.out | refine lS ?_ cAa.out | refine lS ?_ cAb.out | refine lS ?_ cAc.out) | exact HB.out))))
            (case aL => have := gJi.out; omega)
            intro iJ4 w85 ho hb hg hat
            rw [← gJj.out] at ho
            replace dV := aZ (Kd.V_afterv (ok := (fun k_ => ((eP k_ ∨ kT k_) ∨ w.heap.size ≤ k_) ∧ k_ ≠ oM ∧ k_ ≠ oN ∧ k_ ≠ oP ∧ k_ ≠ oF ∧ k_ ≠ lF)) (by (with_reducible repeat (first | apply Kd.V_alloc | apply Kd.V_drewN | apply Kd.V_drew)); exact Kd.V_mono dV.out (fun _ hk => ⟨⟨hk.1, ⟨hk.2.2.1, ⟨hk.2.2.2.1, ⟨hk.2.2.2.2.1, ⟨hk.2.2.2.2.2.1, hk.2.2.2.2.2.2⟩⟩⟩⟩⟩, hk.2.1⟩)) hg hat)
            replace dO := aZ (Kd.V_afterv (ok := (fun k_ => ((eP k_ ∨ kT k_) ∨ w.heap.size ≤ k_) ∧ k_ ≠ oM ∧ k_ ≠ oN ∧ k_ ≠ oP ∧ k_ ≠ oF ∧ k_ ≠ lF)) (by (with_reducible repeat (first | apply Kd.V_alloc | apply Kd.V_drewN | apply Kd.V_drew)); exact Kd.V_mono dO.out (fun _ hk => ⟨⟨hk.1, ⟨hk.2.2.1, ⟨hk.2.2.2.1, ⟨hk.2.2.2.2.1, ⟨hk.2.2.2.2.2.1, hk.2.2.2.2.2.2⟩⟩⟩⟩⟩, hk.2.1⟩)) hg hat)
            replace kI := aZ (blk_grown (g := oM) (o := .cells #[.slice bP aD.length bK] 24 (0, 0)) (xkq kI) hg (Kd.N_ne dW.out kI.out (by decide)))
            replace kQ := aZ (blk_grown (g := oN) (o := .cells #[.slice (some bTb) bR.length qD] 24 (0, 0)) (xkq kQ) hg (Kd.N_ne dW.out kQ.out (by decide)))
            replace lU := aZ (blk_grown (g := oP) (o := .cells #[.slice none 0 0] 24 (0, 0)) (xkq lU) hg (Kd.N_ne dW.out lU.out (by decide)))
            replace lI := aZ (blk_grown (g := oF) (o := .cells #[.int .i64 uH, .int .i64 rR] 28 (0, 0)) (xkq lI) hg (Kd.N_ne dW.out lI.out (by decide)))
            replace lM := aZ (blk_grown (g := lF) (o := .cells #[u873000] 24 (0, 0)) (xkq lM) hg (Kd.N_ne dW.out lM.out (by decide)))
            replace cAf := aZ (Kd.V_afterv (ok := (fun k_ => ((eP k_ ∨ kT k_) ∨ w.heap.size ≤ k_) ∧ k_ ≠ oM ∧ k_ ≠ oN ∧ k_ ≠ oP ∧ k_ ≠ oF ∧ k_ ≠ lF)) (by (with_reducible repeat (first | apply Kd.V_alloc | apply Kd.V_drewN | apply Kd.V_drew)); exact Kd.V_mono cAf.out (fun _ hk => ⟨⟨hk.1, ⟨hk.2.2.1, ⟨hk.2.2.2.1, ⟨hk.2.2.2.2.1, ⟨hk.2.2.2.2.2.1, hk.2.2.2.2.2.2⟩⟩⟩⟩⟩, hk.2.1⟩)) hg hat)
            replace cAg := aZ (Kd.V_afterv (ok := (fun k_ => ((eP k_ ∨ kT k_) ∨ w.heap.size ≤ k_) ∧ k_ ≠ oM ∧ k_ ≠ oN ∧ k_ ≠ oP ∧ k_ ≠ oF ∧ k_ ≠ lF)) (by (with_reducible repeat (first | apply Kd.V_alloc | apply Kd.V_drewN | apply Kd.V_drew)); exact Kd.V_mono cAg.out (fun _ hk => ⟨⟨hk.1, ⟨hk.2.2.1, ⟨hk.2.2.2.1, ⟨hk.2.2.2.2.1, ⟨hk.2.2.2.2.2.1, hk.2.2.2.2.2.2⟩⟩⟩⟩⟩, hk.2.1⟩)) hg hat)
            replace HB := aZ (hb)
            have fCm := aZ (ho)
            clear dW
            clear ho hb hg hat
            obtain ⟨aQa, aQb, cR2⟩ := Kd.N_slice fCm.out
            (first | subst cR2 | (injection cR2 with f1_ f2_ f3_; have f4_ := f1_.symm; have f5_ := f3_.symm; clear f1_ f2_ f3_; subst f4_; subst f5_))
            refine hK.out _ _ ?_
            clear hK K
            refine norm_ (a' := ?_) ?_ ?_
            rotate_left
            · show Act.put _ (some 108) _ = _
              simp only [Act.put, List.setIfInBounds_toArray, List.set_cons_zero, List.set_cons_succ, i64_w, i32_w]
              rfl
            refine pu 9 109 Z46 HT_ rfl rfl (h := ?_)
            refine last_ (i := 10) (N := none) Z47 rfl rfl (one_of HT_.out (by kernel_rfl)) (by decide) (fun K hK => ?_)
            have iJ5 : w85.cell? ⟨lF, 0, none⟩ = some (u873000) := (blk_cell lM.out 0).trans rfl
            have iEc := blk_frozen lM.out 0
            have hC3 := aO9.out
            have hC4 := aUj.out
            have hC5 := aUl.out
            have hC6 := aUn.out
            have hC7 := aPa.out
            have hC8 := aUk.out
            have hC9 := aUm.out
            have hDa := aUo.out
            refine skip_ (w1 := ?_) (by rfl) rfl ?_ ?_
            rotate_left
            · go_simp
              rfl
            refine hK.out _ _ ?_
            clear hK K
            refine done_ (done_of HT_.out (by kernel_rfl)) ?_
            try go_wp2
            go_roundg cP1
            case measure => have := yS.out; have := cIx.out; have := dHn.out; have := eXh.out; omega
            case rel => exact ⟨(iN), (wrap64 (fF + 1)), (uH), (rR), (dZw), (.slice aQa dZw.length aQb), xrs, xrs, H', ⟨by have := yS.out; have := cIx.out; have := dHn.out; have := eXh.out; omega⟩, ⟨by (with_reducible repeat (first | apply Kd.V_alloc | apply Kd.V_drewN | apply Kd.V_drew)); exact Kd.V_mono (Kd.V_far (p := ⟨lF, 0, none⟩) (Kd.V_mono dV.out (fun k_ hk => (⟨hk, hk.1.2.2.2.2.2⟩ : _ ∧ k_ ≠ lF))) (fun _ hk => hk.2) (.slice aQa dZw.length aQb)) (fun _ hk => ⟨hk.1.1.1, ⟨hk.1.2, ⟨hk.1.1.2.1, ⟨hk.1.1.2.2.1, ⟨hk.1.1.2.2.2.1, ⟨hk.1.1.2.2.2.2.1, hk.1.1.2.2.2.2.2⟩⟩⟩⟩⟩⟩)⟩, ⟨by (with_reducible repeat (first | apply Kd.V_alloc | apply Kd.V_drewN | apply Kd.V_drew)); exact Kd.V_mono (Kd.V_far (p := ⟨lF, 0, none⟩) (Kd.V_mono dO.out (fun k_ hk => (⟨hk, hk.1.2.2.2.2.2⟩ : _ ∧ k_ ≠ lF))) (fun _ hk => hk.2) (.slice aQa dZw.length aQb)) (fun _ hk => ⟨hk.1.1.1, ⟨hk.1.2, ⟨hk.1.1.2.1, ⟨hk.1.1.2.2.1, ⟨hk.1.1.2.2.2.1, ⟨hk.1.1.2.2.2.2.1, hk.1.1.2.2.2.2.2⟩⟩⟩⟩⟩⟩)⟩, ⟨by (with_reducible repeat (first | apply Kd.N_alloc | apply Kd.N_drewN | apply Kd.N_drew)); exact Kd.N_mono (Kd.N_far (p := ⟨lF, 0, none⟩) (Kd.N_mono fCm.out (fun k_ hk => (⟨hk, hk.2.2.2.2.2⟩ : _ ∧ k_ ≠ lF))) (fun _ hk => hk.2) (.slice aQa dZw.length aQb)) (fun _ hk => ⟨hk.1.1, ⟨hk.1.2.1, ⟨hk.1.2.2.1, ⟨hk.1.2.2.2.1, ⟨hk.1.2.2.2.2.1, hk.1.2.2.2.2.2⟩⟩⟩⟩⟩)⟩, xk kI, xk kQ, xk lU, xk lI, ⟨by (with_reducible repeat (first | refine bN ?_ _ | refine bD ?_ | refine bA ?_ _)); refine blk_put (cs := #[u873000]) ?_ 0 _ rfl; (with_reducible repeat (first | refine bN ?_ _ | refine bD ?_ | refine bA ?_ _)); exact lM.out⟩, xb HB⟩
          subst c54
          have H1 : (if 0 ≤ iN then (if iN < (aD.length : Int) then (if 0 ≤ fF then (if fF < (bR.length : Int) then ((aU.f cP1 ((aA aD iN).f1.f0) ((aA aD iN).f1.f1) ((aA aD iN).f1.f2) ((aA bR fF).f1.f0) ((aA bR fF).f1.f1) ((aA bR fF).f1.f2)).bind fun dZt => (if dZt = true then (if jS.length < 2199023255552 then (aC.l0 cP1 (wrap64 (iN + 1)) (wrap64 (fF + 1)) aD bR (jS ++ [(⟨(aA bR fF).f0, (⟨(aA bR fF).f1.f0, (aA bR fF).f1.f1, (aA bR fF).f1.f2⟩ : S44)⟩ : fB)])) else (none)) else ((aT.f 19 fF).bind fun bNy => (some (([] : List (fB)), bNy.1, bNy.2))))) else (none)) else (none)) else (none)) else (none)) = some (r1, r2, r3) := by rw [if_pos rfl] at H; exact H
          clear H
          have H := H1
          clear H1
          by_cases c55 : 0 ≤ iN
          rotate_left
          · rw [if_neg c55] at H
            exact absurd H (by simp)
          rw [if_pos c55] at H
          have fCn : decide (0 ≤ iN) = true := decide_eq_true c55
          clear c55
          by_cases c56 : iN < (aD.length : Int)
          rotate_left
          · rw [if_neg c56] at H
            exact absurd H (by simp)
          rw [if_pos c56] at H
          have fCo : decide (iN < (aD.length : Int)) = true := decide_eq_true c56
          clear c56
          by_cases c57 : 0 ≤ fF
          rotate_left
          · rw [if_neg c57] at H
            exact absurd H (by simp)
          rw [if_pos c57] at H
          have cTz : decide (0 ≤ fF) = true := decide_eq_true c57
          clear c57
          by_cases c58 : fF < (bR.length : Int)
          rotate_left
          · rw [if_neg c58] at H
            exact absurd H (by simp)
          rw [if_pos c58] at H
          have dWl : decide (fF < (bR.length : Int)) = true := decide_eq_true c58
          clear c58
          replace H := Option.bind_eq_some_iff.mp H
          obtain ⟨dZt, dEr, H⟩ := H
          replace H : (if dZt = true then (if jS.length < 2199023255552 then (aC.l0 cP1 (wrap64 (iN + 1)) (wrap64 (fF + 1)) aD bR (jS ++ [(⟨(aA bR fF).f0, (⟨(aA bR fF).f1.f0, (aA bR fF).f1.f1, (aA bR fF).f1.f2⟩ : S44)⟩ : fB)])) else (none)) else ((aT.f 19 fF).bind fun bNy => (some (([] : List (fB)), bNy.1, bNy.2)))) = some (r1, r2, r3) := H
          have A59 := aZ dEr
          clear dEr
          by_cases c60 : dZt = true
          rotate_left
          · replace c60 := Bool.eq_false_iff.mpr c60
            subst c60
            have H1 : ((aT.f 19 fF).bind fun bNy => (some (([] : List (fB)), bNy.1, bNy.2))) = some (r1, r2, r3) := by rw [if_neg (show ¬ (false = true) by decide)] at H; exact H
            clear H
            have H := H1
            clear H1
            replace H := Option.bind_eq_some_iff.mp H
            obtain ⟨⟨eXm, fRd⟩, gJk, H⟩ := H
            replace H : (some (([] : List (fB)), eXm, fRd)) = some (r1, r2, r3) := H
            have A68 := aZ gJk
            clear gJk
            simp only [Option.some.injEq, Prod.mk.injEq] at H
            obtain ⟨rfl, rfl, rfl⟩ := H
            try go_wp2
            replace dV := aZ (Kd.V_drew dV.out)
            replace dO := aZ (Kd.V_drew dO.out)
            replace dW := aZ (Kd.N_drew dW.out)
            replace kI := aZ (bD kI.out)
            replace kQ := aZ (bD kQ.out)
            replace lU := aZ (bD lU.out)
            replace lI := aZ (bD lI.out)
            replace lM := aZ (bD lM.out)
            replace HB := aZ (lD HB.out)
            have dBo : 0 ≤ (iN : Int) := of_decide_eq_true xas
            have dBp : iN < (aD.length : Int) := of_decide_eq_true xas
            obtain ⟨aRt, cP2, cP3, cP4, cP5, fRe, cAh, cAi, bKz, bK0, cAj, cAk, cAl, cAm⟩ := gY (Kd.V_reads' dV.out).2.2 iN dBo dBp
            cases fRe
            obtain ⟨gJl, dNp, dNq, bUx⟩ := Kd.V_get dV.out z46 iN dBo (by first | exact dBp | exact of_decide_eq_true xas | (have e_ := (Kd.V_reads' dV.out).1; omega))
            obtain ⟨eXn, eXo, eXp, eXq, rfl, bK1, bK2, bK3, bK4⟩ := rM dNq
            have aX5 := bUx 2 _ rfl
            rw [add_field _ _ 2 (by omega)] at aX5
            replace aX5 := Option.some.inj (aX5.symm.trans bKz)
            injection aX5 with hva_ hvn_ hvc_
            rw [hva_] at bK2
            rw [hvc_] at bK1
            have aIc := aZ (show Kd.V (Kd.int .i64) 3 _ w.heap.size _ _ ((aA aD iN).f1.f1) from Kd.V_mk bK1 bK2)
            clear hva_ hvn_ hvc_ bK2 bK1
            have aX6 := bUx 3 _ rfl
            rw [add_field _ _ 3 (by omega)] at aX6
            replace aX6 := Option.some.inj (aX6.symm.trans bK0)
            injection aX6 with hva_ hvn_ hvc_
            rw [hva_] at bK4
            rw [hvc_] at bK3
            have aId := aZ (show Kd.V (Kd.int .u8) 5 _ w.heap.size _ _ ((aA aD iN).f1.f2) from Kd.V_mk bK3 bK4)
            clear hva_ hvn_ hvc_ bK4 bK3
            clear bUx dNp
            have aIe := aZ cAk
            have dBq := aZ cAj
            clear cAk cAj
            have aIf := aZ cAm
            have dBr := aZ cAl
            clear cAm cAl
            replace dBo := eq_true dBo
            replace dBp := eq_true dBp
            have dBs : 0 ≤ (fF : Int) := of_decide_eq_true xas
            have dBt : fF < (bR.length : Int) := of_decide_eq_true xas
            obtain ⟨aEd, cP6, cP7, cP8, cP9, fRf, cAn, cAo, bK5, bK6, cAp, cAq, cAr, cAs⟩ := gY (Kd.V_reads' dO.out).2.2 fF dBs dBt
            cases fRf
            obtain ⟨gJm, dNr, dNs, bUy⟩ := Kd.V_get dO.out z46 fF dBs (by first | exact dBt | exact of_decide_eq_true xas | (have e_ := (Kd.V_reads' dO.out).1; omega))
            obtain ⟨eXr, eXs, eXt, eXu, rfl, bK7, bK8, bK9, bLa⟩ := rM dNs
            have aX7 := bUy 2 _ rfl
            rw [add_field _ _ 2 (by omega)] at aX7
            replace aX7 := Option.some.inj (aX7.symm.trans bK5)
            injection aX7 with hva_ hvn_ hvc_
            rw [hva_] at bK8
            rw [hvc_] at bK7
            have aIg := aZ (show Kd.V (Kd.int .i64) 3 _ w.heap.size _ _ ((aA bR fF).f1.f1) from Kd.V_mk bK7 bK8)
            clear hva_ hvn_ hvc_ bK8 bK7
            have aX8 := bUy 3 _ rfl
            rw [add_field _ _ 3 (by omega)] at aX8
            replace aX8 := Option.some.inj (aX8.symm.trans bK6)
            injection aX8 with hva_ hvn_ hvc_
            rw [hva_] at bLa
            rw [hvc_] at bK9
            have aIh := aZ (show Kd.V (Kd.int .u8) 5 _ w.heap.size _ _ ((aA bR fF).f1.f2) from Kd.V_mk bK9 bLa)
            clear hva_ hvn_ hvc_ bLa bK9
            clear bUy dNr
            have aIi := aZ cAq
            have dBu := aZ cAp
            clear cAq cAp
            have aIj := aZ cAs
            have dBv := aZ cAr
            clear cAs cAr
            replace dBs := eq_true dBs
            replace dBt := eq_true dBt
            refine start_ (n := 14) (S := fun w' => w'.cell? ⟨oM, 0, none⟩ = some (.slice (some aRt) aD.length bK) ∧ w'.cell? ⟨oN, 0, none⟩ = some (.slice (some aEd) bR.length qD) ∧ w'.cell? (aRt.add ((iN).toNat * 4)) = some (.int .i64 ((aA aD iN).f0)) ∧ w'.cell? ⟨(aRt.add ((iN).toNat * 4)).block, (aRt.add ((iN).toNat * 4)).off + 1, none⟩ = some (.int .i64 ((aA aD iN).f1.f0)) ∧ w'.cell? ⟨(aRt.add ((iN).toNat * 4)).block, (aRt.add ((iN).toNat * 4)).off + 2, none⟩ = some (.slice cP2 ((aA aD iN).f1.f1).length cP3) ∧ w'.cell? ⟨(aRt.add ((iN).toNat * 4)).block, (aRt.add ((iN).toNat * 4)).off + 3, none⟩ = some (.slice cP4 ((aA aD iN).f1.f2).length cP5) ∧ w'.cell? (aEd.add ((fF).toNat * 4)) = some (.int .i64 ((aA bR fF).f0)) ∧ w'.cell? ⟨(aEd.add ((fF).toNat * 4)).block, (aEd.add ((fF).toNat * 4)).off + 1, none⟩ = some (.int .i64 ((aA bR fF).f1.f0)) ∧ w'.cell? ⟨(aEd.add ((fF).toNat * 4)).block, (aEd.add ((fF).toNat * 4)).off + 2, none⟩ = some (.slice cP6 ((aA bR fF).f1.f1).length cP7) ∧ w'.cell? ⟨(aEd.add ((fF).toNat * 4)).block, (aEd.add ((fF).toNat * 4)).off + 3, none⟩ = some (.slice cP8 ((aA bR fF).f1.f2).length cP9)) (ds := []) Z76 (by kernel_rfl) rfl rfl ⟨(blk_cell kI.out 0).trans rfl, (blk_cell kQ.out 0).trans rfl, cAh, cAi, bKz, bK0, cAn, cAo, bK5, bK6⟩ (fun hHeld => ?_); refine with_tabW aC.tab8 aC.bits8 (fun HT_ HW_ => ?_)
            generalize wc.drew = w69 at dV dO dW kI kQ lU lI lM HB aIc aId aIg aIh aIe aIf aIi aIj cAh cAi bKz bK0 cAn cAo bK5 bK6 hHeld ⊢
            refine pu 0 81 Z77 HT_ rfl rfl (h := ?_)
            refine pu 2 83 Z78 HT_ rfl rfl (h := ?_)
            refine pu 6 87 Z79 HT_ rfl rfl (h := ?_)
            refine pu 8 89 Z80 HT_ rfl rfl (h := ?_)
            refine tk 1 82 Z81 HT_ HW_ rfl rfl hHeld (by rintro w' ⟨s0, s1, s2, s3, s4, s5, s6, s7, s8, s9⟩; go_simp; with_reducible rfl) (h := ?_)
            refine pu 3 84 Z82 HT_ rfl rfl (h := ?_)
            refine pu 4 85 Z83 HT_ rfl rfl (h := ?_)
            refine tk 5 86 Z84 HT_ HW_ rfl rfl hHeld (by rintro w' ⟨s0, s1, s2, s3, s4, s5, s6, s7, s8, s9⟩; go_simp; with_reducible rfl) (h := ?_)
            refine tk 7 88 Z85 HT_ HW_ rfl rfl hHeld (by rintro w' ⟨s0, s1, s2, s3, s4, s5, s6, s7, s8, s9⟩; go_simp; with_reducible rfl) (h := ?_)
            refine pu 9 90 Z86 HT_ rfl rfl (h := ?_)
            refine pu 10 91 Z87 HT_ rfl rfl (h := ?_)
            refine tk 11 92 Z88 HT_ HW_ rfl rfl hHeld (by rintro w' ⟨s0, s1, s2, s3, s4, s5, s6, s7, s8, s9⟩; go_simp; with_reducible rfl) (h := ?_)
            refine one_ (i := 12) (N := some 93) Z89 rfl rfl (one_of HT_.out (by kernel_rfl)) (by decide) (fun K hK => ?_)
            refine goes_ Try.func24 (by kernel_rfl) rfl #[.agg #[.int .i64 ((aA aD iN).f1.f0), .slice cP2 ((aA aD iN).f1.f1).length cP3, .slice cP4 ((aA aD iN).f1.f2).length cP5], .agg #[.int .i64 ((aA bR fF).f1.f0), .slice cP6 ((aA bR fF).f1.f1).length cP7, .slice cP8 ((aA bR fF).f1.f2).length cP9]] (by rfl) rfl rfl xmp ?_
            with_reducible refine (aU.calls cP1 ((aA aD iN).f1.f0) _ _ ((aA aD iN).f1.f1) _ _ ((aA aD iN).f1.f2) ((aA bR fF).f1.f0) _ _ ((aA bR fF).f1.f1) _ _ ((aA bR fF).f1.f2) false _ ?side1 ?side2 ?side3 ?side4 ?side5 ?side6 ?side7 ?side8 A59.out).mono ?_
            (case side1 => exact xcc aIe)
            (case side2 => exact dBq.out)
            (case side3 => exact xcc aIf)
            (case side4 => exact dBr.out)
            (case side5 => exact xcc aIi)
            (case side6 => exact dBu.out)
            (case side7 => exact xcc aIj)
            (case side8 => exact dBv.out)
            rintro e w70 ⟨rfl, hb⟩
            have fRg := (hb.cell (World.block_lt_of_cell? _ _ (hHeld.2.2.1))).trans (hHeld.2.2.1)
            have fRh := (hb.cell (World.block_lt_of_cell? _ _ (hHeld.2.2.2.1))).trans (hHeld.2.2.2.1)
            have dMr := (hb.cell (World.block_lt_of_cell? _ _ (hHeld.2.2.2.2.1))).trans (hHeld.2.2.2.2.1)
            have cPf := (hb.cell (World.block_lt_of_cell? _ _ (hHeld.2.2.2.2.2.1))).trans (hHeld.2.2.2.2.2.1)
            have cD8 := (hb.cell (World.block_lt_of_cell? _ _ (hHeld.2.2.2.2.2.2.1))).trans (hHeld.2.2.2.2.2.2.1)
            have cD9 := (hb.cell (World.block_lt_of_cell? _ _ (hHeld.2.2.2.2.2.2.2.1))).trans (hHeld.2.2.2.2.2.2.2.1)
            have dAk := (hb.cell (World.block_lt_of_cell? _ _ (hHeld.2.2.2.2.2.2.2.2.1))).trans (hHeld.2.2.2.2.2.2.2.2.1)
            have eL8 := (hb.cell (World.block_lt_of_cell? _ _ (hHeld.2.2.2.2.2.2.2.2.2))).trans (hHeld.2.2.2.2.2.2.2.2.2)
            refine ⟨_, rfl, ?_⟩
            replace dV := xV dV hb
            replace dO := xV dO hb
            replace dW := aZ (Kd.N_below (by (with_reducible repeat (first | apply Kd.N_alloc | apply Kd.N_drewN | apply Kd.N_drew)); exact dW.out) hb)
            replace aIc := xV aIc hb
            replace aId := xV aId hb
            replace aIg := xV aIg hb
            replace aIh := xV aIh hb
            replace kI := xbb kI hb
            replace kQ := xbb kQ hb
            replace lU := xbb lU hb
            replace lI := xbb lI hb
            replace lM := xbb lM hb
            replace aIe := xC aIe hb
            replace aIf := xC aIf hb
            replace aIi := xC aIi hb
            replace aIj := xC aIj hb
            replace HB := xhl HB hb
            (try clear hb)
            (try clear iV)
            (try clear hk)
            (try clear hi)
            refine hK.out _ _ ⟨(blk_cell kI.out 0).trans rfl, (blk_cell kQ.out 0).trans rfl, fRg, fRh, dMr, cPf, cD8, cD9, dAk, eL8⟩ (fun hHeld => ?_)
            clear hK K
            refine norm_ (a' := ?_) ?_ ?_
            rotate_left
            · show Act.put _ (some 93) _ = _
              simp only [Act.put, List.setIfInBounds_toArray, List.set_cons_zero, List.set_cons_succ, i64_w, i32_w]
              rfl
            refine pu 13 94 Z90 HT_ rfl rfl (h := ?_)
            refine done_ (done_of HT_.out (by kernel_rfl)) ?_
            try go_wp2_with (first | ((with_reducible refine gate_callee (f := 18) rfl ?_); refine goesL_ (some 97) rfl rfl Try.func18 (by kernel_rfl) rfl #[.int .i64 19, .int .i64 fF] rfl xmp ?_; (with_reducible refine (aT.calls 19 fF eXm fRd _ A68.out).mono ?_); rintro e w71 ⟨rfl, hb⟩; refine ⟨_, rfl, ?_⟩; replace dV := xV dV hb; replace dO := xV dO hb; replace dW := aZ (Kd.N_below (by (with_reducible repeat (first | apply Kd.N_alloc | apply Kd.N_drewN | apply Kd.N_drew)); exact dW.out) hb); replace aIc := xV aIc hb; replace aId := xV aId hb; replace aIg := xV aIg hb; replace aIh := xV aIh hb; replace kI := xbb kI hb; replace kQ := xbb kQ hb; replace lU := xbb lU hb; replace lI := xbb lI hb; replace lM := xbb lM hb; replace aIe := xC aIe hb; replace aIf := xC aIf hb; replace aIi := xC aIi hb; replace aIj := xC aIj hb; replace HB := xhl HB hb; (try clear hb); (try clear iV); (try clear hk); (try clear hi); have dEs := bF7.out; have dEt := bF6.out; have bMy := bQg.out; have bMz := bQf.out; have bSx := aMj.out; have bSy := aZs.out; have bM7 := aUl.out; have bM8 := aUm.out; have bJe : w71.cell? ⟨oP, 0, none⟩ = some (.slice none 0 0) := (blk_cell lU.out 0).trans rfl; have bJf := blk_frozen lU.out 0; have cSx := bF9.out; have cSy := bF8.out; have dG6 := bQi.out; have dG7 := bQh.out; have cHg := aUn.out; have cHh := aUo.out; have hDb : w71.cell? ⟨oF, 0, none⟩ = some (.int .i64 uH) := (blk_cell lI.out 0).trans rfl; have hDc : w71.cell? ⟨oF, 1, none⟩ = some (.int .i64 rR) := (blk_cell lI.out 1).trans rfl; have hDd := blk_frozen lI.out 0; have hDf := blk_frozen lI.out 1))
            refine bodyPost_ret (results_cc rfl _ _ oP oF 24 28 #[.slice none 0 0] #[.int .i64 eXm, .int .i64 fRd] (0, 0) (0, 0) _ _ rfl (by (with_reducible repeat (first | refine bN ?_ _ | refine bD ?_ | refine bA ?_ _)); refine blk_far ?_ aMj.out _; (with_reducible repeat (first | refine bN ?_ _ | refine bD ?_ | refine bA ?_ _)); refine blk_far ?_ aMj.out _; (with_reducible repeat (first | refine bN ?_ _ | refine bD ?_ | refine bA ?_ _)); refine blk_put (cs := #[.slice none 0 0]) ?_ 0 _ rfl; (with_reducible repeat (first | refine bN ?_ _ | refine bD ?_ | refine bA ?_ _)); exact lU.out) Try.underlying24 rfl (by kernel_rfl) rfl (by (with_reducible repeat (first | refine bN ?_ _ | refine bD ?_ | refine bA ?_ _)); refine blk_put (cs := #[.int .i64 eXm, .int .i64 rR]) ?_ 1 _ rfl; (with_reducible repeat (first | refine bN ?_ _ | refine bD ?_ | refine bA ?_ _)); refine blk_put (cs := #[.int .i64 uH, .int .i64 rR]) ?_ 0 _ rfl; (with_reducible repeat (first | refine bN ?_ _ | refine bD ?_ | refine bA ?_ _)); refine blk_far ?_ aZs.out _; (with_reducible repeat (first | refine bN ?_ _ | refine bD ?_ | refine bA ?_ _)); exact lI.out) Try.underlying28 rfl (by kernel_rfl)) rfl ?_
            exact ⟨_, xre, by first | exact Kd.S_nil _ _ _ _ _ | exact Kd.N_nil _ _ _ _ _ | exact Kd.V_nil _ _ _ _ _ | exact Kd.Q_nil _ _ _ _ _ | exact Kd.R_nil _ _ _ _ _, xq HB⟩
          subst c60
          have H1 : (if jS.length < 2199023255552 then (aC.l0 cP1 (wrap64 (iN + 1)) (wrap64 (fF + 1)) aD bR (jS ++ [(⟨(aA bR fF).f0, (⟨(aA bR fF).f1.f0, (aA bR fF).f1.f1, (aA bR fF).f1.f2⟩ : S44)⟩ : fB)])) else (none)) = some (r1, r2, r3) := by rw [if_pos rfl] at H; exact H
          clear H
          have H := H1
          clear H1
          by_cases c61 : jS.length < 2199023255552
          rotate_left
          · rw [if_neg c61] at H
            exact absurd H (by simp)
          rw [if_pos c61] at H
          have gJn := aZ c61
          clear c61
          obtain ⟨dZx, dHs⟩ : ∃ y_ : List (fB), y_ = (jS ++ [(⟨(aA bR fF).f0, (⟨(aA bR fF).f1.f0, (aA bR fF).f1.f1, (aA bR fF).f1.f2⟩ : S44)⟩ : fB)]) := ⟨_, rfl⟩
          replace H : (aC.l0 cP1 (wrap64 (iN + 1)) (wrap64 (fF + 1)) aD bR dZx) = some (r1, r2, r3) := by first | (rw [dHs]; with_reducible exact H) | (have qY := (Option.bind_some _ _).symm.trans H; rw [dHs]; with_reducible exact qY) | (have qY := (Option.bind_some _ _).symm.trans H; with_reducible exact qY) | with_reducible exact H | (rw [dHs]; exact H) | exact H
          have gJo := aZ dHs
          clear dHs
          have H' := aZ H
          clear H
          try go_wp2
          replace dV := aZ (Kd.V_drew dV.out)
          replace dO := aZ (Kd.V_drew dO.out)
          replace dW := aZ (Kd.N_drew dW.out)
          replace kI := aZ (bD kI.out)
          replace kQ := aZ (bD kQ.out)
          replace lU := aZ (bD lU.out)
          replace lI := aZ (bD lI.out)
          replace lM := aZ (bD lM.out)
          replace HB := aZ (lD HB.out)
          have dBo : 0 ≤ (iN : Int) := of_decide_eq_true xas
          have dBp : iN < (aD.length : Int) := of_decide_eq_true xas
          obtain ⟨aRt, cP2, cP3, cP4, cP5, fRe, cAh, cAi, bKz, bK0, cAj, cAk, cAl, cAm⟩ := gY (Kd.V_reads' dV.out).2.2 iN dBo dBp
          cases fRe
          obtain ⟨gJl, dNp, dNq, bUx⟩ := Kd.V_get dV.out z46 iN dBo (by first | exact dBp | exact of_decide_eq_true xas | (have e_ := (Kd.V_reads' dV.out).1; omega))
          obtain ⟨eXn, eXo, eXp, eXq, rfl, bK1, bK2, bK3, bK4⟩ := rM dNq
          have aX5 := bUx 2 _ rfl
          rw [add_field _ _ 2 (by omega)] at aX5
          replace aX5 := Option.some.inj (aX5.symm.trans bKz)
          injection aX5 with hva_ hvn_ hvc_
          rw [hva_] at bK2
          rw [hvc_] at bK1
          have aIc := aZ (show Kd.V (Kd.int .i64) 3 _ w.heap.size _ _ ((aA aD iN).f1.f1) from Kd.V_mk bK1 bK2)
          clear hva_ hvn_ hvc_ bK2 bK1
          have aX6 := bUx 3 _ rfl
          rw [add_field _ _ 3 (by omega)] at aX6
          replace aX6 := Option.some.inj (aX6.symm.trans bK0)
          injection aX6 with hva_ hvn_ hvc_
          rw [hva_] at bK4
          rw [hvc_] at bK3
          have aId := aZ (show Kd.V (Kd.int .u8) 5 _ w.heap.size _ _ ((aA aD iN).f1.f2) from Kd.V_mk bK3 bK4)
          clear hva_ hvn_ hvc_ bK4 bK3
          clear bUx dNp
          have aIe := aZ cAk
          have dBq := aZ cAj
          clear cAk cAj
          have aIf := aZ cAm
          have dBr := aZ cAl
          clear cAm cAl
          replace dBo := eq_true dBo
          replace dBp := eq_true dBp
          have dBs : 0 ≤ (fF : Int) := of_decide_eq_true xas
          have dBt : fF < (bR.length : Int) := of_decide_eq_true xas
          obtain ⟨aEd, cP6, cP7, cP8, cP9, fRf, cAn, cAo, bK5, bK6, cAp, cAq, cAr, cAs⟩ := gY (Kd.V_reads' dO.out).2.2 fF dBs dBt
          cases fRf
          obtain ⟨gJm, dNr, dNs, bUy⟩ := Kd.V_get dO.out z46 fF dBs (by first | exact dBt | exact of_decide_eq_true xas | (have e_ := (Kd.V_reads' dO.out).1; omega))
          obtain ⟨eXr, eXs, eXt, eXu, rfl, bK7, bK8, bK9, bLa⟩ := rM dNs
          have aX7 := bUy 2 _ rfl
          rw [add_field _ _ 2 (by omega)] at aX7
          replace aX7 := Option.some.inj (aX7.symm.trans bK5)
          injection aX7 with hva_ hvn_ hvc_
          rw [hva_] at bK8
          rw [hvc_] at bK7
          have aIg := aZ (show Kd.V (Kd.int .i64) 3 _ w.heap.size _ _ ((aA bR fF).f1.f1) from Kd.V_mk bK7 bK8)
          clear hva_ hvn_ hvc_ bK8 bK7
          have aX8 := bUy 3 _ rfl
          rw [add_field _ _ 3 (by omega)] at aX8
          replace aX8 := Option.some.inj (aX8.symm.trans bK6)
          injection aX8 with hva_ hvn_ hvc_
          rw [hva_] at bLa
          rw [hvc_] at bK9
          have aIh := aZ (show Kd.V (Kd.int .u8) 5 _ w.heap.size _ _ ((aA bR fF).f1.f2) from Kd.V_mk bK9 bLa)
          clear hva_ hvn_ hvc_ bLa bK9
          clear bUy dNr
          have aIi := aZ cAq
          have dBu := aZ cAp
          clear cAq cAp
          have aIj := aZ cAs
          have dBv := aZ cAr
          clear cAs cAr
          replace dBs := eq_true dBs
          replace dBt := eq_true dBt
          refine start_ (n := 14) (S := fun w' => w'.cell? ⟨oM, 0, none⟩ = some (.slice (some aRt) aD.length bK) ∧ w'.cell? ⟨oN, 0, none⟩ = some (.slice (some aEd) bR.length qD) ∧ w'.cell? (aRt.add ((iN).toNat * 4)) = some (.int .i64 ((aA aD iN).f0)) ∧ w'.cell? ⟨(aRt.add ((iN).toNat * 4)).block, (aRt.add ((iN).toNat * 4)).off + 1, none⟩ = some (.int .i64 ((aA aD iN).f1.f0)) ∧ w'.cell? ⟨(aRt.add ((iN).toNat * 4)).block, (aRt.add ((iN).toNat * 4)).off + 2, none⟩ = some (.slice cP2 ((aA aD iN).f1.f1).length cP3) ∧ w'.cell? ⟨(aRt.add ((iN).toNat * 4)).block, (aRt.add ((iN).toNat * 4)).off + 3, none⟩ = some (.slice cP4 ((aA aD iN).f1.f2).length cP5) ∧ w'.cell? (aEd.add ((fF).toNat * 4)) = some (.int .i64 ((aA bR fF).f0)) ∧ w'.cell? ⟨(aEd.add ((fF).toNat * 4)).block, (aEd.add ((fF).toNat * 4)).off + 1, none⟩ = some (.int .i64 ((aA bR fF).f1.f0)) ∧ w'.cell? ⟨(aEd.add ((fF).toNat * 4)).block, (aEd.add ((fF).toNat * 4)).off + 2, none⟩ = some (.slice cP6 ((aA bR fF).f1.f1).length cP7) ∧ w'.cell? ⟨(aEd.add ((fF).toNat * 4)).block, (aEd.add ((fF).toNat * 4)).off + 3, none⟩ = some (.slice cP8 ((aA bR fF).f1.f2).length cP9)) (ds := []) Z76 (by kernel_rfl) rfl rfl ⟨(blk_cell kI.out 0).trans rfl, (blk_cell kQ.out 0).trans rfl, cAh, cAi, bKz, bK0, cAn, cAo, bK5, bK6⟩ (fun hHeld => ?_); refine with_tabW aC.tab8 aC.bits8 (fun HT_ HW_ => ?_)
          generalize wc.drew = w62 at dV dO dW kI kQ lU lI lM HB aIc aId aIg aIh aIe aIf aIi aIj cAh cAi bKz bK0 cAn cAo bK5 bK6 hHeld ⊢
          refine pu 0 81 Z77 HT_ rfl rfl (h := ?_)
          refine pu 2 83 Z78 HT_ rfl rfl (h := ?_)
          refine pu 6 87 Z79 HT_ rfl rfl (h := ?_)
          refine pu 8 89 Z80 HT_ rfl rfl (h := ?_)
          refine tk 1 82 Z81 HT_ HW_ rfl rfl hHeld (by rintro w' ⟨s0, s1, s2, s3, s4, s5, s6, s7, s8, s9⟩; go_simp; with_reducible rfl) (h := ?_)
          refine pu 3 84 Z82 HT_ rfl rfl (h := ?_)
          refine pu 4 85 Z83 HT_ rfl rfl (h := ?_)
          refine tk 5 86 Z84 HT_ HW_ rfl rfl hHeld (by rintro w' ⟨s0, s1, s2, s3, s4, s5, s6, s7, s8, s9⟩; go_simp; with_reducible rfl) (h := ?_)
          refine tk 7 88 Z85 HT_ HW_ rfl rfl hHeld (by rintro w' ⟨s0, s1, s2, s3, s4, s5, s6, s7, s8, s9⟩; go_simp; with_reducible rfl) (h := ?_)
          refine pu 9 90 Z86 HT_ rfl rfl (h := ?_)
          refine pu 10 91 Z87 HT_ rfl rfl (h := ?_)
          refine tk 11 92 Z88 HT_ HW_ rfl rfl hHeld (by rintro w' ⟨s0, s1, s2, s3, s4, s5, s6, s7, s8, s9⟩; go_simp; with_reducible rfl) (h := ?_)
          refine one_ (i := 12) (N := some 93) Z89 rfl rfl (one_of HT_.out (by kernel_rfl)) (by decide) (fun K hK => ?_)
          refine goes_ Try.func24 (by kernel_rfl) rfl #[.agg #[.int .i64 ((aA aD iN).f1.f0), .slice cP2 ((aA aD iN).f1.f1).length cP3, .slice cP4 ((aA aD iN).f1.f2).length cP5], .agg #[.int .i64 ((aA bR fF).f1.f0), .slice cP6 ((aA bR fF).f1.f1).length cP7, .slice cP8 ((aA bR fF).f1.f2).length cP9]] (by rfl) rfl rfl xmp ?_
          with_reducible refine (aU.calls cP1 ((aA aD iN).f1.f0) _ _ ((aA aD iN).f1.f1) _ _ ((aA aD iN).f1.f2) ((aA bR fF).f1.f0) _ _ ((aA bR fF).f1.f1) _ _ ((aA bR fF).f1.f2) true _ ?side1 ?side2 ?side3 ?side4 ?side5 ?side6 ?side7 ?side8 A59.out).mono ?_
          (case side1 => exact xcc aIe)
          (case side2 => exact dBq.out)
          (case side3 => exact xcc aIf)
          (case side4 => exact dBr.out)
          (case side5 => exact xcc aIi)
          (case side6 => exact dBu.out)
          (case side7 => exact xcc aIj)
          (case side8 => exact dBv.out)
          rintro e w63 ⟨rfl, hb⟩
          have fRg := (hb.cell (World.block_lt_of_cell? _ _ (hHeld.2.2.1))).trans (hHeld.2.2.1)
          have fRh := (hb.cell (World.block_lt_of_cell? _ _ (hHeld.2.2.2.1))).trans (hHeld.2.2.2.1)
          have dMr := (hb.cell (World.block_lt_of_cell? _ _ (hHeld.2.2.2.2.1))).trans (hHeld.2.2.2.2.1)
          have cPf := (hb.cell (World.block_lt_of_cell? _ _ (hHeld.2.2.2.2.2.1))).trans (hHeld.2.2.2.2.2.1)
          have cD8 := (hb.cell (World.block_lt_of_cell? _ _ (hHeld.2.2.2.2.2.2.1))).trans (hHeld.2.2.2.2.2.2.1)
          have cD9 := (hb.cell (World.block_lt_of_cell? _ _ (hHeld.2.2.2.2.2.2.2.1))).trans (hHeld.2.2.2.2.2.2.2.1)
          have dAk := (hb.cell (World.block_lt_of_cell? _ _ (hHeld.2.2.2.2.2.2.2.2.1))).trans (hHeld.2.2.2.2.2.2.2.2.1)
          have eL8 := (hb.cell (World.block_lt_of_cell? _ _ (hHeld.2.2.2.2.2.2.2.2.2))).trans (hHeld.2.2.2.2.2.2.2.2.2)
          refine ⟨_, rfl, ?_⟩
          replace dV := xV dV hb
          replace dO := xV dO hb
          replace dW := aZ (Kd.N_below (by (with_reducible repeat (first | apply Kd.N_alloc | apply Kd.N_drewN | apply Kd.N_drew)); exact dW.out) hb)
          replace aIc := xV aIc hb
          replace aId := xV aId hb
          replace aIg := xV aIg hb
          replace aIh := xV aIh hb
          replace kI := xbb kI hb
          replace kQ := xbb kQ hb
          replace lU := xbb lU hb
          replace lI := xbb lI hb
          replace lM := xbb lM hb
          replace aIe := xC aIe hb
          replace aIf := xC aIf hb
          replace aIi := xC aIi hb
          replace aIj := xC aIj hb
          replace HB := xhl HB hb
          (try clear hb)
          (try clear iV)
          (try clear hk)
          (try clear hi)
          refine hK.out _ _ ⟨(blk_cell kI.out 0).trans rfl, (blk_cell kQ.out 0).trans rfl, fRg, fRh, dMr, cPf, cD8, cD9, dAk, eL8⟩ (fun hHeld => ?_)
          clear hK K
          refine norm_ (a' := ?_) ?_ ?_
          rotate_left
          · show Act.put _ (some 93) _ = _
            simp only [Act.put, List.setIfInBounds_toArray, List.set_cons_zero, List.set_cons_succ, i64_w, i32_w]
            rfl
          refine pu 13 94 Z90 HT_ rfl rfl (h := ?_)
          refine done_ (done_of HT_.out (by kernel_rfl)) ?_
          try go_wp2
          replace dV := aZ (Kd.V_drew dV.out)
          replace dO := aZ (Kd.V_drew dO.out)
          replace dW := aZ (Kd.N_drew dW.out)
          replace aIc := aZ (Kd.V_drew aIc.out)
          replace aId := aZ (Kd.V_drew aId.out)
          replace aIg := aZ (Kd.V_drew aIg.out)
          replace aIh := aZ (Kd.V_drew aIh.out)
          replace kI := aZ (bD kI.out)
          replace kQ := aZ (bD kQ.out)
          replace lU := aZ (bD lU.out)
          replace lI := aZ (bD lI.out)
          replace lM := aZ (bD lM.out)
          replace aIe := aZ (Kd.C_drew aIe.out)
          replace aIf := aZ (Kd.C_drew aIf.out)
          replace aIi := aZ (Kd.C_drew aIi.out)
          replace aIj := aZ (Kd.C_drew aIj.out)
          replace HB := aZ (lD HB.out)
          have eXv : 0 ≤ (fF : Int) := of_decide_eq_true xas
          have eXw : fF < (bR.length : Int) := of_decide_eq_true xas
          obtain ⟨gJp, eL9, eMa, eMb, eMc, hN4, dWm, dWn, dBw, dBx, dWo, dWp, dWq, dWr⟩ := gY (Kd.V_reads' dO.out).2.2 fF eXv eXw
          obtain rfl : aEd = gJp := (by injection hN4)
          obtain ⟨iEd, fRi, fRj, dNt⟩ := Kd.V_get dO.out z46 fF eXv (by first | exact eXw | exact of_decide_eq_true xas | (have e_ := (Kd.V_reads' dO.out).1; omega))
          obtain ⟨hDh, hDi, hDj, hDk, rfl, dBy, dBz, dB0, dB1⟩ := rM fRj
          have cL4 := dNt 2 _ rfl
          rw [add_field _ _ 2 (by omega)] at cL4
          replace cL4 := Option.some.inj (cL4.symm.trans dBw)
          injection cL4 with hva_ hvn_ hvc_
          rw [hva_] at dBz
          rw [hvc_] at dBy
          have cAt := aZ (show Kd.V (Kd.int .i64) 3 _ w.heap.size _ _ ((aA bR fF).f1.f1) from Kd.V_mk dBy dBz)
          clear hva_ hvn_ hvc_ dBz dBy
          have cL5 := dNt 3 _ rfl
          rw [add_field _ _ 3 (by omega)] at cL5
          replace cL5 := Option.some.inj (cL5.symm.trans dBx)
          injection cL5 with hva_ hvn_ hvc_
          rw [hva_] at dB1
          rw [hvc_] at dB0
          have cAu := aZ (show Kd.V (Kd.int .u8) 5 _ w.heap.size _ _ ((aA bR fF).f1.f2) from Kd.V_mk dB0 dB1)
          clear hva_ hvn_ hvc_ dB1 dB0
          clear dNt fRi
          have eXx := aZ dWp
          have hDm := aZ dWo
          clear dWp dWo
          have eXy := aZ dWr
          have hDo := aZ dWq
          clear dWr dWq
          replace eXv := eq_true eXv
          replace eXw := eq_true eXw
          refine start_ (n := 11) (S := fun w' => w'.cell? ⟨lF, 0, none⟩ = some (u873000) ∧ w'.cell? ⟨oN, 0, none⟩ = some (.slice (some aEd) bR.length qD) ∧ w'.cell? (aEd.add ((fF).toNat * 4)) = some (.int .i64 ((aA bR fF).f0)) ∧ w'.cell? ⟨(aEd.add ((fF).toNat * 4)).block, (aEd.add ((fF).toNat * 4)).off + 1, none⟩ = some (.int .i64 ((aA bR fF).f1.f0)) ∧ w'.cell? ⟨(aEd.add ((fF).toNat * 4)).block, (aEd.add ((fF).toNat * 4)).off + 2, none⟩ = some (.slice eL9 ((aA bR fF).f1.f1).length eMa) ∧ w'.cell? ⟨(aEd.add ((fF).toNat * 4)).block, (aEd.add ((fF).toNat * 4)).off + 3, none⟩ = some (.slice eMb ((aA bR fF).f1.f2).length eMc)) (ds := [8, 10]) Z36 (by kernel_rfl) rfl rfl ⟨(blk_cell lM.out 0).trans rfl, (blk_cell kQ.out 0).trans rfl, dWm, dWn, dBw, dBx⟩ (fun hHeld => ?_); refine with_tabW aC.tab11 aC.bits11 (fun HT_ HW_ => ?_)
          generalize w63.drew = w64 at dV dO dW aIc aId aIg aIh kI kQ lU lI lM aIe aIf aIi aIj HB cAt cAu eXx eXy dWm dWn dBw dBx hHeld ⊢
          refine pu 0 100 Z37 HT_ rfl rfl (h := ?_)
          refine pu 2 102 Z38 HT_ rfl rfl (h := ?_)
          refine pu 4 104 Z39 HT_ rfl rfl (h := ?_)
          refine tk 1 101 Z40 HT_ HW_ rfl rfl hHeld (by rintro w' ⟨s0, s1, s2, s3, s4, s5⟩; go_simp; with_reducible rfl) (h := ?_)
          refine tk 3 103 Z41 HT_ HW_ rfl rfl hHeld (by rintro w' ⟨s0, s1, s2, s3, s4, s5⟩; go_simp; with_reducible rfl) (h := ?_)
          refine pu 5 105 Z42 HT_ rfl rfl (h := ?_)
          refine tk 6 106 Z43 HT_ HW_ rfl rfl hHeld (by rintro w' ⟨s0, s1, s2, s3, s4, s5⟩; go_simp; with_reducible rfl) (h := ?_)
          refine one_ (i := 7) (N := some 107) Z44 rfl rfl (one_of HT_.out (by kernel_rfl)) (by decide) (fun K hK => ?_)
          refine value_ (w1 := ?_) (v := ?_) (by rfl) rfl ?_ ?_
          rotate_left 2
          · go_simp
            constructor
            · rfl
            · rfl
          refine hK.out _ _ ⟨(blk_cell (bA lM.out _) 0).trans rfl, (blk_cell (bA kQ.out _) 0).trans rfl, (World.cell?_alloc_lt _ _ _ (World.block_lt_of_cell? _ _ (hHeld.2.2.1))).trans (hHeld.2.2.1), (World.cell?_alloc_lt _ _ _ (World.block_lt_of_cell? _ _ (hHeld.2.2.2.1))).trans (hHeld.2.2.2.1), (World.cell?_alloc_lt _ _ _ (World.block_lt_of_cell? _ _ (hHeld.2.2.2.2.1))).trans (hHeld.2.2.2.2.1), (World.cell?_alloc_lt _ _ _ (World.block_lt_of_cell? _ _ (hHeld.2.2.2.2.2))).trans (hHeld.2.2.2.2.2)⟩ (fun hHeld => ?_)
          clear hK K
          refine norm_ (a' := ?_) ?_ ?_
          rotate_left
          · show Act.put _ (some 107) _ = _
            simp only [Act.put, List.setIfInBounds_toArray, List.set_cons_zero, List.set_cons_succ, i64_w, i32_w]
            rfl
          refine last_ (i := 8) (N := some 108) Z45 rfl rfl (one_of HT_.out (by kernel_rfl)) (by decide) (fun K hK => ?_)
          refine Kd.N_append_step qL (w0 := w) w.heap.size (by rfl) (.tmp 101) (.tmp 107) 22 46 (.agg #[(.int .i64 0), (.int .i64 0), (.slice none 0 0), (.slice none 0 0)]) 64 rfl Try.underlying22 aNg rfl (by decide) (by omega) u873000 jS (⟨(aA bR fF).f0, (⟨(aA bR fF).f1.f0, (aA bR fF).f1.f1, (aA bR fF).f1.f2⟩ : S44)⟩ : fB) [.int .i64 ((aA bR fF).f0), .int .i64 ((aA bR fF).f1.f0), .slice eL9 ((aA bR fF).f1.f1).length eMa, .slice eMb ((aA bR fF).f1.f2).length eMc] (fun k_ => ((eP k_ ∨ kT k_) ∨ w.heap.size ≤ k_) ∧ k_ ≠ oM ∧ k_ ≠ oN ∧ k_ ≠ oP ∧ k_ ≠ oF ∧ k_ ≠ lF) (fun k_ => ((fun k_ => ((eP k_ ∨ kT k_) ∨ w.heap.size ≤ k_) ∧ k_ ≠ oM ∧ k_ ≠ oN ∧ k_ ≠ oP ∧ k_ ≠ oF ∧ k_ ≠ lF)) k_ ∧ some k_ ≠ (u873000 : Value).ownBlock) rfl rfl ?aP (fun _ hk => hk) ?aF ?aO ?aB ?aS ?aL ?_
          (case aP => exact (aW2 _ _ (⟨(aA bR fF).f0, (⟨(aA bR fF).f1.f0, (aA bR fF).f1.f1, (aA bR fF).f1.f2⟩ : S44)⟩ : fB) (Kd.V_reads' (Kd.V_mono (ok' := (fun k_ => ((fun k_ => ((eP k_ ∨ kT k_) ∨ w.heap.size ≤ k_) ∧ k_ ≠ oM ∧ k_ ≠ oN ∧ k_ ≠ oP ∧ k_ ≠ oF ∧ k_ ≠ lF)) k_ ∧ some k_ ≠ (u873000 : Value).ownBlock)) (cAt.out) (fun k_ hk => ⟨⟨hk.1, ⟨hk.2.2.1, ⟨hk.2.2.2.1, ⟨hk.2.2.2.2.1, ⟨hk.2.2.2.2.2.1, hk.2.2.2.2.2.2⟩⟩⟩⟩⟩, hk.2.1⟩))).2.1 (Kd.V_F (Kd.V_mono (ok' := (fun k_ => ((fun k_ => ((eP k_ ∨ kT k_) ∨ w.heap.size ≤ k_) ∧ k_ ≠ oM ∧ k_ ≠ oN ∧ k_ ≠ oP ∧ k_ ≠ oF ∧ k_ ≠ lF)) k_ ∧ some k_ ≠ (u873000 : Value).ownBlock)) (cAt.out) (fun k_ hk => ⟨⟨hk.1, ⟨hk.2.2.1, ⟨hk.2.2.2.1, ⟨hk.2.2.2.2.1, ⟨hk.2.2.2.2.2.1, hk.2.2.2.2.2.2⟩⟩⟩⟩⟩, hk.2.1⟩))) (Kd.V_reads' (Kd.V_mono (ok' := (fun k_ => ((fun k_ => ((eP k_ ∨ kT k_) ∨ w.heap.size ≤ k_) ∧ k_ ≠ oM ∧ k_ ≠ oN ∧ k_ ≠ oP ∧ k_ ≠ oF ∧ k_ ≠ lF)) k_ ∧ some k_ ≠ (u873000 : Value).ownBlock)) (cAu.out) (fun k_ hk => ⟨⟨hk.1, ⟨hk.2.2.1, ⟨hk.2.2.2.1, ⟨hk.2.2.2.2.1, ⟨hk.2.2.2.2.2.1, hk.2.2.2.2.2.2⟩⟩⟩⟩⟩, hk.2.1⟩))).2.1 (Kd.V_F (Kd.V_mono (ok' := (fun k_ => ((fun k_ => ((eP k_ ∨ kT k_) ∨ w.heap.size ≤ k_) ∧ k_ ≠ oM ∧ k_ ≠ oN ∧ k_ ≠ oP ∧ k_ ≠ oF ∧ k_ ≠ lF)) k_ ∧ some k_ ≠ (u873000 : Value).ownBlock)) (cAu.out) (fun k_ hk => ⟨⟨hk.1, ⟨hk.2.2.1, ⟨hk.2.2.2.1, ⟨hk.2.2.2.2.1, ⟨hk.2.2.2.2.2.1, hk.2.2.2.2.2.2⟩⟩⟩⟩⟩, hk.2.1⟩)))))
          (case aB => exact (by repeat (first | (with_reducible first | exact HB.out | apply lA | apply lN | apply lD | refine lS ?_ bZ8.out | refine lS ?_ bZ9.out | refine lS ?_ cAa.out | refine lS ?_ cAb.out | refine lS ?_ cAc.out) | exact HB.out)))
          (case aF => exact (fun k_ hk => ⟨(.inr (Nat.le_trans (lZ (by repeat (first | (with_reducible first | exact HB.out | apply lA | apply lN | apply lD | refine lS ?_ bZ8.out | refine lS ?_ bZ9.out | refine lS ?_ cAa.out | refine lS ?_ cAb.out | refine lS ?_ cAc.out) | exact HB.out))) hk)), Kd.freshB (g := oM) (o := .cells #[.slice (some aRt) aD.length bK] 24 (0, 0)) (xkq kI) k_ hk, Kd.freshB (g := oN) (o := .cells #[.slice (some aEd) bR.length qD] 24 (0, 0)) (xkq kQ) k_ hk, Kd.freshB (g := oP) (o := .cells #[.slice none 0 0] 24 (0, 0)) (xkq lU) k_ hk, Kd.freshB (g := oF) (o := .cells #[.int .i64 uH, .int .i64 rR] 28 (0, 0)) (xkq lI) k_ hk, Kd.freshB (g := lF) (o := .cells #[u873000] 24 (0, 0)) (xkq lM) k_ hk⟩))
          (case aO => exact (by (with_reducible repeat (first | apply Kd.N_alloc | apply Kd.N_drewN | apply Kd.N_drew)); exact dW.out))
          (case aS => exact (lZ (by repeat (first | (with_reducible first | exact HB.out | apply lA | apply lN | apply lD | refine lS ?_ bZ8.out | refine lS ?_ bZ9.out | refine lS ?_ cAa.out | refine lS ?_ cAb.out | refine lS ?_ cAc.out) | exact HB.out))))
          (case aL => have := gJn.out; omega)
          intro iJ7 w65 ho hb hg hat
          rw [← gJo.out] at ho
          replace dV := aZ (Kd.V_afterv (ok := (fun k_ => ((eP k_ ∨ kT k_) ∨ w.heap.size ≤ k_) ∧ k_ ≠ oM ∧ k_ ≠ oN ∧ k_ ≠ oP ∧ k_ ≠ oF ∧ k_ ≠ lF)) (by (with_reducible repeat (first | apply Kd.V_alloc | apply Kd.V_drewN | apply Kd.V_drew)); exact Kd.V_mono dV.out (fun _ hk => ⟨⟨hk.1, ⟨hk.2.2.1, ⟨hk.2.2.2.1, ⟨hk.2.2.2.2.1, ⟨hk.2.2.2.2.2.1, hk.2.2.2.2.2.2⟩⟩⟩⟩⟩, hk.2.1⟩)) hg hat)
          replace dO := aZ (Kd.V_afterv (ok := (fun k_ => ((eP k_ ∨ kT k_) ∨ w.heap.size ≤ k_) ∧ k_ ≠ oM ∧ k_ ≠ oN ∧ k_ ≠ oP ∧ k_ ≠ oF ∧ k_ ≠ lF)) (by (with_reducible repeat (first | apply Kd.V_alloc | apply Kd.V_drewN | apply Kd.V_drew)); exact Kd.V_mono dO.out (fun _ hk => ⟨⟨hk.1, ⟨hk.2.2.1, ⟨hk.2.2.2.1, ⟨hk.2.2.2.2.1, ⟨hk.2.2.2.2.2.1, hk.2.2.2.2.2.2⟩⟩⟩⟩⟩, hk.2.1⟩)) hg hat)
          replace kI := aZ (blk_grown (g := oM) (o := .cells #[.slice (some aRt) aD.length bK] 24 (0, 0)) (xkq kI) hg (Kd.N_ne dW.out kI.out (by decide)))
          replace kQ := aZ (blk_grown (g := oN) (o := .cells #[.slice (some aEd) bR.length qD] 24 (0, 0)) (xkq kQ) hg (Kd.N_ne dW.out kQ.out (by decide)))
          replace lU := aZ (blk_grown (g := oP) (o := .cells #[.slice none 0 0] 24 (0, 0)) (xkq lU) hg (Kd.N_ne dW.out lU.out (by decide)))
          replace lI := aZ (blk_grown (g := oF) (o := .cells #[.int .i64 uH, .int .i64 rR] 28 (0, 0)) (xkq lI) hg (Kd.N_ne dW.out lI.out (by decide)))
          replace lM := aZ (blk_grown (g := lF) (o := .cells #[u873000] 24 (0, 0)) (xkq lM) hg (Kd.N_ne dW.out lM.out (by decide)))
          replace aIc := aZ (Kd.V_afterv (ok := (fun k_ => ((eP k_ ∨ kT k_) ∨ w.heap.size ≤ k_) ∧ k_ ≠ oM ∧ k_ ≠ oN ∧ k_ ≠ oP ∧ k_ ≠ oF ∧ k_ ≠ lF)) (by (with_reducible repeat (first | apply Kd.V_alloc | apply Kd.V_drewN | apply Kd.V_drew)); exact Kd.V_mono aIc.out (fun _ hk => ⟨⟨hk.1, ⟨hk.2.2.1, ⟨hk.2.2.2.1, ⟨hk.2.2.2.2.1, ⟨hk.2.2.2.2.2.1, hk.2.2.2.2.2.2⟩⟩⟩⟩⟩, hk.2.1⟩)) hg hat)
          replace aId := aZ (Kd.V_afterv (ok := (fun k_ => ((eP k_ ∨ kT k_) ∨ w.heap.size ≤ k_) ∧ k_ ≠ oM ∧ k_ ≠ oN ∧ k_ ≠ oP ∧ k_ ≠ oF ∧ k_ ≠ lF)) (by (with_reducible repeat (first | apply Kd.V_alloc | apply Kd.V_drewN | apply Kd.V_drew)); exact Kd.V_mono aId.out (fun _ hk => ⟨⟨hk.1, ⟨hk.2.2.1, ⟨hk.2.2.2.1, ⟨hk.2.2.2.2.1, ⟨hk.2.2.2.2.2.1, hk.2.2.2.2.2.2⟩⟩⟩⟩⟩, hk.2.1⟩)) hg hat)
          replace aIg := aZ (Kd.V_afterv (ok := (fun k_ => ((eP k_ ∨ kT k_) ∨ w.heap.size ≤ k_) ∧ k_ ≠ oM ∧ k_ ≠ oN ∧ k_ ≠ oP ∧ k_ ≠ oF ∧ k_ ≠ lF)) (by (with_reducible repeat (first | apply Kd.V_alloc | apply Kd.V_drewN | apply Kd.V_drew)); exact Kd.V_mono aIg.out (fun _ hk => ⟨⟨hk.1, ⟨hk.2.2.1, ⟨hk.2.2.2.1, ⟨hk.2.2.2.2.1, ⟨hk.2.2.2.2.2.1, hk.2.2.2.2.2.2⟩⟩⟩⟩⟩, hk.2.1⟩)) hg hat)
          replace aIh := aZ (Kd.V_afterv (ok := (fun k_ => ((eP k_ ∨ kT k_) ∨ w.heap.size ≤ k_) ∧ k_ ≠ oM ∧ k_ ≠ oN ∧ k_ ≠ oP ∧ k_ ≠ oF ∧ k_ ≠ lF)) (by (with_reducible repeat (first | apply Kd.V_alloc | apply Kd.V_drewN | apply Kd.V_drew)); exact Kd.V_mono aIh.out (fun _ hk => ⟨⟨hk.1, ⟨hk.2.2.1, ⟨hk.2.2.2.1, ⟨hk.2.2.2.2.1, ⟨hk.2.2.2.2.2.1, hk.2.2.2.2.2.2⟩⟩⟩⟩⟩, hk.2.1⟩)) hg hat)
          replace cAt := aZ (Kd.V_afterv (ok := (fun k_ => ((eP k_ ∨ kT k_) ∨ w.heap.size ≤ k_) ∧ k_ ≠ oM ∧ k_ ≠ oN ∧ k_ ≠ oP ∧ k_ ≠ oF ∧ k_ ≠ lF)) (by (with_reducible repeat (first | apply Kd.V_alloc | apply Kd.V_drewN | apply Kd.V_drew)); exact Kd.V_mono cAt.out (fun _ hk => ⟨⟨hk.1, ⟨hk.2.2.1, ⟨hk.2.2.2.1, ⟨hk.2.2.2.2.1, ⟨hk.2.2.2.2.2.1, hk.2.2.2.2.2.2⟩⟩⟩⟩⟩, hk.2.1⟩)) hg hat)
          replace cAu := aZ (Kd.V_afterv (ok := (fun k_ => ((eP k_ ∨ kT k_) ∨ w.heap.size ≤ k_) ∧ k_ ≠ oM ∧ k_ ≠ oN ∧ k_ ≠ oP ∧ k_ ≠ oF ∧ k_ ≠ lF)) (by (with_reducible repeat (first | apply Kd.V_alloc | apply Kd.V_drewN | apply Kd.V_drew)); exact Kd.V_mono cAu.out (fun _ hk => ⟨⟨hk.1, ⟨hk.2.2.1, ⟨hk.2.2.2.1, ⟨hk.2.2.2.2.1, ⟨hk.2.2.2.2.2.1, hk.2.2.2.2.2.2⟩⟩⟩⟩⟩, hk.2.1⟩)) hg hat)
          replace HB := aZ (hb)
          have fCp := aZ (ho)
          clear dW
          clear ho hb hg hat
          obtain ⟨eXz, eX0, gJq⟩ := Kd.N_slice fCp.out
          (first | subst gJq | (injection gJq with f1_ f2_ f3_; have f4_ := f1_.symm; have f5_ := f3_.symm; clear f1_ f2_ f3_; subst f4_; subst f5_))
          refine hK.out _ _ ?_
          clear hK K
          refine norm_ (a' := ?_) ?_ ?_
          rotate_left
          · show Act.put _ (some 108) _ = _
            simp only [Act.put, List.setIfInBounds_toArray, List.set_cons_zero, List.set_cons_succ, i64_w, i32_w]
            rfl
          refine pu 9 109 Z46 HT_ rfl rfl (h := ?_)
          refine last_ (i := 10) (N := none) Z47 rfl rfl (one_of HT_.out (by kernel_rfl)) (by decide) (fun K hK => ?_)
          have iJ8 : w65.cell? ⟨lF, 0, none⟩ = some (u873000) := (blk_cell lM.out 0).trans rfl
          have iEe := blk_frozen lM.out 0
          have hDp := aO9.out
          have hDq := aUj.out
          have hDr := aUl.out
          have hDt := aUn.out
          have hDu := aPa.out
          have hDv := aUk.out
          have hDw := aUm.out
          have hDx := aUo.out
          refine skip_ (w1 := ?_) (by rfl) rfl ?_ ?_
          rotate_left
          · go_simp
            rfl
          refine hK.out _ _ ?_
          clear hK K
          refine done_ (done_of HT_.out (by kernel_rfl)) ?_
          try go_wp2
          go_roundg cP1
          case measure => have := yS.out; have := cIx.out; have := dHn.out; have := eXh.out; omega
          case rel => exact ⟨(wrap64 (iN + 1)), (wrap64 (fF + 1)), (uH), (rR), (dZx), (.slice eXz dZx.length eX0), xrs, xrs, H', ⟨by have := yS.out; have := cIx.out; have := dHn.out; have := eXh.out; omega⟩, ⟨by (with_reducible repeat (first | apply Kd.V_alloc | apply Kd.V_drewN | apply Kd.V_drew)); exact Kd.V_mono (Kd.V_far (p := ⟨lF, 0, none⟩) (Kd.V_mono dV.out (fun k_ hk => (⟨hk, hk.1.2.2.2.2.2⟩ : _ ∧ k_ ≠ lF))) (fun _ hk => hk.2) (.slice eXz dZx.length eX0)) (fun _ hk => ⟨hk.1.1.1, ⟨hk.1.2, ⟨hk.1.1.2.1, ⟨hk.1.1.2.2.1, ⟨hk.1.1.2.2.2.1, ⟨hk.1.1.2.2.2.2.1, hk.1.1.2.2.2.2.2⟩⟩⟩⟩⟩⟩)⟩, ⟨by (with_reducible repeat (first | apply Kd.V_alloc | apply Kd.V_drewN | apply Kd.V_drew)); exact Kd.V_mono (Kd.V_far (p := ⟨lF, 0, none⟩) (Kd.V_mono dO.out (fun k_ hk => (⟨hk, hk.1.2.2.2.2.2⟩ : _ ∧ k_ ≠ lF))) (fun _ hk => hk.2) (.slice eXz dZx.length eX0)) (fun _ hk => ⟨hk.1.1.1, ⟨hk.1.2, ⟨hk.1.1.2.1, ⟨hk.1.1.2.2.1, ⟨hk.1.1.2.2.2.1, ⟨hk.1.1.2.2.2.2.1, hk.1.1.2.2.2.2.2⟩⟩⟩⟩⟩⟩)⟩, ⟨by (with_reducible repeat (first | apply Kd.N_alloc | apply Kd.N_drewN | apply Kd.N_drew)); exact Kd.N_mono (Kd.N_far (p := ⟨lF, 0, none⟩) (Kd.N_mono fCp.out (fun k_ hk => (⟨hk, hk.2.2.2.2.2⟩ : _ ∧ k_ ≠ lF))) (fun _ hk => hk.2) (.slice eXz dZx.length eX0)) (fun _ hk => ⟨hk.1.1, ⟨hk.1.2.1, ⟨hk.1.2.2.1, ⟨hk.1.2.2.2.1, ⟨hk.1.2.2.2.2.1, hk.1.2.2.2.2.2⟩⟩⟩⟩⟩)⟩, xk kI, xk kQ, xk lU, xk lI, ⟨by (with_reducible repeat (first | refine bN ?_ _ | refine bD ?_ | refine bA ?_ _)); refine blk_put (cs := #[u873000]) ?_ 0 _ rfl; (with_reducible repeat (first | refine bN ?_ _ | refine bD ?_ | refine bA ?_ _)); exact lM.out⟩, xb HB⟩

end Go.Proofs.Ytnmkmamobhkcbaa.P
