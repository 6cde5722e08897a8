/- What the Go functions of this seat compute, and that they do: printed by a program over the kit's print. -/
import Derived.Test.YtgmpnghgmcgghaaP0
import Derived.Test.YtgmpnghgmcgghaaP1
import Derived.Test.YtgmpnghgmcgghaaP3
import Derived.Test.YtgmpnghgmcgghaaP4
import Derived.Test.YtgmpnghgmcgghaaP5
import Derived.Test.YtgmpnghgmcgghaaP7
import Derived.Test.YtgmpnghgmcgghaaP11
namespace Go.Proofs.Ytgmpnghgmcgghaa.P
open Go.RowKit Go.Proofs.YtgmpnghgmcgghaaW.PrintWords Go.Proofs.YtgmpnghgmcgghaaW.PrintLast Go.Proofs.YtgmpnghgmcgghaaW.PrintMore
attribute [local go_sem] max2_int min2_int max_two min_two max_three min_three max_four min_four   -- for this text's walks alone
set_option linter.unusedVariables false
set_option linter.unusedSimpArgs false

attribute [local go_sem high] eqA26
/-! ### changeforgelaw3_DeltachainPackMatchesSpec: function 7 -/
mutual
def changeforgelaw3_DeltachainPackMatchesSpec.j0 : Nat → List (List Int) → Int → List (S45) → Int → Int → Int → Int → Option (Bool)
  | 0, _, _, _, _, _, _, _ => none
  | k + 1, x0, x1, x5, x357000, x357001, x358000, x358001 => changeforgelaw3_DeltachainPackMatchesSpec.l0 k x0 x1 x5 0 x357000 x357001 x358000 x358001
def changeforgelaw3_DeltachainPackMatchesSpec.l0 : Nat → List (List Int) → Int → List (S45) → Int → Int → Int → Int → Int → Option (Bool)
  | 0, _, _, _, _, _, _, _, _ => none
  | k + 1, x0, x1, x5, x8, x357000, x357001, x358000, x358001 => if x8 < (x0.length : Int) then (changeforgelaw3_DeltachainPackMatchesSpec.j2 k x0 x1 x5 x8 (x358000 == 0) x357000 x357001 x358000 x358001) else (changeforgelaw3_DeltachainPackMatchesSpec.j2 k x0 x1 x5 x8 false x357000 x357001 x358000 x358001)
def changeforgelaw3_DeltachainPackMatchesSpec.j2 : Nat → List (List Int) → Int → List (S45) → Int → Bool → Int → Int → Int → Int → Option (Bool)
  | 0, _, _, _, _, _, _, _, _, _ => none
  | k + 1, x0, x1, x5, x8, x35, x357000, x357001, x358000, x358001 => if x35 = true then (if 0 ≤ x8 then (if x8 < (x0.length : Int) then (if ((rd_L1 x0 x8).length : Int) > 1000 then ((changeforgeref3_Fault.f 10 x8).bind fun bt364 => (changeforgelaw3_DeltachainPackMatchesSpec.l0 k x0 x1 x5 (wrap64 (x8 + 1)) x357000 x357001 bt364.1 bt364.2)) else (changeforgelaw3_DeltachainPackMatchesSpec.l0 k x0 x1 x5 (wrap64 (x8 + 1)) x357000 x357001 x358000 x358001)) else (none)) else (none)) else (if x358000 = 0 then (if x357000 = 0 then (changeforgelaw3_DeltachainPackMatchesSpec.j3 k x0 x1 x5 ((x5.length : Int) != (x0.length : Int))) else (changeforgelaw3_DeltachainPackMatchesSpec.j3 k x0 x1 x5 true)) else (if (x357000 == x358000 && (x357001 == x358001)) = true then (some ((x5.length : Int) == 0)) else (some false)))
def changeforgelaw3_DeltachainPackMatchesSpec.j3 : Nat → List (List Int) → Int → List (S45) → Bool → Option (Bool)
  | 0, _, _, _, _ => none
  | k + 1, x0, x1, x5, x66 => if x66 = true then (some false) else (changeforgelaw3_DeltachainPackMatchesSpec.l1 k x0 x1 x5 0)
def changeforgelaw3_DeltachainPackMatchesSpec.l1 : Nat → List (List Int) → Int → List (S45) → Int → Option (Bool)
  | 0, _, _, _, _ => none
  | k + 1, x0, x1, x5, x9 => if x9 < (x5.length : Int) then (if (wrap64 (x1 + 1)) = 0 then (none) else (if (Int.tmod x9 (wrap64 (x1 + 1))) = 0 then (if 0 ≤ x9 then (if ((rd_T45 x5 x9).f0) = (-1) then (if x9 < (x0.length : Int) then (if (strOfNums ((rd_T45 x5 x9).f1)).toList = (strOfNums (rd_L1 x0 x9)).toList then (if (((rd_T45 x5 x9).f2).length : Int) > 0 then (some false) else (changeforgelaw3_DeltachainPackMatchesSpec.l1 k x0 x1 x5 (wrap64 (x9 + 1)))) else (some false)) else (none)) else (some false)) else (none)) else (if 0 ≤ x9 then (if ((rd_T45 x5 x9).f0) = (wrap64 (x9 - 1)) then (if (((rd_T45 x5 x9).f1).length : Int) > 0 then (some false) else (if 0 ≤ (wrap64 (x9 - 1)) then (if (wrap64 (x9 - 1)) < (x0.length : Int) then (if x9 < (x0.length : Int) then ((changeforgeref3_EncodeDelta.f k (rd_L1 x0 (wrap64 (x9 - 1))) (rd_L1 x0 x9)).bind fun t375 => ((changeforgeref3_Deltas.f k ((rd_T45 x5 x9).f2) t375).bind fun t378 => (if t378 = true then (changeforgelaw3_DeltachainPackMatchesSpec.l1 k x0 x1 x5 (wrap64 (x9 + 1))) else (some false)))) else (none)) else (none)) else (none))) else (some false)) else (none)))) else (some true)
end
def changeforgelaw3_DeltachainPackMatchesSpec.f (k : Nat) (l0 : List (List Int)) (a1 : Int) : Option (Bool) := (changeforgelaw3_deltachainExample.f k).bind fun t350 => (if t350 = true then ((deltachain_Pack.f k l0 a1).bind fun bt351 => (if (l0.length : Int) > 20 then ((changeforgeref3_Fault.f 2 (-1)).bind fun bt358 => (changeforgelaw3_DeltachainPackMatchesSpec.j0 k l0 a1 bt351.1 bt351.2.1 bt351.2.2 bt358.1 bt358.2)) else ((changeforgeref3_In.f a1 0 20).bind fun t360 => (if t360 = true then (changeforgelaw3_DeltachainPackMatchesSpec.j0 k l0 a1 bt351.1 bt351.2.1 bt351.2.2 0 0) else ((changeforgeref3_Fault.f 3 (-1)).bind fun bt361 => (changeforgelaw3_DeltachainPackMatchesSpec.j0 k l0 a1 bt351.1 bt351.2.1 bt351.2.2 bt361.1 bt361.2)))))) else (some false))
theorem changeforgelaw3_DeltachainPackMatchesSpec.mono_l : ∀ k, (∀ y0 y1 y2 y3 y4 y5 y6, LeO (changeforgelaw3_DeltachainPackMatchesSpec.j0 k y0 y1 y2 y3 y4 y5 y6) (changeforgelaw3_DeltachainPackMatchesSpec.j0 (k + 1) y0 y1 y2 y3 y4 y5 y6)) ∧ (∀ y0 y1 y2 y3 y4 y5 y6 y7, LeO (changeforgelaw3_DeltachainPackMatchesSpec.l0 k y0 y1 y2 y3 y4 y5 y6 y7) (changeforgelaw3_DeltachainPackMatchesSpec.l0 (k + 1) y0 y1 y2 y3 y4 y5 y6 y7)) ∧ (∀ y0 y1 y2 y3 y4 y5 y6 y7 y8, LeO (changeforgelaw3_DeltachainPackMatchesSpec.j2 k y0 y1 y2 y3 y4 y5 y6 y7 y8) (changeforgelaw3_DeltachainPackMatchesSpec.j2 (k + 1) y0 y1 y2 y3 y4 y5 y6 y7 y8)) ∧ (∀ y0 y1 y2 y3, LeO (changeforgelaw3_DeltachainPackMatchesSpec.j3 k y0 y1 y2 y3) (changeforgelaw3_DeltachainPackMatchesSpec.j3 (k + 1) y0 y1 y2 y3)) ∧ (∀ y0 y1 y2 y3, LeO (changeforgelaw3_DeltachainPackMatchesSpec.l1 k y0 y1 y2 y3) (changeforgelaw3_DeltachainPackMatchesSpec.l1 (k + 1) y0 y1 y2 y3))
  | 0 => ⟨fun _ _ _ _ _ _ _ r h => by simp [changeforgelaw3_DeltachainPackMatchesSpec.j0] at h, fun _ _ _ _ _ _ _ _ r h => by simp [changeforgelaw3_DeltachainPackMatchesSpec.l0] at h, fun _ _ _ _ _ _ _ _ _ r h => by simp [changeforgelaw3_DeltachainPackMatchesSpec.j2] at h, fun _ _ _ _ r h => by simp [changeforgelaw3_DeltachainPackMatchesSpec.j3] at h, fun _ _ _ _ r h => by simp [changeforgelaw3_DeltachainPackMatchesSpec.l1] at h⟩
  | k + 1 => by
    obtain ⟨ih0, ih1, ih2, ih3, ih4⟩ := changeforgelaw3_DeltachainPackMatchesSpec.mono_l k
    refine ⟨?_, ?_, ?_, ?_, ?_⟩
    · intro y0 y1 y2 y3 y4 y5 y6
      unfold changeforgelaw3_DeltachainPackMatchesSpec.j0
      repeat' first
      | (with_reducible exact ih0 _ _ _ _ _ _ _)
      | (with_reducible exact ih1 _ _ _ _ _ _ _ _)
      | (with_reducible exact ih2 _ _ _ _ _ _ _ _ _)
      | (with_reducible exact ih3 _ _ _ _)
      | (with_reducible exact ih4 _ _ _ _)
      | (with_reducible exact changeforgelaw3_deltachainExample.mono _)
      | (with_reducible exact changeforgeref3_Deltas.mono _ _ _)
      | (with_reducible exact changeforgeref3_EncodeDelta.mono _ _ _)
      | (with_reducible exact deltachain_Pack.mono _ _ _)
      | (with_reducible exact LeO.refl _)
      | (with_reducible exact LeO.none _)
      | (with_reducible refine LeO.ite ?_ ?_)
      | (with_reducible refine LeO.bind ?_ (fun _ => ?_))
      | exact ih0 _ _ _ _ _ _ _
      | exact ih1 _ _ _ _ _ _ _ _
      | exact ih2 _ _ _ _ _ _ _ _ _
      | exact ih3 _ _ _ _
      | exact ih4 _ _ _ _
      | exact changeforgelaw3_deltachainExample.mono _
      | exact changeforgeref3_Deltas.mono _ _ _
      | exact changeforgeref3_EncodeDelta.mono _ _ _
      | exact deltachain_Pack.mono _ _ _
      | exact LeO.none _
      | refine LeO.ite ?_ ?_
      | refine LeO.bind ?_ (fun _ => ?_)
    · intro y0 y1 y2 y3 y4 y5 y6 y7
      unfold changeforgelaw3_DeltachainPackMatchesSpec.l0
      repeat' first
      | (with_reducible exact ih0 _ _ _ _ _ _ _)
      | (with_reducible exact ih1 _ _ _ _ _ _ _ _)
      | (with_reducible exact ih2 _ _ _ _ _ _ _ _ _)
      | (with_reducible exact ih3 _ _ _ _)
      | (with_reducible exact ih4 _ _ _ _)
      | (with_reducible exact changeforgelaw3_deltachainExample.mono _)
      | (with_reducible exact changeforgeref3_Deltas.mono _ _ _)
      | (with_reducible exact changeforgeref3_EncodeDelta.mono _ _ _)
      | (with_reducible exact deltachain_Pack.mono _ _ _)
      | (with_reducible exact LeO.refl _)
      | (with_reducible exact LeO.none _)
      | (with_reducible refine LeO.ite ?_ ?_)
      | (with_reducible refine LeO.bind ?_ (fun _ => ?_))
      | exact ih0 _ _ _ _ _ _ _
      | exact ih1 _ _ _ _ _ _ _ _
      | exact ih2 _ _ _ _ _ _ _ _ _
      | exact ih3 _ _ _ _
      | exact ih4 _ _ _ _
      | exact changeforgelaw3_deltachainExample.mono _
      | exact changeforgeref3_Deltas.mono _ _ _
      | exact changeforgeref3_EncodeDelta.mono _ _ _
      | exact deltachain_Pack.mono _ _ _
      | exact LeO.none _
      | refine LeO.ite ?_ ?_
      | refine LeO.bind ?_ (fun _ => ?_)
    · intro y0 y1 y2 y3 y4 y5 y6 y7 y8
      unfold changeforgelaw3_DeltachainPackMatchesSpec.j2
      repeat' first
      | (with_reducible exact ih0 _ _ _ _ _ _ _)
      | (with_reducible exact ih1 _ _ _ _ _ _ _ _)
      | (with_reducible exact ih2 _ _ _ _ _ _ _ _ _)
      | (with_reducible exact ih3 _ _ _ _)
      | (with_reducible exact ih4 _ _ _ _)
      | (with_reducible exact changeforgelaw3_deltachainExample.mono _)
      | (with_reducible exact changeforgeref3_Deltas.mono _ _ _)
      | (with_reducible exact changeforgeref3_EncodeDelta.mono _ _ _)
      | (with_reducible exact deltachain_Pack.mono _ _ _)
      | (with_reducible exact LeO.refl _)
      | (with_reducible exact LeO.none _)
      | (with_reducible refine LeO.ite ?_ ?_)
      | (with_reducible refine LeO.bind ?_ (fun _ => ?_))
      | exact ih0 _ _ _ _ _ _ _
      | exact ih1 _ _ _ _ _ _ _ _
      | exact ih2 _ _ _ _ _ _ _ _ _
      | exact ih3 _ _ _ _
      | exact ih4 _ _ _ _
      | exact changeforgelaw3_deltachainExample.mono _
      | exact changeforgeref3_Deltas.mono _ _ _
      | exact changeforgeref3_EncodeDelta.mono _ _ _
      | exact deltachain_Pack.mono _ _ _
      | exact LeO.none _
      | refine LeO.ite ?_ ?_
      | refine LeO.bind ?_ (fun _ => ?_)
    · intro y0 y1 y2 y3
      unfold changeforgelaw3_DeltachainPackMatchesSpec.j3
      repeat' first
      | (with_reducible exact ih0 _ _ _ _ _ _ _)
      | (with_reducible exact ih1 _ _ _ _ _ _ _ _)
      | (with_reducible exact ih2 _ _ _ _ _ _ _ _ _)
      | (with_reducible exact ih3 _ _ _ _)
      | (with_reducible exact ih4 _ _ _ _)
      | (with_reducible exact changeforgelaw3_deltachainExample.mono _)
      | (with_reducible exact changeforgeref3_Deltas.mono _ _ _)
      | (with_reducible exact changeforgeref3_EncodeDelta.mono _ _ _)
      | (with_reducible exact deltachain_Pack.mono _ _ _)
      | (with_reducible exact LeO.refl _)
      | (with_reducible exact LeO.none _)
      | (with_reducible refine LeO.ite ?_ ?_)
      | (with_reducible refine LeO.bind ?_ (fun _ => ?_))
      | exact ih0 _ _ _ _ _ _ _
      | exact ih1 _ _ _ _ _ _ _ _
      | exact ih2 _ _ _ _ _ _ _ _ _
      | exact ih3 _ _ _ _
      | exact ih4 _ _ _ _
      | exact changeforgelaw3_deltachainExample.mono _
      | exact changeforgeref3_Deltas.mono _ _ _
      | exact changeforgeref3_EncodeDelta.mono _ _ _
      | exact deltachain_Pack.mono _ _ _
      | exact LeO.none _
      | refine LeO.ite ?_ ?_
      | refine LeO.bind ?_ (fun _ => ?_)
    · intro y0 y1 y2 y3
      unfold changeforgelaw3_DeltachainPackMatchesSpec.l1
      repeat' first
      | (with_reducible exact ih0 _ _ _ _ _ _ _)
      | (with_reducible exact ih1 _ _ _ _ _ _ _ _)
      | (with_reducible exact ih2 _ _ _ _ _ _ _ _ _)
      | (with_reducible exact ih3 _ _ _ _)
      | (with_reducible exact ih4 _ _ _ _)
      | (with_reducible exact changeforgelaw3_deltachainExample.mono _)
      | (with_reducible exact changeforgeref3_Deltas.mono _ _ _)
      | (with_reducible exact changeforgeref3_EncodeDelta.mono _ _ _)
      | (with_reducible exact deltachain_Pack.mono _ _ _)
      | (with_reducible exact LeO.refl _)
      | (with_reducible exact LeO.none _)
      | (with_reducible refine LeO.ite ?_ ?_)
      | (with_reducible refine LeO.bind ?_ (fun _ => ?_))
      | exact ih0 _ _ _ _ _ _ _
      | exact ih1 _ _ _ _ _ _ _ _
      | exact ih2 _ _ _ _ _ _ _ _ _
      | exact ih3 _ _ _ _
      | exact ih4 _ _ _ _
      | exact changeforgelaw3_deltachainExample.mono _
      | exact changeforgeref3_Deltas.mono _ _ _
      | exact changeforgeref3_EncodeDelta.mono _ _ _
      | exact deltachain_Pack.mono _ _ _
      | exact LeO.none _
      | refine LeO.ite ?_ ?_
      | refine LeO.bind ?_ (fun _ => ?_)
theorem changeforgelaw3_DeltachainPackMatchesSpec.mono : ∀ a0 a1 k, LeO (changeforgelaw3_DeltachainPackMatchesSpec.f k a0 a1) (changeforgelaw3_DeltachainPackMatchesSpec.f (k + 1) a0 a1) := by
  intro a0 a1 k
  obtain ⟨ih0, ih1, ih2, ih3, ih4⟩ := changeforgelaw3_DeltachainPackMatchesSpec.mono_l k
  unfold changeforgelaw3_DeltachainPackMatchesSpec.f
  repeat' first
      | (with_reducible exact ih0 _ _ _ _ _ _ _)
      | (with_reducible exact ih1 _ _ _ _ _ _ _ _)
      | (with_reducible exact ih2 _ _ _ _ _ _ _ _ _)
      | (with_reducible exact ih3 _ _ _ _)
      | (with_reducible exact ih4 _ _ _ _)
      | (with_reducible exact changeforgelaw3_deltachainExample.mono _)
      | (with_reducible exact changeforgeref3_Deltas.mono _ _ _)
      | (with_reducible exact changeforgeref3_EncodeDelta.mono _ _ _)
      | (with_reducible exact deltachain_Pack.mono _ _ _)
      | (with_reducible exact LeO.refl _)
      | (with_reducible exact LeO.none _)
      | (with_reducible refine LeO.ite ?_ ?_)
      | (with_reducible refine LeO.bind ?_ (fun _ => ?_))
      | exact ih0 _ _ _ _ _ _ _
      | exact ih1 _ _ _ _ _ _ _ _
      | exact ih2 _ _ _ _ _ _ _ _ _
      | exact ih3 _ _ _ _
      | exact ih4 _ _ _ _
      | exact changeforgelaw3_deltachainExample.mono _
      | exact changeforgeref3_Deltas.mono _ _ _
      | exact changeforgeref3_EncodeDelta.mono _ _ _
      | exact deltachain_Pack.mono _ _ _
      | exact LeO.none _
      | refine LeO.ite ?_ ?_
      | refine LeO.bind ?_ (fun _ => ?_)
def changeforgelaw3_DeltachainPackMatchesSpec.T22 : Bool × List (List Nat × List Nat) := (true, [([], []), ([], []), ([0, 1], [0, 1]), ([2], [2]), ([3], [3]), ([4], [4]), ([5], [5]), ([6], [6]), ([6], [6]), ([7, 8, 6], [6, 7, 8]), ([9, 6], [6, 9]), ([10, 6], [6, 10]), ([11, 6], [6, 11]), ([6], [6]), ([6], [6]), ([13, 14, 6], [6, 13, 14]), ([15, 6], [6, 15]), ([16, 6], [6, 16]), ([12, 17, 6], [6, 12, 17]), ([6, 18], [6, 18]), ([19, 6], [19]), ([20], [20]), ([20], [20]), ([21, 22, 20], [20, 21, 22]), ([23, 20], [20, 23]), ([24, 20], [20, 24]), ([25, 20], [20, 25]), ([26, 20], [20, 26]), ([20, 27], [20, 27])])
def changeforgelaw3_DeltachainPackMatchesSpec.B22 : List Nat := [0, 0, 3, 7, 15, 31, 63, 127, 127, 511, 1023, 2047, 4095, 127, 127, 24703, 57471, 123007, 262143, 524287, 1048575, 2097151, 2097151, 8388607, 16777215, 33554431, 67108863, 134217727, 268435455]
theorem changeforgelaw3_DeltachainPackMatchesSpec.tab22 : rtab .any (opsOf Try.f7 22) = changeforgelaw3_DeltachainPackMatchesSpec.T22 := by kernel_rfl
theorem changeforgelaw3_DeltachainPackMatchesSpec.bits22 : waitsOk changeforgelaw3_DeltachainPackMatchesSpec.T22.2 changeforgelaw3_DeltachainPackMatchesSpec.B22 = true := by kernel_rfl
def changeforgelaw3_DeltachainPackMatchesSpec.T24 : Bool × List (List Nat × List Nat) := (true, [([], []), ([], []), ([0, 1], [0, 1]), ([2], [2]), ([3], [3]), ([], []), ([5], [5]), ([4, 6], [4, 6]), ([7], [7]), ([8], [8]), ([8], [8]), ([9, 10, 8], [8, 9, 10]), ([11, 8], [8, 11]), ([12, 8], [8, 12]), ([13, 8], [8, 13]), ([14, 8], [8, 14]), ([8, 15], [8, 15]), ([16, 8], [16]), ([17], [17]), ([17], [17]), ([18, 19, 17], [17, 18, 19]), ([20, 17], [17, 20]), ([21, 17], [17, 21]), ([17], [17]), ([17], [17]), ([24, 17], [17, 24]), ([23, 25, 17], [17, 23, 25]), ([26, 17], [17, 26]), ([17], [17]), ([17], [17]), ([28, 29, 17], [17, 28, 29]), ([30, 17], [17, 30]), ([27, 31, 17, 17], [17, 27, 31]), ([22, 32, 32, 17], [17, 22, 32]), ([33, 17], [17, 33]), ([17, 34], [17, 34])])
def changeforgelaw3_DeltachainPackMatchesSpec.B24 : List Nat := [0, 0, 3, 7, 15, 0, 32, 127, 255, 511, 511, 2047, 4095, 8191, 16383, 32767, 65535, 131071, 262143, 262143, 1048575, 2097151, 4194303, 262143, 262143, 17039359, 58982399, 126091263, 262143, 262143, 805568511, 1879310335, 4286840831, 8589934591, 17179869183, 34359738367]
theorem changeforgelaw3_DeltachainPackMatchesSpec.tab24 : rtab .any (opsOf Try.f7 24) = changeforgelaw3_DeltachainPackMatchesSpec.T24 := by kernel_rfl
theorem changeforgelaw3_DeltachainPackMatchesSpec.bits24 : waitsOk changeforgelaw3_DeltachainPackMatchesSpec.T24.2 changeforgelaw3_DeltachainPackMatchesSpec.B24 = true := by kernel_rfl
abbrev changeforgelaw3_DeltachainPackMatchesSpec.Z1 : Array Bool := #[false, false, false, false, false, false, false, false, false, false, false, false, false, false, false, false, false, false, false, false, false, false, false, false, false, false, false, false, false]
abbrev changeforgelaw3_DeltachainPackMatchesSpec.Z2 : Array Bool := #[true, false, false, false, false, false, false, false, false, false, false, false, false, false, false, false, false, false, false, false, false, false, false, false, false, false, false, false, false]
abbrev changeforgelaw3_DeltachainPackMatchesSpec.Z3 : Array Bool := #[true, true, false, false, false, false, false, false, false, false, false, false, false, false, false, false, false, false, false, false, false, false, false, false, false, false, false, false, false]
abbrev changeforgelaw3_DeltachainPackMatchesSpec.Z4 : Array Bool := #[true, true, true, false, false, false, false, false, false, false, false, false, false, false, false, false, false, false, false, false, false, false, false, false, false, false, false, false, false]
abbrev changeforgelaw3_DeltachainPackMatchesSpec.Z5 : Array Bool := #[true, true, true, true, false, false, false, false, false, false, false, false, false, false, false, false, false, false, false, false, false, false, false, false, false, false, false, false, false]
abbrev changeforgelaw3_DeltachainPackMatchesSpec.Z6 : Array Bool := #[true, true, true, true, true, false, false, false, false, false, false, false, false, false, false, false, false, false, false, false, false, false, false, false, false, false, false, false, false]
abbrev changeforgelaw3_DeltachainPackMatchesSpec.Z7 : Array Bool := #[true, true, true, true, true, true, false, false, false, false, false, false, false, false, false, false, false, false, false, false, false, false, false, false, false, false, false, false, false]
abbrev changeforgelaw3_DeltachainPackMatchesSpec.Z8 : Array Bool := #[true, true, true, true, true, true, true, false, false, false, false, false, false, false, false, false, false, false, false, false, false, false, false, false, false, false, false, false, false]
abbrev changeforgelaw3_DeltachainPackMatchesSpec.Z9 : Array Bool := #[true, true, true, true, true, true, true, true, false, false, false, false, false, false, false, false, false, false, false, false, false, false, false, false, false, false, false, false, false]
abbrev changeforgelaw3_DeltachainPackMatchesSpec.Z10 : Array Bool := #[true, true, true, true, true, true, true, true, true, false, false, false, false, false, false, false, false, false, false, false, false, false, false, false, false, false, false, false, false]
abbrev changeforgelaw3_DeltachainPackMatchesSpec.Z11 : Array Bool := #[true, true, true, true, true, true, true, true, true, true, false, false, false, false, false, false, false, false, false, false, false, false, false, false, false, false, false, false, false]
abbrev changeforgelaw3_DeltachainPackMatchesSpec.Z12 : Array Bool := #[true, true, true, true, true, true, true, true, true, true, true, false, false, false, false, false, false, false, false, false, false, false, false, false, false, false, false, false, false]
abbrev changeforgelaw3_DeltachainPackMatchesSpec.Z13 : Array Bool := #[true, true, true, true, true, true, true, true, true, true, true, false, false, true, false, false, false, false, false, false, false, false, false, false, false, false, false, false, false]
abbrev changeforgelaw3_DeltachainPackMatchesSpec.Z14 : Array Bool := #[true, true, true, true, true, true, true, true, true, true, true, false, false, true, true, false, false, false, false, false, false, false, false, false, false, false, false, false, false]
abbrev changeforgelaw3_DeltachainPackMatchesSpec.Z15 : Array Bool := #[true, true, true, true, true, true, true, true, true, true, true, false, false, true, true, true, false, false, false, false, false, false, false, false, false, false, false, false, false]
abbrev changeforgelaw3_DeltachainPackMatchesSpec.Z16 : Array Bool := #[true, true, true, true, true, true, true, true, true, true, true, true, false, true, true, true, false, false, false, false, false, false, false, false, false, false, false, false, false]
abbrev changeforgelaw3_DeltachainPackMatchesSpec.Z17 : Array Bool := #[true, true, true, true, true, true, true, true, true, true, true, true, true, true, true, true, false, false, false, false, false, false, false, false, false, false, false, false, false]
abbrev changeforgelaw3_DeltachainPackMatchesSpec.Z18 : Array Bool := #[true, true, true, true, true, true, true, true, true, true, true, true, true, true, true, true, true, false, false, false, false, false, false, false, false, false, false, false, false]
abbrev changeforgelaw3_DeltachainPackMatchesSpec.Z19 : Array Bool := #[true, true, true, true, true, true, true, true, true, true, true, true, true, true, true, true, true, true, false, false, false, false, false, false, false, false, false, false, false]
abbrev changeforgelaw3_DeltachainPackMatchesSpec.Z20 : Array Bool := #[true, true, true, true, true, true, true, true, true, true, true, true, true, true, true, true, true, true, true, false, false, false, false, false, false, false, false, false, false]
abbrev changeforgelaw3_DeltachainPackMatchesSpec.Z21 : Array Bool := #[true, true, true, true, true, true, true, true, true, true, true, true, true, true, true, true, true, true, true, true, false, false, false, false, false, false, false, false, false]
abbrev changeforgelaw3_DeltachainPackMatchesSpec.Z22 : Array Bool := #[true, true, true, true, true, true, true, true, true, true, true, true, true, true, true, true, true, true, true, true, true, false, false, false, false, false, false, false, false]
abbrev changeforgelaw3_DeltachainPackMatchesSpec.Z23 : Array Bool := #[true, true, true, true, true, true, true, true, true, true, true, true, true, true, true, true, true, true, true, true, true, true, false, false, false, false, false, false, false]
abbrev changeforgelaw3_DeltachainPackMatchesSpec.Z24 : Array Bool := #[true, true, true, true, true, true, true, true, true, true, true, true, true, true, true, true, true, true, true, true, true, true, true, false, false, false, false, false, false]
abbrev changeforgelaw3_DeltachainPackMatchesSpec.Z25 : Array Bool := #[true, true, true, true, true, true, true, true, true, true, true, true, true, true, true, true, true, true, true, true, true, true, true, true, false, false, false, false, false]
abbrev changeforgelaw3_DeltachainPackMatchesSpec.Z26 : Array Bool := #[true, true, true, true, true, true, true, true, true, true, true, true, true, true, true, true, true, true, true, true, true, true, true, true, true, false, false, false, false]
abbrev changeforgelaw3_DeltachainPackMatchesSpec.Z27 : Array Bool := #[true, true, true, true, true, true, true, true, true, true, true, true, true, true, true, true, true, true, true, true, true, true, true, true, true, true, false, false, false]
abbrev changeforgelaw3_DeltachainPackMatchesSpec.Z28 : Array Bool := #[true, true, true, true, true, true, true, true, true, true, true, true, true, true, true, true, true, true, true, true, true, true, true, true, true, true, true, false, false]
abbrev changeforgelaw3_DeltachainPackMatchesSpec.Z29 : Array Bool := #[true, true, true, true, true, true, true, true, true, true, true, true, true, true, true, true, true, true, true, true, true, true, true, true, true, true, true, true, false]
abbrev changeforgelaw3_DeltachainPackMatchesSpec.Z30 : Array Bool := #[true, true, true, true, true, true, true, true, true, true, true, true, true, true, true, true, true, true, true, true, true, true, true, true, true, true, true, true, true]
abbrev changeforgelaw3_DeltachainPackMatchesSpec.Z31 : Array Bool := #[true, true, true, true, true, true, true, true, true, true, true, true, false, false, false, false, false, false, false, false, false, false, false, false, false, false, false, false, false]
abbrev changeforgelaw3_DeltachainPackMatchesSpec.Z32 : Array Bool := #[true, true, true, true, true, true, true, true, true, true, true, true, true, false, false, false, false, false, false, false, false, false, false, false, false, false, false, false, false]
abbrev changeforgelaw3_DeltachainPackMatchesSpec.Z33 : Array Bool := #[true, true, true, true, true, true, true, true, true, true, true, true, true, true, false, false, false, false, false, false, false, false, false, false, false, false, false, false, false]
abbrev changeforgelaw3_DeltachainPackMatchesSpec.Z34 : Array Bool := #[true, true, true, true, true, true, true, true, true, true, true, true, true, true, true, false, false, false, false, false, false, false, false, false, false, false, false, false, false]
abbrev changeforgelaw3_DeltachainPackMatchesSpec.Z35 : Array Bool := #[false, false, false, false, false, false, false, false, false, false, false, false, false, false, false, false, false, false, false, false, false, false, false, false, false, false, false, false, false, false, false, false, false, false, false, false]
abbrev changeforgelaw3_DeltachainPackMatchesSpec.Z36 : Array Bool := #[true, false, false, false, false, false, false, false, false, false, false, false, false, false, false, false, false, false, false, false, false, false, false, false, false, false, false, false, false, false, false, false, false, false, false, false]
abbrev changeforgelaw3_DeltachainPackMatchesSpec.Z37 : Array Bool := #[true, true, false, false, false, false, false, false, false, false, false, false, false, false, false, false, false, false, false, false, false, false, false, false, false, false, false, false, false, false, false, false, false, false, false, false]
abbrev changeforgelaw3_DeltachainPackMatchesSpec.Z38 : Array Bool := #[true, true, true, false, false, false, false, false, false, false, false, false, false, false, false, false, false, false, false, false, false, false, false, false, false, false, false, false, false, false, false, false, false, false, false, false]
abbrev changeforgelaw3_DeltachainPackMatchesSpec.Z39 : Array Bool := #[true, true, true, true, false, false, false, false, false, false, false, false, false, false, false, false, false, false, false, false, false, false, false, false, false, false, false, false, false, false, false, false, false, false, false, false]
abbrev changeforgelaw3_DeltachainPackMatchesSpec.Z40 : Array Bool := #[true, true, true, true, false, true, false, false, false, false, false, false, false, false, false, false, false, false, false, false, false, false, false, false, false, false, false, false, false, false, false, false, false, false, false, false]
abbrev changeforgelaw3_DeltachainPackMatchesSpec.Z41 : Array Bool := #[true, true, true, true, false, true, true, false, false, false, false, false, false, false, false, false, false, false, false, false, false, false, false, false, false, false, false, false, false, false, false, false, false, false, false, false]
abbrev changeforgelaw3_DeltachainPackMatchesSpec.Z42 : Array Bool := #[true, true, true, true, true, true, true, false, false, false, false, false, false, false, false, false, false, false, false, false, false, false, false, false, false, false, false, false, false, false, false, false, false, false, false, false]
abbrev changeforgelaw3_DeltachainPackMatchesSpec.Z43 : Array Bool := #[true, true, true, true, true, true, true, true, false, false, false, false, false, false, false, false, false, false, false, false, false, false, false, false, false, false, false, false, false, false, false, false, false, false, false, false]
abbrev changeforgelaw3_DeltachainPackMatchesSpec.Z44 : Array Bool := #[true, true, true, true, true, true, true, true, true, false, false, false, false, false, false, false, false, false, false, false, false, false, false, false, false, false, false, false, false, false, false, false, false, false, false, false]
abbrev changeforgelaw3_DeltachainPackMatchesSpec.Z45 : Array Bool := #[true, true, true, true, true, true, true, true, true, true, false, false, false, false, false, false, false, false, false, false, false, false, false, false, false, false, false, false, false, false, false, false, false, false, false, false]
abbrev changeforgelaw3_DeltachainPackMatchesSpec.Z46 : Array Bool := #[true, true, true, true, true, true, true, true, true, true, true, false, false, false, false, false, false, false, false, false, false, false, false, false, false, false, false, false, false, false, false, false, false, false, false, false]
abbrev changeforgelaw3_DeltachainPackMatchesSpec.Z47 : Array Bool := #[true, true, true, true, true, true, true, true, true, true, true, true, false, false, false, false, false, false, false, false, false, false, false, false, false, false, false, false, false, false, false, false, false, false, false, false]
abbrev changeforgelaw3_DeltachainPackMatchesSpec.Z48 : Array Bool := #[true, true, true, true, true, true, true, true, true, true, true, true, true, false, false, false, false, false, false, false, false, false, false, false, false, false, false, false, false, false, false, false, false, false, false, false]
abbrev changeforgelaw3_DeltachainPackMatchesSpec.Z49 : Array Bool := #[true, true, true, true, true, true, true, true, true, true, true, true, true, true, false, false, false, false, false, false, false, false, false, false, false, false, false, false, false, false, false, false, false, false, false, false]
abbrev changeforgelaw3_DeltachainPackMatchesSpec.Z50 : Array Bool := #[true, true, true, true, true, true, true, true, true, true, true, true, true, true, true, false, false, false, false, false, false, false, false, false, false, false, false, false, false, false, false, false, false, false, false, false]
abbrev changeforgelaw3_DeltachainPackMatchesSpec.Z51 : Array Bool := #[true, true, true, true, true, true, true, true, true, true, true, true, true, true, true, true, false, false, false, false, false, false, false, false, false, false, false, false, false, false, false, false, false, false, false, false]
abbrev changeforgelaw3_DeltachainPackMatchesSpec.Z52 : Array Bool := #[true, true, true, true, true, true, true, true, true, true, true, true, true, true, true, true, true, false, false, false, false, false, false, false, false, false, false, false, false, false, false, false, false, false, false, false]
abbrev changeforgelaw3_DeltachainPackMatchesSpec.Z53 : Array Bool := #[true, true, true, true, true, true, true, true, true, true, true, true, true, true, true, true, true, true, false, false, false, false, false, false, false, false, false, false, false, false, false, false, false, false, false, false]
abbrev changeforgelaw3_DeltachainPackMatchesSpec.Z54 : Array Bool := #[true, true, true, true, true, true, true, true, true, true, true, true, true, true, true, true, true, true, true, false, false, false, false, false, false, false, false, false, false, false, false, false, false, false, false, false]
abbrev changeforgelaw3_DeltachainPackMatchesSpec.Z55 : Array Bool := #[true, true, true, true, true, true, true, true, true, true, true, true, true, true, true, true, true, true, true, true, false, false, false, false, false, false, false, false, false, false, false, false, false, false, false, false]
abbrev changeforgelaw3_DeltachainPackMatchesSpec.Z56 : Array Bool := #[true, true, true, true, true, true, true, true, true, true, true, true, true, true, true, true, true, true, true, true, true, false, false, false, false, false, false, false, false, false, false, false, false, false, false, false]
abbrev changeforgelaw3_DeltachainPackMatchesSpec.Z57 : Array Bool := #[true, true, true, true, true, true, true, true, true, true, true, true, true, true, true, true, true, true, true, true, true, true, false, false, false, false, false, false, false, false, false, false, false, false, false, false]
abbrev changeforgelaw3_DeltachainPackMatchesSpec.Z58 : Array Bool := #[true, true, true, true, true, true, true, true, true, true, true, true, true, true, true, true, true, true, true, true, true, true, true, false, false, false, false, false, false, false, false, false, false, false, false, false]
abbrev changeforgelaw3_DeltachainPackMatchesSpec.Z59 : Array Bool := #[true, true, true, true, true, true, true, true, true, true, true, true, true, true, true, true, true, true, true, true, true, true, true, true, false, false, false, false, false, false, false, false, false, false, false, false]
abbrev changeforgelaw3_DeltachainPackMatchesSpec.Z60 : Array Bool := #[true, true, true, true, true, true, true, true, true, true, true, true, true, true, true, true, true, true, true, true, true, true, true, true, true, false, false, false, false, false, false, false, false, false, false, false]
abbrev changeforgelaw3_DeltachainPackMatchesSpec.Z61 : Array Bool := #[true, true, true, true, true, true, true, true, true, true, true, true, true, true, true, true, true, true, true, true, true, true, true, true, true, true, false, false, false, false, false, false, false, false, false, false]
abbrev changeforgelaw3_DeltachainPackMatchesSpec.Z62 : Array Bool := #[true, true, true, true, true, true, true, true, true, true, true, true, true, true, true, true, true, true, true, true, true, true, true, true, true, true, true, false, false, false, false, false, false, false, false, false]
abbrev changeforgelaw3_DeltachainPackMatchesSpec.Z63 : Array Bool := #[true, true, true, true, true, true, true, true, true, true, true, true, true, true, true, true, true, true, true, true, true, true, true, true, true, true, true, true, false, false, false, false, false, false, false, false]
abbrev changeforgelaw3_DeltachainPackMatchesSpec.Z64 : Array Bool := #[true, true, true, true, true, true, true, true, true, true, true, true, true, true, true, true, true, true, true, true, true, true, true, true, true, true, true, true, true, false, false, false, false, false, false, false]
abbrev changeforgelaw3_DeltachainPackMatchesSpec.Z65 : Array Bool := #[true, true, true, true, true, true, true, true, true, true, true, true, true, true, true, true, true, true, true, true, true, true, true, true, true, true, true, true, true, true, false, false, false, false, false, false]
abbrev changeforgelaw3_DeltachainPackMatchesSpec.Z66 : Array Bool := #[true, true, true, true, true, true, true, true, true, true, true, true, true, true, true, true, true, true, true, true, true, true, true, true, true, true, true, true, true, true, true, false, false, false, false, false]
abbrev changeforgelaw3_DeltachainPackMatchesSpec.Z67 : Array Bool := #[true, true, true, true, true, true, true, true, true, true, true, true, true, true, true, true, true, true, true, true, true, true, true, true, true, true, true, true, true, true, true, true, false, false, false, false]
abbrev changeforgelaw3_DeltachainPackMatchesSpec.Z68 : Array Bool := #[true, true, true, true, true, true, true, true, true, true, true, true, true, true, true, true, true, true, true, true, true, true, true, true, true, true, true, true, true, true, true, true, true, false, false, false]
abbrev changeforgelaw3_DeltachainPackMatchesSpec.Z69 : Array Bool := #[true, true, true, true, true, true, true, true, true, true, true, true, true, true, true, true, true, true, true, true, true, true, true, true, true, true, true, true, true, true, true, true, true, true, false, false]
abbrev changeforgelaw3_DeltachainPackMatchesSpec.Z70 : Array Bool := #[true, true, true, true, true, true, true, true, true, true, true, true, true, true, true, true, true, true, true, true, true, true, true, true, true, true, true, true, true, true, true, true, true, true, true, false]
abbrev changeforgelaw3_DeltachainPackMatchesSpec.Z71 : Array Bool := #[true, true, true, true, true, true, true, true, true, true, true, true, true, true, true, true, true, true, true, true, true, true, true, true, true, true, true, true, true, true, true, true, true, true, true, true]
abbrev changeforgelaw3_DeltachainPackMatchesSpec.Z72 : Array Bool := #[true, true, true, true, true, true, true, true, true, true, true, true, true, true, true, true, true, true, true, true, true, true, false, true, false, false, false, false, false, false, false, false, false, false, false, false]
abbrev changeforgelaw3_DeltachainPackMatchesSpec.Z73 : Array Bool := #[true, true, true, true, true, true, true, true, true, true, true, true, true, true, true, true, true, true, true, true, true, true, false, true, true, false, false, false, false, false, false, false, false, false, false, false]
abbrev changeforgelaw3_DeltachainPackMatchesSpec.Z74 : Array Bool := #[true, true, true, true, true, true, true, true, true, true, true, true, true, true, true, true, true, true, true, true, true, true, false, true, true, true, false, false, false, false, false, false, false, false, false, false]
abbrev changeforgelaw3_DeltachainPackMatchesSpec.Z75 : Array Bool := #[true, true, true, true, true, true, true, true, true, true, true, true, true, true, true, true, true, true, true, true, true, true, false, true, true, true, true, false, false, false, false, false, false, false, false, false]
abbrev changeforgelaw3_DeltachainPackMatchesSpec.Z76 : Array Bool := #[true, true, true, true, true, true, true, true, true, true, true, true, true, true, true, true, true, true, true, true, true, true, false, true, true, true, true, false, true, false, false, false, false, false, false, false]
abbrev changeforgelaw3_DeltachainPackMatchesSpec.Z77 : Array Bool := #[true, true, true, true, true, true, true, true, true, true, true, true, true, true, true, true, true, true, true, true, true, true, false, true, true, true, true, false, true, true, false, false, false, false, false, false]
abbrev changeforgelaw3_DeltachainPackMatchesSpec.Z78 : Array Bool := #[true, true, true, true, true, true, true, true, true, true, true, true, true, true, true, true, true, true, true, true, true, true, false, true, true, true, true, false, true, true, true, false, false, false, false, false]
abbrev changeforgelaw3_DeltachainPackMatchesSpec.Z79 : Array Bool := #[true, true, true, true, true, true, true, true, true, true, true, true, true, true, true, true, true, true, true, true, true, true, true, true, true, true, true, false, true, true, true, false, false, false, false, false]
set_option maxHeartbeats 8000000 in
set_option maxRecDepth 100000 in
theorem changeforgelaw3_DeltachainPackMatchesSpec.calls (k : Nat) (A0 : Option Addr) (c0 : Nat) (l0 : List (List Int)) (a1 : Int) (r : Bool) (w : World) (hr0 : Kd.C (Kd.slice 5 (Kd.int .u8)) w A0 l0.length l0) (hc0 : l0.length ≤ c0) (h : changeforgelaw3_DeltachainPackMatchesSpec.f k l0 a1 = some r) :
  Calls Try.prog 7 #[.slice A0 l0.length c0, .int .i64 a1] w fun e w' => e = .returned (.bool r) ∧ Below w.heap.size w w' := by
  have hu26 := Try.underlying26
  have HR0 := aZ hr0
  have HC0 := aZ hc0
  clear hr0 hc0
  have HB := aZ (Below.refl w.heap.size w)
  have H : ((changeforgelaw3_deltachainExample.f k).bind fun t350 => (if t350 = true then ((deltachain_Pack.f k l0 a1).bind fun bt351 => (if (l0.length : Int) > 20 then ((changeforgeref3_Fault.f 2 (-1)).bind fun bt358 => (changeforgelaw3_DeltachainPackMatchesSpec.j0 k l0 a1 bt351.1 bt351.2.1 bt351.2.2 bt358.1 bt358.2)) else ((changeforgeref3_In.f a1 0 20).bind fun t360 => (if t360 = true then (changeforgelaw3_DeltachainPackMatchesSpec.j0 k l0 a1 bt351.1 bt351.2.1 bt351.2.2 0 0) else ((changeforgeref3_Fault.f 3 (-1)).bind fun bt361 => (changeforgelaw3_DeltachainPackMatchesSpec.j0 k l0 a1 bt351.1 bt351.2.1 bt351.2.2 bt361.1 bt361.2)))))) else (some false))) = some r := h
  clear h
  replace H := Option.bind_eq_some_iff.mp H
  obtain ⟨t350, A30, H⟩ := H
  replace H : (if t350 = true then ((deltachain_Pack.f k l0 a1).bind fun bt351 => (if (l0.length : Int) > 20 then ((changeforgeref3_Fault.f 2 (-1)).bind fun bt358 => (changeforgelaw3_DeltachainPackMatchesSpec.j0 k l0 a1 bt351.1 bt351.2.1 bt351.2.2 bt358.1 bt358.2)) else ((changeforgeref3_In.f a1 0 20).bind fun t360 => (if t360 = true then (changeforgelaw3_DeltachainPackMatchesSpec.j0 k l0 a1 bt351.1 bt351.2.1 bt351.2.2 0 0) else ((changeforgeref3_Fault.f 3 (-1)).bind fun bt361 => (changeforgelaw3_DeltachainPackMatchesSpec.j0 k l0 a1 bt351.1 bt351.2.1 bt351.2.2 bt361.1 bt361.2)))))) else (some false)) = some r := H
  have A3 := aZ A30
  clear A30
  by_cases c4 : t350 = true
  rotate_left
  · replace c4 := Bool.eq_false_iff.mpr c4
    subst c4
    have H1 : (some false) = some r := by rw [if_neg (show ¬ (false = true) by decide)] at H; exact H
    clear H
    have H := H1
    clear H1
    obtain rfl := Option.some.inj H
    go_enter Try.func7, Try.ntmps7
    go_wp2_with (first | ((with_reducible refine gate_callee (f := 10) rfl ?_); refine goesL_ (some 10) rfl rfl Try.func10 (by kernel_rfl) rfl #[] rfl (by (try simp only [List.map_toArray, List.map_cons, List.map_nil]); first | done | rfl | (simp only [List.length_drop, List.length_take]; rfl)) ?_; (with_reducible refine (changeforgelaw3_deltachainExample.calls k  false _ A3.out).mono ?_); rintro e w104 ⟨rfl, hb⟩; refine ⟨_, rfl, ?_⟩; have n0_ := aZ (lT (by repeat (first | (with_reducible first | exact HB.out | apply lA | apply lN | apply lD) | exact HB.out)) hb); clear HB; have HB := n0_; clear n0_; (try clear hb); (try clear hb2); (try clear hk); (try clear hi)))
    go_ret
    exact ⟨by first | rfl | (simp [errW_none, errW_some] <;> rfl) | (simp [*, errW_none, errW_some] <;> rfl), by repeat (first | (with_reducible first | exact HB.out | apply lA | apply lN | apply lD) | exact HB.out)⟩

  subst c4
  have H1 : ((deltachain_Pack.f k l0 a1).bind fun bt351 => (if (l0.length : Int) > 20 then ((changeforgeref3_Fault.f 2 (-1)).bind fun bt358 => (changeforgelaw3_DeltachainPackMatchesSpec.j0 k l0 a1 bt351.1 bt351.2.1 bt351.2.2 bt358.1 bt358.2)) else ((changeforgeref3_In.f a1 0 20).bind fun t360 => (if t360 = true then (changeforgelaw3_DeltachainPackMatchesSpec.j0 k l0 a1 bt351.1 bt351.2.1 bt351.2.2 0 0) else ((changeforgeref3_Fault.f 3 (-1)).bind fun bt361 => (changeforgelaw3_DeltachainPackMatchesSpec.j0 k l0 a1 bt351.1 bt351.2.1 bt351.2.2 bt361.1 bt361.2)))))) = some r := by rw [if_pos rfl] at H; exact H
  clear H
  have H := H1
  clear H1
  replace H := Option.bind_eq_some_iff.mp H
  obtain ⟨⟨t351, t354, t355⟩, A50, H⟩ := H
  replace H : (if (l0.length : Int) > 20 then ((changeforgeref3_Fault.f 2 (-1)).bind fun bt358 => (changeforgelaw3_DeltachainPackMatchesSpec.j0 k l0 a1 t351 t354 t355 bt358.1 bt358.2)) else ((changeforgeref3_In.f a1 0 20).bind fun t360 => (if t360 = true then (changeforgelaw3_DeltachainPackMatchesSpec.j0 k l0 a1 t351 t354 t355 0 0) else ((changeforgeref3_Fault.f 3 (-1)).bind fun bt361 => (changeforgelaw3_DeltachainPackMatchesSpec.j0 k l0 a1 t351 t354 t355 bt361.1 bt361.2))))) = some r := H
  have A5 := aZ A50
  clear A50
  have HC6 := aZ H
  clear H
  go_enter Try.func7, Try.ntmps7
  go_upto_if 21 with (first | ((with_reducible refine gate_callee (f := 10) rfl ?_); refine goesL_ (some 10) rfl rfl Try.func10 (by kernel_rfl) rfl #[] rfl (by (try simp only [List.map_toArray, List.map_cons, List.map_nil]); first | done | rfl | (simp only [List.length_drop, List.length_take]; rfl)) ?_; (with_reducible refine (changeforgelaw3_deltachainExample.calls k  true _ A3.out).mono ?_); rintro e w7 ⟨rfl, hb⟩; refine ⟨_, rfl, ?_⟩; have n0_ := aZ (lT (by repeat (first | (with_reducible first | exact HB.out | apply lA | apply lN | apply lD) | exact HB.out)) hb); clear HB; have HB := n0_; clear n0_; (try clear hb); (try clear hb2); (try clear hk); (try clear hi)) | ((with_reducible refine gate_callee (f := 17) rfl ?_); refine goesL_ (some 15) rfl rfl Try.func17 (by kernel_rfl) rfl #[.slice A0 l0.length c0, .int .i64 a1] rfl (by (try simp only [List.map_toArray, List.map_cons, List.map_nil]); first | done | rfl | (simp only [List.length_drop, List.length_take]; rfl)) ?_; (with_reducible refine (deltachain_Pack.calls k _ _ l0 a1 t351 t354 t355 _ ?side1 ?side2 A5.out).mono ?_); (case side1 => repeat (first | exact (Kd.C_below HR0.out HB.out) | (with_reducible refine Kd.C_alloc ?_ _) | (with_reducible refine Kd.C_drewN ?_ _) | (with_reducible refine Kd.C_drew ?_))); (case side2 => exact HC0.out); rintro e w8 ⟨v352, rfl, ho0, hb⟩; refine ⟨_, rfl, ?_⟩; have n0_ := aZ (Kd.R_lower ho0 (lZ (by repeat (first | (with_reducible first | exact HB.out | apply lA | apply lN | apply lD) | exact HB.out)))); have n1_ := aZ (lT (by repeat (first | (with_reducible first | exact HB.out | apply lA | apply lN | apply lD) | exact HB.out)) hb); clear HB; have HO353 := n0_; have HB := n1_; clear n0_ n1_; (try clear hb); (try clear hb2); (try clear hk); (try clear hi); (try clear ho0)) | ((with_reducible refine gate_dst (N := 6) rfl ?_); (try (refine gate_guard (by rfl) ?_; dsimp only)); refine box_event ?hg (N := 6) ?hd (cs := #[.int .i64 0, .int .i64 0]) (t := 26) ?hr ?_; (case hd => rfl); (case hg => rfl); (case hr => first | (go_simp; done) | (go_simp; rfl)); intro gb356 hg w9 hbox hb; have n0_ := aZ (Kd.R_below (by (with_reducible repeat (first | apply Kd.rA | apply Kd.rN | apply Kd.rD)); exact HO353.out) hb); have n1_ := aZ (lT (by repeat (first | (with_reducible first | exact HB.out | apply lA | apply lN | apply lD) | exact HB.out)) hb); have n2_ := aZ (hbox); have n3_ := aZ ((by rw [hg]; exact (lZ (by repeat (first | (with_reducible first | exact HB.out | apply lA | apply lN | apply lD) | exact HB.out))) : w.heap.size ≤ gb356)); have n4_ := aZ ((by rw [hg]; exact (lZ (by repeat (first | (with_reducible first | exact HB.out | apply lA | apply lN | apply lD) | exact HB.out))) : w.heap.size ≤ gb356)); clear HO353; clear HB; have HO353 := n0_; have HB := n1_; have BK356 := n2_; have GW356 := n3_; have GE356 := n4_; clear n0_ n1_ n2_ n3_ n4_; clear hb hbox hg; have hcz10_0 : w9.cell? ⟨gb356, 0, none⟩ = some (.int .i64 0) := (blk_cell BK356.out 0).trans rfl; have hcz10_1 : w9.cell? ⟨gb356, 1, none⟩ = some (.int .i64 0) := (blk_cell BK356.out 1).trans rfl; have hfz10_0 := blk_frozen BK356.out 0; have hfz10_1 := blk_frozen BK356.out 1) | ((with_reducible refine gate_dst (N := 7) rfl ?_); (try (refine gate_guard (by rfl) ?_; dsimp only)); refine box_event ?hg (N := 7) ?hd (cs := #[.int .i64 0, .int .i64 0]) (t := 26) ?hr ?_; (case hd => rfl); (case hg => rfl); (case hr => first | (go_simp; done) | (go_simp; rfl)); intro gb357 hg w11 hbox hb; have n0_ := aZ (Kd.R_below (by (with_reducible repeat (first | apply Kd.rA | apply Kd.rN | apply Kd.rD)); exact (Kd.R_mono (Kd.R_far (p := ⟨gb356, 1, none⟩) (Kd.R_far (p := ⟨gb356, 0, none⟩) (Kd.R_types HO353.out BK356.out (by decide)) (fun _ hk => hk.2) (.int .i64 t354)) (fun _ hk => hk.2) (.int .i64 t355)) (fun _ h_ => h_.1))) hb); have n1_ := aZ (blk_below (g := gb356) (o := .cells #[.int .i64 t354, .int .i64 t355] 26 (0, 0)) (by (with_reducible repeat (first | refine bN ?_ _ | refine bD ?_ | refine bA ?_ _)); refine blk_put (cs := #[.int .i64 t354, .int .i64 0]) ?_ 1 _ rfl; (with_reducible repeat (first | refine bN ?_ _ | refine bD ?_ | refine bA ?_ _)); refine blk_put (cs := #[.int .i64 0, .int .i64 0]) ?_ 0 _ rfl; (with_reducible repeat (first | refine bN ?_ _ | refine bD ?_ | refine bA ?_ _)); exact BK356.out) hb); have n2_ := aZ (lT (by repeat (first | (with_reducible first | exact HB.out | apply lA | apply lN | apply lD | refine lS ?_ GE356.out) | exact HB.out)) hb); have n3_ := aZ (hbox); have n4_ := aZ ((by rw [hg]; exact (lZ (by repeat (first | (with_reducible first | exact HB.out | apply lA | apply lN | apply lD | refine lS ?_ GE356.out) | exact HB.out))) : w.heap.size ≤ gb357)); have n5_ := aZ ((by rw [hg]; exact (lZ (by repeat (first | (with_reducible first | exact HB.out | apply lA | apply lN | apply lD | refine lS ?_ GE356.out) | exact HB.out))) : w.heap.size ≤ gb357)); have n6_ := aZ ((by rw [hg]; exact Nat.ne_of_lt (blk_lt (g := gb356) (o := .cells #[.int .i64 t354, .int .i64 t355] 26 (0, 0)) (by (with_reducible repeat (first | refine bN ?_ _ | refine bD ?_ | refine bA ?_ _)); refine blk_put (cs := #[.int .i64 t354, .int .i64 0]) ?_ 1 _ rfl; (with_reducible repeat (first | refine bN ?_ _ | refine bD ?_ | refine bA ?_ _)); refine blk_put (cs := #[.int .i64 0, .int .i64 0]) ?_ 0 _ rfl; (with_reducible repeat (first | refine bN ?_ _ | refine bD ?_ | refine bA ?_ _)); exact BK356.out)) : gb356 ≠ gb357)); have n7_ := aZ ((by rw [hg]; exact Nat.ne_of_gt (blk_lt (g := gb356) (o := .cells #[.int .i64 t354, .int .i64 t355] 26 (0, 0)) (by (with_reducible repeat (first | refine bN ?_ _ | refine bD ?_ | refine bA ?_ _)); refine blk_put (cs := #[.int .i64 t354, .int .i64 0]) ?_ 1 _ rfl; (with_reducible repeat (first | refine bN ?_ _ | refine bD ?_ | refine bA ?_ _)); refine blk_put (cs := #[.int .i64 0, .int .i64 0]) ?_ 0 _ rfl; (with_reducible repeat (first | refine bN ?_ _ | refine bD ?_ | refine bA ?_ _)); exact BK356.out)) : gb357 ≠ gb356)); clear HO353; clear BK356; clear HB; have HO353 := n0_; have BK356 := n1_; have HB := n2_; have BK357 := n3_; have GW357 := n4_; have GE357 := n5_; have NB356_357 := n6_; have NB357_356 := n7_; clear n0_ n1_ n2_ n3_ n4_ n5_ n6_ n7_; clear hb hbox hg; have hnb12 := NB357_356.out; have hnc12 := NB356_357.out; have hcz13_0 : w11.cell? ⟨gb357, 0, none⟩ = some (.int .i64 0) := (blk_cell BK357.out 0).trans rfl; have hcz13_1 : w11.cell? ⟨gb357, 1, none⟩ = some (.int .i64 0) := (blk_cell BK357.out 1).trans rfl; have hfz13_0 := blk_frozen BK357.out 0; have hfz13_1 := blk_frozen BK357.out 1))
  (try simp only [Act.put, List.setIfInBounds_toArray, List.set_cons_zero, List.set_cons_succ])
  go_cut [] (fun wc => ∃ (kq : Nat) (x358000_5 : Int) (x358001_5 : Int), Aside0 (changeforgelaw3_DeltachainPackMatchesSpec.j0 kq l0 a1 t351 t354 t355 x358000_5 x358001_5 = some r) ∧ Aside0 (kq ≤ k) ∧ Aside0 (Kd.R k45 45 wc w.heap.size (fun _ => True) v352 t351) ∧ Aside0 (wc.heap[gb356]? = some (.cells #[.int .i64 t354, .int .i64 t355] 26 (0, 0))) ∧ Aside0 (wc.heap[gb357]? = some (.cells #[.int .i64 x358000_5, .int .i64 x358001_5] 26 (0, 0))) ∧ Aside0 (Below w.heap.size w wc))
  case first =>
   have H := HC6.out
   clear HC6
   by_cases c14 : (l0.length : Int) > 20
   · rw [if_pos c14] at H
     have c14b0 : decide (20 < (l0.length : Int)) = true := decide_eq_true c14
     have c14b1 : decide (20 < l0.length) = true := decide_eq_true (by omega)
     clear c14
     (first | rw [c14b0] | (simp only [i64_w, i32_w]; rw [c14b0]) | skip)
     replace H := Option.bind_eq_some_iff.mp H
     obtain ⟨⟨t358, t359⟩, A150, H⟩ := H
     replace H : (changeforgelaw3_DeltachainPackMatchesSpec.j0 k l0 a1 t351 t354 t355 t358 t359) = some r := H
     have A15 := aZ A150
     clear A150
     have H' := aZ H
     clear H
     go_wp2_with (first | ((with_reducible refine gate_callee (f := 12) rfl ?_); refine goesL_ (some 22) rfl rfl Try.func12 (by kernel_rfl) rfl #[.int .i64 2, .int .i64 (-1)] rfl (by (try simp only [List.map_toArray, List.map_cons, List.map_nil]); first | done | rfl | (simp only [List.length_drop, List.length_take]; rfl)) ?_; (with_reducible refine (changeforgeref3_Fault.calls 2 (-1) t358 t359 _ A15.out).mono ?_); rintro e w16 ⟨rfl, hb⟩; refine ⟨_, rfl, ?_⟩; have n0_ := aZ (Kd.R_below (by (with_reducible repeat (first | apply Kd.rA | apply Kd.rN | apply Kd.rD)); exact (Kd.R_mono (Kd.R_far (p := ⟨gb357, 1, none⟩) (Kd.R_far (p := ⟨gb357, 0, none⟩) (Kd.R_types HO353.out BK357.out (by decide)) (fun _ hk => hk.2) (.int .i64 0)) (fun _ hk => hk.2) (.int .i64 0)) (fun _ h_ => h_.1))) hb); have n1_ := aZ (blk_below (g := gb356) (o := .cells #[.int .i64 t354, .int .i64 t355] 26 (0, 0)) (by (with_reducible repeat (first | refine bN ?_ _ | refine bD ?_ | refine bA ?_ _)); refine blk_far ?_ NB356_357.out _; (with_reducible repeat (first | refine bN ?_ _ | refine bD ?_ | refine bA ?_ _)); refine blk_far ?_ NB356_357.out _; (with_reducible repeat (first | refine bN ?_ _ | refine bD ?_ | refine bA ?_ _)); exact BK356.out) hb); have n2_ := aZ (blk_below (g := gb357) (o := .cells #[.int .i64 0, .int .i64 0] 26 (0, 0)) (by (with_reducible repeat (first | refine bN ?_ _ | refine bD ?_ | refine bA ?_ _)); refine blk_put (cs := #[.int .i64 0, .int .i64 0]) ?_ 1 _ rfl; (with_reducible repeat (first | refine bN ?_ _ | refine bD ?_ | refine bA ?_ _)); refine blk_put (cs := #[.int .i64 0, .int .i64 0]) ?_ 0 _ rfl; (with_reducible repeat (first | refine bN ?_ _ | refine bD ?_ | refine bA ?_ _)); exact BK357.out) hb); have n3_ := aZ (lT (by repeat (first | (with_reducible first | exact HB.out | apply lA | apply lN | apply lD | refine lS ?_ GE356.out | refine lS ?_ GE357.out) | exact HB.out)) hb); clear HO353; clear BK356; clear BK357; clear HB; have HO353 := n0_; have BK356 := n1_; have BK357 := n2_; have HB := n3_; clear n0_ n1_ n2_ n3_; (try clear hb); (try clear hb2); (try clear hk); (try clear hi); have hnb17 := NB357_356.out; have hnc17 := NB356_357.out; have hcz18_0 : w16.cell? ⟨gb357, 0, none⟩ = some (.int .i64 0) := (blk_cell BK357.out 0).trans rfl; have hcz18_1 : w16.cell? ⟨gb357, 1, none⟩ = some (.int .i64 0) := (blk_cell BK357.out 1).trans rfl; have hfz18_0 := blk_frozen BK357.out 0; have hfz18_1 := blk_frozen BK357.out 1))
     go_meet
     case rel => exact ⟨_, (t358), (t359), H', ⟨by first | omega | exact Nat.le_refl _⟩, ⟨by (with_reducible repeat (first | apply Kd.rA | apply Kd.rN | apply Kd.rD)); exact Kd.R_mono (Kd.R_far (p := ⟨gb357, 1, none⟩) (Kd.R_far (p := ⟨gb357, 0, none⟩) (Kd.R_types HO353.out BK357.out (by decide)) (fun _ hk => hk.2) (.int .i64 t358)) (fun _ hk => hk.2) (.int .i64 t359)) (fun _ hk => trivial)⟩, ⟨by (with_reducible repeat (first | refine bN ?_ _ | refine bD ?_ | refine bA ?_ _)); refine blk_far ?_ NB356_357.out _; (with_reducible repeat (first | refine bN ?_ _ | refine bD ?_ | refine bA ?_ _)); refine blk_far ?_ NB356_357.out _; (with_reducible repeat (first | refine bN ?_ _ | refine bD ?_ | refine bA ?_ _)); exact BK356.out⟩, ⟨by (with_reducible repeat (first | refine bN ?_ _ | refine bD ?_ | refine bA ?_ _)); refine blk_put (cs := #[.int .i64 t358, .int .i64 0]) ?_ 1 _ rfl; (with_reducible repeat (first | refine bN ?_ _ | refine bD ?_ | refine bA ?_ _)); refine blk_put (cs := #[.int .i64 0, .int .i64 0]) ?_ 0 _ rfl; (with_reducible repeat (first | refine bN ?_ _ | refine bD ?_ | refine bA ?_ _)); exact BK357.out⟩, ⟨by repeat (first | (with_reducible first | exact HB.out | apply lA | apply lN | apply lD | refine lS ?_ GE356.out | refine lS ?_ GE357.out) | exact HB.out)⟩⟩
   rw [if_neg c14] at H
   have c14b0 : decide (20 < (l0.length : Int)) = false := decide_eq_false c14
   have c14b1 : decide (20 < l0.length) = false := decide_eq_false (by omega)
   clear c14
   (first | rw [c14b0] | (simp only [i64_w, i32_w]; rw [c14b0]) | skip)
   replace H := Option.bind_eq_some_iff.mp H
   obtain ⟨t360, A190, H⟩ := H
   replace H : (if t360 = true then (changeforgelaw3_DeltachainPackMatchesSpec.j0 k l0 a1 t351 t354 t355 0 0) else ((changeforgeref3_Fault.f 3 (-1)).bind fun bt361 => (changeforgelaw3_DeltachainPackMatchesSpec.j0 k l0 a1 t351 t354 t355 bt361.1 bt361.2))) = some r := H
   have A19 := aZ A190
   clear A190
   by_cases c20 : t360 = true
   · subst c20
     have H1 : (changeforgelaw3_DeltachainPackMatchesSpec.j0 k l0 a1 t351 t354 t355 0 0) = some r := by rw [if_pos rfl] at H; exact H
     clear H
     have H := H1
     clear H1
     have H' := aZ H
     clear H
     go_wp2_with (first | ((with_reducible refine gate_callee (f := 18) rfl ?_); refine goesL_ (some 24) rfl rfl Try.func18 (by kernel_rfl) rfl #[.int .i64 a1, .int .i64 0, .int .i64 20] rfl (by (try simp only [List.map_toArray, List.map_cons, List.map_nil]); first | done | rfl | (simp only [List.length_drop, List.length_take]; rfl)) ?_; (with_reducible refine (changeforgeref3_In.calls a1 0 20 true _ A19.out).mono ?_); rintro e w' ⟨rfl, ⟨nd, rfl⟩⟩; refine ⟨_, rfl, ?_⟩))
     go_meet
     case rel => exact ⟨_, (0), (0), H', ⟨by first | omega | exact Nat.le_refl _⟩, ⟨by (with_reducible repeat (first | apply Kd.rA | apply Kd.rN | apply Kd.rD)); exact Kd.R_mono (Kd.R_far (p := ⟨gb357, 1, none⟩) (Kd.R_far (p := ⟨gb357, 0, none⟩) (Kd.R_types HO353.out BK357.out (by decide)) (fun _ hk => hk.2) (.int .i64 0)) (fun _ hk => hk.2) (.int .i64 0)) (fun _ hk => trivial)⟩, ⟨by (with_reducible repeat (first | refine bN ?_ _ | refine bD ?_ | refine bA ?_ _)); refine blk_far ?_ NB356_357.out _; (with_reducible repeat (first | refine bN ?_ _ | refine bD ?_ | refine bA ?_ _)); refine blk_far ?_ NB356_357.out _; (with_reducible repeat (first | refine bN ?_ _ | refine bD ?_ | refine bA ?_ _)); exact BK356.out⟩, ⟨by (with_reducible repeat (first | refine bN ?_ _ | refine bD ?_ | refine bA ?_ _)); refine blk_put (cs := #[.int .i64 0, .int .i64 0]) ?_ 1 _ rfl; (with_reducible repeat (first | refine bN ?_ _ | refine bD ?_ | refine bA ?_ _)); refine blk_put (cs := #[.int .i64 0, .int .i64 0]) ?_ 0 _ rfl; (with_reducible repeat (first | refine bN ?_ _ | refine bD ?_ | refine bA ?_ _)); exact BK357.out⟩, ⟨by repeat (first | (with_reducible first | exact HB.out | apply lA | apply lN | apply lD | refine lS ?_ GE356.out | refine lS ?_ GE357.out) | exact HB.out)⟩⟩
   replace c20 := Bool.eq_false_iff.mpr c20
   subst c20
   have H1 : ((changeforgeref3_Fault.f 3 (-1)).bind fun bt361 => (changeforgelaw3_DeltachainPackMatchesSpec.j0 k l0 a1 t351 t354 t355 bt361.1 bt361.2)) = some r := by rw [if_neg (show ¬ (false = true) by decide)] at H; exact H
   clear H
   have H := H1
   clear H1
   replace H := Option.bind_eq_some_iff.mp H
   obtain ⟨⟨t361, t362⟩, A210, H⟩ := H
   replace H : (changeforgelaw3_DeltachainPackMatchesSpec.j0 k l0 a1 t351 t354 t355 t361 t362) = some r := H
   have A21 := aZ A210
   clear A210
   have H' := aZ H
   clear H
   go_wp2_with (first | ((with_reducible refine gate_callee (f := 18) rfl ?_); refine goesL_ (some 24) rfl rfl Try.func18 (by kernel_rfl) rfl #[.int .i64 a1, .int .i64 0, .int .i64 20] rfl (by (try simp only [List.map_toArray, List.map_cons, List.map_nil]); first | done | rfl | (simp only [List.length_drop, List.length_take]; rfl)) ?_; (with_reducible refine (changeforgeref3_In.calls a1 0 20 false _ A19.out).mono ?_); rintro e w' ⟨rfl, ⟨nd, rfl⟩⟩; refine ⟨_, rfl, ?_⟩) | ((with_reducible refine gate_callee (f := 12) rfl ?_); refine goesL_ (some 26) rfl rfl Try.func12 (by kernel_rfl) rfl #[.int .i64 3, .int .i64 (-1)] rfl (by (try simp only [List.map_toArray, List.map_cons, List.map_nil]); first | done | rfl | (simp only [List.length_drop, List.length_take]; rfl)) ?_; (with_reducible refine (changeforgeref3_Fault.calls 3 (-1) t361 t362 _ A21.out).mono ?_); rintro e w22 ⟨rfl, hb⟩; refine ⟨_, rfl, ?_⟩; have n0_ := aZ (Kd.R_below (by (with_reducible repeat (first | apply Kd.rA | apply Kd.rN | apply Kd.rD)); exact (Kd.R_mono (Kd.R_far (p := ⟨gb357, 1, none⟩) (Kd.R_far (p := ⟨gb357, 0, none⟩) (Kd.R_types HO353.out BK357.out (by decide)) (fun _ hk => hk.2) (.int .i64 0)) (fun _ hk => hk.2) (.int .i64 0)) (fun _ h_ => h_.1))) hb); have n1_ := aZ (blk_below (g := gb356) (o := .cells #[.int .i64 t354, .int .i64 t355] 26 (0, 0)) (by (with_reducible repeat (first | refine bN ?_ _ | refine bD ?_ | refine bA ?_ _)); refine blk_far ?_ NB356_357.out _; (with_reducible repeat (first | refine bN ?_ _ | refine bD ?_ | refine bA ?_ _)); refine blk_far ?_ NB356_357.out _; (with_reducible repeat (first | refine bN ?_ _ | refine bD ?_ | refine bA ?_ _)); exact BK356.out) hb); have n2_ := aZ (blk_below (g := gb357) (o := .cells #[.int .i64 0, .int .i64 0] 26 (0, 0)) (by (with_reducible repeat (first | refine bN ?_ _ | refine bD ?_ | refine bA ?_ _)); refine blk_put (cs := #[.int .i64 0, .int .i64 0]) ?_ 1 _ rfl; (with_reducible repeat (first | refine bN ?_ _ | refine bD ?_ | refine bA ?_ _)); refine blk_put (cs := #[.int .i64 0, .int .i64 0]) ?_ 0 _ rfl; (with_reducible repeat (first | refine bN ?_ _ | refine bD ?_ | refine bA ?_ _)); exact BK357.out) hb); have n3_ := aZ (lT (by repeat (first | (with_reducible first | exact HB.out | apply lA | apply lN | apply lD | refine lS ?_ GE356.out | refine lS ?_ GE357.out) | exact HB.out)) hb); clear HO353; clear BK356; clear BK357; clear HB; have HO353 := n0_; have BK356 := n1_; have BK357 := n2_; have HB := n3_; clear n0_ n1_ n2_ n3_; (try clear hb); (try clear hb2); (try clear hk); (try clear hi); have hnb23 := NB357_356.out; have hnc23 := NB356_357.out; have hcz24_0 : w22.cell? ⟨gb357, 0, none⟩ = some (.int .i64 0) := (blk_cell BK357.out 0).trans rfl; have hcz24_1 : w22.cell? ⟨gb357, 1, none⟩ = some (.int .i64 0) := (blk_cell BK357.out 1).trans rfl; have hfz24_0 := blk_frozen BK357.out 0; have hfz24_1 := blk_frozen BK357.out 1))
   go_meet
   case rel => exact ⟨_, (t361), (t362), H', ⟨by first | omega | exact Nat.le_refl _⟩, ⟨by (with_reducible repeat (first | apply Kd.rA | apply Kd.rN | apply Kd.rD)); exact Kd.R_mono (Kd.R_far (p := ⟨gb357, 1, none⟩) (Kd.R_far (p := ⟨gb357, 0, none⟩) (Kd.R_types HO353.out BK357.out (by decide)) (fun _ hk => hk.2) (.int .i64 t361)) (fun _ hk => hk.2) (.int .i64 t362)) (fun _ hk => trivial)⟩, ⟨by (with_reducible repeat (first | refine bN ?_ _ | refine bD ?_ | refine bA ?_ _)); refine blk_far ?_ NB356_357.out _; (with_reducible repeat (first | refine bN ?_ _ | refine bD ?_ | refine bA ?_ _)); refine blk_far ?_ NB356_357.out _; (with_reducible repeat (first | refine bN ?_ _ | refine bD ?_ | refine bA ?_ _)); exact BK356.out⟩, ⟨by (with_reducible repeat (first | refine bN ?_ _ | refine bD ?_ | refine bA ?_ _)); refine blk_put (cs := #[.int .i64 t361, .int .i64 0]) ?_ 1 _ rfl; (with_reducible repeat (first | refine bN ?_ _ | refine bD ?_ | refine bA ?_ _)); refine blk_put (cs := #[.int .i64 0, .int .i64 0]) ?_ 0 _ rfl; (with_reducible repeat (first | refine bN ?_ _ | refine bD ?_ | refine bA ?_ _)); exact BK357.out⟩, ⟨by repeat (first | (with_reducible first | exact HB.out | apply lA | apply lN | apply lD | refine lS ?_ GE356.out | refine lS ?_ GE357.out) | exact HB.out)⟩⟩
  case rest =>
   clear HC6
   (try clear c4); (try clear hcz10_0); (try clear hcz10_1); (try clear hcz13_0); (try clear hcz13_1); (try clear hfz10_0); (try clear hfz10_1); (try clear hfz13_0); (try clear hfz13_1)
   obtain ⟨kq, x358000_5, x358001_5, HA, HJ5, HO_5, BK356, BK357, HB⟩ := hcut
   cases kq with
   | zero => exact absurd HA.out (by simp [changeforgelaw3_DeltachainPackMatchesSpec.j0])
   | succ kj5 =>
    have H := HA.out
    clear HA
    simp only [changeforgelaw3_DeltachainPackMatchesSpec.j0] at H
    have H' := aZ H
    clear H
    go_wp2
    go_loopg [8] kj5 (fun kq v8 w' => ∃ (x8_2 : Int) (x358000_2 : Int) (x358001_2 : Int), v8 = .int .i64 x8_2 ∧ Aside0 (changeforgelaw3_DeltachainPackMatchesSpec.l0 kq l0 a1 t351 x8_2 t354 t355 x358000_2 x358001_2 = some r) ∧ Aside0 (kq ≤ kj5) ∧ Aside0 (Kd.R k45 45 w' w.heap.size (fun _ => True) v352 t351) ∧ Aside0 (w'.heap[gb356]? = some (.cells #[.int .i64 t354, .int .i64 t355] 26 (0, 0))) ∧ Aside0 (w'.heap[gb357]? = some (.cells #[.int .i64 x358000_2, .int .i64 x358001_2] 26 (0, 0))) ∧ Aside0 (Below w.heap.size w w'))
    case atStart => exact ⟨(0), (x358000_5), (x358001_5), (by first | rfl | (simp; done) | (simp [*]; done)), H', ⟨Nat.le_refl _⟩, ⟨by (with_reducible repeat (first | apply Kd.rA | apply Kd.rN | apply Kd.rD)); exact HO_5.out⟩, ⟨by (with_reducible repeat (first | refine bN ?_ _ | refine bD ?_ | refine bA ?_ _)); exact BK356.out⟩, ⟨by (with_reducible repeat (first | refine bN ?_ _ | refine bD ?_ | refine bA ?_ _)); exact BK357.out⟩, ⟨by repeat (first | (with_reducible first | exact HB.out | apply lA | apply lN | apply lD | refine lS ?_ GE356.out | refine lS ?_ GE357.out) | exact HB.out)⟩⟩
    case round =>
     clear H'
     obtain ⟨x8_2, x358000_2, x358001_2, rfl, HA, HK2, HO_5, BK356, BK357, HB⟩ := hrel
     cases gk with
     | zero => exact absurd HA.out (by simp [changeforgelaw3_DeltachainPackMatchesSpec.l0])
     | succ k2 =>
      have H := HA.out
      clear HA
      simp only [changeforgelaw3_DeltachainPackMatchesSpec.l0] at H
      have HC25 := aZ H
      clear H
      go_upto_region 10 with (fail)
      go_cut [35] (fun v35 wc => ∃ (kq : Nat) (x35_24 : Bool), v35 = .bool x35_24 ∧ Aside0 (changeforgelaw3_DeltachainPackMatchesSpec.j2 kq l0 a1 t351 x8_2 x35_24 t354 t355 x358000_2 x358001_2 = some r) ∧ Aside0 (kq ≤ k2) ∧ Aside0 (Kd.R k45 45 wc w.heap.size (fun _ => True) v352 t351) ∧ Aside0 (wc.heap[gb356]? = some (.cells #[.int .i64 t354, .int .i64 t355] 26 (0, 0))) ∧ Aside0 (wc.heap[gb357]? = some (.cells #[.int .i64 x358000_2, .int .i64 x358001_2] 26 (0, 0))) ∧ Aside0 (Below w.heap.size w wc))
      case first =>
       have H := HC25.out
       clear HC25
       by_cases c26 : x8_2 < (l0.length : Int)
       rotate_left
       · rw [if_neg c26] at H
         have c26b0 : decide (x8_2 < (l0.length : Int)) = false := decide_eq_false c26
         clear c26
         (first | rw [c26b0] | (simp only [i64_w, i32_w]; rw [c26b0]) | skip)
         have H' := aZ H
         clear H
         go_wp2
         go_meet
         case rel => exact ⟨_, (false), (by first | rfl | (simp; done) | (simp [*]; done)), H', ⟨by have := HJ5.out; have := HK2.out; first | omega | exact Nat.le_refl _⟩, ⟨by (with_reducible repeat (first | apply Kd.rA | apply Kd.rN | apply Kd.rD)); exact HO_5.out⟩, ⟨by (with_reducible repeat (first | refine bN ?_ _ | refine bD ?_ | refine bA ?_ _)); exact BK356.out⟩, ⟨by (with_reducible repeat (first | refine bN ?_ _ | refine bD ?_ | refine bA ?_ _)); exact BK357.out⟩, ⟨by repeat (first | (with_reducible first | exact HB.out | apply lA | apply lN | apply lD | refine lS ?_ GE356.out | refine lS ?_ GE357.out) | exact HB.out)⟩⟩
       rw [if_pos c26] at H
       have c26b0 : decide (x8_2 < (l0.length : Int)) = true := decide_eq_true c26
       clear c26
       (first | rw [c26b0] | (simp only [i64_w, i32_w]; rw [c26b0]) | skip)
       have H' := aZ H
       clear H
       have hnb27 := NB357_356.out
       have hnc27 := NB356_357.out
       have hcz28_0 : wr.cell? ⟨gb357, 0, none⟩ = some (.int .i64 x358000_2) := (blk_cell BK357.out 0).trans rfl
       have hcz28_1 : wr.cell? ⟨gb357, 1, none⟩ = some (.int .i64 x358001_2) := (blk_cell BK357.out 1).trans rfl
       have hfz28_0 := blk_frozen BK357.out 0
       have hfz28_1 := blk_frozen BK357.out 1
       go_wp2
       go_meet
       case rel => exact ⟨_, ((x358000_2 == 0)), (by first | rfl | (simp; done) | (simp [*]; done)), H', ⟨by have := HJ5.out; have := HK2.out; first | omega | exact Nat.le_refl _⟩, ⟨by (with_reducible repeat (first | apply Kd.rA | apply Kd.rN | apply Kd.rD)); exact HO_5.out⟩, ⟨by (with_reducible repeat (first | refine bN ?_ _ | refine bD ?_ | refine bA ?_ _)); exact BK356.out⟩, ⟨by (with_reducible repeat (first | refine bN ?_ _ | refine bD ?_ | refine bA ?_ _)); exact BK357.out⟩, ⟨by repeat (first | (with_reducible first | exact HB.out | apply lA | apply lN | apply lD | refine lS ?_ GE356.out | refine lS ?_ GE357.out) | exact HB.out)⟩⟩
      case rest =>
       clear HC25
       obtain ⟨kq, x35_24, rfl, HA, HJ24, HO_5, BK356, BK357, HB⟩ := hcut
       cases kq with
       | zero => exact absurd HA.out (by simp [changeforgelaw3_DeltachainPackMatchesSpec.j2])
       | succ kj24 =>
        have H := HA.out
        clear HA
        simp only [changeforgelaw3_DeltachainPackMatchesSpec.j2] at H
        by_cases c29 : x35_24 = true
        · subst c29
          have H1 : (if 0 ≤ x8_2 then (if x8_2 < (l0.length : Int) then (if ((rd_L1 l0 x8_2).length : Int) > 1000 then ((changeforgeref3_Fault.f 10 x8_2).bind fun bt364 => (changeforgelaw3_DeltachainPackMatchesSpec.l0 kj24 l0 a1 t351 (wrap64 (x8_2 + 1)) t354 t355 bt364.1 bt364.2)) else (changeforgelaw3_DeltachainPackMatchesSpec.l0 kj24 l0 a1 t351 (wrap64 (x8_2 + 1)) t354 t355 x358000_2 x358001_2)) else (none)) else (none)) = some r := by rw [if_pos rfl] at H; exact H
          clear H
          have H := H1
          clear H1
          by_cases c30 : 0 ≤ x8_2
          rotate_left
          · rw [if_neg c30] at H
            exact absurd H (by simp)
          rw [if_pos c30] at H
          have c30b0 : decide (0 ≤ x8_2) = true := decide_eq_true c30
          clear c30
          by_cases c31 : x8_2 < (l0.length : Int)
          rotate_left
          · rw [if_neg c31] at H
            exact absurd H (by simp)
          rw [if_pos c31] at H
          have c31b0 : decide (x8_2 < (l0.length : Int)) = true := decide_eq_true c31
          clear c31
          by_cases c32 : ((rd_L1 l0 x8_2).length : Int) > 1000
          rotate_left
          · rw [if_neg c32] at H
            have c32b0 : decide (1000 < ((rd_L1 l0 x8_2).length : Int)) = false := decide_eq_false c32
            have c32b1 : decide (1000 < (rd_L1 l0 x8_2).length) = false := decide_eq_false (by omega)
            clear c32
            have H' := aZ H
            clear H
            have p363 : 0 ≤ (x8_2 : Int) := of_decide_eq_true (by first | (with_reducible assumption) | assumption)
            have q363 : x8_2 < (l0.length : Int) := of_decide_eq_true (by first | (with_reducible assumption) | assumption)
            obtain ⟨ad363, A363_0, c363_0, e363, hx363_0, hl363_0, hi363_0⟩ := at_L1 HR0.out x8_2 p363 q363
            cases e363
            replace hx363_0 := (HB.out.cell (World.block_lt_of_cell? w _ hx363_0)).trans hx363_0
            have HR363_0 := aZ hi363_0
            have HC363_0 := aZ hl363_0
            clear hi363_0 hl363_0
            replace p363 := eq_true p363
            replace q363 := eq_true q363
            go_wp2
            go_roundg kj24
            case measure => have := HJ5.out; have := HK2.out; have := HJ24.out; omega
            case rel => exact ⟨(wrap64 (x8_2 + 1)), (x358000_2), (x358001_2), (by first | rfl | (simp; done) | (simp [*]; done)), H', ⟨by have := HJ5.out; have := HK2.out; have := HJ24.out; omega⟩, ⟨by (with_reducible repeat (first | apply Kd.rA | apply Kd.rN | apply Kd.rD)); exact HO_5.out⟩, ⟨by (with_reducible repeat (first | refine bN ?_ _ | refine bD ?_ | refine bA ?_ _)); exact BK356.out⟩, ⟨by (with_reducible repeat (first | refine bN ?_ _ | refine bD ?_ | refine bA ?_ _)); exact BK357.out⟩, ⟨by repeat (first | (with_reducible first | exact HB.out | apply lA | apply lN | apply lD | refine lS ?_ GE356.out | refine lS ?_ GE357.out) | exact HB.out)⟩⟩
          rw [if_pos c32] at H
          have c32b0 : decide (1000 < ((rd_L1 l0 x8_2).length : Int)) = true := decide_eq_true c32
          have c32b1 : decide (1000 < (rd_L1 l0 x8_2).length) = true := decide_eq_true (by omega)
          clear c32
          replace H := Option.bind_eq_some_iff.mp H
          obtain ⟨⟨t364, t365⟩, A330, H⟩ := H
          replace H : (changeforgelaw3_DeltachainPackMatchesSpec.l0 kj24 l0 a1 t351 (wrap64 (x8_2 + 1)) t354 t355 t364 t365) = some r := H
          have A33 := aZ A330
          clear A330
          have H' := aZ H
          clear H
          have p363 : 0 ≤ (x8_2 : Int) := of_decide_eq_true (by first | (with_reducible assumption) | assumption)
          have q363 : x8_2 < (l0.length : Int) := of_decide_eq_true (by first | (with_reducible assumption) | assumption)
          obtain ⟨ad363, A363_0, c363_0, e363, hx363_0, hl363_0, hi363_0⟩ := at_L1 HR0.out x8_2 p363 q363
          cases e363
          replace hx363_0 := (HB.out.cell (World.block_lt_of_cell? w _ hx363_0)).trans hx363_0
          have HR363_0 := aZ hi363_0
          have HC363_0 := aZ hl363_0
          clear hi363_0 hl363_0
          replace p363 := eq_true p363
          replace q363 := eq_true q363
          go_wp2_with (first | ((with_reducible refine gate_callee (f := 12) rfl ?_); refine goesL_ (some 45) rfl rfl Try.func12 (by kernel_rfl) rfl #[.int .i64 10, .int .i64 x8_2] rfl (by (try simp only [List.map_toArray, List.map_cons, List.map_nil]); first | done | rfl | (simp only [List.length_drop, List.length_take]; rfl)) ?_; (with_reducible refine (changeforgeref3_Fault.calls 10 x8_2 t364 t365 _ A33.out).mono ?_); rintro e w34 ⟨rfl, hb⟩; refine ⟨_, rfl, ?_⟩; have n0_ := aZ (Kd.R_below (by (with_reducible repeat (first | apply Kd.rA | apply Kd.rN | apply Kd.rD)); exact HO_5.out) hb); have n1_ := aZ (blk_below (g := gb356) (o := .cells #[.int .i64 t354, .int .i64 t355] 26 (0, 0)) (by (with_reducible repeat (first | refine bN ?_ _ | refine bD ?_ | refine bA ?_ _)); exact BK356.out) hb); have n2_ := aZ (blk_below (g := gb357) (o := .cells #[.int .i64 x358000_2, .int .i64 x358001_2] 26 (0, 0)) (by (with_reducible repeat (first | refine bN ?_ _ | refine bD ?_ | refine bA ?_ _)); exact BK357.out) hb); have n3_ := aZ (lT (by repeat (first | (with_reducible first | exact HB.out | apply lA | apply lN | apply lD | refine lS ?_ GE356.out | refine lS ?_ GE357.out) | exact HB.out)) hb); clear HO_5; clear BK356; clear BK357; clear HB; have HO_5 := n0_; have BK356 := n1_; have BK357 := n2_; have HB := n3_; clear n0_ n1_ n2_ n3_; (try clear hb); (try clear hb2); (try clear hk); (try clear hi); have hnb35 := NB357_356.out; have hnc35 := NB356_357.out; have hcz36_0 : w34.cell? ⟨gb357, 0, none⟩ = some (.int .i64 x358000_2) := (blk_cell BK357.out 0).trans rfl; have hcz36_1 : w34.cell? ⟨gb357, 1, none⟩ = some (.int .i64 x358001_2) := (blk_cell BK357.out 1).trans rfl; have hfz36_0 := blk_frozen BK357.out 0; have hfz36_1 := blk_frozen BK357.out 1))
          go_roundg kj24
          case measure => have := HJ5.out; have := HK2.out; have := HJ24.out; omega
          case rel => exact ⟨(wrap64 (x8_2 + 1)), (t364), (t365), (by first | rfl | (simp; done) | (simp [*]; done)), H', ⟨by have := HJ5.out; have := HK2.out; have := HJ24.out; omega⟩, ⟨by (with_reducible repeat (first | apply Kd.rA | apply Kd.rN | apply Kd.rD)); exact Kd.R_mono (Kd.R_far (p := ⟨gb357, 1, none⟩) (Kd.R_far (p := ⟨gb357, 0, none⟩) (Kd.R_types HO_5.out BK357.out (by decide)) (fun _ hk => hk.2) (.int .i64 t364)) (fun _ hk => hk.2) (.int .i64 t365)) (fun _ hk => trivial)⟩, ⟨by (with_reducible repeat (first | refine bN ?_ _ | refine bD ?_ | refine bA ?_ _)); refine blk_far ?_ NB356_357.out _; (with_reducible repeat (first | refine bN ?_ _ | refine bD ?_ | refine bA ?_ _)); refine blk_far ?_ NB356_357.out _; (with_reducible repeat (first | refine bN ?_ _ | refine bD ?_ | refine bA ?_ _)); exact BK356.out⟩, ⟨by (with_reducible repeat (first | refine bN ?_ _ | refine bD ?_ | refine bA ?_ _)); refine blk_put (cs := #[.int .i64 t364, .int .i64 x358001_2]) ?_ 1 _ rfl; (with_reducible repeat (first | refine bN ?_ _ | refine bD ?_ | refine bA ?_ _)); refine blk_put (cs := #[.int .i64 x358000_2, .int .i64 x358001_2]) ?_ 0 _ rfl; (with_reducible repeat (first | refine bN ?_ _ | refine bD ?_ | refine bA ?_ _)); exact BK357.out⟩, ⟨by repeat (first | (with_reducible first | exact HB.out | apply lA | apply lN | apply lD | refine lS ?_ GE356.out | refine lS ?_ GE357.out) | exact HB.out)⟩⟩
        replace c29 := Bool.eq_false_iff.mpr c29
        subst c29
        have H1 : (if x358000_2 = 0 then (if t354 = 0 then (changeforgelaw3_DeltachainPackMatchesSpec.j3 kj24 l0 a1 t351 ((t351.length : Int) != (l0.length : Int))) else (changeforgelaw3_DeltachainPackMatchesSpec.j3 kj24 l0 a1 t351 true)) else (if (t354 == x358000_2 && (t355 == x358001_2)) = true then (some ((t351.length : Int) == 0)) else (some false))) = some r := by rw [if_neg (show ¬ (false = true) by decide)] at H; exact H
        clear H
        have H := H1
        clear H1
        by_cases c37 : x358000_2 = 0
        rotate_left
        · rw [if_neg c37] at H
          have c37b0 : (x358000_2 == 0) = false := beq_eq_false_iff_ne.mpr c37
          have c37b1 : (x358000_2 != 0) = true := bne_iff_ne.mpr c37
          by_cases c96 : (t354 == x358000_2 && (t355 == x358001_2)) = true
          · rw [if_pos c96] at H
            have c96b0 : (t354 == x358000_2 && (t355 == x358001_2)) = true := c96
            (try (have c96b1 : decide (t354 = x358000_2 && (t355 == x358001_2)) = true := by simpa using c96))
            (try (have c96b2 : (t354 == x358000_2 && (t355 == x358001_2)) = true := by simpa using c96))
            clear c96
            obtain rfl := Option.some.inj H
            have hnb97 := NB357_356.out
            have hnc97 := NB356_357.out
            have hcz98_0 : wc.cell? ⟨gb357, 0, none⟩ = some (.int .i64 x358000_2) := (blk_cell BK357.out 0).trans rfl
            have hcz98_1 : wc.cell? ⟨gb357, 1, none⟩ = some (.int .i64 x358001_2) := (blk_cell BK357.out 1).trans rfl
            have hfz98_0 := blk_frozen BK357.out 0
            have hfz98_1 := blk_frozen BK357.out 1
            have hcz99_0 : wc.cell? ⟨gb356, 0, none⟩ = some (.int .i64 t354) := (blk_cell BK356.out 0).trans rfl
            have hcz99_1 : wc.cell? ⟨gb356, 1, none⟩ = some (.int .i64 t355) := (blk_cell BK356.out 1).trans rfl
            have hfz99_0 := blk_frozen BK356.out 0
            have hfz99_1 := blk_frozen BK356.out 1
            obtain ⟨Ao100, co100, eo100⟩ := Kd.R_slice HO_5.out
            subst eo100
            go_wp2
            go_ret
            exact ⟨by first | rfl | (simp [errW_none, errW_some] <;> rfl) | (simp [*, errW_none, errW_some] <;> rfl), by repeat (first | (with_reducible first | exact HB.out | apply lA | apply lN | apply lD | refine lS ?_ GE356.out | refine lS ?_ GE357.out) | exact HB.out)⟩
          rw [if_neg c96] at H
          have c96b0 : (t354 == x358000_2 && (t355 == x358001_2)) = false := by simpa using c96
          (try (have c96b1 : decide (t354 = x358000_2 && (t355 == x358001_2)) = false := by simpa using c96))
          (try (have c96b2 : (t354 == x358000_2 && (t355 == x358001_2)) = false := by simpa using c96))
          (try (have c96b3 : ¬ (t354 = x358000_2 && (t355 == x358001_2)) := by simpa using c96))
          clear c96
          obtain rfl := Option.some.inj H
          have hnb101 := NB357_356.out
          have hnc101 := NB356_357.out
          have hcz102_0 : wc.cell? ⟨gb357, 0, none⟩ = some (.int .i64 x358000_2) := (blk_cell BK357.out 0).trans rfl
          have hcz102_1 : wc.cell? ⟨gb357, 1, none⟩ = some (.int .i64 x358001_2) := (blk_cell BK357.out 1).trans rfl
          have hfz102_0 := blk_frozen BK357.out 0
          have hfz102_1 := blk_frozen BK357.out 1
          have hcz103_0 : wc.cell? ⟨gb356, 0, none⟩ = some (.int .i64 t354) := (blk_cell BK356.out 0).trans rfl
          have hcz103_1 : wc.cell? ⟨gb356, 1, none⟩ = some (.int .i64 t355) := (blk_cell BK356.out 1).trans rfl
          have hfz103_0 := blk_frozen BK356.out 0
          have hfz103_1 := blk_frozen BK356.out 1
          go_wp2
          go_ret
          exact ⟨by first | rfl | (simp [errW_none, errW_some] <;> rfl) | (simp [*, errW_none, errW_some] <;> rfl), by repeat (first | (with_reducible first | exact HB.out | apply lA | apply lN | apply lD | refine lS ?_ GE356.out | refine lS ?_ GE357.out) | exact HB.out)⟩
        rw [if_pos c37] at H
        have c37b0 : (x358000_2 == 0) = true := beq_iff_eq.mpr c37
        have c37b1 : (x358000_2 != 0) = false := bne_eq_false_iff_eq.mpr c37
        clear c37
        have HC38 := aZ H
        clear H
        have hnb39 := NB357_356.out
        have hnc39 := NB356_357.out
        have hcz40_0 : wc.cell? ⟨gb357, 0, none⟩ = some (.int .i64 x358000_2) := (blk_cell BK357.out 0).trans rfl
        have hcz40_1 : wc.cell? ⟨gb357, 1, none⟩ = some (.int .i64 x358001_2) := (blk_cell BK357.out 1).trans rfl
        have hfz40_0 := blk_frozen BK357.out 0
        have hfz40_1 := blk_frozen BK357.out 1
        go_upto_region 16 with (fail)
        go_cut [66] (fun v66 wc => ∃ (kq : Nat) (x66_37 : Bool), v66 = .bool x66_37 ∧ Aside0 (changeforgelaw3_DeltachainPackMatchesSpec.j3 kq l0 a1 t351 x66_37 = some r) ∧ Aside0 (kq ≤ kj24) ∧ Aside0 (Kd.R k45 45 wc w.heap.size (fun _ => True) v352 t351) ∧ Aside0 (wc.heap[gb356]? = some (.cells #[.int .i64 t354, .int .i64 t355] 26 (0, 0))) ∧ Aside0 (wc.heap[gb357]? = some (.cells #[.int .i64 x358000_2, .int .i64 x358001_2] 26 (0, 0))) ∧ Aside0 (Below w.heap.size w wc))
        case first =>
         have H := HC38.out
         clear HC38
         by_cases c41 : t354 = 0
         rotate_left
         · rw [if_neg c41] at H
           have c41b0 : (t354 == 0) = false := beq_eq_false_iff_ne.mpr c41
           have c41b1 : (t354 != 0) = true := bne_iff_ne.mpr c41
           (first | rw [c41b0] | (simp only [i64_w, i32_w]; rw [c41b0]) | skip)
           have H' := aZ H
           clear H
           have hnb45 := NB356_357.out
           have hnc45 := NB357_356.out
           have hcz46_0 : wc.cell? ⟨gb356, 0, none⟩ = some (.int .i64 t354) := (blk_cell BK356.out 0).trans rfl
           have hcz46_1 : wc.cell? ⟨gb356, 1, none⟩ = some (.int .i64 t355) := (blk_cell BK356.out 1).trans rfl
           have hfz46_0 := blk_frozen BK356.out 0
           have hfz46_1 := blk_frozen BK356.out 1
           go_wp2
           go_meet
           case rel => exact ⟨_, (true), (by first | rfl | (simp; done) | (simp [*]; done)), H', ⟨by have := HJ5.out; have := HK2.out; have := HJ24.out; first | omega | exact Nat.le_refl _⟩, ⟨by (with_reducible repeat (first | apply Kd.rA | apply Kd.rN | apply Kd.rD)); exact HO_5.out⟩, ⟨by (with_reducible repeat (first | refine bN ?_ _ | refine bD ?_ | refine bA ?_ _)); exact BK356.out⟩, ⟨by (with_reducible repeat (first | refine bN ?_ _ | refine bD ?_ | refine bA ?_ _)); exact BK357.out⟩, ⟨by repeat (first | (with_reducible first | exact HB.out | apply lA | apply lN | apply lD | refine lS ?_ GE356.out | refine lS ?_ GE357.out) | exact HB.out)⟩⟩
         rw [if_pos c41] at H
         have c41b0 : (t354 == 0) = true := beq_iff_eq.mpr c41
         have c41b1 : (t354 != 0) = false := bne_eq_false_iff_eq.mpr c41
         clear c41
         (first | rw [c41b0] | (simp only [i64_w, i32_w]; rw [c41b0]) | skip)
         have H' := aZ H
         clear H
         have hnb42 := NB356_357.out
         have hnc42 := NB357_356.out
         have hcz43_0 : wc.cell? ⟨gb356, 0, none⟩ = some (.int .i64 t354) := (blk_cell BK356.out 0).trans rfl
         have hcz43_1 : wc.cell? ⟨gb356, 1, none⟩ = some (.int .i64 t355) := (blk_cell BK356.out 1).trans rfl
         have hfz43_0 := blk_frozen BK356.out 0
         have hfz43_1 := blk_frozen BK356.out 1
         obtain ⟨Ao44, co44, eo44⟩ := Kd.R_slice HO_5.out
         subst eo44
         go_wp2
         go_meet
         case rel => exact ⟨_, (((t351.length : Int) != (l0.length : Int))), (by first | rfl | (simp; done) | (simp [*]; done)), H', ⟨by have := HJ5.out; have := HK2.out; have := HJ24.out; first | omega | exact Nat.le_refl _⟩, ⟨by (with_reducible repeat (first | apply Kd.rA | apply Kd.rN | apply Kd.rD)); exact HO_5.out⟩, ⟨by (with_reducible repeat (first | refine bN ?_ _ | refine bD ?_ | refine bA ?_ _)); exact BK356.out⟩, ⟨by (with_reducible repeat (first | refine bN ?_ _ | refine bD ?_ | refine bA ?_ _)); exact BK357.out⟩, ⟨by repeat (first | (with_reducible first | exact HB.out | apply lA | apply lN | apply lD | refine lS ?_ GE356.out | refine lS ?_ GE357.out) | exact HB.out)⟩⟩
        case rest =>
         clear HC38
         (try clear c29); (try clear c37); (try clear c37b0); (try clear c37b1); (try clear hcz40_0); (try clear hcz40_1); (try clear hfz40_0); (try clear hfz40_1)
         obtain ⟨kq, x66_37, rfl, HA, HJ37, HO_5, BK356, BK357, HB⟩ := hcut
         cases kq with
         | zero => exact absurd HA.out (by simp [changeforgelaw3_DeltachainPackMatchesSpec.j3])
         | succ kj37 =>
          have H := HA.out
          clear HA
          simp only [changeforgelaw3_DeltachainPackMatchesSpec.j3] at H
          by_cases c47 : x66_37 = true
          · subst c47
            have H1 : (some false) = some r := by rw [if_pos rfl] at H; exact H
            clear H
            have H := H1
            clear H1
            obtain rfl := Option.some.inj H
            go_wp2
            go_ret
            exact ⟨by first | rfl | (simp [errW_none, errW_some] <;> rfl) | (simp [*, errW_none, errW_some] <;> rfl), by repeat (first | (with_reducible first | exact HB.out | apply lA | apply lN | apply lD | refine lS ?_ GE356.out | refine lS ?_ GE357.out) | exact HB.out)⟩
          replace c47 := Bool.eq_false_iff.mpr c47
          subst c47
          have H1 : (changeforgelaw3_DeltachainPackMatchesSpec.l1 kj37 l0 a1 t351 0) = some r := by rw [if_neg (show ¬ (false = true) by decide)] at H; exact H
          clear H
          have H := H1
          clear H1
          have H' := aZ H
          clear H
          go_wp2
          go_loopg [9] kj37 (fun kq v9 w' => ∃ (x9_5 : Int), v9 = .int .i64 x9_5 ∧ Aside0 (changeforgelaw3_DeltachainPackMatchesSpec.l1 kq l0 a1 t351 x9_5 = some r) ∧ Aside0 (kq ≤ kj37) ∧ Aside0 (Kd.R k45 45 w' w.heap.size (fun _ => True) v352 t351) ∧ Aside0 (w'.heap[gb356]? = some (.cells #[.int .i64 t354, .int .i64 t355] 26 (0, 0))) ∧ Aside0 (w'.heap[gb357]? = some (.cells #[.int .i64 x358000_2, .int .i64 x358001_2] 26 (0, 0))) ∧ Aside0 (Below w.heap.size w w'))
          case atStart => exact ⟨(0), (by first | rfl | (simp; done) | (simp [*]; done)), H', ⟨Nat.le_refl _⟩, ⟨by (with_reducible repeat (first | apply Kd.rA | apply Kd.rN | apply Kd.rD)); exact HO_5.out⟩, ⟨by (with_reducible repeat (first | refine bN ?_ _ | refine bD ?_ | refine bA ?_ _)); exact BK356.out⟩, ⟨by (with_reducible repeat (first | refine bN ?_ _ | refine bD ?_ | refine bA ?_ _)); exact BK357.out⟩, ⟨by repeat (first | (with_reducible first | exact HB.out | apply lA | apply lN | apply lD | refine lS ?_ GE356.out | refine lS ?_ GE357.out) | exact HB.out)⟩⟩
          case round =>
           clear H'
           (try clear c47)
           obtain ⟨x9_5, rfl, HA, HK5, HO_5, BK356, BK357, HB⟩ := hrel
           cases gk with
           | zero => exact absurd HA.out (by simp [changeforgelaw3_DeltachainPackMatchesSpec.l1])
           | succ k5 =>
            have H := HA.out
            clear HA
            simp only [changeforgelaw3_DeltachainPackMatchesSpec.l1] at H
            by_cases c48 : x9_5 < (t351.length : Int)
            rotate_left
            · rw [if_neg c48] at H
              have c48b0 : decide (x9_5 < (t351.length : Int)) = false := decide_eq_false c48
              clear c48
              obtain rfl := Option.some.inj H
              obtain ⟨Ao95, co95, eo95⟩ := Kd.R_slice HO_5.out
              subst eo95
              go_wp2
              go_ret
              exact ⟨by first | rfl | (simp [errW_none, errW_some] <;> rfl) | (simp [*, errW_none, errW_some] <;> rfl), by repeat (first | (with_reducible first | exact HB.out | apply lA | apply lN | apply lD | refine lS ?_ GE356.out | refine lS ?_ GE357.out) | exact HB.out)⟩
            rw [if_pos c48] at H
            have c48b0 : decide (x9_5 < (t351.length : Int)) = true := decide_eq_true c48
            clear c48
            by_cases c49 : (wrap64 (a1 + 1)) = 0
            · rw [if_pos c49] at H
              exact absurd H (by simp)
            rw [if_neg c49] at H
            have c49b0 : ((wrap64 (a1 + 1)) == 0) = false := beq_eq_false_iff_ne.mpr c49
            have c49b1 : ((wrap64 (a1 + 1)) != 0) = true := bne_iff_ne.mpr c49
            by_cases c50 : (Int.tmod x9_5 (wrap64 (a1 + 1))) = 0
            · rw [if_pos c50] at H
              have c50b0 : ((Int.tmod x9_5 (wrap64 (a1 + 1))) == 0) = true := beq_iff_eq.mpr c50
              have c50b1 : ((Int.tmod x9_5 (wrap64 (a1 + 1))) != 0) = false := bne_eq_false_iff_eq.mpr c50
              clear c50
              by_cases c51 : 0 ≤ x9_5
              rotate_left
              · rw [if_neg c51] at H
                exact absurd H (by simp)
              rw [if_pos c51] at H
              have c51b0 : decide (0 ≤ x9_5) = true := decide_eq_true c51
              clear c51
              by_cases c52 : ((rd_T45 t351 x9_5).f0) = (-1)
              rotate_left
              · rw [if_neg c52] at H
                have c52b0 : (((rd_T45 t351 x9_5).f0) == (-1)) = false := beq_eq_false_iff_ne.mpr c52
                have c52b1 : (((rd_T45 t351 x9_5).f0) != (-1)) = true := bne_iff_ne.mpr c52
                obtain rfl := Option.some.inj H
                obtain ⟨Ao71, co71, eo71⟩ := Kd.R_slice HO_5.out
                subst eo71
                try go_wp2
                have n0_ := aZ (Kd.rD HO_5.out)
                have n1_ := aZ (bD BK356.out)
                have n2_ := aZ (bD BK357.out)
                have n3_ := aZ (lD HB.out)
                clear HO_5
                clear BK356
                clear BK357
                clear HB
                have HO_5 := n0_
                have BK356 := n1_
                have BK357 := n2_
                have HB := n3_
                clear n0_ n1_ n2_ n3_
                have p366 : 0 ≤ (x9_5 : Int) := of_decide_eq_true (by first | (with_reducible assumption) | assumption)
                have q366 : x9_5 < (t351.length : Int) := of_decide_eq_true (by first | (with_reducible assumption) | assumption)
                obtain ⟨ad366, A366_1, c366_1, A366_2, c366_2, e366, hx366_0, hx366_1, hx366_2, hl366_1, hi366_1, hl366_2, hi366_2⟩ := at_T45 (Kd.R_reads' HO_5.out).2.2 x9_5 p366 q366
                cases e366
                obtain ⟨ce366, hce366, hMe366, hcc366⟩ := Kd.R_get HO_5.out z45 x9_5 p366 (by first | exact q366 | exact of_decide_eq_true (by first | (with_reducible assumption) | assumption) | (have e_ := (Kd.R_reads' HO_5.out).1; omega))
                obtain ⟨ve366_1, ve366_2, rfl, ge366_1, ge366_2⟩ := k45_openM hMe366
                have hv366_1 := hcc366 1 _ rfl
                rw [add_field _ _ 1 (by omega)] at hv366_1
                replace hv366_1 := Option.some.inj (hv366_1.symm.trans hx366_1)
                rw [hv366_1] at ge366_1
                have HL366_1 := aZ (show Kd.R (Kd.int .u8) 5 _ _ _ _ ((rd_T45 t351 x9_5).f1) from ge366_1)
                clear hv366_1 ge366_1
                have hv366_2 := hcc366 2 _ rfl
                rw [add_field _ _ 2 (by omega)] at hv366_2
                replace hv366_2 := Option.some.inj (hv366_2.symm.trans hx366_2)
                rw [hv366_2] at ge366_2
                have HL366_2 := aZ (show Kd.R k37 37 _ _ _ _ ((rd_T45 t351 x9_5).f2) from ge366_2)
                clear hv366_2 ge366_2
                clear hcc366 hce366
                have HR366_1 := aZ hi366_1
                have HC366_1 := aZ hl366_1
                clear hi366_1 hl366_1
                have HR366_2 := aZ hi366_2
                have HC366_2 := aZ hl366_2
                clear hi366_2 hl366_2
                replace p366 := eq_true p366
                replace q366 := eq_true q366
                refine start_ (n := 29) (S := fun w' => w'.cell? (ad366.add ((x9_5).toNat * 3)) = some (.int .i64 ((rd_T45 t351 x9_5).f0)) ∧ w'.cell? ⟨(ad366.add ((x9_5).toNat * 3)).block, (ad366.add ((x9_5).toNat * 3)).off + 1, none⟩ = some (.slice A366_1 ((rd_T45 t351 x9_5).f1).length c366_1) ∧ w'.cell? ⟨(ad366.add ((x9_5).toNat * 3)).block, (ad366.add ((x9_5).toNat * 3)).off + 2, none⟩ = some (.slice A366_2 ((rd_T45 t351 x9_5).f2).length c366_2)) (ds := []) Z1 (by kernel_rfl) rfl rfl ⟨hx366_0, hx366_1, hx366_2⟩ (fun hHeld => ?_); refine with_tabW changeforgelaw3_DeltachainPackMatchesSpec.tab22 changeforgelaw3_DeltachainPackMatchesSpec.bits22 (fun HT_ HW_ => ?_)
                generalize wr.drew = w72 at HO_5 BK356 BK357 HB HL366_1 HL366_2 HR366_1 HR366_2 hx366_0 hx366_1 hx366_2 hHeld ⊢
                refine pu 0 78 Z2 HT_ rfl rfl (h := ?_)
                refine pu 1 79 Z3 HT_ rfl rfl (h := ?_)
                refine pu 2 80 Z4 HT_ rfl rfl (h := ?_)
                refine pu 3 81 Z5 HT_ rfl rfl (h := ?_)
                refine tk 4 82 Z6 HT_ HW_ rfl rfl hHeld (by rintro w' ⟨s0, s1, s2⟩; go_simp; with_reducible rfl) (h := ?_)
                refine pu 5 83 Z7 HT_ rfl rfl (h := ?_)
                refine pu 6 84 Z8 HT_ rfl rfl (h := ?_)
                refine pv 7 85 Z9 HT_ rfl rfl (h := ?_)
                refine pv 8 86 Z10 HT_ rfl rfl (h := ?_)
                refine pv 9 87 Z11 HT_ rfl rfl (h := ?_)
                refine pv 10 88 Z12 HT_ rfl rfl (h := ?_)
                refine pv 11 89 Z31 HT_ rfl rfl (h := ?_)
                refine pv 12 90 Z32 HT_ rfl rfl (h := ?_)
                refine pv 13 91 Z33 HT_ rfl rfl (h := ?_)
                refine pv 14 92 Z34 HT_ rfl rfl (h := ?_)
                refine pv 15 93 Z17 HT_ rfl rfl (h := ?_)
                refine pv 16 94 Z18 HT_ rfl rfl (h := ?_)
                refine pv 17 95 Z19 HT_ rfl rfl (h := ?_)
                refine pv 18 96 Z20 HT_ rfl rfl (h := ?_)
                refine pu 19 97 Z21 HT_ rfl rfl (h := ?_)
                refine pu 20 98 Z22 HT_ rfl rfl (h := ?_)
                refine pv 21 99 Z23 HT_ rfl rfl (h := ?_)
                refine pv 22 100 Z24 HT_ rfl rfl (h := ?_)
                refine pv 23 101 Z25 HT_ rfl rfl (h := ?_)
                refine pv 24 102 Z26 HT_ rfl rfl (h := ?_)
                refine pv 25 103 Z27 HT_ rfl rfl (h := ?_)
                refine pv 26 104 Z28 HT_ rfl rfl (h := ?_)
                refine pv 27 105 Z29 HT_ rfl rfl (h := ?_)
                refine pu 28 106 Z30 HT_ rfl rfl (h := ?_)
                refine done_ (done_of HT_.out (by kernel_rfl)) ?_
                try go_wp2
                go_ret
                exact ⟨by first | rfl | (simp [errW_none, errW_some] <;> rfl) | (simp [*, errW_none, errW_some] <;> rfl), by repeat (first | (with_reducible first | exact HB.out | apply lA | apply lN | apply lD | refine lS ?_ GE356.out | refine lS ?_ GE357.out) | exact HB.out)⟩
              rw [if_pos c52] at H
              have c52b0 : (((rd_T45 t351 x9_5).f0) == (-1)) = true := beq_iff_eq.mpr c52
              have c52b1 : (((rd_T45 t351 x9_5).f0) != (-1)) = false := bne_eq_false_iff_eq.mpr c52
              clear c52
              by_cases c53 : x9_5 < (l0.length : Int)
              rotate_left
              · rw [if_neg c53] at H
                exact absurd H (by simp)
              rw [if_pos c53] at H
              have c53b0 : decide (x9_5 < (l0.length : Int)) = true := decide_eq_true c53
              clear c53
              by_cases c54 : (strOfNums ((rd_T45 t351 x9_5).f1)).toList = (strOfNums (rd_L1 l0 x9_5)).toList
              rotate_left
              · rw [if_neg c54] at H
                have c54b0 : ((strOfNums ((rd_T45 t351 x9_5).f1)).toList == (strOfNums (rd_L1 l0 x9_5)).toList) = false := beq_eq_false_iff_ne.mpr c54
                have c54b1 : ((strOfNums ((rd_T45 t351 x9_5).f1)).toList != (strOfNums (rd_L1 l0 x9_5)).toList) = true := bne_iff_ne.mpr c54
                obtain rfl := Option.some.inj H
                obtain ⟨Ao66, co66, eo66⟩ := Kd.R_slice HO_5.out
                subst eo66
                try go_wp2
                have n0_ := aZ (Kd.rD HO_5.out)
                have n1_ := aZ (bD BK356.out)
                have n2_ := aZ (bD BK357.out)
                have n3_ := aZ (lD HB.out)
                clear HO_5
                clear BK356
                clear BK357
                clear HB
                have HO_5 := n0_
                have BK356 := n1_
                have BK357 := n2_
                have HB := n3_
                clear n0_ n1_ n2_ n3_
                have p366 : 0 ≤ (x9_5 : Int) := of_decide_eq_true (by first | (with_reducible assumption) | assumption)
                have q366 : x9_5 < (t351.length : Int) := of_decide_eq_true (by first | (with_reducible assumption) | assumption)
                obtain ⟨ad366, A366_1, c366_1, A366_2, c366_2, e366, hx366_0, hx366_1, hx366_2, hl366_1, hi366_1, hl366_2, hi366_2⟩ := at_T45 (Kd.R_reads' HO_5.out).2.2 x9_5 p366 q366
                cases e366
                obtain ⟨ce366, hce366, hMe366, hcc366⟩ := Kd.R_get HO_5.out z45 x9_5 p366 (by first | exact q366 | exact of_decide_eq_true (by first | (with_reducible assumption) | assumption) | (have e_ := (Kd.R_reads' HO_5.out).1; omega))
                obtain ⟨ve366_1, ve366_2, rfl, ge366_1, ge366_2⟩ := k45_openM hMe366
                have hv366_1 := hcc366 1 _ rfl
                rw [add_field _ _ 1 (by omega)] at hv366_1
                replace hv366_1 := Option.some.inj (hv366_1.symm.trans hx366_1)
                rw [hv366_1] at ge366_1
                have HL366_1 := aZ (show Kd.R (Kd.int .u8) 5 _ _ _ _ ((rd_T45 t351 x9_5).f1) from ge366_1)
                clear hv366_1 ge366_1
                have hv366_2 := hcc366 2 _ rfl
                rw [add_field _ _ 2 (by omega)] at hv366_2
                replace hv366_2 := Option.some.inj (hv366_2.symm.trans hx366_2)
                rw [hv366_2] at ge366_2
                have HL366_2 := aZ (show Kd.R k37 37 _ _ _ _ ((rd_T45 t351 x9_5).f2) from ge366_2)
                clear hv366_2 ge366_2
                clear hcc366 hce366
                have HR366_1 := aZ hi366_1
                have HC366_1 := aZ hl366_1
                clear hi366_1 hl366_1
                have HR366_2 := aZ hi366_2
                have HC366_2 := aZ hl366_2
                clear hi366_2 hl366_2
                replace p366 := eq_true p366
                replace q366 := eq_true q366
                have p367 : 0 ≤ (x9_5 : Int) := of_decide_eq_true (by first | (with_reducible assumption) | assumption)
                have q367 : x9_5 < (t351.length : Int) := of_decide_eq_true (by first | (with_reducible assumption) | assumption)
                obtain ⟨ad367, A367_1, c367_1, A367_2, c367_2, e367, hx367_0, hx367_1, hx367_2, hl367_1, hi367_1, hl367_2, hi367_2⟩ := at_T45 (Kd.R_reads' HO_5.out).2.2 x9_5 p367 q367
                obtain rfl : ad366 = ad367 := (by injection e367)
                obtain ⟨ce367, hce367, hMe367, hcc367⟩ := Kd.R_get HO_5.out z45 x9_5 p367 (by first | exact q367 | exact of_decide_eq_true (by first | (with_reducible assumption) | assumption) | (have e_ := (Kd.R_reads' HO_5.out).1; omega))
                obtain ⟨ve367_1, ve367_2, rfl, ge367_1, ge367_2⟩ := k45_openM hMe367
                have hv367_1 := hcc367 1 _ rfl
                rw [add_field _ _ 1 (by omega)] at hv367_1
                replace hv367_1 := Option.some.inj (hv367_1.symm.trans hx367_1)
                rw [hv367_1] at ge367_1
                have HL367_1 := aZ (show Kd.R (Kd.int .u8) 5 _ _ _ _ ((rd_T45 t351 x9_5).f1) from ge367_1)
                clear hv367_1 ge367_1
                have hv367_2 := hcc367 2 _ rfl
                rw [add_field _ _ 2 (by omega)] at hv367_2
                replace hv367_2 := Option.some.inj (hv367_2.symm.trans hx367_2)
                rw [hv367_2] at ge367_2
                have HL367_2 := aZ (show Kd.R k37 37 _ _ _ _ ((rd_T45 t351 x9_5).f2) from ge367_2)
                clear hv367_2 ge367_2
                clear hcc367 hce367
                have HR367_1 := aZ hi367_1
                have HC367_1 := aZ hl367_1
                clear hi367_1 hl367_1
                have HR367_2 := aZ hi367_2
                have HC367_2 := aZ hl367_2
                clear hi367_2 hl367_2
                replace p367 := eq_true p367
                replace q367 := eq_true q367
                have ea_ := Option.some.inj (hx366_1.symm.trans hx367_1)
                injection ea_ with ea_ en_ ec_
                subst ea_
                subst ec_
                clear en_
                have ea_ := Option.some.inj (hx366_2.symm.trans hx367_2)
                injection ea_ with ea_ en_ ec_
                subst ea_
                subst ec_
                clear en_
                have p368 : 0 ≤ (x9_5 : Int) := of_decide_eq_true (by first | (with_reducible assumption) | assumption)
                have q368 : x9_5 < (l0.length : Int) := of_decide_eq_true (by first | (with_reducible assumption) | assumption)
                obtain ⟨ad368, A368_0, c368_0, e368, hx368_0, hl368_0, hi368_0⟩ := at_L1 HR0.out x9_5 p368 q368
                have hw368_0 := hx368_0
                cases e368
                replace hx368_0 := (HB.out.cell (World.block_lt_of_cell? w _ hx368_0)).trans hx368_0
                have HR368_0 := aZ hi368_0
                have HC368_0 := aZ hl368_0
                clear hi368_0 hl368_0
                replace p368 := eq_true p368
                replace q368 := eq_true q368
                have hcv68 := Kd.C_string (P := Try.prog) (A := A366_1) (c := c366_1) Try.underlying22 Try.underlying5 Try.underlying9 (by repeat (first | (with_reducible exact HR367_1.out) | (with_reducible refine Kd.C_alloc ?_ _) | (with_reducible refine Kd.C_drewN ?_ _) | (with_reducible refine Kd.C_drew ?_) | exact HR367_1.out))
                have hcv69 := Kd.C_string (P := Try.prog) (A := A368_0) (c := c368_0) Try.underlying22 Try.underlying5 Try.underlying9 (Kd.C_below HR368_0.out HB.out)
                refine start_ (n := 29) (S := fun w' => w'.cell? (ad366.add ((x9_5).toNat * 3)) = some (.int .i64 ((rd_T45 t351 x9_5).f0)) ∧ w'.cell? ⟨(ad366.add ((x9_5).toNat * 3)).block, (ad366.add ((x9_5).toNat * 3)).off + 1, none⟩ = some (.slice A366_1 ((rd_T45 t351 x9_5).f1).length c366_1) ∧ w'.cell? ⟨(ad366.add ((x9_5).toNat * 3)).block, (ad366.add ((x9_5).toNat * 3)).off + 2, none⟩ = some (.slice A366_2 ((rd_T45 t351 x9_5).f2).length c366_2) ∧ w'.cell? (ad366.add ((x9_5).toNat * 3)) = some (.int .i64 ((rd_T45 t351 x9_5).f0)) ∧ w'.cell? ⟨(ad366.add ((x9_5).toNat * 3)).block, (ad366.add ((x9_5).toNat * 3)).off + 1, none⟩ = some (.slice A366_1 ((rd_T45 t351 x9_5).f1).length c366_1) ∧ w'.cell? ⟨(ad366.add ((x9_5).toNat * 3)).block, (ad366.add ((x9_5).toNat * 3)).off + 2, none⟩ = some (.slice A366_2 ((rd_T45 t351 x9_5).f2).length c366_2) ∧ w'.cell? (ad368.add (x9_5).toNat) = some (.slice A368_0 (rd_L1 l0 x9_5).length c368_0) ∧ (convert 22 9 (.slice A366_1 ((rd_T45 t351 x9_5).f1).length c366_1)).run Try.prog w' = .ok (.string (strOfNums ((rd_T45 t351 x9_5).f1))) w' ∧ (convert 22 9 (.slice A368_0 (rd_L1 l0 x9_5).length c368_0)).run Try.prog w' = .ok (.string (strOfNums (rd_L1 l0 x9_5))) w') (ds := []) Z1 (by kernel_rfl) rfl rfl ⟨hx366_0, hx366_1, hx366_2, hx367_0, hx367_1, hx367_2, ((HB.out.cell (World.block_lt_of_cell? w _ hw368_0)).trans hw368_0), (Kd.C_string (P := Try.prog) (A := A366_1) (c := c366_1) Try.underlying22 Try.underlying5 Try.underlying9 (by repeat (first | exact (by repeat (first | (with_reducible exact HR367_1.out) | (with_reducible refine Kd.C_alloc ?_ _) | (with_reducible refine Kd.C_drewN ?_ _) | (with_reducible refine Kd.C_drew ?_) | exact HR367_1.out)) | exact HR367_1.out | (with_reducible refine Kd.C_drew ?_) | (with_reducible refine Kd.C_drewN ?_ _) | (with_reducible refine Kd.C_alloc ?_ _)))), (Kd.C_string (P := Try.prog) (A := A368_0) (c := c368_0) Try.underlying22 Try.underlying5 Try.underlying9 (by repeat (first | exact (Kd.C_below HR368_0.out HB.out) | exact HR368_0.out | (with_reducible refine Kd.C_drew ?_) | (with_reducible refine Kd.C_drewN ?_ _) | (with_reducible refine Kd.C_alloc ?_ _))))⟩ (fun hHeld => ?_); refine with_tabW changeforgelaw3_DeltachainPackMatchesSpec.tab22 changeforgelaw3_DeltachainPackMatchesSpec.bits22 (fun HT_ HW_ => ?_)
                generalize wr.drew = w67 at HO_5 BK356 BK357 HB HL366_1 HL366_2 HL367_1 HL367_2 HR366_1 HR366_2 HR367_1 HR367_2 HR368_0 hx366_0 hx366_1 hx366_2 hx367_0 hx367_1 hx367_2 hx368_0 hHeld ⊢
                refine pu 0 78 Z2 HT_ rfl rfl (h := ?_)
                refine pu 1 79 Z3 HT_ rfl rfl (h := ?_)
                refine pu 2 80 Z4 HT_ rfl rfl (h := ?_)
                refine pu 3 81 Z5 HT_ rfl rfl (h := ?_)
                refine tk 4 82 Z6 HT_ HW_ rfl rfl hHeld (by rintro w' ⟨s0, s1, s2, s3, s4, s5, s6, s7, s8⟩; go_simp; with_reducible rfl) (h := ?_)
                refine pu 5 83 Z7 HT_ rfl rfl (h := ?_)
                refine pu 6 84 Z8 HT_ rfl rfl (h := ?_)
                refine pu 7 85 Z9 HT_ rfl rfl (h := ?_)
                refine pu 8 86 Z10 HT_ rfl rfl (h := ?_)
                refine pu 9 87 Z11 HT_ rfl rfl (h := ?_)
                refine pu 10 88 Z12 HT_ rfl rfl (h := ?_)
                refine pu 13 91 Z13 HT_ rfl rfl (h := ?_)
                refine pu 14 92 Z14 HT_ rfl rfl (h := ?_)
                refine pu 15 93 Z15 HT_ rfl rfl (h := ?_)
                refine tk 11 89 Z16 HT_ HW_ rfl rfl hHeld (by rintro w' ⟨s0, s1, s2, s3, s4, s5, s6, s7, s8⟩; go_simp; with_reducible rfl) (h := ?_)
                refine tk 12 90 Z17 HT_ HW_ rfl rfl hHeld (by rintro w' ⟨s0, s1, s2, s3, s4, s5, s6, s7, s8⟩; go_simp; with_reducible rfl) (h := ?_)
                refine tk 16 94 Z18 HT_ HW_ rfl rfl hHeld (by rintro w' ⟨s0, s1, s2, s3, s4, s5, s6, s7, s8⟩; go_simp; with_reducible rfl) (h := ?_)
                refine tk 17 95 Z19 HT_ HW_ rfl rfl hHeld (by rintro w' ⟨s0, s1, s2, s3, s4, s5, s6, s7, s8⟩; go_simp; with_reducible rfl) (h := ?_)
                refine pu 18 96 Z20 HT_ rfl rfl (h := ?_)
                refine pu 19 97 Z21 HT_ rfl rfl (h := ?_)
                refine pu 20 98 Z22 HT_ rfl rfl (h := ?_)
                refine pv 21 99 Z23 HT_ rfl rfl (h := ?_)
                refine pv 22 100 Z24 HT_ rfl rfl (h := ?_)
                refine pv 23 101 Z25 HT_ rfl rfl (h := ?_)
                refine pv 24 102 Z26 HT_ rfl rfl (h := ?_)
                refine pv 25 103 Z27 HT_ rfl rfl (h := ?_)
                refine pv 26 104 Z28 HT_ rfl rfl (h := ?_)
                refine pv 27 105 Z29 HT_ rfl rfl (h := ?_)
                refine pu 28 106 Z30 HT_ rfl rfl (h := ?_)
                refine done_ (done_of HT_.out (by kernel_rfl)) ?_
                try go_wp2
                go_ret
                exact ⟨by first | rfl | (simp [errW_none, errW_some] <;> rfl) | (simp [*, errW_none, errW_some] <;> rfl), by repeat (first | (with_reducible first | exact HB.out | apply lA | apply lN | apply lD | refine lS ?_ GE356.out | refine lS ?_ GE357.out) | exact HB.out)⟩
              rw [if_pos c54] at H
              have c54b0 : ((strOfNums ((rd_T45 t351 x9_5).f1)).toList == (strOfNums (rd_L1 l0 x9_5)).toList) = true := beq_iff_eq.mpr c54
              have c54b1 : ((strOfNums ((rd_T45 t351 x9_5).f1)).toList != (strOfNums (rd_L1 l0 x9_5)).toList) = false := bne_eq_false_iff_eq.mpr c54
              clear c54
              by_cases c55 : (((rd_T45 t351 x9_5).f2).length : Int) > 0
              · rw [if_pos c55] at H
                have c55b0 : decide (0 < (((rd_T45 t351 x9_5).f2).length : Int)) = true := decide_eq_true c55
                have c55b1 : decide (0 < ((rd_T45 t351 x9_5).f2).length) = true := decide_eq_true (by omega)
                clear c55
                obtain rfl := Option.some.inj H
                obtain ⟨Ao56, co56, eo56⟩ := Kd.R_slice HO_5.out
                subst eo56
                try go_wp2
                have n0_ := aZ (Kd.rD HO_5.out)
                have n1_ := aZ (bD BK356.out)
                have n2_ := aZ (bD BK357.out)
                have n3_ := aZ (lD HB.out)
                clear HO_5
                clear BK356
                clear BK357
                clear HB
                have HO_5 := n0_
                have BK356 := n1_
                have BK357 := n2_
                have HB := n3_
                clear n0_ n1_ n2_ n3_
                have p366 : 0 ≤ (x9_5 : Int) := of_decide_eq_true (by first | (with_reducible assumption) | assumption)
                have q366 : x9_5 < (t351.length : Int) := of_decide_eq_true (by first | (with_reducible assumption) | assumption)
                obtain ⟨ad366, A366_1, c366_1, A366_2, c366_2, e366, hx366_0, hx366_1, hx366_2, hl366_1, hi366_1, hl366_2, hi366_2⟩ := at_T45 (Kd.R_reads' HO_5.out).2.2 x9_5 p366 q366
                cases e366
                obtain ⟨ce366, hce366, hMe366, hcc366⟩ := Kd.R_get HO_5.out z45 x9_5 p366 (by first | exact q366 | exact of_decide_eq_true (by first | (with_reducible assumption) | assumption) | (have e_ := (Kd.R_reads' HO_5.out).1; omega))
                obtain ⟨ve366_1, ve366_2, rfl, ge366_1, ge366_2⟩ := k45_openM hMe366
                have hv366_1 := hcc366 1 _ rfl
                rw [add_field _ _ 1 (by omega)] at hv366_1
                replace hv366_1 := Option.some.inj (hv366_1.symm.trans hx366_1)
                rw [hv366_1] at ge366_1
                have HL366_1 := aZ (show Kd.R (Kd.int .u8) 5 _ _ _ _ ((rd_T45 t351 x9_5).f1) from ge366_1)
                clear hv366_1 ge366_1
                have hv366_2 := hcc366 2 _ rfl
                rw [add_field _ _ 2 (by omega)] at hv366_2
                replace hv366_2 := Option.some.inj (hv366_2.symm.trans hx366_2)
                rw [hv366_2] at ge366_2
                have HL366_2 := aZ (show Kd.R k37 37 _ _ _ _ ((rd_T45 t351 x9_5).f2) from ge366_2)
                clear hv366_2 ge366_2
                clear hcc366 hce366
                have HR366_1 := aZ hi366_1
                have HC366_1 := aZ hl366_1
                clear hi366_1 hl366_1
                have HR366_2 := aZ hi366_2
                have HC366_2 := aZ hl366_2
                clear hi366_2 hl366_2
                replace p366 := eq_true p366
                replace q366 := eq_true q366
                have p367 : 0 ≤ (x9_5 : Int) := of_decide_eq_true (by first | (with_reducible assumption) | assumption)
                have q367 : x9_5 < (t351.length : Int) := of_decide_eq_true (by first | (with_reducible assumption) | assumption)
                obtain ⟨ad367, A367_1, c367_1, A367_2, c367_2, e367, hx367_0, hx367_1, hx367_2, hl367_1, hi367_1, hl367_2, hi367_2⟩ := at_T45 (Kd.R_reads' HO_5.out).2.2 x9_5 p367 q367
                obtain rfl : ad366 = ad367 := (by injection e367)
                obtain ⟨ce367, hce367, hMe367, hcc367⟩ := Kd.R_get HO_5.out z45 x9_5 p367 (by first | exact q367 | exact of_decide_eq_true (by first | (with_reducible assumption) | assumption) | (have e_ := (Kd.R_reads' HO_5.out).1; omega))
                obtain ⟨ve367_1, ve367_2, rfl, ge367_1, ge367_2⟩ := k45_openM hMe367
                have hv367_1 := hcc367 1 _ rfl
                rw [add_field _ _ 1 (by omega)] at hv367_1
                replace hv367_1 := Option.some.inj (hv367_1.symm.trans hx367_1)
                rw [hv367_1] at ge367_1
                have HL367_1 := aZ (show Kd.R (Kd.int .u8) 5 _ _ _ _ ((rd_T45 t351 x9_5).f1) from ge367_1)
                clear hv367_1 ge367_1
                have hv367_2 := hcc367 2 _ rfl
                rw [add_field _ _ 2 (by omega)] at hv367_2
                replace hv367_2 := Option.some.inj (hv367_2.symm.trans hx367_2)
                rw [hv367_2] at ge367_2
                have HL367_2 := aZ (show Kd.R k37 37 _ _ _ _ ((rd_T45 t351 x9_5).f2) from ge367_2)
                clear hv367_2 ge367_2
                clear hcc367 hce367
                have HR367_1 := aZ hi367_1
                have HC367_1 := aZ hl367_1
                clear hi367_1 hl367_1
                have HR367_2 := aZ hi367_2
                have HC367_2 := aZ hl367_2
                clear hi367_2 hl367_2
                replace p367 := eq_true p367
                replace q367 := eq_true q367
                have ea_ := Option.some.inj (hx366_1.symm.trans hx367_1)
                injection ea_ with ea_ en_ ec_
                subst ea_
                subst ec_
                clear en_
                have ea_ := Option.some.inj (hx366_2.symm.trans hx367_2)
                injection ea_ with ea_ en_ ec_
                subst ea_
                subst ec_
                clear en_
                have p368 : 0 ≤ (x9_5 : Int) := of_decide_eq_true (by first | (with_reducible assumption) | assumption)
                have q368 : x9_5 < (l0.length : Int) := of_decide_eq_true (by first | (with_reducible assumption) | assumption)
                obtain ⟨ad368, A368_0, c368_0, e368, hx368_0, hl368_0, hi368_0⟩ := at_L1 HR0.out x9_5 p368 q368
                have hw368_0 := hx368_0
                cases e368
                replace hx368_0 := (HB.out.cell (World.block_lt_of_cell? w _ hx368_0)).trans hx368_0
                have HR368_0 := aZ hi368_0
                have HC368_0 := aZ hl368_0
                clear hi368_0 hl368_0
                replace p368 := eq_true p368
                replace q368 := eq_true q368
                have hcv58 := Kd.C_string (P := Try.prog) (A := A366_1) (c := c366_1) Try.underlying22 Try.underlying5 Try.underlying9 (by repeat (first | (with_reducible exact HR367_1.out) | (with_reducible refine Kd.C_alloc ?_ _) | (with_reducible refine Kd.C_drewN ?_ _) | (with_reducible refine Kd.C_drew ?_) | exact HR367_1.out))
                have hcv59 := Kd.C_string (P := Try.prog) (A := A368_0) (c := c368_0) Try.underlying22 Try.underlying5 Try.underlying9 (Kd.C_below HR368_0.out HB.out)
                have p369 : 0 ≤ (x9_5 : Int) := of_decide_eq_true (by first | (with_reducible assumption) | assumption)
                have q369 : x9_5 < (t351.length : Int) := of_decide_eq_true (by first | (with_reducible assumption) | assumption)
                obtain ⟨ad369, A369_1, c369_1, A369_2, c369_2, e369, hx369_0, hx369_1, hx369_2, hl369_1, hi369_1, hl369_2, hi369_2⟩ := at_T45 (Kd.R_reads' HO_5.out).2.2 x9_5 p369 q369
                obtain rfl : ad366 = ad369 := (by injection e369)
                obtain ⟨ce369, hce369, hMe369, hcc369⟩ := Kd.R_get HO_5.out z45 x9_5 p369 (by first | exact q369 | exact of_decide_eq_true (by first | (with_reducible assumption) | assumption) | (have e_ := (Kd.R_reads' HO_5.out).1; omega))
                obtain ⟨ve369_1, ve369_2, rfl, ge369_1, ge369_2⟩ := k45_openM hMe369
                have hv369_1 := hcc369 1 _ rfl
                rw [add_field _ _ 1 (by omega)] at hv369_1
                replace hv369_1 := Option.some.inj (hv369_1.symm.trans hx369_1)
                rw [hv369_1] at ge369_1
                have HL369_1 := aZ (show Kd.R (Kd.int .u8) 5 _ _ _ _ ((rd_T45 t351 x9_5).f1) from ge369_1)
                clear hv369_1 ge369_1
                have hv369_2 := hcc369 2 _ rfl
                rw [add_field _ _ 2 (by omega)] at hv369_2
                replace hv369_2 := Option.some.inj (hv369_2.symm.trans hx369_2)
                rw [hv369_2] at ge369_2
                have HL369_2 := aZ (show Kd.R k37 37 _ _ _ _ ((rd_T45 t351 x9_5).f2) from ge369_2)
                clear hv369_2 ge369_2
                clear hcc369 hce369
                have HR369_1 := aZ hi369_1
                have HC369_1 := aZ hl369_1
                clear hi369_1 hl369_1
                have HR369_2 := aZ hi369_2
                have HC369_2 := aZ hl369_2
                clear hi369_2 hl369_2
                replace p369 := eq_true p369
                replace q369 := eq_true q369
                refine start_ (n := 29) (S := fun w' => w'.cell? (ad366.add ((x9_5).toNat * 3)) = some (.int .i64 ((rd_T45 t351 x9_5).f0)) ∧ w'.cell? ⟨(ad366.add ((x9_5).toNat * 3)).block, (ad366.add ((x9_5).toNat * 3)).off + 1, none⟩ = some (.slice A366_1 ((rd_T45 t351 x9_5).f1).length c366_1) ∧ w'.cell? ⟨(ad366.add ((x9_5).toNat * 3)).block, (ad366.add ((x9_5).toNat * 3)).off + 2, none⟩ = some (.slice A366_2 ((rd_T45 t351 x9_5).f2).length c366_2) ∧ w'.cell? (ad366.add ((x9_5).toNat * 3)) = some (.int .i64 ((rd_T45 t351 x9_5).f0)) ∧ w'.cell? ⟨(ad366.add ((x9_5).toNat * 3)).block, (ad366.add ((x9_5).toNat * 3)).off + 1, none⟩ = some (.slice A366_1 ((rd_T45 t351 x9_5).f1).length c366_1) ∧ w'.cell? ⟨(ad366.add ((x9_5).toNat * 3)).block, (ad366.add ((x9_5).toNat * 3)).off + 2, none⟩ = some (.slice A366_2 ((rd_T45 t351 x9_5).f2).length c366_2) ∧ w'.cell? (ad368.add (x9_5).toNat) = some (.slice A368_0 (rd_L1 l0 x9_5).length c368_0) ∧ (convert 22 9 (.slice A366_1 ((rd_T45 t351 x9_5).f1).length c366_1)).run Try.prog w' = .ok (.string (strOfNums ((rd_T45 t351 x9_5).f1))) w' ∧ (convert 22 9 (.slice A368_0 (rd_L1 l0 x9_5).length c368_0)).run Try.prog w' = .ok (.string (strOfNums (rd_L1 l0 x9_5))) w' ∧ w'.cell? (ad366.add ((x9_5).toNat * 3)) = some (.int .i64 ((rd_T45 t351 x9_5).f0)) ∧ w'.cell? ⟨(ad366.add ((x9_5).toNat * 3)).block, (ad366.add ((x9_5).toNat * 3)).off + 1, none⟩ = some (.slice A369_1 ((rd_T45 t351 x9_5).f1).length c369_1) ∧ w'.cell? ⟨(ad366.add ((x9_5).toNat * 3)).block, (ad366.add ((x9_5).toNat * 3)).off + 2, none⟩ = some (.slice A369_2 ((rd_T45 t351 x9_5).f2).length c369_2)) (ds := []) Z1 (by kernel_rfl) rfl rfl ⟨hx366_0, hx366_1, hx366_2, hx367_0, hx367_1, hx367_2, ((HB.out.cell (World.block_lt_of_cell? w _ hw368_0)).trans hw368_0), (Kd.C_string (P := Try.prog) (A := A366_1) (c := c366_1) Try.underlying22 Try.underlying5 Try.underlying9 (by repeat (first | exact (by repeat (first | (with_reducible exact HR367_1.out) | (with_reducible refine Kd.C_alloc ?_ _) | (with_reducible refine Kd.C_drewN ?_ _) | (with_reducible refine Kd.C_drew ?_) | exact HR367_1.out)) | exact HR367_1.out | (with_reducible refine Kd.C_drew ?_) | (with_reducible refine Kd.C_drewN ?_ _) | (with_reducible refine Kd.C_alloc ?_ _)))), (Kd.C_string (P := Try.prog) (A := A368_0) (c := c368_0) Try.underlying22 Try.underlying5 Try.underlying9 (by repeat (first | exact (Kd.C_below HR368_0.out HB.out) | exact HR368_0.out | (with_reducible refine Kd.C_drew ?_) | (with_reducible refine Kd.C_drewN ?_ _) | (with_reducible refine Kd.C_alloc ?_ _)))), hx369_0, hx369_1, hx369_2⟩ (fun hHeld => ?_); refine with_tabW changeforgelaw3_DeltachainPackMatchesSpec.tab22 changeforgelaw3_DeltachainPackMatchesSpec.bits22 (fun HT_ HW_ => ?_)
                generalize wr.drew = w57 at HO_5 BK356 BK357 HB HL366_1 HL366_2 HL367_1 HL367_2 HL369_1 HL369_2 HR366_1 HR366_2 HR367_1 HR367_2 HR368_0 HR369_1 HR369_2 hx366_0 hx366_1 hx366_2 hx367_0 hx367_1 hx367_2 hx368_0 hx369_0 hx369_1 hx369_2 hHeld ⊢
                refine pu 0 78 Z2 HT_ rfl rfl (h := ?_)
                refine pu 1 79 Z3 HT_ rfl rfl (h := ?_)
                refine pu 2 80 Z4 HT_ rfl rfl (h := ?_)
                refine pu 3 81 Z5 HT_ rfl rfl (h := ?_)
                refine tk 4 82 Z6 HT_ HW_ rfl rfl hHeld (by rintro w' ⟨s0, s1, s2, s3, s4, s5, s6, s7, s8, s9, s10, s11⟩; go_simp; with_reducible rfl) (h := ?_)
                refine pu 5 83 Z7 HT_ rfl rfl (h := ?_)
                refine pu 6 84 Z8 HT_ rfl rfl (h := ?_)
                refine pu 7 85 Z9 HT_ rfl rfl (h := ?_)
                refine pu 8 86 Z10 HT_ rfl rfl (h := ?_)
                refine pu 9 87 Z11 HT_ rfl rfl (h := ?_)
                refine pu 10 88 Z12 HT_ rfl rfl (h := ?_)
                refine pu 13 91 Z13 HT_ rfl rfl (h := ?_)
                refine pu 14 92 Z14 HT_ rfl rfl (h := ?_)
                refine pu 15 93 Z15 HT_ rfl rfl (h := ?_)
                refine tk 11 89 Z16 HT_ HW_ rfl rfl hHeld (by rintro w' ⟨s0, s1, s2, s3, s4, s5, s6, s7, s8, s9, s10, s11⟩; go_simp; with_reducible rfl) (h := ?_)
                refine tk 12 90 Z17 HT_ HW_ rfl rfl hHeld (by rintro w' ⟨s0, s1, s2, s3, s4, s5, s6, s7, s8, s9, s10, s11⟩; go_simp; with_reducible rfl) (h := ?_)
                refine tk 16 94 Z18 HT_ HW_ rfl rfl hHeld (by rintro w' ⟨s0, s1, s2, s3, s4, s5, s6, s7, s8, s9, s10, s11⟩; go_simp; with_reducible rfl) (h := ?_)
                refine tk 17 95 Z19 HT_ HW_ rfl rfl hHeld (by rintro w' ⟨s0, s1, s2, s3, s4, s5, s6, s7, s8, s9, s10, s11⟩; go_simp; with_reducible rfl) (h := ?_)
                refine pu 18 96 Z20 HT_ rfl rfl (h := ?_)
                refine pu 19 97 Z21 HT_ rfl rfl (h := ?_)
                refine pu 20 98 Z22 HT_ rfl rfl (h := ?_)
                refine pu 21 99 Z23 HT_ rfl rfl (h := ?_)
                refine pu 22 100 Z24 HT_ rfl rfl (h := ?_)
                refine pu 23 101 Z25 HT_ rfl rfl (h := ?_)
                refine pu 24 102 Z26 HT_ rfl rfl (h := ?_)
                refine tk 25 103 Z27 HT_ HW_ rfl rfl hHeld (by rintro w' ⟨s0, s1, s2, s3, s4, s5, s6, s7, s8, s9, s10, s11⟩; go_simp; with_reducible rfl) (h := ?_)
                refine pu 26 104 Z28 HT_ rfl rfl (h := ?_)
                refine pu 27 105 Z29 HT_ rfl rfl (h := ?_)
                refine pu 28 106 Z30 HT_ rfl rfl (h := ?_)
                refine done_ (done_of HT_.out (by kernel_rfl)) ?_
                try go_wp2
                go_ret
                exact ⟨by first | rfl | (simp [errW_none, errW_some] <;> rfl) | (simp [*, errW_none, errW_some] <;> rfl), by repeat (first | (with_reducible first | exact HB.out | apply lA | apply lN | apply lD | refine lS ?_ GE356.out | refine lS ?_ GE357.out) | exact HB.out)⟩
              rw [if_neg c55] at H
              have c55b0 : decide (0 < (((rd_T45 t351 x9_5).f2).length : Int)) = false := decide_eq_false c55
              have c55b1 : decide (0 < ((rd_T45 t351 x9_5).f2).length) = false := decide_eq_false (by omega)
              clear c55
              have H' := aZ H
              clear H
              obtain ⟨Ao61, co61, eo61⟩ := Kd.R_slice HO_5.out
              subst eo61
              try go_wp2
              have n0_ := aZ (Kd.rD HO_5.out)
              have n1_ := aZ (bD BK356.out)
              have n2_ := aZ (bD BK357.out)
              have n3_ := aZ (lD HB.out)
              clear HO_5
              clear BK356
              clear BK357
              clear HB
              have HO_5 := n0_
              have BK356 := n1_
              have BK357 := n2_
              have HB := n3_
              clear n0_ n1_ n2_ n3_
              have p366 : 0 ≤ (x9_5 : Int) := of_decide_eq_true (by first | (with_reducible assumption) | assumption)
              have q366 : x9_5 < (t351.length : Int) := of_decide_eq_true (by first | (with_reducible assumption) | assumption)
              obtain ⟨ad366, A366_1, c366_1, A366_2, c366_2, e366, hx366_0, hx366_1, hx366_2, hl366_1, hi366_1, hl366_2, hi366_2⟩ := at_T45 (Kd.R_reads' HO_5.out).2.2 x9_5 p366 q366
              cases e366
              obtain ⟨ce366, hce366, hMe366, hcc366⟩ := Kd.R_get HO_5.out z45 x9_5 p366 (by first | exact q366 | exact of_decide_eq_true (by first | (with_reducible assumption) | assumption) | (have e_ := (Kd.R_reads' HO_5.out).1; omega))
              obtain ⟨ve366_1, ve366_2, rfl, ge366_1, ge366_2⟩ := k45_openM hMe366
              have hv366_1 := hcc366 1 _ rfl
              rw [add_field _ _ 1 (by omega)] at hv366_1
              replace hv366_1 := Option.some.inj (hv366_1.symm.trans hx366_1)
              rw [hv366_1] at ge366_1
              have HL366_1 := aZ (show Kd.R (Kd.int .u8) 5 _ _ _ _ ((rd_T45 t351 x9_5).f1) from ge366_1)
              clear hv366_1 ge366_1
              have hv366_2 := hcc366 2 _ rfl
              rw [add_field _ _ 2 (by omega)] at hv366_2
              replace hv366_2 := Option.some.inj (hv366_2.symm.trans hx366_2)
              rw [hv366_2] at ge366_2
              have HL366_2 := aZ (show Kd.R k37 37 _ _ _ _ ((rd_T45 t351 x9_5).f2) from ge366_2)
              clear hv366_2 ge366_2
              clear hcc366 hce366
              have HR366_1 := aZ hi366_1
              have HC366_1 := aZ hl366_1
              clear hi366_1 hl366_1
              have HR366_2 := aZ hi366_2
              have HC366_2 := aZ hl366_2
              clear hi366_2 hl366_2
              replace p366 := eq_true p366
              replace q366 := eq_true q366
              have p367 : 0 ≤ (x9_5 : Int) := of_decide_eq_true (by first | (with_reducible assumption) | assumption)
              have q367 : x9_5 < (t351.length : Int) := of_decide_eq_true (by first | (with_reducible assumption) | assumption)
              obtain ⟨ad367, A367_1, c367_1, A367_2, c367_2, e367, hx367_0, hx367_1, hx367_2, hl367_1, hi367_1, hl367_2, hi367_2⟩ := at_T45 (Kd.R_reads' HO_5.out).2.2 x9_5 p367 q367
              obtain rfl : ad366 = ad367 := (by injection e367)
              obtain ⟨ce367, hce367, hMe367, hcc367⟩ := Kd.R_get HO_5.out z45 x9_5 p367 (by first | exact q367 | exact of_decide_eq_true (by first | (with_reducible assumption) | assumption) | (have e_ := (Kd.R_reads' HO_5.out).1; omega))
              obtain ⟨ve367_1, ve367_2, rfl, ge367_1, ge367_2⟩ := k45_openM hMe367
              have hv367_1 := hcc367 1 _ rfl
              rw [add_field _ _ 1 (by omega)] at hv367_1
              replace hv367_1 := Option.some.inj (hv367_1.symm.trans hx367_1)
              rw [hv367_1] at ge367_1
              have HL367_1 := aZ (show Kd.R (Kd.int .u8) 5 _ _ _ _ ((rd_T45 t351 x9_5).f1) from ge367_1)
              clear hv367_1 ge367_1
              have hv367_2 := hcc367 2 _ rfl
              rw [add_field _ _ 2 (by omega)] at hv367_2
              replace hv367_2 := Option.some.inj (hv367_2.symm.trans hx367_2)
              rw [hv367_2] at ge367_2
              have HL367_2 := aZ (show Kd.R k37 37 _ _ _ _ ((rd_T45 t351 x9_5).f2) from ge367_2)
              clear hv367_2 ge367_2
              clear hcc367 hce367
              have HR367_1 := aZ hi367_1
              have HC367_1 := aZ hl367_1
              clear hi367_1 hl367_1
              have HR367_2 := aZ hi367_2
              have HC367_2 := aZ hl367_2
              clear hi367_2 hl367_2
              replace p367 := eq_true p367
              replace q367 := eq_true q367
              have ea_ := Option.some.inj (hx366_1.symm.trans hx367_1)
              injection ea_ with ea_ en_ ec_
              subst ea_
              subst ec_
              clear en_
              have ea_ := Option.some.inj (hx366_2.symm.trans hx367_2)
              injection ea_ with ea_ en_ ec_
              subst ea_
              subst ec_
              clear en_
              have p368 : 0 ≤ (x9_5 : Int) := of_decide_eq_true (by first | (with_reducible assumption) | assumption)
              have q368 : x9_5 < (l0.length : Int) := of_decide_eq_true (by first | (with_reducible assumption) | assumption)
              obtain ⟨ad368, A368_0, c368_0, e368, hx368_0, hl368_0, hi368_0⟩ := at_L1 HR0.out x9_5 p368 q368
              have hw368_0 := hx368_0
              cases e368
              replace hx368_0 := (HB.out.cell (World.block_lt_of_cell? w _ hx368_0)).trans hx368_0
              have HR368_0 := aZ hi368_0
              have HC368_0 := aZ hl368_0
              clear hi368_0 hl368_0
              replace p368 := eq_true p368
              replace q368 := eq_true q368
              have hcv63 := Kd.C_string (P := Try.prog) (A := A366_1) (c := c366_1) Try.underlying22 Try.underlying5 Try.underlying9 (by repeat (first | (with_reducible exact HR367_1.out) | (with_reducible refine Kd.C_alloc ?_ _) | (with_reducible refine Kd.C_drewN ?_ _) | (with_reducible refine Kd.C_drew ?_) | exact HR367_1.out))
              have hcv64 := Kd.C_string (P := Try.prog) (A := A368_0) (c := c368_0) Try.underlying22 Try.underlying5 Try.underlying9 (Kd.C_below HR368_0.out HB.out)
              have p369 : 0 ≤ (x9_5 : Int) := of_decide_eq_true (by first | (with_reducible assumption) | assumption)
              have q369 : x9_5 < (t351.length : Int) := of_decide_eq_true (by first | (with_reducible assumption) | assumption)
              obtain ⟨ad369, A369_1, c369_1, A369_2, c369_2, e369, hx369_0, hx369_1, hx369_2, hl369_1, hi369_1, hl369_2, hi369_2⟩ := at_T45 (Kd.R_reads' HO_5.out).2.2 x9_5 p369 q369
              obtain rfl : ad366 = ad369 := (by injection e369)
              obtain ⟨ce369, hce369, hMe369, hcc369⟩ := Kd.R_get HO_5.out z45 x9_5 p369 (by first | exact q369 | exact of_decide_eq_true (by first | (with_reducible assumption) | assumption) | (have e_ := (Kd.R_reads' HO_5.out).1; omega))
              obtain ⟨ve369_1, ve369_2, rfl, ge369_1, ge369_2⟩ := k45_openM hMe369
              have hv369_1 := hcc369 1 _ rfl
              rw [add_field _ _ 1 (by omega)] at hv369_1
              replace hv369_1 := Option.some.inj (hv369_1.symm.trans hx369_1)
              rw [hv369_1] at ge369_1
              have HL369_1 := aZ (show Kd.R (Kd.int .u8) 5 _ _ _ _ ((rd_T45 t351 x9_5).f1) from ge369_1)
              clear hv369_1 ge369_1
              have hv369_2 := hcc369 2 _ rfl
              rw [add_field _ _ 2 (by omega)] at hv369_2
              replace hv369_2 := Option.some.inj (hv369_2.symm.trans hx369_2)
              rw [hv369_2] at ge369_2
              have HL369_2 := aZ (show Kd.R k37 37 _ _ _ _ ((rd_T45 t351 x9_5).f2) from ge369_2)
              clear hv369_2 ge369_2
              clear hcc369 hce369
              have HR369_1 := aZ hi369_1
              have HC369_1 := aZ hl369_1
              clear hi369_1 hl369_1
              have HR369_2 := aZ hi369_2
              have HC369_2 := aZ hl369_2
              clear hi369_2 hl369_2
              replace p369 := eq_true p369
              replace q369 := eq_true q369
              refine start_ (n := 29) (S := fun w' => w'.cell? (ad366.add ((x9_5).toNat * 3)) = some (.int .i64 ((rd_T45 t351 x9_5).f0)) ∧ w'.cell? ⟨(ad366.add ((x9_5).toNat * 3)).block, (ad366.add ((x9_5).toNat * 3)).off + 1, none⟩ = some (.slice A366_1 ((rd_T45 t351 x9_5).f1).length c366_1) ∧ w'.cell? ⟨(ad366.add ((x9_5).toNat * 3)).block, (ad366.add ((x9_5).toNat * 3)).off + 2, none⟩ = some (.slice A366_2 ((rd_T45 t351 x9_5).f2).length c366_2) ∧ w'.cell? (ad366.add ((x9_5).toNat * 3)) = some (.int .i64 ((rd_T45 t351 x9_5).f0)) ∧ w'.cell? ⟨(ad366.add ((x9_5).toNat * 3)).block, (ad366.add ((x9_5).toNat * 3)).off + 1, none⟩ = some (.slice A366_1 ((rd_T45 t351 x9_5).f1).length c366_1) ∧ w'.cell? ⟨(ad366.add ((x9_5).toNat * 3)).block, (ad366.add ((x9_5).toNat * 3)).off + 2, none⟩ = some (.slice A366_2 ((rd_T45 t351 x9_5).f2).length c366_2) ∧ w'.cell? (ad368.add (x9_5).toNat) = some (.slice A368_0 (rd_L1 l0 x9_5).length c368_0) ∧ (convert 22 9 (.slice A366_1 ((rd_T45 t351 x9_5).f1).length c366_1)).run Try.prog w' = .ok (.string (strOfNums ((rd_T45 t351 x9_5).f1))) w' ∧ (convert 22 9 (.slice A368_0 (rd_L1 l0 x9_5).length c368_0)).run Try.prog w' = .ok (.string (strOfNums (rd_L1 l0 x9_5))) w' ∧ w'.cell? (ad366.add ((x9_5).toNat * 3)) = some (.int .i64 ((rd_T45 t351 x9_5).f0)) ∧ w'.cell? ⟨(ad366.add ((x9_5).toNat * 3)).block, (ad366.add ((x9_5).toNat * 3)).off + 1, none⟩ = some (.slice A369_1 ((rd_T45 t351 x9_5).f1).length c369_1) ∧ w'.cell? ⟨(ad366.add ((x9_5).toNat * 3)).block, (ad366.add ((x9_5).toNat * 3)).off + 2, none⟩ = some (.slice A369_2 ((rd_T45 t351 x9_5).f2).length c369_2)) (ds := []) Z1 (by kernel_rfl) rfl rfl ⟨hx366_0, hx366_1, hx366_2, hx367_0, hx367_1, hx367_2, ((HB.out.cell (World.block_lt_of_cell? w _ hw368_0)).trans hw368_0), (Kd.C_string (P := Try.prog) (A := A366_1) (c := c366_1) Try.underlying22 Try.underlying5 Try.underlying9 (by repeat (first | exact (by repeat (first | (with_reducible exact HR367_1.out) | (with_reducible refine Kd.C_alloc ?_ _) | (with_reducible refine Kd.C_drewN ?_ _) | (with_reducible refine Kd.C_drew ?_) | exact HR367_1.out)) | exact HR367_1.out | (with_reducible refine Kd.C_drew ?_) | (with_reducible refine Kd.C_drewN ?_ _) | (with_reducible refine Kd.C_alloc ?_ _)))), (Kd.C_string (P := Try.prog) (A := A368_0) (c := c368_0) Try.underlying22 Try.underlying5 Try.underlying9 (by repeat (first | exact (Kd.C_below HR368_0.out HB.out) | exact HR368_0.out | (with_reducible refine Kd.C_drew ?_) | (with_reducible refine Kd.C_drewN ?_ _) | (with_reducible refine Kd.C_alloc ?_ _)))), hx369_0, hx369_1, hx369_2⟩ (fun hHeld => ?_); refine with_tabW changeforgelaw3_DeltachainPackMatchesSpec.tab22 changeforgelaw3_DeltachainPackMatchesSpec.bits22 (fun HT_ HW_ => ?_)
              generalize wr.drew = w62 at HO_5 BK356 BK357 HB HL366_1 HL366_2 HL367_1 HL367_2 HL369_1 HL369_2 HR366_1 HR366_2 HR367_1 HR367_2 HR368_0 HR369_1 HR369_2 hx366_0 hx366_1 hx366_2 hx367_0 hx367_1 hx367_2 hx368_0 hx369_0 hx369_1 hx369_2 hHeld ⊢
              refine pu 0 78 Z2 HT_ rfl rfl (h := ?_)
              refine pu 1 79 Z3 HT_ rfl rfl (h := ?_)
              refine pu 2 80 Z4 HT_ rfl rfl (h := ?_)
              refine pu 3 81 Z5 HT_ rfl rfl (h := ?_)
              refine tk 4 82 Z6 HT_ HW_ rfl rfl hHeld (by rintro w' ⟨s0, s1, s2, s3, s4, s5, s6, s7, s8, s9, s10, s11⟩; go_simp; with_reducible rfl) (h := ?_)
              refine pu 5 83 Z7 HT_ rfl rfl (h := ?_)
              refine pu 6 84 Z8 HT_ rfl rfl (h := ?_)
              refine pu 7 85 Z9 HT_ rfl rfl (h := ?_)
              refine pu 8 86 Z10 HT_ rfl rfl (h := ?_)
              refine pu 9 87 Z11 HT_ rfl rfl (h := ?_)
              refine pu 10 88 Z12 HT_ rfl rfl (h := ?_)
              refine pu 13 91 Z13 HT_ rfl rfl (h := ?_)
              refine pu 14 92 Z14 HT_ rfl rfl (h := ?_)
              refine pu 15 93 Z15 HT_ rfl rfl (h := ?_)
              refine tk 11 89 Z16 HT_ HW_ rfl rfl hHeld (by rintro w' ⟨s0, s1, s2, s3, s4, s5, s6, s7, s8, s9, s10, s11⟩; go_simp; with_reducible rfl) (h := ?_)
              refine tk 12 90 Z17 HT_ HW_ rfl rfl hHeld (by rintro w' ⟨s0, s1, s2, s3, s4, s5, s6, s7, s8, s9, s10, s11⟩; go_simp; with_reducible rfl) (h := ?_)
              refine tk 16 94 Z18 HT_ HW_ rfl rfl hHeld (by rintro w' ⟨s0, s1, s2, s3, s4, s5, s6, s7, s8, s9, s10, s11⟩; go_simp; with_reducible rfl) (h := ?_)
              refine tk 17 95 Z19 HT_ HW_ rfl rfl hHeld (by rintro w' ⟨s0, s1, s2, s3, s4, s5, s6, s7, s8, s9, s10, s11⟩; go_simp; with_reducible rfl) (h := ?_)
              refine pu 18 96 Z20 HT_ rfl rfl (h := ?_)
              refine pu 19 97 Z21 HT_ rfl rfl (h := ?_)
              refine pu 20 98 Z22 HT_ rfl rfl (h := ?_)
              refine pu 21 99 Z23 HT_ rfl rfl (h := ?_)
              refine pu 22 100 Z24 HT_ rfl rfl (h := ?_)
              refine pu 23 101 Z25 HT_ rfl rfl (h := ?_)
              refine pu 24 102 Z26 HT_ rfl rfl (h := ?_)
              refine tk 25 103 Z27 HT_ HW_ rfl rfl hHeld (by rintro w' ⟨s0, s1, s2, s3, s4, s5, s6, s7, s8, s9, s10, s11⟩; go_simp; with_reducible rfl) (h := ?_)
              refine pu 26 104 Z28 HT_ rfl rfl (h := ?_)
              refine pu 27 105 Z29 HT_ rfl rfl (h := ?_)
              refine pu 28 106 Z30 HT_ rfl rfl (h := ?_)
              refine done_ (done_of HT_.out (by kernel_rfl)) ?_
              try go_wp2
              go_roundg k5
              case measure => have := HJ5.out; have := HK2.out; have := HJ24.out; have := HJ37.out; have := HK5.out; omega
              case rel => exact ⟨(wrap64 (x9_5 + 1)), (by first | rfl | (simp; done) | (simp [*]; done)), H', ⟨by have := HJ5.out; have := HK2.out; have := HJ24.out; have := HJ37.out; have := HK5.out; omega⟩, ⟨by (with_reducible repeat (first | apply Kd.rA | apply Kd.rN | apply Kd.rD)); exact HO_5.out⟩, ⟨by (with_reducible repeat (first | refine bN ?_ _ | refine bD ?_ | refine bA ?_ _)); exact BK356.out⟩, ⟨by (with_reducible repeat (first | refine bN ?_ _ | refine bD ?_ | refine bA ?_ _)); exact BK357.out⟩, ⟨by repeat (first | (with_reducible first | exact HB.out | apply lA | apply lN | apply lD | refine lS ?_ GE356.out | refine lS ?_ GE357.out) | exact HB.out)⟩⟩
            rw [if_neg c50] at H
            have c50b0 : ((Int.tmod x9_5 (wrap64 (a1 + 1))) == 0) = false := beq_eq_false_iff_ne.mpr c50
            have c50b1 : ((Int.tmod x9_5 (wrap64 (a1 + 1))) != 0) = true := bne_iff_ne.mpr c50
            by_cases c73 : 0 ≤ x9_5
            rotate_left
            · rw [if_neg c73] at H
              exact absurd H (by simp)
            rw [if_pos c73] at H
            have c73b0 : decide (0 ≤ x9_5) = true := decide_eq_true c73
            clear c73
            by_cases c74 : ((rd_T45 t351 x9_5).f0) = (wrap64 (x9_5 - 1))
            rotate_left
            · rw [if_neg c74] at H
              have c74b0 : (((rd_T45 t351 x9_5).f0) == (wrap64 (x9_5 - 1))) = false := beq_eq_false_iff_ne.mpr c74
              have c74b1 : (((rd_T45 t351 x9_5).f0) != (wrap64 (x9_5 - 1))) = true := bne_iff_ne.mpr c74
              obtain rfl := Option.some.inj H
              obtain ⟨Ao93, co93, eo93⟩ := Kd.R_slice HO_5.out
              subst eo93
              try go_wp2
              have n0_ := aZ (Kd.rD HO_5.out)
              have n1_ := aZ (bD BK356.out)
              have n2_ := aZ (bD BK357.out)
              have n3_ := aZ (lD HB.out)
              clear HO_5
              clear BK356
              clear BK357
              clear HB
              have HO_5 := n0_
              have BK356 := n1_
              have BK357 := n2_
              have HB := n3_
              clear n0_ n1_ n2_ n3_
              have p370 : 0 ≤ (x9_5 : Int) := of_decide_eq_true (by first | (with_reducible assumption) | assumption)
              have q370 : x9_5 < (t351.length : Int) := of_decide_eq_true (by first | (with_reducible assumption) | assumption)
              obtain ⟨ad370, A370_1, c370_1, A370_2, c370_2, e370, hx370_0, hx370_1, hx370_2, hl370_1, hi370_1, hl370_2, hi370_2⟩ := at_T45 (Kd.R_reads' HO_5.out).2.2 x9_5 p370 q370
              cases e370
              obtain ⟨ce370, hce370, hMe370, hcc370⟩ := Kd.R_get HO_5.out z45 x9_5 p370 (by first | exact q370 | exact of_decide_eq_true (by first | (with_reducible assumption) | assumption) | (have e_ := (Kd.R_reads' HO_5.out).1; omega))
              obtain ⟨ve370_1, ve370_2, rfl, ge370_1, ge370_2⟩ := k45_openM hMe370
              have hv370_1 := hcc370 1 _ rfl
              rw [add_field _ _ 1 (by omega)] at hv370_1
              replace hv370_1 := Option.some.inj (hv370_1.symm.trans hx370_1)
              rw [hv370_1] at ge370_1
              have HL370_1 := aZ (show Kd.R (Kd.int .u8) 5 _ _ _ _ ((rd_T45 t351 x9_5).f1) from ge370_1)
              clear hv370_1 ge370_1
              have hv370_2 := hcc370 2 _ rfl
              rw [add_field _ _ 2 (by omega)] at hv370_2
              replace hv370_2 := Option.some.inj (hv370_2.symm.trans hx370_2)
              rw [hv370_2] at ge370_2
              have HL370_2 := aZ (show Kd.R k37 37 _ _ _ _ ((rd_T45 t351 x9_5).f2) from ge370_2)
              clear hv370_2 ge370_2
              clear hcc370 hce370
              have HR370_1 := aZ hi370_1
              have HC370_1 := aZ hl370_1
              clear hi370_1 hl370_1
              have HR370_2 := aZ hi370_2
              have HC370_2 := aZ hl370_2
              clear hi370_2 hl370_2
              replace p370 := eq_true p370
              replace q370 := eq_true q370
              refine start_ (n := 36) (S := fun w' => w'.cell? (ad370.add ((x9_5).toNat * 3)) = some (.int .i64 ((rd_T45 t351 x9_5).f0)) ∧ w'.cell? ⟨(ad370.add ((x9_5).toNat * 3)).block, (ad370.add ((x9_5).toNat * 3)).off + 1, none⟩ = some (.slice A370_1 ((rd_T45 t351 x9_5).f1).length c370_1) ∧ w'.cell? ⟨(ad370.add ((x9_5).toNat * 3)).block, (ad370.add ((x9_5).toNat * 3)).off + 2, none⟩ = some (.slice A370_2 ((rd_T45 t351 x9_5).f2).length c370_2)) (ds := []) Z35 (by kernel_rfl) rfl rfl ⟨hx370_0, hx370_1, hx370_2⟩ (fun hHeld => ?_); refine with_tabW changeforgelaw3_DeltachainPackMatchesSpec.tab24 changeforgelaw3_DeltachainPackMatchesSpec.bits24 (fun HT_ HW_ => ?_)
              generalize wr.drew = w94 at HO_5 BK356 BK357 HB HL370_1 HL370_2 HR370_1 HR370_2 hx370_0 hx370_1 hx370_2 hHeld ⊢
              refine pu 0 107 Z36 HT_ rfl rfl (h := ?_)
              refine pu 1 108 Z37 HT_ rfl rfl (h := ?_)
              refine pu 2 109 Z38 HT_ rfl rfl (h := ?_)
              refine pu 3 110 Z39 HT_ rfl rfl (h := ?_)
              refine pu 5 112 Z40 HT_ rfl rfl (h := ?_)
              refine pu 6 113 Z41 HT_ rfl rfl (h := ?_)
              refine tk 4 111 Z42 HT_ HW_ rfl rfl hHeld (by rintro w' ⟨s0, s1, s2⟩; go_simp; with_reducible rfl) (h := ?_)
              refine pu 7 114 Z43 HT_ rfl rfl (h := ?_)
              refine pu 8 115 Z44 HT_ rfl rfl (h := ?_)
              refine pv 9 116 Z45 HT_ rfl rfl (h := ?_)
              refine pv 10 117 Z46 HT_ rfl rfl (h := ?_)
              refine pv 11 118 Z47 HT_ rfl rfl (h := ?_)
              refine pv 12 119 Z48 HT_ rfl rfl (h := ?_)
              refine pv 13 120 Z49 HT_ rfl rfl (h := ?_)
              refine pv 14 121 Z50 HT_ rfl rfl (h := ?_)
              refine pv 15 122 Z51 HT_ rfl rfl (h := ?_)
              refine pu 16 123 Z52 HT_ rfl rfl (h := ?_)
              refine pu 17 124 Z53 HT_ rfl rfl (h := ?_)
              refine pv 18 125 Z54 HT_ rfl rfl (h := ?_)
              refine pv 19 126 Z55 HT_ rfl rfl (h := ?_)
              refine pv 20 127 Z56 HT_ rfl rfl (h := ?_)
              refine pv 21 128 Z57 HT_ rfl rfl (h := ?_)
              refine pv 22 129 Z58 HT_ rfl rfl (h := ?_)
              refine pv 23 130 Z59 HT_ rfl rfl (h := ?_)
              refine pv 24 131 Z60 HT_ rfl rfl (h := ?_)
              refine pv 25 132 Z61 HT_ rfl rfl (h := ?_)
              refine pv 26 133 Z62 HT_ rfl rfl (h := ?_)
              refine pv 27 134 Z63 HT_ rfl rfl (h := ?_)
              refine pv 28 135 Z64 HT_ rfl rfl (h := ?_)
              refine pv 29 136 Z65 HT_ rfl rfl (h := ?_)
              refine pv 30 137 Z66 HT_ rfl rfl (h := ?_)
              refine pv 31 138 Z67 HT_ rfl rfl (h := ?_)
              refine pv 32 139 Z68 HT_ rfl rfl (h := ?_)
              refine pv 33 140 Z69 HT_ rfl rfl (h := ?_)
              refine pv 34 141 Z70 HT_ rfl rfl (h := ?_)
              refine pu 35 142 Z71 HT_ rfl rfl (h := ?_)
              refine done_ (done_of HT_.out (by kernel_rfl)) ?_
              try go_wp2
              go_ret
              exact ⟨by first | rfl | (simp [errW_none, errW_some] <;> rfl) | (simp [*, errW_none, errW_some] <;> rfl), by repeat (first | (with_reducible first | exact HB.out | apply lA | apply lN | apply lD | refine lS ?_ GE356.out | refine lS ?_ GE357.out) | exact HB.out)⟩
            rw [if_pos c74] at H
            have c74b0 : (((rd_T45 t351 x9_5).f0) == (wrap64 (x9_5 - 1))) = true := beq_iff_eq.mpr c74
            have c74b1 : (((rd_T45 t351 x9_5).f0) != (wrap64 (x9_5 - 1))) = false := bne_eq_false_iff_eq.mpr c74
            clear c74
            by_cases c75 : (((rd_T45 t351 x9_5).f1).length : Int) > 0
            · rw [if_pos c75] at H
              have c75b0 : decide (0 < (((rd_T45 t351 x9_5).f1).length : Int)) = true := decide_eq_true c75
              have c75b1 : decide (0 < ((rd_T45 t351 x9_5).f1).length) = true := decide_eq_true (by omega)
              clear c75
              obtain rfl := Option.some.inj H
              obtain ⟨Ao76, co76, eo76⟩ := Kd.R_slice HO_5.out
              subst eo76
              try go_wp2
              have n0_ := aZ (Kd.rD HO_5.out)
              have n1_ := aZ (bD BK356.out)
              have n2_ := aZ (bD BK357.out)
              have n3_ := aZ (lD HB.out)
              clear HO_5
              clear BK356
              clear BK357
              clear HB
              have HO_5 := n0_
              have BK356 := n1_
              have BK357 := n2_
              have HB := n3_
              clear n0_ n1_ n2_ n3_
              have p370 : 0 ≤ (x9_5 : Int) := of_decide_eq_true (by first | (with_reducible assumption) | assumption)
              have q370 : x9_5 < (t351.length : Int) := of_decide_eq_true (by first | (with_reducible assumption) | assumption)
              obtain ⟨ad370, A370_1, c370_1, A370_2, c370_2, e370, hx370_0, hx370_1, hx370_2, hl370_1, hi370_1, hl370_2, hi370_2⟩ := at_T45 (Kd.R_reads' HO_5.out).2.2 x9_5 p370 q370
              cases e370
              obtain ⟨ce370, hce370, hMe370, hcc370⟩ := Kd.R_get HO_5.out z45 x9_5 p370 (by first | exact q370 | exact of_decide_eq_true (by first | (with_reducible assumption) | assumption) | (have e_ := (Kd.R_reads' HO_5.out).1; omega))
              obtain ⟨ve370_1, ve370_2, rfl, ge370_1, ge370_2⟩ := k45_openM hMe370
              have hv370_1 := hcc370 1 _ rfl
              rw [add_field _ _ 1 (by omega)] at hv370_1
              replace hv370_1 := Option.some.inj (hv370_1.symm.trans hx370_1)
              rw [hv370_1] at ge370_1
              have HL370_1 := aZ (show Kd.R (Kd.int .u8) 5 _ _ _ _ ((rd_T45 t351 x9_5).f1) from ge370_1)
              clear hv370_1 ge370_1
              have hv370_2 := hcc370 2 _ rfl
              rw [add_field _ _ 2 (by omega)] at hv370_2
              replace hv370_2 := Option.some.inj (hv370_2.symm.trans hx370_2)
              rw [hv370_2] at ge370_2
              have HL370_2 := aZ (show Kd.R k37 37 _ _ _ _ ((rd_T45 t351 x9_5).f2) from ge370_2)
              clear hv370_2 ge370_2
              clear hcc370 hce370
              have HR370_1 := aZ hi370_1
              have HC370_1 := aZ hl370_1
              clear hi370_1 hl370_1
              have HR370_2 := aZ hi370_2
              have HC370_2 := aZ hl370_2
              clear hi370_2 hl370_2
              replace p370 := eq_true p370
              replace q370 := eq_true q370
              have p371 : 0 ≤ (x9_5 : Int) := of_decide_eq_true (by first | (with_reducible assumption) | assumption)
              have q371 : x9_5 < (t351.length : Int) := of_decide_eq_true (by first | (with_reducible assumption) | assumption)
              obtain ⟨ad371, A371_1, c371_1, A371_2, c371_2, e371, hx371_0, hx371_1, hx371_2, hl371_1, hi371_1, hl371_2, hi371_2⟩ := at_T45 (Kd.R_reads' HO_5.out).2.2 x9_5 p371 q371
              obtain rfl : ad370 = ad371 := (by injection e371)
              obtain ⟨ce371, hce371, hMe371, hcc371⟩ := Kd.R_get HO_5.out z45 x9_5 p371 (by first | exact q371 | exact of_decide_eq_true (by first | (with_reducible assumption) | assumption) | (have e_ := (Kd.R_reads' HO_5.out).1; omega))
              obtain ⟨ve371_1, ve371_2, rfl, ge371_1, ge371_2⟩ := k45_openM hMe371
              have hv371_1 := hcc371 1 _ rfl
              rw [add_field _ _ 1 (by omega)] at hv371_1
              replace hv371_1 := Option.some.inj (hv371_1.symm.trans hx371_1)
              rw [hv371_1] at ge371_1
              have HL371_1 := aZ (show Kd.R (Kd.int .u8) 5 _ _ _ _ ((rd_T45 t351 x9_5).f1) from ge371_1)
              clear hv371_1 ge371_1
              have hv371_2 := hcc371 2 _ rfl
              rw [add_field _ _ 2 (by omega)] at hv371_2
              replace hv371_2 := Option.some.inj (hv371_2.symm.trans hx371_2)
              rw [hv371_2] at ge371_2
              have HL371_2 := aZ (show Kd.R k37 37 _ _ _ _ ((rd_T45 t351 x9_5).f2) from ge371_2)
              clear hv371_2 ge371_2
              clear hcc371 hce371
              have HR371_1 := aZ hi371_1
              have HC371_1 := aZ hl371_1
              clear hi371_1 hl371_1
              have HR371_2 := aZ hi371_2
              have HC371_2 := aZ hl371_2
              clear hi371_2 hl371_2
              replace p371 := eq_true p371
              replace q371 := eq_true q371
              have ea_ := Option.some.inj (hx370_1.symm.trans hx371_1)
              injection ea_ with ea_ en_ ec_
              subst ea_
              subst ec_
              clear en_
              have ea_ := Option.some.inj (hx370_2.symm.trans hx371_2)
              injection ea_ with ea_ en_ ec_
              subst ea_
              subst ec_
              clear en_
              refine start_ (n := 36) (S := fun w' => w'.cell? (ad370.add ((x9_5).toNat * 3)) = some (.int .i64 ((rd_T45 t351 x9_5).f0)) ∧ w'.cell? ⟨(ad370.add ((x9_5).toNat * 3)).block, (ad370.add ((x9_5).toNat * 3)).off + 1, none⟩ = some (.slice A370_1 ((rd_T45 t351 x9_5).f1).length c370_1) ∧ w'.cell? ⟨(ad370.add ((x9_5).toNat * 3)).block, (ad370.add ((x9_5).toNat * 3)).off + 2, none⟩ = some (.slice A370_2 ((rd_T45 t351 x9_5).f2).length c370_2) ∧ w'.cell? (ad370.add ((x9_5).toNat * 3)) = some (.int .i64 ((rd_T45 t351 x9_5).f0)) ∧ w'.cell? ⟨(ad370.add ((x9_5).toNat * 3)).block, (ad370.add ((x9_5).toNat * 3)).off + 1, none⟩ = some (.slice A370_1 ((rd_T45 t351 x9_5).f1).length c370_1) ∧ w'.cell? ⟨(ad370.add ((x9_5).toNat * 3)).block, (ad370.add ((x9_5).toNat * 3)).off + 2, none⟩ = some (.slice A370_2 ((rd_T45 t351 x9_5).f2).length c370_2)) (ds := []) Z35 (by kernel_rfl) rfl rfl ⟨hx370_0, hx370_1, hx370_2, hx371_0, hx371_1, hx371_2⟩ (fun hHeld => ?_); refine with_tabW changeforgelaw3_DeltachainPackMatchesSpec.tab24 changeforgelaw3_DeltachainPackMatchesSpec.bits24 (fun HT_ HW_ => ?_)
              generalize wr.drew = w77 at HO_5 BK356 BK357 HB HL370_1 HL370_2 HL371_1 HL371_2 HR370_1 HR370_2 HR371_1 HR371_2 hx370_0 hx370_1 hx370_2 hx371_0 hx371_1 hx371_2 hHeld ⊢
              refine pu 0 107 Z36 HT_ rfl rfl (h := ?_)
              refine pu 1 108 Z37 HT_ rfl rfl (h := ?_)
              refine pu 2 109 Z38 HT_ rfl rfl (h := ?_)
              refine pu 3 110 Z39 HT_ rfl rfl (h := ?_)
              refine pu 5 112 Z40 HT_ rfl rfl (h := ?_)
              refine pu 6 113 Z41 HT_ rfl rfl (h := ?_)
              refine tk 4 111 Z42 HT_ HW_ rfl rfl hHeld (by rintro w' ⟨s0, s1, s2, s3, s4, s5⟩; go_simp; with_reducible rfl) (h := ?_)
              refine pu 7 114 Z43 HT_ rfl rfl (h := ?_)
              refine pu 8 115 Z44 HT_ rfl rfl (h := ?_)
              refine pu 9 116 Z45 HT_ rfl rfl (h := ?_)
              refine pu 10 117 Z46 HT_ rfl rfl (h := ?_)
              refine pu 11 118 Z47 HT_ rfl rfl (h := ?_)
              refine pu 12 119 Z48 HT_ rfl rfl (h := ?_)
              refine tk 13 120 Z49 HT_ HW_ rfl rfl hHeld (by rintro w' ⟨s0, s1, s2, s3, s4, s5⟩; go_simp; with_reducible rfl) (h := ?_)
              refine pu 14 121 Z50 HT_ rfl rfl (h := ?_)
              refine pu 15 122 Z51 HT_ rfl rfl (h := ?_)
              refine pu 16 123 Z52 HT_ rfl rfl (h := ?_)
              refine pu 17 124 Z53 HT_ rfl rfl (h := ?_)
              refine pv 18 125 Z54 HT_ rfl rfl (h := ?_)
              refine pv 19 126 Z55 HT_ rfl rfl (h := ?_)
              refine pv 20 127 Z56 HT_ rfl rfl (h := ?_)
              refine pv 21 128 Z57 HT_ rfl rfl (h := ?_)
              refine pv 22 129 Z58 HT_ rfl rfl (h := ?_)
              refine pv 23 130 Z59 HT_ rfl rfl (h := ?_)
              refine pv 24 131 Z60 HT_ rfl rfl (h := ?_)
              refine pv 25 132 Z61 HT_ rfl rfl (h := ?_)
              refine pv 26 133 Z62 HT_ rfl rfl (h := ?_)
              refine pv 27 134 Z63 HT_ rfl rfl (h := ?_)
              refine pv 28 135 Z64 HT_ rfl rfl (h := ?_)
              refine pv 29 136 Z65 HT_ rfl rfl (h := ?_)
              refine pv 30 137 Z66 HT_ rfl rfl (h := ?_)
              refine pv 31 138 Z67 HT_ rfl rfl (h := ?_)
              refine pv 32 139 Z68 HT_ rfl rfl (h := ?_)
              refine pv 33 140 Z69 HT_ rfl rfl (h := ?_)
              refine pv 34 141 Z70 HT_ rfl rfl (h := ?_)
              refine pu 35 142 Z71 HT_ rfl rfl (h := ?_)
              refine done_ (done_of HT_.out (by kernel_rfl)) ?_
              try go_wp2
              go_ret
              exact ⟨by first | rfl | (simp [errW_none, errW_some] <;> rfl) | (simp [*, errW_none, errW_some] <;> rfl), by repeat (first | (with_reducible first | exact HB.out | apply lA | apply lN | apply lD | refine lS ?_ GE356.out | refine lS ?_ GE357.out) | exact HB.out)⟩
            rw [if_neg c75] at H
            have c75b0 : decide (0 < (((rd_T45 t351 x9_5).f1).length : Int)) = false := decide_eq_false c75
            have c75b1 : decide (0 < ((rd_T45 t351 x9_5).f1).length) = false := decide_eq_false (by omega)
            clear c75
            obtain ⟨ji78, hji78⟩ : ∃ j_ : Int, (wrap64 (x9_5 - 1)) = j_ := ⟨_, rfl⟩
            replace H : (if 0 ≤ (ji78) then (if (ji78) < (l0.length : Int) then (if x9_5 < (l0.length : Int) then ((changeforgeref3_EncodeDelta.f k5 (rd_L1 l0 (ji78)) (rd_L1 l0 x9_5)).bind fun t375 => ((changeforgeref3_Deltas.f k5 ((rd_T45 t351 x9_5).f2) t375).bind fun t378 => (if t378 = true then (changeforgelaw3_DeltachainPackMatchesSpec.l1 k5 l0 a1 t351 (wrap64 (x9_5 + 1))) else (some false)))) else (none)) else (none)) else (none)) = some r := by first | (rw [hji78] at H; exact H) | (simp only [hji78] at H ⊢; exact H)
            (try rw [hji78] at c74b0)
            (try rw [hji78] at c74b1)
            have hji78w : (IntKind.i64.wrap (x9_5 - 1)) = ji78 := (i64_w _).trans hji78
            by_cases c79 : 0 ≤ (ji78)
            rotate_left
            · rw [if_neg c79] at H
              exact absurd H (by simp)
            rw [if_pos c79] at H
            have c79b0 : decide (0 ≤ (ji78)) = true := decide_eq_true c79
            clear c79
            by_cases c80 : (ji78) < (l0.length : Int)
            rotate_left
            · rw [if_neg c80] at H
              exact absurd H (by simp)
            rw [if_pos c80] at H
            have c80b0 : decide ((ji78) < (l0.length : Int)) = true := decide_eq_true c80
            clear c80
            by_cases c81 : x9_5 < (l0.length : Int)
            rotate_left
            · rw [if_neg c81] at H
              exact absurd H (by simp)
            rw [if_pos c81] at H
            have c81b0 : decide (x9_5 < (l0.length : Int)) = true := decide_eq_true c81
            clear c81
            replace H := Option.bind_eq_some_iff.mp H
            obtain ⟨t375, A820, H⟩ := H
            replace H : ((changeforgeref3_Deltas.f k5 ((rd_T45 t351 x9_5).f2) t375).bind fun t378 => (if t378 = true then (changeforgelaw3_DeltachainPackMatchesSpec.l1 k5 l0 a1 t351 (wrap64 (x9_5 + 1))) else (some false))) = some r := H
            have A82 := aZ A820
            clear A820
            replace H := Option.bind_eq_some_iff.mp H
            obtain ⟨t378, A830, H⟩ := H
            replace H : (if t378 = true then (changeforgelaw3_DeltachainPackMatchesSpec.l1 k5 l0 a1 t351 (wrap64 (x9_5 + 1))) else (some false)) = some r := H
            have A83 := aZ A830
            clear A830
            by_cases c84 : t378 = true
            rotate_left
            · replace c84 := Bool.eq_false_iff.mpr c84
              subst c84
              have H1 : (some false) = some r := by rw [if_neg (show ¬ (false = true) by decide)] at H; exact H
              clear H
              have H := H1
              clear H1
              obtain rfl := Option.some.inj H
              obtain ⟨Ao89, co89, eo89⟩ := Kd.R_slice HO_5.out
              subst eo89
              try go_wp2
              have n0_ := aZ (Kd.rD HO_5.out)
              have n1_ := aZ (bD BK356.out)
              have n2_ := aZ (bD BK357.out)
              have n3_ := aZ (lD HB.out)
              clear HO_5
              clear BK356
              clear BK357
              clear HB
              have HO_5 := n0_
              have BK356 := n1_
              have BK357 := n2_
              have HB := n3_
              clear n0_ n1_ n2_ n3_
              have p370 : 0 ≤ (x9_5 : Int) := of_decide_eq_true (by first | (with_reducible assumption) | assumption)
              have q370 : x9_5 < (t351.length : Int) := of_decide_eq_true (by first | (with_reducible assumption) | assumption)
              obtain ⟨ad370, A370_1, c370_1, A370_2, c370_2, e370, hx370_0, hx370_1, hx370_2, hl370_1, hi370_1, hl370_2, hi370_2⟩ := at_T45 (Kd.R_reads' HO_5.out).2.2 x9_5 p370 q370
              cases e370
              obtain ⟨ce370, hce370, hMe370, hcc370⟩ := Kd.R_get HO_5.out z45 x9_5 p370 (by first | exact q370 | exact of_decide_eq_true (by first | (with_reducible assumption) | assumption) | (have e_ := (Kd.R_reads' HO_5.out).1; omega))
              obtain ⟨ve370_1, ve370_2, rfl, ge370_1, ge370_2⟩ := k45_openM hMe370
              have hv370_1 := hcc370 1 _ rfl
              rw [add_field _ _ 1 (by omega)] at hv370_1
              replace hv370_1 := Option.some.inj (hv370_1.symm.trans hx370_1)
              rw [hv370_1] at ge370_1
              have HL370_1 := aZ (show Kd.R (Kd.int .u8) 5 _ _ _ _ ((rd_T45 t351 x9_5).f1) from ge370_1)
              clear hv370_1 ge370_1
              have hv370_2 := hcc370 2 _ rfl
              rw [add_field _ _ 2 (by omega)] at hv370_2
              replace hv370_2 := Option.some.inj (hv370_2.symm.trans hx370_2)
              rw [hv370_2] at ge370_2
              have HL370_2 := aZ (show Kd.R k37 37 _ _ _ _ ((rd_T45 t351 x9_5).f2) from ge370_2)
              clear hv370_2 ge370_2
              clear hcc370 hce370
              have HR370_1 := aZ hi370_1
              have HC370_1 := aZ hl370_1
              clear hi370_1 hl370_1
              have HR370_2 := aZ hi370_2
              have HC370_2 := aZ hl370_2
              clear hi370_2 hl370_2
              replace p370 := eq_true p370
              replace q370 := eq_true q370
              have p371 : 0 ≤ (x9_5 : Int) := of_decide_eq_true (by first | (with_reducible assumption) | assumption)
              have q371 : x9_5 < (t351.length : Int) := of_decide_eq_true (by first | (with_reducible assumption) | assumption)
              obtain ⟨ad371, A371_1, c371_1, A371_2, c371_2, e371, hx371_0, hx371_1, hx371_2, hl371_1, hi371_1, hl371_2, hi371_2⟩ := at_T45 (Kd.R_reads' HO_5.out).2.2 x9_5 p371 q371
              obtain rfl : ad370 = ad371 := (by injection e371)
              obtain ⟨ce371, hce371, hMe371, hcc371⟩ := Kd.R_get HO_5.out z45 x9_5 p371 (by first | exact q371 | exact of_decide_eq_true (by first | (with_reducible assumption) | assumption) | (have e_ := (Kd.R_reads' HO_5.out).1; omega))
              obtain ⟨ve371_1, ve371_2, rfl, ge371_1, ge371_2⟩ := k45_openM hMe371
              have hv371_1 := hcc371 1 _ rfl
              rw [add_field _ _ 1 (by omega)] at hv371_1
              replace hv371_1 := Option.some.inj (hv371_1.symm.trans hx371_1)
              rw [hv371_1] at ge371_1
              have HL371_1 := aZ (show Kd.R (Kd.int .u8) 5 _ _ _ _ ((rd_T45 t351 x9_5).f1) from ge371_1)
              clear hv371_1 ge371_1
              have hv371_2 := hcc371 2 _ rfl
              rw [add_field _ _ 2 (by omega)] at hv371_2
              replace hv371_2 := Option.some.inj (hv371_2.symm.trans hx371_2)
              rw [hv371_2] at ge371_2
              have HL371_2 := aZ (show Kd.R k37 37 _ _ _ _ ((rd_T45 t351 x9_5).f2) from ge371_2)
              clear hv371_2 ge371_2
              clear hcc371 hce371
              have HR371_1 := aZ hi371_1
              have HC371_1 := aZ hl371_1
              clear hi371_1 hl371_1
              have HR371_2 := aZ hi371_2
              have HC371_2 := aZ hl371_2
              clear hi371_2 hl371_2
              replace p371 := eq_true p371
              replace q371 := eq_true q371
              have ea_ := Option.some.inj (hx370_1.symm.trans hx371_1)
              injection ea_ with ea_ en_ ec_
              subst ea_
              subst ec_
              clear en_
              have ea_ := Option.some.inj (hx370_2.symm.trans hx371_2)
              injection ea_ with ea_ en_ ec_
              subst ea_
              subst ec_
              clear en_
              have p372 : 0 ≤ (x9_5 : Int) := of_decide_eq_true (by first | (with_reducible assumption) | assumption)
              have q372 : x9_5 < (t351.length : Int) := of_decide_eq_true (by first | (with_reducible assumption) | assumption)
              obtain ⟨ad372, A372_1, c372_1, A372_2, c372_2, e372, hx372_0, hx372_1, hx372_2, hl372_1, hi372_1, hl372_2, hi372_2⟩ := at_T45 (Kd.R_reads' HO_5.out).2.2 x9_5 p372 q372
              obtain rfl : ad370 = ad372 := (by injection e372)
              obtain ⟨ce372, hce372, hMe372, hcc372⟩ := Kd.R_get HO_5.out z45 x9_5 p372 (by first | exact q372 | exact of_decide_eq_true (by first | (with_reducible assumption) | assumption) | (have e_ := (Kd.R_reads' HO_5.out).1; omega))
              obtain ⟨ve372_1, ve372_2, rfl, ge372_1, ge372_2⟩ := k45_openM hMe372
              have hv372_1 := hcc372 1 _ rfl
              rw [add_field _ _ 1 (by omega)] at hv372_1
              replace hv372_1 := Option.some.inj (hv372_1.symm.trans hx372_1)
              rw [hv372_1] at ge372_1
              have HL372_1 := aZ (show Kd.R (Kd.int .u8) 5 _ _ _ _ ((rd_T45 t351 x9_5).f1) from ge372_1)
              clear hv372_1 ge372_1
              have hv372_2 := hcc372 2 _ rfl
              rw [add_field _ _ 2 (by omega)] at hv372_2
              replace hv372_2 := Option.some.inj (hv372_2.symm.trans hx372_2)
              rw [hv372_2] at ge372_2
              have HL372_2 := aZ (show Kd.R k37 37 _ _ _ _ ((rd_T45 t351 x9_5).f2) from ge372_2)
              clear hv372_2 ge372_2
              clear hcc372 hce372
              have HR372_1 := aZ hi372_1
              have HC372_1 := aZ hl372_1
              clear hi372_1 hl372_1
              have HR372_2 := aZ hi372_2
              have HC372_2 := aZ hl372_2
              clear hi372_2 hl372_2
              replace p372 := eq_true p372
              replace q372 := eq_true q372
              have ea_ := Option.some.inj (hx370_1.symm.trans hx372_1)
              injection ea_ with ea_ en_ ec_
              subst ea_
              subst ec_
              clear en_
              have ea_ := Option.some.inj (hx370_2.symm.trans hx372_2)
              injection ea_ with ea_ en_ ec_
              subst ea_
              subst ec_
              clear en_
              have p373 : 0 ≤ ((ji78) : Int) := of_decide_eq_true (by first | (with_reducible assumption) | assumption)
              have q373 : (ji78) < (l0.length : Int) := of_decide_eq_true (by first | (with_reducible assumption) | assumption)
              obtain ⟨ad373, A373_0, c373_0, e373, hx373_0, hl373_0, hi373_0⟩ := at_L1 HR0.out (ji78) p373 q373
              have hw373_0 := hx373_0
              cases e373
              replace hx373_0 := (HB.out.cell (World.block_lt_of_cell? w _ hx373_0)).trans hx373_0
              have HR373_0 := aZ hi373_0
              have HC373_0 := aZ hl373_0
              clear hi373_0 hl373_0
              replace p373 := eq_true p373
              replace q373 := eq_true q373
              have p374 : 0 ≤ (x9_5 : Int) := of_decide_eq_true (by first | (with_reducible assumption) | assumption)
              have q374 : x9_5 < (l0.length : Int) := of_decide_eq_true (by first | (with_reducible assumption) | assumption)
              obtain ⟨ad374, A374_0, c374_0, e374, hx374_0, hl374_0, hi374_0⟩ := at_L1 HR0.out x9_5 p374 q374
              have hw374_0 := hx374_0
              obtain rfl : ad373 = ad374 := (by injection e374)
              replace hx374_0 := (HB.out.cell (World.block_lt_of_cell? w _ hx374_0)).trans hx374_0
              have HR374_0 := aZ hi374_0
              have HC374_0 := aZ hl374_0
              clear hi374_0 hl374_0
              replace p374 := eq_true p374
              replace q374 := eq_true q374
              refine start_ (n := 36) (S := fun w' => w'.cell? (ad370.add ((x9_5).toNat * 3)) = some (.int .i64 ((rd_T45 t351 x9_5).f0)) ∧ w'.cell? ⟨(ad370.add ((x9_5).toNat * 3)).block, (ad370.add ((x9_5).toNat * 3)).off + 1, none⟩ = some (.slice A370_1 ((rd_T45 t351 x9_5).f1).length c370_1) ∧ w'.cell? ⟨(ad370.add ((x9_5).toNat * 3)).block, (ad370.add ((x9_5).toNat * 3)).off + 2, none⟩ = some (.slice A370_2 ((rd_T45 t351 x9_5).f2).length c370_2) ∧ w'.cell? (ad370.add ((x9_5).toNat * 3)) = some (.int .i64 ((rd_T45 t351 x9_5).f0)) ∧ w'.cell? ⟨(ad370.add ((x9_5).toNat * 3)).block, (ad370.add ((x9_5).toNat * 3)).off + 1, none⟩ = some (.slice A370_1 ((rd_T45 t351 x9_5).f1).length c370_1) ∧ w'.cell? ⟨(ad370.add ((x9_5).toNat * 3)).block, (ad370.add ((x9_5).toNat * 3)).off + 2, none⟩ = some (.slice A370_2 ((rd_T45 t351 x9_5).f2).length c370_2) ∧ w'.cell? (ad370.add ((x9_5).toNat * 3)) = some (.int .i64 ((rd_T45 t351 x9_5).f0)) ∧ w'.cell? ⟨(ad370.add ((x9_5).toNat * 3)).block, (ad370.add ((x9_5).toNat * 3)).off + 1, none⟩ = some (.slice A370_1 ((rd_T45 t351 x9_5).f1).length c370_1) ∧ w'.cell? ⟨(ad370.add ((x9_5).toNat * 3)).block, (ad370.add ((x9_5).toNat * 3)).off + 2, none⟩ = some (.slice A370_2 ((rd_T45 t351 x9_5).f2).length c370_2) ∧ w'.cell? (ad373.add ((ji78)).toNat) = some (.slice A373_0 (rd_L1 l0 (ji78)).length c373_0) ∧ w'.cell? (ad373.add (x9_5).toNat) = some (.slice A374_0 (rd_L1 l0 x9_5).length c374_0)) (ds := []) Z35 (by kernel_rfl) rfl rfl ⟨hx370_0, hx370_1, hx370_2, hx371_0, hx371_1, hx371_2, hx372_0, hx372_1, hx372_2, ((HB.out.cell (World.block_lt_of_cell? w _ hw373_0)).trans hw373_0), ((HB.out.cell (World.block_lt_of_cell? w _ hw374_0)).trans hw374_0)⟩ (fun hHeld => ?_); refine with_tabW changeforgelaw3_DeltachainPackMatchesSpec.tab24 changeforgelaw3_DeltachainPackMatchesSpec.bits24 (fun HT_ HW_ => ?_)
              generalize wr.drew = w90 at HO_5 BK356 BK357 HB HL370_1 HL370_2 HL371_1 HL371_2 HL372_1 HL372_2 HR370_1 HR370_2 HR371_1 HR371_2 HR372_1 HR372_2 HR373_0 HR374_0 hx370_0 hx370_1 hx370_2 hx371_0 hx371_1 hx371_2 hx372_0 hx372_1 hx372_2 hx373_0 hx374_0 hHeld ⊢
              refine pu 0 107 Z36 HT_ rfl rfl (h := ?_)
              refine pu 1 108 Z37 HT_ rfl rfl (h := ?_)
              refine pu 2 109 Z38 HT_ rfl rfl (h := ?_)
              refine pu 3 110 Z39 HT_ rfl rfl (h := ?_)
              refine pu 5 112 Z40 HT_ rfl rfl (h := ?_)
              refine pu 6 113 Z41 HT_ rfl rfl (h := ?_)
              refine tk 4 111 Z42 HT_ HW_ rfl rfl hHeld (by rintro w' ⟨s0, s1, s2, s3, s4, s5, s6, s7, s8, s9, s10⟩; go_simp; with_reducible rfl) (h := ?_)
              refine pu 7 114 Z43 HT_ rfl rfl (h := ?_)
              refine pu 8 115 Z44 HT_ rfl rfl (h := ?_)
              refine pu 9 116 Z45 HT_ rfl rfl (h := ?_)
              refine pu 10 117 Z46 HT_ rfl rfl (h := ?_)
              refine pu 11 118 Z47 HT_ rfl rfl (h := ?_)
              refine pu 12 119 Z48 HT_ rfl rfl (h := ?_)
              refine tk 13 120 Z49 HT_ HW_ rfl rfl hHeld (by rintro w' ⟨s0, s1, s2, s3, s4, s5, s6, s7, s8, s9, s10⟩; go_simp; with_reducible rfl) (h := ?_)
              refine pu 14 121 Z50 HT_ rfl rfl (h := ?_)
              refine pu 15 122 Z51 HT_ rfl rfl (h := ?_)
              refine pu 16 123 Z52 HT_ rfl rfl (h := ?_)
              refine pu 17 124 Z53 HT_ rfl rfl (h := ?_)
              refine pu 18 125 Z54 HT_ rfl rfl (h := ?_)
              refine pu 19 126 Z55 HT_ rfl rfl (h := ?_)
              refine pu 20 127 Z56 HT_ rfl rfl (h := ?_)
              refine pu 21 128 Z57 HT_ rfl rfl (h := ?_)
              refine pu 23 130 Z72 HT_ rfl rfl (h := ?_)
              refine pu 24 131 Z73 HT_ rfl rfl (h := ?_)
              refine pu 25 132 Z74 HT_ rfl rfl (h := ?_)
              refine pu 26 133 Z75 HT_ rfl rfl (h := ?_)
              refine pu 28 135 Z76 HT_ rfl rfl (h := ?_)
              refine pu 29 136 Z77 HT_ rfl rfl (h := ?_)
              refine pu 30 137 Z78 HT_ rfl rfl (h := ?_)
              refine tk 22 129 Z79 HT_ HW_ rfl rfl hHeld (by rintro w' ⟨s0, s1, s2, s3, s4, s5, s6, s7, s8, s9, s10⟩; go_simp; with_reducible rfl) (h := ?_)
              refine tk 27 134 Z66 HT_ HW_ rfl rfl hHeld (by rintro w' ⟨s0, s1, s2, s3, s4, s5, s6, s7, s8, s9, s10⟩; go_simp; with_reducible rfl) (h := ?_)
              refine tk 31 138 Z67 HT_ HW_ rfl rfl hHeld (by rintro w' ⟨s0, s1, s2, s3, s4, s5, s6, s7, s8, s9, s10⟩; go_simp; with_reducible rfl) (h := ?_)
              refine one_ (i := 32) (N := some 139) Z68 rfl rfl (one_of HT_.out (by kernel_rfl)) (by decide) (fun K hK => ?_)
              refine goes_ Try.func14 (by kernel_rfl) rfl #[.slice A373_0 (rd_L1 l0 (ji78)).length c373_0, .slice A374_0 (rd_L1 l0 x9_5).length c374_0] (by rfl) rfl rfl (by (try simp only [List.map_toArray, List.map_cons, List.map_nil]); first | done | (simp only [hji78]; rfl) | rfl | (simp only [List.length_drop, List.length_take]; rfl)) ?_
              with_reducible refine (changeforgeref3_EncodeDelta.calls k5 _ _ (rd_L1 l0 (ji78)) _ _ (rd_L1 l0 x9_5) t375 _ ?side1 ?side2 ?side3 ?side4 A82.out).mono ?_
              (case side1 => repeat (first | exact (Kd.C_below HR373_0.out HB.out) | (with_reducible refine Kd.C_alloc ?_ _) | (with_reducible refine Kd.C_drewN ?_ _) | (with_reducible refine Kd.C_drew ?_)))
              (case side2 => exact HC373_0.out)
              (case side3 => repeat (first | exact (Kd.C_below HR374_0.out HB.out) | (with_reducible refine Kd.C_alloc ?_ _) | (with_reducible refine Kd.C_drewN ?_ _) | (with_reducible refine Kd.C_drew ?_)))
              (case side4 => exact HC374_0.out)
              rintro e w91 ⟨v376, rfl, ho0, hb⟩
              have HS0_ := (hb.cell (World.block_lt_of_cell? _ _ (hHeld.1))).trans (hHeld.1)
              have HS1_ := (hb.cell (World.block_lt_of_cell? _ _ (hHeld.2.1))).trans (hHeld.2.1)
              have HS2_ := (hb.cell (World.block_lt_of_cell? _ _ (hHeld.2.2.1))).trans (hHeld.2.2.1)
              have HS3_ := (hb.cell (World.block_lt_of_cell? _ _ (hHeld.2.2.2.1))).trans (hHeld.2.2.2.1)
              have HS4_ := (hb.cell (World.block_lt_of_cell? _ _ (hHeld.2.2.2.2.1))).trans (hHeld.2.2.2.2.1)
              have HS5_ := (hb.cell (World.block_lt_of_cell? _ _ (hHeld.2.2.2.2.2.1))).trans (hHeld.2.2.2.2.2.1)
              have HS6_ := (hb.cell (World.block_lt_of_cell? _ _ (hHeld.2.2.2.2.2.2.1))).trans (hHeld.2.2.2.2.2.2.1)
              have HS7_ := (hb.cell (World.block_lt_of_cell? _ _ (hHeld.2.2.2.2.2.2.2.1))).trans (hHeld.2.2.2.2.2.2.2.1)
              have HS8_ := (hb.cell (World.block_lt_of_cell? _ _ (hHeld.2.2.2.2.2.2.2.2.1))).trans (hHeld.2.2.2.2.2.2.2.2.1)
              refine ⟨_, rfl, ?_⟩
              have n0_ := aZ (Kd.R_elder' (by (with_reducible repeat (first | apply Kd.rA | apply Kd.rN | apply Kd.rD)); exact HO_5.out) (Kd.S_base ho0) hb)
              have n1_ := aZ (Kd.R_below (by (with_reducible repeat (first | apply Kd.rA | apply Kd.rN | apply Kd.rD)); exact HL370_1.out) hb)
              have n2_ := aZ (Kd.R_elder' (by (with_reducible repeat (first | apply Kd.rA | apply Kd.rN | apply Kd.rD)); exact HL370_2.out) (Kd.S_base ho0) hb)
              have n3_ := aZ (Kd.R_below (by (with_reducible repeat (first | apply Kd.rA | apply Kd.rN | apply Kd.rD)); exact HL371_1.out) hb)
              have n4_ := aZ (Kd.R_elder' (by (with_reducible repeat (first | apply Kd.rA | apply Kd.rN | apply Kd.rD)); exact HL371_2.out) (Kd.S_base ho0) hb)
              have n5_ := aZ (Kd.R_below (by (with_reducible repeat (first | apply Kd.rA | apply Kd.rN | apply Kd.rD)); exact HL372_1.out) hb)
              have n6_ := aZ (Kd.R_elder' (by (with_reducible repeat (first | apply Kd.rA | apply Kd.rN | apply Kd.rD)); exact HL372_2.out) (Kd.S_base ho0) hb)
              have n7_ := aZ (Kd.S_lower (Kd.S_new' (Kd.S_new' (Kd.S_new' (Kd.S_new' (Kd.S_new' (Kd.S_new' ho0 (Kd.R_lt (by (with_reducible repeat (first | apply Kd.rA | apply Kd.rN | apply Kd.rD)); exact HL370_1.out))) (Kd.R_lt (by (with_reducible repeat (first | apply Kd.rA | apply Kd.rN | apply Kd.rD)); exact HL370_2.out))) (Kd.R_lt (by (with_reducible repeat (first | apply Kd.rA | apply Kd.rN | apply Kd.rD)); exact HL371_1.out))) (Kd.R_lt (by (with_reducible repeat (first | apply Kd.rA | apply Kd.rN | apply Kd.rD)); exact HL371_2.out))) (Kd.R_lt (by (with_reducible repeat (first | apply Kd.rA | apply Kd.rN | apply Kd.rD)); exact HL372_1.out))) (Kd.R_lt (by (with_reducible repeat (first | apply Kd.rA | apply Kd.rN | apply Kd.rD)); exact HL372_2.out))) (lZ (by repeat (first | (with_reducible first | exact HB.out | apply lA | apply lN | apply lD | refine lS ?_ GE356.out | refine lS ?_ GE357.out) | exact HB.out))))
              have n8_ := aZ (blk_below (g := gb356) (o := .cells #[.int .i64 t354, .int .i64 t355] 26 (0, 0)) (by (with_reducible repeat (first | refine bN ?_ _ | refine bD ?_ | refine bA ?_ _)); exact BK356.out) hb)
              have n9_ := aZ (blk_below (g := gb357) (o := .cells #[.int .i64 x358000_2, .int .i64 x358001_2] 26 (0, 0)) (by (with_reducible repeat (first | refine bN ?_ _ | refine bD ?_ | refine bA ?_ _)); exact BK357.out) hb)
              have n10_ := aZ (Kd.C_below (by repeat (first | (with_reducible exact HR370_1.out) | (with_reducible refine Kd.C_alloc ?_ _) | (with_reducible refine Kd.C_drewN ?_ _) | (with_reducible refine Kd.C_drew ?_) | exact HR370_1.out)) hb)
              have n11_ := aZ (Kd.C_below (by repeat (first | (with_reducible exact HR370_2.out) | (with_reducible refine Kd.C_alloc ?_ _) | (with_reducible refine Kd.C_drewN ?_ _) | (with_reducible refine Kd.C_drew ?_) | exact HR370_2.out)) hb)
              have n12_ := aZ (Kd.C_below (by repeat (first | (with_reducible exact HR371_1.out) | (with_reducible refine Kd.C_alloc ?_ _) | (with_reducible refine Kd.C_drewN ?_ _) | (with_reducible refine Kd.C_drew ?_) | exact HR371_1.out)) hb)
              have n13_ := aZ (Kd.C_below (by repeat (first | (with_reducible exact HR371_2.out) | (with_reducible refine Kd.C_alloc ?_ _) | (with_reducible refine Kd.C_drewN ?_ _) | (with_reducible refine Kd.C_drew ?_) | exact HR371_2.out)) hb)
              have n14_ := aZ (Kd.C_below (by repeat (first | (with_reducible exact HR372_1.out) | (with_reducible refine Kd.C_alloc ?_ _) | (with_reducible refine Kd.C_drewN ?_ _) | (with_reducible refine Kd.C_drew ?_) | exact HR372_1.out)) hb)
              have n15_ := aZ (Kd.C_below (by repeat (first | (with_reducible exact HR372_2.out) | (with_reducible refine Kd.C_alloc ?_ _) | (with_reducible refine Kd.C_drewN ?_ _) | (with_reducible refine Kd.C_drew ?_) | exact HR372_2.out)) hb)
              have n16_ := aZ (lT (by repeat (first | (with_reducible first | exact HB.out | apply lA | apply lN | apply lD | refine lS ?_ GE356.out | refine lS ?_ GE357.out) | exact HB.out)) hb)
              clear HO_5
              clear HL370_1
              clear HL370_2
              clear HL371_1
              clear HL371_2
              clear HL372_1
              clear HL372_2
              clear BK356
              clear BK357
              clear HR370_1
              clear HR370_2
              clear HR371_1
              clear HR371_2
              clear HR372_1
              clear HR372_2
              clear HB
              have HO_5 := n0_
              have HL370_1 := n1_
              have HL370_2 := n2_
              have HL371_1 := n3_
              have HL371_2 := n4_
              have HL372_1 := n5_
              have HL372_2 := n6_
              have HO377 := n7_
              have BK356 := n8_
              have BK357 := n9_
              have HR370_1 := n10_
              have HR370_2 := n11_
              have HR371_1 := n12_
              have HR371_2 := n13_
              have HR372_1 := n14_
              have HR372_2 := n15_
              have HB := n16_
              clear n0_ n1_ n2_ n3_ n4_ n5_ n6_ n7_ n8_ n9_ n10_ n11_ n12_ n13_ n14_ n15_ n16_
              (try clear hb)
              (try clear hb2)
              (try clear hk)
              (try clear hi)
              (try clear ho0)
              obtain ⟨Ao92, co92, eo92⟩ := Kd.S_slice HO377.out
              (first | subst eo92 | (injection eo92 with f1_ f2_ f3_; have f4_ := f1_.symm; have f5_ := f3_.symm; clear f1_ f2_ f3_; subst f4_; subst f5_))
              refine hK.out _ _ ⟨HS0_, HS1_, HS2_, HS3_, HS4_, HS5_, HS6_, HS7_, HS8_, ((HB.out.cell (World.block_lt_of_cell? w _ hw373_0)).trans hw373_0), ((HB.out.cell (World.block_lt_of_cell? w _ hw374_0)).trans hw374_0)⟩ (fun hHeld => ?_)
              clear hK K
              refine norm_ (a' := ?_) ?_ ?_
              rotate_left
              · show Act.put _ (some 139) _ = _
                simp only [Act.put, List.setIfInBounds_toArray, List.set_cons_zero, List.set_cons_succ, i64_w, i32_w]
                rfl
              refine one_ (i := 33) (N := some 140) Z69 rfl rfl (one_of HT_.out (by kernel_rfl)) (by decide) (fun K hK => ?_)
              refine goes_ Try.func13 (by kernel_rfl) rfl #[.slice A370_2 ((rd_T45 t351 x9_5).f2).length c370_2, .slice Ao92 t375.length co92] (by rfl) rfl rfl (by (try simp only [List.map_toArray, List.map_cons, List.map_nil]); first | done | rfl | (simp only [List.length_drop, List.length_take]; rfl)) ?_
              with_reducible refine (changeforgeref3_Deltas.calls k5 _ _ ((rd_T45 t351 x9_5).f2) _ _ t375 false _ ?side1 ?side2 ?side3 ?side4 A83.out).mono ?_
              (case side1 => repeat (first | exact (by repeat (first | (with_reducible exact HR372_2.out) | (with_reducible refine Kd.C_alloc ?_ _) | (with_reducible refine Kd.C_drewN ?_ _) | (with_reducible refine Kd.C_drew ?_) | exact HR372_2.out)) | (with_reducible refine Kd.C_alloc ?_ _) | (with_reducible refine Kd.C_drewN ?_ _) | (with_reducible refine Kd.C_drew ?_)))
              (case side2 => exact HC372_2.out)
              (case side3 => repeat (first | exact (Kd.S_reads' HO377.out).2.2 | (with_reducible refine Kd.C_alloc ?_ _) | (with_reducible refine Kd.C_drewN ?_ _) | (with_reducible refine Kd.C_drew ?_)))
              (case side4 => exact (Kd.S_reads' HO377.out).2.1)
              rintro e w' ⟨rfl, ⟨nd, rfl⟩⟩
              refine ⟨_, rfl, ?_⟩
              refine hK.out _ _ ⟨hHeld.1, hHeld.2.1, hHeld.2.2.1, hHeld.2.2.2.1, hHeld.2.2.2.2.1, hHeld.2.2.2.2.2.1, hHeld.2.2.2.2.2.2.1, hHeld.2.2.2.2.2.2.2.1, hHeld.2.2.2.2.2.2.2.2.1, ((HB.out.cell (World.block_lt_of_cell? w _ hw373_0)).trans hw373_0), ((HB.out.cell (World.block_lt_of_cell? w _ hw374_0)).trans hw374_0)⟩ (fun hHeld => ?_)
              clear hK K
              refine norm_ (a' := ?_) ?_ ?_
              rotate_left
              · show Act.put _ (some 140) _ = _
                simp only [Act.put, List.setIfInBounds_toArray, List.set_cons_zero, List.set_cons_succ, i64_w, i32_w]
                rfl
              refine pu 34 141 Z70 HT_ rfl rfl (h := ?_)
              refine pu 35 142 Z71 HT_ rfl rfl (h := ?_)
              refine done_ (done_of HT_.out (by kernel_rfl)) ?_
              try go_wp2
              go_ret
              exact ⟨by first | rfl | (simp [errW_none, errW_some] <;> rfl) | (simp only [← hji78]; first | rfl | (simp [errW_none, errW_some] <;> rfl)) | (simp [*, errW_none, errW_some] <;> rfl), by repeat (first | (with_reducible first | exact HB.out | apply lA | apply lN | apply lD | refine lS ?_ GE356.out | refine lS ?_ GE357.out) | exact HB.out)⟩
            subst c84
            have H1 : (changeforgelaw3_DeltachainPackMatchesSpec.l1 k5 l0 a1 t351 (wrap64 (x9_5 + 1))) = some r := by rw [if_pos rfl] at H; exact H
            clear H
            have H := H1
            clear H1
            have H' := aZ H
            clear H
            obtain ⟨Ao85, co85, eo85⟩ := Kd.R_slice HO_5.out
            subst eo85
            try go_wp2
            have n0_ := aZ (Kd.rD HO_5.out)
            have n1_ := aZ (bD BK356.out)
            have n2_ := aZ (bD BK357.out)
            have n3_ := aZ (lD HB.out)
            clear HO_5
            clear BK356
            clear BK357
            clear HB
            have HO_5 := n0_
            have BK356 := n1_
            have BK357 := n2_
            have HB := n3_
            clear n0_ n1_ n2_ n3_
            have p370 : 0 ≤ (x9_5 : Int) := of_decide_eq_true (by first | (with_reducible assumption) | assumption)
            have q370 : x9_5 < (t351.length : Int) := of_decide_eq_true (by first | (with_reducible assumption) | assumption)
            obtain ⟨ad370, A370_1, c370_1, A370_2, c370_2, e370, hx370_0, hx370_1, hx370_2, hl370_1, hi370_1, hl370_2, hi370_2⟩ := at_T45 (Kd.R_reads' HO_5.out).2.2 x9_5 p370 q370
            cases e370
            obtain ⟨ce370, hce370, hMe370, hcc370⟩ := Kd.R_get HO_5.out z45 x9_5 p370 (by first | exact q370 | exact of_decide_eq_true (by first | (with_reducible assumption) | assumption) | (have e_ := (Kd.R_reads' HO_5.out).1; omega))
            obtain ⟨ve370_1, ve370_2, rfl, ge370_1, ge370_2⟩ := k45_openM hMe370
            have hv370_1 := hcc370 1 _ rfl
            rw [add_field _ _ 1 (by omega)] at hv370_1
            replace hv370_1 := Option.some.inj (hv370_1.symm.trans hx370_1)
            rw [hv370_1] at ge370_1
            have HL370_1 := aZ (show Kd.R (Kd.int .u8) 5 _ _ _ _ ((rd_T45 t351 x9_5).f1) from ge370_1)
            clear hv370_1 ge370_1
            have hv370_2 := hcc370 2 _ rfl
            rw [add_field _ _ 2 (by omega)] at hv370_2
            replace hv370_2 := Option.some.inj (hv370_2.symm.trans hx370_2)
            rw [hv370_2] at ge370_2
            have HL370_2 := aZ (show Kd.R k37 37 _ _ _ _ ((rd_T45 t351 x9_5).f2) from ge370_2)
            clear hv370_2 ge370_2
            clear hcc370 hce370
            have HR370_1 := aZ hi370_1
            have HC370_1 := aZ hl370_1
            clear hi370_1 hl370_1
            have HR370_2 := aZ hi370_2
            have HC370_2 := aZ hl370_2
            clear hi370_2 hl370_2
            replace p370 := eq_true p370
            replace q370 := eq_true q370
            have p371 : 0 ≤ (x9_5 : Int) := of_decide_eq_true (by first | (with_reducible assumption) | assumption)
            have q371 : x9_5 < (t351.length : Int) := of_decide_eq_true (by first | (with_reducible assumption) | assumption)
            obtain ⟨ad371, A371_1, c371_1, A371_2, c371_2, e371, hx371_0, hx371_1, hx371_2, hl371_1, hi371_1, hl371_2, hi371_2⟩ := at_T45 (Kd.R_reads' HO_5.out).2.2 x9_5 p371 q371
            obtain rfl : ad370 = ad371 := (by injection e371)
            obtain ⟨ce371, hce371, hMe371, hcc371⟩ := Kd.R_get HO_5.out z45 x9_5 p371 (by first | exact q371 | exact of_decide_eq_true (by first | (with_reducible assumption) | assumption) | (have e_ := (Kd.R_reads' HO_5.out).1; omega))
            obtain ⟨ve371_1, ve371_2, rfl, ge371_1, ge371_2⟩ := k45_openM hMe371
            have hv371_1 := hcc371 1 _ rfl
            rw [add_field _ _ 1 (by omega)] at hv371_1
            replace hv371_1 := Option.some.inj (hv371_1.symm.trans hx371_1)
            rw [hv371_1] at ge371_1
            have HL371_1 := aZ (show Kd.R (Kd.int .u8) 5 _ _ _ _ ((rd_T45 t351 x9_5).f1) from ge371_1)
            clear hv371_1 ge371_1
            have hv371_2 := hcc371 2 _ rfl
            rw [add_field _ _ 2 (by omega)] at hv371_2
            replace hv371_2 := Option.some.inj (hv371_2.symm.trans hx371_2)
            rw [hv371_2] at ge371_2
            have HL371_2 := aZ (show Kd.R k37 37 _ _ _ _ ((rd_T45 t351 x9_5).f2) from ge371_2)
            clear hv371_2 ge371_2
            clear hcc371 hce371
            have HR371_1 := aZ hi371_1
            have HC371_1 := aZ hl371_1
            clear hi371_1 hl371_1
            have HR371_2 := aZ hi371_2
            have HC371_2 := aZ hl371_2
            clear hi371_2 hl371_2
            replace p371 := eq_true p371
            replace q371 := eq_true q371
            have ea_ := Option.some.inj (hx370_1.symm.trans hx371_1)
            injection ea_ with ea_ en_ ec_
            subst ea_
            subst ec_
            clear en_
            have ea_ := Option.some.inj (hx370_2.symm.trans hx371_2)
            injection ea_ with ea_ en_ ec_
            subst ea_
            subst ec_
            clear en_
            have p372 : 0 ≤ (x9_5 : Int) := of_decide_eq_true (by first | (with_reducible assumption) | assumption)
            have q372 : x9_5 < (t351.length : Int) := of_decide_eq_true (by first | (with_reducible assumption) | assumption)
            obtain ⟨ad372, A372_1, c372_1, A372_2, c372_2, e372, hx372_0, hx372_1, hx372_2, hl372_1, hi372_1, hl372_2, hi372_2⟩ := at_T45 (Kd.R_reads' HO_5.out).2.2 x9_5 p372 q372
            obtain rfl : ad370 = ad372 := (by injection e372)
            obtain ⟨ce372, hce372, hMe372, hcc372⟩ := Kd.R_get HO_5.out z45 x9_5 p372 (by first | exact q372 | exact of_decide_eq_true (by first | (with_reducible assumption) | assumption) | (have e_ := (Kd.R_reads' HO_5.out).1; omega))
            obtain ⟨ve372_1, ve372_2, rfl, ge372_1, ge372_2⟩ := k45_openM hMe372
            have hv372_1 := hcc372 1 _ rfl
            rw [add_field _ _ 1 (by omega)] at hv372_1
            replace hv372_1 := Option.some.inj (hv372_1.symm.trans hx372_1)
            rw [hv372_1] at ge372_1
            have HL372_1 := aZ (show Kd.R (Kd.int .u8) 5 _ _ _ _ ((rd_T45 t351 x9_5).f1) from ge372_1)
            clear hv372_1 ge372_1
            have hv372_2 := hcc372 2 _ rfl
            rw [add_field _ _ 2 (by omega)] at hv372_2
            replace hv372_2 := Option.some.inj (hv372_2.symm.trans hx372_2)
            rw [hv372_2] at ge372_2
            have HL372_2 := aZ (show Kd.R k37 37 _ _ _ _ ((rd_T45 t351 x9_5).f2) from ge372_2)
            clear hv372_2 ge372_2
            clear hcc372 hce372
            have HR372_1 := aZ hi372_1
            have HC372_1 := aZ hl372_1
            clear hi372_1 hl372_1
            have HR372_2 := aZ hi372_2
            have HC372_2 := aZ hl372_2
            clear hi372_2 hl372_2
            replace p372 := eq_true p372
            replace q372 := eq_true q372
            have ea_ := Option.some.inj (hx370_1.symm.trans hx372_1)
            injection ea_ with ea_ en_ ec_
            subst ea_
            subst ec_
            clear en_
            have ea_ := Option.some.inj (hx370_2.symm.trans hx372_2)
            injection ea_ with ea_ en_ ec_
            subst ea_
            subst ec_
            clear en_
            have p373 : 0 ≤ ((ji78) : Int) := of_decide_eq_true (by first | (with_reducible assumption) | assumption)
            have q373 : (ji78) < (l0.length : Int) := of_decide_eq_true (by first | (with_reducible assumption) | assumption)
            obtain ⟨ad373, A373_0, c373_0, e373, hx373_0, hl373_0, hi373_0⟩ := at_L1 HR0.out (ji78) p373 q373
            have hw373_0 := hx373_0
            cases e373
            replace hx373_0 := (HB.out.cell (World.block_lt_of_cell? w _ hx373_0)).trans hx373_0
            have HR373_0 := aZ hi373_0
            have HC373_0 := aZ hl373_0
            clear hi373_0 hl373_0
            replace p373 := eq_true p373
            replace q373 := eq_true q373
            have p374 : 0 ≤ (x9_5 : Int) := of_decide_eq_true (by first | (with_reducible assumption) | assumption)
            have q374 : x9_5 < (l0.length : Int) := of_decide_eq_true (by first | (with_reducible assumption) | assumption)
            obtain ⟨ad374, A374_0, c374_0, e374, hx374_0, hl374_0, hi374_0⟩ := at_L1 HR0.out x9_5 p374 q374
            have hw374_0 := hx374_0
            obtain rfl : ad373 = ad374 := (by injection e374)
            replace hx374_0 := (HB.out.cell (World.block_lt_of_cell? w _ hx374_0)).trans hx374_0
            have HR374_0 := aZ hi374_0
            have HC374_0 := aZ hl374_0
            clear hi374_0 hl374_0
            replace p374 := eq_true p374
            replace q374 := eq_true q374
            refine start_ (n := 36) (S := fun w' => w'.cell? (ad370.add ((x9_5).toNat * 3)) = some (.int .i64 ((rd_T45 t351 x9_5).f0)) ∧ w'.cell? ⟨(ad370.add ((x9_5).toNat * 3)).block, (ad370.add ((x9_5).toNat * 3)).off + 1, none⟩ = some (.slice A370_1 ((rd_T45 t351 x9_5).f1).length c370_1) ∧ w'.cell? ⟨(ad370.add ((x9_5).toNat * 3)).block, (ad370.add ((x9_5).toNat * 3)).off + 2, none⟩ = some (.slice A370_2 ((rd_T45 t351 x9_5).f2).length c370_2) ∧ w'.cell? (ad370.add ((x9_5).toNat * 3)) = some (.int .i64 ((rd_T45 t351 x9_5).f0)) ∧ w'.cell? ⟨(ad370.add ((x9_5).toNat * 3)).block, (ad370.add ((x9_5).toNat * 3)).off + 1, none⟩ = some (.slice A370_1 ((rd_T45 t351 x9_5).f1).length c370_1) ∧ w'.cell? ⟨(ad370.add ((x9_5).toNat * 3)).block, (ad370.add ((x9_5).toNat * 3)).off + 2, none⟩ = some (.slice A370_2 ((rd_T45 t351 x9_5).f2).length c370_2) ∧ w'.cell? (ad370.add ((x9_5).toNat * 3)) = some (.int .i64 ((rd_T45 t351 x9_5).f0)) ∧ w'.cell? ⟨(ad370.add ((x9_5).toNat * 3)).block, (ad370.add ((x9_5).toNat * 3)).off + 1, none⟩ = some (.slice A370_1 ((rd_T45 t351 x9_5).f1).length c370_1) ∧ w'.cell? ⟨(ad370.add ((x9_5).toNat * 3)).block, (ad370.add ((x9_5).toNat * 3)).off + 2, none⟩ = some (.slice A370_2 ((rd_T45 t351 x9_5).f2).length c370_2) ∧ w'.cell? (ad373.add ((ji78)).toNat) = some (.slice A373_0 (rd_L1 l0 (ji78)).length c373_0) ∧ w'.cell? (ad373.add (x9_5).toNat) = some (.slice A374_0 (rd_L1 l0 x9_5).length c374_0)) (ds := []) Z35 (by kernel_rfl) rfl rfl ⟨hx370_0, hx370_1, hx370_2, hx371_0, hx371_1, hx371_2, hx372_0, hx372_1, hx372_2, ((HB.out.cell (World.block_lt_of_cell? w _ hw373_0)).trans hw373_0), ((HB.out.cell (World.block_lt_of_cell? w _ hw374_0)).trans hw374_0)⟩ (fun hHeld => ?_); refine with_tabW changeforgelaw3_DeltachainPackMatchesSpec.tab24 changeforgelaw3_DeltachainPackMatchesSpec.bits24 (fun HT_ HW_ => ?_)
            generalize wr.drew = w86 at HO_5 BK356 BK357 HB HL370_1 HL370_2 HL371_1 HL371_2 HL372_1 HL372_2 HR370_1 HR370_2 HR371_1 HR371_2 HR372_1 HR372_2 HR373_0 HR374_0 hx370_0 hx370_1 hx370_2 hx371_0 hx371_1 hx371_2 hx372_0 hx372_1 hx372_2 hx373_0 hx374_0 hHeld ⊢
            refine pu 0 107 Z36 HT_ rfl rfl (h := ?_)
            refine pu 1 108 Z37 HT_ rfl rfl (h := ?_)
            refine pu 2 109 Z38 HT_ rfl rfl (h := ?_)
            refine pu 3 110 Z39 HT_ rfl rfl (h := ?_)
            refine pu 5 112 Z40 HT_ rfl rfl (h := ?_)
            refine pu 6 113 Z41 HT_ rfl rfl (h := ?_)
            refine tk 4 111 Z42 HT_ HW_ rfl rfl hHeld (by rintro w' ⟨s0, s1, s2, s3, s4, s5, s6, s7, s8, s9, s10⟩; go_simp; with_reducible rfl) (h := ?_)
            refine pu 7 114 Z43 HT_ rfl rfl (h := ?_)
            refine pu 8 115 Z44 HT_ rfl rfl (h := ?_)
            refine pu 9 116 Z45 HT_ rfl rfl (h := ?_)
            refine pu 10 117 Z46 HT_ rfl rfl (h := ?_)
            refine pu 11 118 Z47 HT_ rfl rfl (h := ?_)
            refine pu 12 119 Z48 HT_ rfl rfl (h := ?_)
            refine tk 13 120 Z49 HT_ HW_ rfl rfl hHeld (by rintro w' ⟨s0, s1, s2, s3, s4, s5, s6, s7, s8, s9, s10⟩; go_simp; with_reducible rfl) (h := ?_)
            refine pu 14 121 Z50 HT_ rfl rfl (h := ?_)
            refine pu 15 122 Z51 HT_ rfl rfl (h := ?_)
            refine pu 16 123 Z52 HT_ rfl rfl (h := ?_)
            refine pu 17 124 Z53 HT_ rfl rfl (h := ?_)
            refine pu 18 125 Z54 HT_ rfl rfl (h := ?_)
            refine pu 19 126 Z55 HT_ rfl rfl (h := ?_)
            refine pu 20 127 Z56 HT_ rfl rfl (h := ?_)
            refine pu 21 128 Z57 HT_ rfl rfl (h := ?_)
            refine pu 23 130 Z72 HT_ rfl rfl (h := ?_)
            refine pu 24 131 Z73 HT_ rfl rfl (h := ?_)
            refine pu 25 132 Z74 HT_ rfl rfl (h := ?_)
            refine pu 26 133 Z75 HT_ rfl rfl (h := ?_)
            refine pu 28 135 Z76 HT_ rfl rfl (h := ?_)
            refine pu 29 136 Z77 HT_ rfl rfl (h := ?_)
            refine pu 30 137 Z78 HT_ rfl rfl (h := ?_)
            refine tk 22 129 Z79 HT_ HW_ rfl rfl hHeld (by rintro w' ⟨s0, s1, s2, s3, s4, s5, s6, s7, s8, s9, s10⟩; go_simp; with_reducible rfl) (h := ?_)
            refine tk 27 134 Z66 HT_ HW_ rfl rfl hHeld (by rintro w' ⟨s0, s1, s2, s3, s4, s5, s6, s7, s8, s9, s10⟩; go_simp; with_reducible rfl) (h := ?_)
            refine tk 31 138 Z67 HT_ HW_ rfl rfl hHeld (by rintro w' ⟨s0, s1, s2, s3, s4, s5, s6, s7, s8, s9, s10⟩; go_simp; with_reducible rfl) (h := ?_)
            refine one_ (i := 32) (N := some 139) Z68 rfl rfl (one_of HT_.out (by kernel_rfl)) (by decide) (fun K hK => ?_)
            refine goes_ Try.func14 (by kernel_rfl) rfl #[.slice A373_0 (rd_L1 l0 (ji78)).length c373_0, .slice A374_0 (rd_L1 l0 x9_5).length c374_0] (by rfl) rfl rfl (by (try simp only [List.map_toArray, List.map_cons, List.map_nil]); first | done | (simp only [hji78]; rfl) | rfl | (simp only [List.length_drop, List.length_take]; rfl)) ?_
            with_reducible refine (changeforgeref3_EncodeDelta.calls k5 _ _ (rd_L1 l0 (ji78)) _ _ (rd_L1 l0 x9_5) t375 _ ?side1 ?side2 ?side3 ?side4 A82.out).mono ?_
            (case side1 => repeat (first | exact (Kd.C_below HR373_0.out HB.out) | (with_reducible refine Kd.C_alloc ?_ _) | (with_reducible refine Kd.C_drewN ?_ _) | (with_reducible refine Kd.C_drew ?_)))
            (case side2 => exact HC373_0.out)
            (case side3 => repeat (first | exact (Kd.C_below HR374_0.out HB.out) | (with_reducible refine Kd.C_alloc ?_ _) | (with_reducible refine Kd.C_drewN ?_ _) | (with_reducible refine Kd.C_drew ?_)))
            (case side4 => exact HC374_0.out)
            rintro e w87 ⟨v376, rfl, ho0, hb⟩
            have HS0_ := (hb.cell (World.block_lt_of_cell? _ _ (hHeld.1))).trans (hHeld.1)
            have HS1_ := (hb.cell (World.block_lt_of_cell? _ _ (hHeld.2.1))).trans (hHeld.2.1)
            have HS2_ := (hb.cell (World.block_lt_of_cell? _ _ (hHeld.2.2.1))).trans (hHeld.2.2.1)
            have HS3_ := (hb.cell (World.block_lt_of_cell? _ _ (hHeld.2.2.2.1))).trans (hHeld.2.2.2.1)
            have HS4_ := (hb.cell (World.block_lt_of_cell? _ _ (hHeld.2.2.2.2.1))).trans (hHeld.2.2.2.2.1)
            have HS5_ := (hb.cell (World.block_lt_of_cell? _ _ (hHeld.2.2.2.2.2.1))).trans (hHeld.2.2.2.2.2.1)
            have HS6_ := (hb.cell (World.block_lt_of_cell? _ _ (hHeld.2.2.2.2.2.2.1))).trans (hHeld.2.2.2.2.2.2.1)
            have HS7_ := (hb.cell (World.block_lt_of_cell? _ _ (hHeld.2.2.2.2.2.2.2.1))).trans (hHeld.2.2.2.2.2.2.2.1)
            have HS8_ := (hb.cell (World.block_lt_of_cell? _ _ (hHeld.2.2.2.2.2.2.2.2.1))).trans (hHeld.2.2.2.2.2.2.2.2.1)
            refine ⟨_, rfl, ?_⟩
            have n0_ := aZ (Kd.R_elder' (by (with_reducible repeat (first | apply Kd.rA | apply Kd.rN | apply Kd.rD)); exact HO_5.out) (Kd.S_base ho0) hb)
            have n1_ := aZ (Kd.R_below (by (with_reducible repeat (first | apply Kd.rA | apply Kd.rN | apply Kd.rD)); exact HL370_1.out) hb)
            have n2_ := aZ (Kd.R_elder' (by (with_reducible repeat (first | apply Kd.rA | apply Kd.rN | apply Kd.rD)); exact HL370_2.out) (Kd.S_base ho0) hb)
            have n3_ := aZ (Kd.R_below (by (with_reducible repeat (first | apply Kd.rA | apply Kd.rN | apply Kd.rD)); exact HL371_1.out) hb)
            have n4_ := aZ (Kd.R_elder' (by (with_reducible repeat (first | apply Kd.rA | apply Kd.rN | apply Kd.rD)); exact HL371_2.out) (Kd.S_base ho0) hb)
            have n5_ := aZ (Kd.R_below (by (with_reducible repeat (first | apply Kd.rA | apply Kd.rN | apply Kd.rD)); exact HL372_1.out) hb)
            have n6_ := aZ (Kd.R_elder' (by (with_reducible repeat (first | apply Kd.rA | apply Kd.rN | apply Kd.rD)); exact HL372_2.out) (Kd.S_base ho0) hb)
            have n7_ := aZ (Kd.S_lower (Kd.S_new' (Kd.S_new' (Kd.S_new' (Kd.S_new' (Kd.S_new' (Kd.S_new' ho0 (Kd.R_lt (by (with_reducible repeat (first | apply Kd.rA | apply Kd.rN | apply Kd.rD)); exact HL370_1.out))) (Kd.R_lt (by (with_reducible repeat (first | apply Kd.rA | apply Kd.rN | apply Kd.rD)); exact HL370_2.out))) (Kd.R_lt (by (with_reducible repeat (first | apply Kd.rA | apply Kd.rN | apply Kd.rD)); exact HL371_1.out))) (Kd.R_lt (by (with_reducible repeat (first | apply Kd.rA | apply Kd.rN | apply Kd.rD)); exact HL371_2.out))) (Kd.R_lt (by (with_reducible repeat (first | apply Kd.rA | apply Kd.rN | apply Kd.rD)); exact HL372_1.out))) (Kd.R_lt (by (with_reducible repeat (first | apply Kd.rA | apply Kd.rN | apply Kd.rD)); exact HL372_2.out))) (lZ (by repeat (first | (with_reducible first | exact HB.out | apply lA | apply lN | apply lD | refine lS ?_ GE356.out | refine lS ?_ GE357.out) | exact HB.out))))
            have n8_ := aZ (blk_below (g := gb356) (o := .cells #[.int .i64 t354, .int .i64 t355] 26 (0, 0)) (by (with_reducible repeat (first | refine bN ?_ _ | refine bD ?_ | refine bA ?_ _)); exact BK356.out) hb)
            have n9_ := aZ (blk_below (g := gb357) (o := .cells #[.int .i64 x358000_2, .int .i64 x358001_2] 26 (0, 0)) (by (with_reducible repeat (first | refine bN ?_ _ | refine bD ?_ | refine bA ?_ _)); exact BK357.out) hb)
            have n10_ := aZ (Kd.C_below (by repeat (first | (with_reducible exact HR370_1.out) | (with_reducible refine Kd.C_alloc ?_ _) | (with_reducible refine Kd.C_drewN ?_ _) | (with_reducible refine Kd.C_drew ?_) | exact HR370_1.out)) hb)
            have n11_ := aZ (Kd.C_below (by repeat (first | (with_reducible exact HR370_2.out) | (with_reducible refine Kd.C_alloc ?_ _) | (with_reducible refine Kd.C_drewN ?_ _) | (with_reducible refine Kd.C_drew ?_) | exact HR370_2.out)) hb)
            have n12_ := aZ (Kd.C_below (by repeat (first | (with_reducible exact HR371_1.out) | (with_reducible refine Kd.C_alloc ?_ _) | (with_reducible refine Kd.C_drewN ?_ _) | (with_reducible refine Kd.C_drew ?_) | exact HR371_1.out)) hb)
            have n13_ := aZ (Kd.C_below (by repeat (first | (with_reducible exact HR371_2.out) | (with_reducible refine Kd.C_alloc ?_ _) | (with_reducible refine Kd.C_drewN ?_ _) | (with_reducible refine Kd.C_drew ?_) | exact HR371_2.out)) hb)
            have n14_ := aZ (Kd.C_below (by repeat (first | (with_reducible exact HR372_1.out) | (with_reducible refine Kd.C_alloc ?_ _) | (with_reducible refine Kd.C_drewN ?_ _) | (with_reducible refine Kd.C_drew ?_) | exact HR372_1.out)) hb)
            have n15_ := aZ (Kd.C_below (by repeat (first | (with_reducible exact HR372_2.out) | (with_reducible refine Kd.C_alloc ?_ _) | (with_reducible refine Kd.C_drewN ?_ _) | (with_reducible refine Kd.C_drew ?_) | exact HR372_2.out)) hb)
            have n16_ := aZ (lT (by repeat (first | (with_reducible first | exact HB.out | apply lA | apply lN | apply lD | refine lS ?_ GE356.out | refine lS ?_ GE357.out) | exact HB.out)) hb)
            clear HO_5
            clear HL370_1
            clear HL370_2
            clear HL371_1
            clear HL371_2
            clear HL372_1
            clear HL372_2
            clear BK356
            clear BK357
            clear HR370_1
            clear HR370_2
            clear HR371_1
            clear HR371_2
            clear HR372_1
            clear HR372_2
            clear HB
            have HO_5 := n0_
            have HL370_1 := n1_
            have HL370_2 := n2_
            have HL371_1 := n3_
            have HL371_2 := n4_
            have HL372_1 := n5_
            have HL372_2 := n6_
            have HO377 := n7_
            have BK356 := n8_
            have BK357 := n9_
            have HR370_1 := n10_
            have HR370_2 := n11_
            have HR371_1 := n12_
            have HR371_2 := n13_
            have HR372_1 := n14_
            have HR372_2 := n15_
            have HB := n16_
            clear n0_ n1_ n2_ n3_ n4_ n5_ n6_ n7_ n8_ n9_ n10_ n11_ n12_ n13_ n14_ n15_ n16_
            (try clear hb)
            (try clear hb2)
            (try clear hk)
            (try clear hi)
            (try clear ho0)
            obtain ⟨Ao88, co88, eo88⟩ := Kd.S_slice HO377.out
            (first | subst eo88 | (injection eo88 with f1_ f2_ f3_; have f4_ := f1_.symm; have f5_ := f3_.symm; clear f1_ f2_ f3_; subst f4_; subst f5_))
            refine hK.out _ _ ⟨HS0_, HS1_, HS2_, HS3_, HS4_, HS5_, HS6_, HS7_, HS8_, ((HB.out.cell (World.block_lt_of_cell? w _ hw373_0)).trans hw373_0), ((HB.out.cell (World.block_lt_of_cell? w _ hw374_0)).trans hw374_0)⟩ (fun hHeld => ?_)
            clear hK K
            refine norm_ (a' := ?_) ?_ ?_
            rotate_left
            · show Act.put _ (some 139) _ = _
              simp only [Act.put, List.setIfInBounds_toArray, List.set_cons_zero, List.set_cons_succ, i64_w, i32_w]
              rfl
            refine one_ (i := 33) (N := some 140) Z69 rfl rfl (one_of HT_.out (by kernel_rfl)) (by decide) (fun K hK => ?_)
            refine goes_ Try.func13 (by kernel_rfl) rfl #[.slice A370_2 ((rd_T45 t351 x9_5).f2).length c370_2, .slice Ao88 t375.length co88] (by rfl) rfl rfl (by (try simp only [List.map_toArray, List.map_cons, List.map_nil]); first | done | rfl | (simp only [List.length_drop, List.length_take]; rfl)) ?_
            with_reducible refine (changeforgeref3_Deltas.calls k5 _ _ ((rd_T45 t351 x9_5).f2) _ _ t375 true _ ?side1 ?side2 ?side3 ?side4 A83.out).mono ?_
            (case side1 => repeat (first | exact (by repeat (first | (with_reducible exact HR372_2.out) | (with_reducible refine Kd.C_alloc ?_ _) | (with_reducible refine Kd.C_drewN ?_ _) | (with_reducible refine Kd.C_drew ?_) | exact HR372_2.out)) | (with_reducible refine Kd.C_alloc ?_ _) | (with_reducible refine Kd.C_drewN ?_ _) | (with_reducible refine Kd.C_drew ?_)))
            (case side2 => exact HC372_2.out)
            (case side3 => repeat (first | exact (Kd.S_reads' HO377.out).2.2 | (with_reducible refine Kd.C_alloc ?_ _) | (with_reducible refine Kd.C_drewN ?_ _) | (with_reducible refine Kd.C_drew ?_)))
            (case side4 => exact (Kd.S_reads' HO377.out).2.1)
            rintro e w' ⟨rfl, ⟨nd, rfl⟩⟩
            refine ⟨_, rfl, ?_⟩
            refine hK.out _ _ ⟨hHeld.1, hHeld.2.1, hHeld.2.2.1, hHeld.2.2.2.1, hHeld.2.2.2.2.1, hHeld.2.2.2.2.2.1, hHeld.2.2.2.2.2.2.1, hHeld.2.2.2.2.2.2.2.1, hHeld.2.2.2.2.2.2.2.2.1, ((HB.out.cell (World.block_lt_of_cell? w _ hw373_0)).trans hw373_0), ((HB.out.cell (World.block_lt_of_cell? w _ hw374_0)).trans hw374_0)⟩ (fun hHeld => ?_)
            clear hK K
            refine norm_ (a' := ?_) ?_ ?_
            rotate_left
            · show Act.put _ (some 140) _ = _
              simp only [Act.put, List.setIfInBounds_toArray, List.set_cons_zero, List.set_cons_succ, i64_w, i32_w]
              rfl
            refine pu 34 141 Z70 HT_ rfl rfl (h := ?_)
            refine pu 35 142 Z71 HT_ rfl rfl (h := ?_)
            refine done_ (done_of HT_.out (by kernel_rfl)) ?_
            try go_wp2
            go_roundg k5
            case measure => have := HJ5.out; have := HK2.out; have := HJ24.out; have := HJ37.out; have := HK5.out; omega
            case rel => exact ⟨(wrap64 (x9_5 + 1)), (by first | rfl | (simp; done) | (simp [*]; done)), H', ⟨by have := HJ5.out; have := HK2.out; have := HJ24.out; have := HJ37.out; have := HK5.out; omega⟩, ⟨by (with_reducible repeat (first | apply Kd.rA | apply Kd.rN | apply Kd.rD)); exact Kd.R_mono HO_5.out (fun _ hk => trivial)⟩, ⟨by (with_reducible repeat (first | refine bN ?_ _ | refine bD ?_ | refine bA ?_ _)); exact BK356.out⟩, ⟨by (with_reducible repeat (first | refine bN ?_ _ | refine bD ?_ | refine bA ?_ _)); exact BK357.out⟩, ⟨by repeat (first | (with_reducible first | exact HB.out | apply lA | apply lN | apply lD | refine lS ?_ GE356.out | refine lS ?_ GE357.out) | exact HB.out)⟩⟩
/-- THE PURE STATEMENT of changeforgelaw3_DeltachainPackMatchesSpec. -/
def changeforgelaw3_DeltachainPackMatchesSpec.Pure : Prop := ∀ (l0 : List (List Int)) (a1 : Int), (l0.length * 24 ≤ 140737488351232 ∧ ∀ x_ ∈ l0, (x_.length * 1 ≤ 140737488351232 ∧ ∀ y_ ∈ x_, (Lit.int .u8 y_).wf = true)) → (Lit.int .i64 a1).wf = true → ∃ k, changeforgelaw3_DeltachainPackMatchesSpec.f k l0 a1 = some true

end Go.Proofs.Ytgmpnghgmcgghaa.P
