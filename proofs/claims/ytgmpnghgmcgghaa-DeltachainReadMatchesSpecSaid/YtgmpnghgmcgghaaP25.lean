/- What the Go functions of this seat compute, and that they do: printed by a program over the kit's print. -/
import Derived.Test.YtgmpnghgmcgghaaP0
import Derived.Test.YtgmpnghgmcgghaaP1
import Derived.Test.YtgmpnghgmcgghaaP6
import Derived.Test.YtgmpnghgmcgghaaP7
import Derived.Test.YtgmpnghgmcgghaaP11
import Derived.Test.YtgmpnghgmcgghaaP20
import Derived.Test.YtgmpnghgmcgghaaP21
import Derived.Test.YtgmpnghgmcgghaaP22
import Derived.Test.YtgmpnghgmcgghaaP23
import Derived.Test.YtgmpnghgmcgghaaP24
namespace Go.Proofs.Ytgmpnghgmcgghaa.P
open Go.RowKit Go.Proofs.YtgmpnghgmcgghaaW.PrintWords Go.Proofs.YtgmpnghgmcgghaaW.PrintLast Go.Proofs.YtgmpnghgmcgghaaW.PrintMore
attribute [local go_sem] max2_int min2_int max_two min_two max_three min_three max_four min_four   -- for this text's walks alone
set_option linter.unusedVariables false
set_option linter.unusedSimpArgs false

attribute [local go_sem high] eqA26
/-! ### changeforgelaw3_DeltachainReadMatchesSpec: function 8 -/
mutual
def changeforgelaw3_DeltachainReadMatchesSpec.j0 : Nat → List (S45) → Int → Option (Bool)
  | 0, _, _ => none
  | k + 1, x0, x1 => (deltachain_Read.f k x0 x1).bind fun bt482 => ((deltachain_Depths.f k x0).bind fun bt488 => ((changeforgeref3_ChainFault.f k x0).bind fun bt494 => (if bt494.1 = 0 then (changeforgelaw3_DeltachainReadMatchesSpec.j1 k x0 x1 bt482.1 bt488.1 bt482.2.1 bt482.2.2 bt488.2.1 bt488.2.2) else (if (bt482.2.1 == bt494.1 && (bt482.2.2 == bt494.2)) = true then (if (bt488.2.1 == bt494.1 && (bt488.2.2 == bt494.2)) = true then (if (bt482.1.length : Int) = 0 then (some ((bt488.1.length : Int) == 0)) else (some false)) else (some false)) else (some false)))))
def changeforgelaw3_DeltachainReadMatchesSpec.j1 : Nat → List (S45) → Int → List Int → List Int → Int → Int → Int → Int → Option (Bool)
  | 0, _, _, _, _, _, _, _, _ => none
  | k + 1, x0, x1, x5, x7, x488000, x488001, x494000, x494001 => if x494000 = 0 then (changeforgelaw3_DeltachainReadMatchesSpec.j2 k x0 x1 x5 x7 ((x7.length : Int) != (x0.length : Int)) x488000 x488001) else (changeforgelaw3_DeltachainReadMatchesSpec.j2 k x0 x1 x5 x7 true x488000 x488001)
def changeforgelaw3_DeltachainReadMatchesSpec.j2 : Nat → List (S45) → Int → List Int → List Int → Bool → Int → Int → Option (Bool)
  | 0, _, _, _, _, _, _, _ => none
  | k + 1, x0, x1, x5, x7, x56, x488000, x488001 => if x56 = true then (some false) else (changeforgelaw3_DeltachainReadMatchesSpec.j3 k x0 x1 x5 x7 x488000 x488001)
def changeforgelaw3_DeltachainReadMatchesSpec.j3 : Nat → List (S45) → Int → List Int → List Int → Int → Int → Option (Bool)
  | 0, _, _, _, _, _, _ => none
  | k + 1, x0, x1, x5, x7, x488000, x488001 => changeforgelaw3_DeltachainReadMatchesSpec.l0 k x0 x1 x5 x7 0 x488000 x488001
def changeforgelaw3_DeltachainReadMatchesSpec.j5 : Nat → List (S45) → Int → List Int → Int → Int → Option (Bool)
  | 0, _, _, _, _, _ => none
  | k + 1, x0, x1, x5, x488000, x488001 => (changeforgeref3_In.f x1 0 (wrap64 ((x0.length : Int) - 1))).bind fun t499 => (if t499 = true then (if x488000 = 0 then ((changeforgeref3_ChainVersion.f k x0 x1).bind fun t500 => (some ((strOfNums x5).toList == (strOfNums t500).toList))) else (some false)) else ((changeforgeref3_Fault.f 6 (-1)).bind fun bt503 => (if (x488000 == bt503.1 && (x488001 == bt503.2)) = true then (some ((x5.length : Int) == 0)) else (some false))))
def changeforgelaw3_DeltachainReadMatchesSpec.l0 : Nat → List (S45) → Int → List Int → List Int → Int → Int → Int → Option (Bool)
  | 0, _, _, _, _, _, _, _ => none
  | k + 1, x0, x1, x5, x7, x10, x488000, x488001 => if x10 < (x7.length : Int) then (if 0 ≤ x10 then ((changeforgeref3_ChainDepth.f k x0 x10).bind fun t498 => (if (rd x7 x10) = t498 then (changeforgelaw3_DeltachainReadMatchesSpec.l0 k x0 x1 x5 x7 (wrap64 (x10 + 1)) x488000 x488001) else (some false))) else (none)) else (changeforgelaw3_DeltachainReadMatchesSpec.j5 k x0 x1 x5 x488000 x488001)
end
def changeforgelaw3_DeltachainReadMatchesSpec.f (k : Nat) (l0 : List (S45)) (a1 : Int) : Option (Bool) := (changeforgelaw3_deltachainExample.f k).bind fun t481 => (if t481 = true then (changeforgelaw3_DeltachainReadMatchesSpec.j0 k l0 a1) else (some false))
theorem changeforgelaw3_DeltachainReadMatchesSpec.mono_l : ∀ k, (∀ y0 y1, LeO (changeforgelaw3_DeltachainReadMatchesSpec.j0 k y0 y1) (changeforgelaw3_DeltachainReadMatchesSpec.j0 (k + 1) y0 y1)) ∧ (∀ y0 y1 y2 y3 y4 y5 y6 y7, LeO (changeforgelaw3_DeltachainReadMatchesSpec.j1 k y0 y1 y2 y3 y4 y5 y6 y7) (changeforgelaw3_DeltachainReadMatchesSpec.j1 (k + 1) y0 y1 y2 y3 y4 y5 y6 y7)) ∧ (∀ y0 y1 y2 y3 y4 y5 y6, LeO (changeforgelaw3_DeltachainReadMatchesSpec.j2 k y0 y1 y2 y3 y4 y5 y6) (changeforgelaw3_DeltachainReadMatchesSpec.j2 (k + 1) y0 y1 y2 y3 y4 y5 y6)) ∧ (∀ y0 y1 y2 y3 y4 y5, LeO (changeforgelaw3_DeltachainReadMatchesSpec.j3 k y0 y1 y2 y3 y4 y5) (changeforgelaw3_DeltachainReadMatchesSpec.j3 (k + 1) y0 y1 y2 y3 y4 y5)) ∧ (∀ y0 y1 y2 y3 y4, LeO (changeforgelaw3_DeltachainReadMatchesSpec.j5 k y0 y1 y2 y3 y4) (changeforgelaw3_DeltachainReadMatchesSpec.j5 (k + 1) y0 y1 y2 y3 y4)) ∧ (∀ y0 y1 y2 y3 y4 y5 y6, LeO (changeforgelaw3_DeltachainReadMatchesSpec.l0 k y0 y1 y2 y3 y4 y5 y6) (changeforgelaw3_DeltachainReadMatchesSpec.l0 (k + 1) y0 y1 y2 y3 y4 y5 y6))
  | 0 => ⟨fun _ _ r h => by simp [changeforgelaw3_DeltachainReadMatchesSpec.j0] at h, fun _ _ _ _ _ _ _ _ r h => by simp [changeforgelaw3_DeltachainReadMatchesSpec.j1] at h, fun _ _ _ _ _ _ _ r h => by simp [changeforgelaw3_DeltachainReadMatchesSpec.j2] at h, fun _ _ _ _ _ _ r h => by simp [changeforgelaw3_DeltachainReadMatchesSpec.j3] at h, fun _ _ _ _ _ r h => by simp [changeforgelaw3_DeltachainReadMatchesSpec.j5] at h, fun _ _ _ _ _ _ _ r h => by simp [changeforgelaw3_DeltachainReadMatchesSpec.l0] at h⟩
  | k + 1 => by
    obtain ⟨ih0, ih1, ih2, ih3, ih4, ih5⟩ := changeforgelaw3_DeltachainReadMatchesSpec.mono_l k
    refine ⟨?_, ?_, ?_, ?_, ?_, ?_⟩
    · intro y0 y1
      unfold changeforgelaw3_DeltachainReadMatchesSpec.j0
      repeat' first
      | (with_reducible exact ih0 _ _)
      | (with_reducible exact ih1 _ _ _ _ _ _ _ _)
      | (with_reducible exact ih2 _ _ _ _ _ _ _)
      | (with_reducible exact ih3 _ _ _ _ _ _)
      | (with_reducible exact ih4 _ _ _ _ _)
      | (with_reducible exact ih5 _ _ _ _ _ _ _)
      | (with_reducible exact changeforgelaw3_deltachainExample.mono _)
      | (with_reducible exact changeforgeref3_ChainDepth.mono _ _ _)
      | (with_reducible exact changeforgeref3_ChainFault.mono _ _)
      | (with_reducible exact changeforgeref3_ChainVersion.mono _ _ _)
      | (with_reducible exact deltachain_Depths.mono _ _)
      | (with_reducible exact deltachain_Read.mono _ _ _)
      | (with_reducible exact LeO.refl _)
      | (with_reducible exact LeO.none _)
      | (with_reducible refine LeO.ite ?_ ?_)
      | (with_reducible refine LeO.bind ?_ (fun _ => ?_))
      | exact ih0 _ _
      | exact ih1 _ _ _ _ _ _ _ _
      | exact ih2 _ _ _ _ _ _ _
      | exact ih3 _ _ _ _ _ _
      | exact ih4 _ _ _ _ _
      | exact ih5 _ _ _ _ _ _ _
      | exact changeforgelaw3_deltachainExample.mono _
      | exact changeforgeref3_ChainDepth.mono _ _ _
      | exact changeforgeref3_ChainFault.mono _ _
      | exact changeforgeref3_ChainVersion.mono _ _ _
      | exact deltachain_Depths.mono _ _
      | exact deltachain_Read.mono _ _ _
      | exact LeO.none _
      | refine LeO.ite ?_ ?_
      | refine LeO.bind ?_ (fun _ => ?_)
    · intro y0 y1 y2 y3 y4 y5 y6 y7
      unfold changeforgelaw3_DeltachainReadMatchesSpec.j1
      repeat' first
      | (with_reducible exact ih0 _ _)
      | (with_reducible exact ih1 _ _ _ _ _ _ _ _)
      | (with_reducible exact ih2 _ _ _ _ _ _ _)
      | (with_reducible exact ih3 _ _ _ _ _ _)
      | (with_reducible exact ih4 _ _ _ _ _)
      | (with_reducible exact ih5 _ _ _ _ _ _ _)
      | (with_reducible exact changeforgelaw3_deltachainExample.mono _)
      | (with_reducible exact changeforgeref3_ChainDepth.mono _ _ _)
      | (with_reducible exact changeforgeref3_ChainFault.mono _ _)
      | (with_reducible exact changeforgeref3_ChainVersion.mono _ _ _)
      | (with_reducible exact deltachain_Depths.mono _ _)
      | (with_reducible exact deltachain_Read.mono _ _ _)
      | (with_reducible exact LeO.refl _)
      | (with_reducible exact LeO.none _)
      | (with_reducible refine LeO.ite ?_ ?_)
      | (with_reducible refine LeO.bind ?_ (fun _ => ?_))
      | exact ih0 _ _
      | exact ih1 _ _ _ _ _ _ _ _
      | exact ih2 _ _ _ _ _ _ _
      | exact ih3 _ _ _ _ _ _
      | exact ih4 _ _ _ _ _
      | exact ih5 _ _ _ _ _ _ _
      | exact changeforgelaw3_deltachainExample.mono _
      | exact changeforgeref3_ChainDepth.mono _ _ _
      | exact changeforgeref3_ChainFault.mono _ _
      | exact changeforgeref3_ChainVersion.mono _ _ _
      | exact deltachain_Depths.mono _ _
      | exact deltachain_Read.mono _ _ _
      | exact LeO.none _
      | refine LeO.ite ?_ ?_
      | refine LeO.bind ?_ (fun _ => ?_)
    · intro y0 y1 y2 y3 y4 y5 y6
      unfold changeforgelaw3_DeltachainReadMatchesSpec.j2
      repeat' first
      | (with_reducible exact ih0 _ _)
      | (with_reducible exact ih1 _ _ _ _ _ _ _ _)
      | (with_reducible exact ih2 _ _ _ _ _ _ _)
      | (with_reducible exact ih3 _ _ _ _ _ _)
      | (with_reducible exact ih4 _ _ _ _ _)
      | (with_reducible exact ih5 _ _ _ _ _ _ _)
      | (with_reducible exact changeforgelaw3_deltachainExample.mono _)
      | (with_reducible exact changeforgeref3_ChainDepth.mono _ _ _)
      | (with_reducible exact changeforgeref3_ChainFault.mono _ _)
      | (with_reducible exact changeforgeref3_ChainVersion.mono _ _ _)
      | (with_reducible exact deltachain_Depths.mono _ _)
      | (with_reducible exact deltachain_Read.mono _ _ _)
      | (with_reducible exact LeO.refl _)
      | (with_reducible exact LeO.none _)
      | (with_reducible refine LeO.ite ?_ ?_)
      | (with_reducible refine LeO.bind ?_ (fun _ => ?_))
      | exact ih0 _ _
      | exact ih1 _ _ _ _ _ _ _ _
      | exact ih2 _ _ _ _ _ _ _
      | exact ih3 _ _ _ _ _ _
      | exact ih4 _ _ _ _ _
      | exact ih5 _ _ _ _ _ _ _
      | exact changeforgelaw3_deltachainExample.mono _
      | exact changeforgeref3_ChainDepth.mono _ _ _
      | exact changeforgeref3_ChainFault.mono _ _
      | exact changeforgeref3_ChainVersion.mono _ _ _
      | exact deltachain_Depths.mono _ _
      | exact deltachain_Read.mono _ _ _
      | exact LeO.none _
      | refine LeO.ite ?_ ?_
      | refine LeO.bind ?_ (fun _ => ?_)
    · intro y0 y1 y2 y3 y4 y5
      unfold changeforgelaw3_DeltachainReadMatchesSpec.j3
      repeat' first
      | (with_reducible exact ih0 _ _)
      | (with_reducible exact ih1 _ _ _ _ _ _ _ _)
      | (with_reducible exact ih2 _ _ _ _ _ _ _)
      | (with_reducible exact ih3 _ _ _ _ _ _)
      | (with_reducible exact ih4 _ _ _ _ _)
      | (with_reducible exact ih5 _ _ _ _ _ _ _)
      | (with_reducible exact changeforgelaw3_deltachainExample.mono _)
      | (with_reducible exact changeforgeref3_ChainDepth.mono _ _ _)
      | (with_reducible exact changeforgeref3_ChainFault.mono _ _)
      | (with_reducible exact changeforgeref3_ChainVersion.mono _ _ _)
      | (with_reducible exact deltachain_Depths.mono _ _)
      | (with_reducible exact deltachain_Read.mono _ _ _)
      | (with_reducible exact LeO.refl _)
      | (with_reducible exact LeO.none _)
      | (with_reducible refine LeO.ite ?_ ?_)
      | (with_reducible refine LeO.bind ?_ (fun _ => ?_))
      | exact ih0 _ _
      | exact ih1 _ _ _ _ _ _ _ _
      | exact ih2 _ _ _ _ _ _ _
      | exact ih3 _ _ _ _ _ _
      | exact ih4 _ _ _ _ _
      | exact ih5 _ _ _ _ _ _ _
      | exact changeforgelaw3_deltachainExample.mono _
      | exact changeforgeref3_ChainDepth.mono _ _ _
      | exact changeforgeref3_ChainFault.mono _ _
      | exact changeforgeref3_ChainVersion.mono _ _ _
      | exact deltachain_Depths.mono _ _
      | exact deltachain_Read.mono _ _ _
      | exact LeO.none _
      | refine LeO.ite ?_ ?_
      | refine LeO.bind ?_ (fun _ => ?_)
    · intro y0 y1 y2 y3 y4
      unfold changeforgelaw3_DeltachainReadMatchesSpec.j5
      repeat' first
      | (with_reducible exact ih0 _ _)
      | (with_reducible exact ih1 _ _ _ _ _ _ _ _)
      | (with_reducible exact ih2 _ _ _ _ _ _ _)
      | (with_reducible exact ih3 _ _ _ _ _ _)
      | (with_reducible exact ih4 _ _ _ _ _)
      | (with_reducible exact ih5 _ _ _ _ _ _ _)
      | (with_reducible exact changeforgelaw3_deltachainExample.mono _)
      | (with_reducible exact changeforgeref3_ChainDepth.mono _ _ _)
      | (with_reducible exact changeforgeref3_ChainFault.mono _ _)
      | (with_reducible exact changeforgeref3_ChainVersion.mono _ _ _)
      | (with_reducible exact deltachain_Depths.mono _ _)
      | (with_reducible exact deltachain_Read.mono _ _ _)
      | (with_reducible exact LeO.refl _)
      | (with_reducible exact LeO.none _)
      | (with_reducible refine LeO.ite ?_ ?_)
      | (with_reducible refine LeO.bind ?_ (fun _ => ?_))
      | exact ih0 _ _
      | exact ih1 _ _ _ _ _ _ _ _
      | exact ih2 _ _ _ _ _ _ _
      | exact ih3 _ _ _ _ _ _
      | exact ih4 _ _ _ _ _
      | exact ih5 _ _ _ _ _ _ _
      | exact changeforgelaw3_deltachainExample.mono _
      | exact changeforgeref3_ChainDepth.mono _ _ _
      | exact changeforgeref3_ChainFault.mono _ _
      | exact changeforgeref3_ChainVersion.mono _ _ _
      | exact deltachain_Depths.mono _ _
      | exact deltachain_Read.mono _ _ _
      | exact LeO.none _
      | refine LeO.ite ?_ ?_
      | refine LeO.bind ?_ (fun _ => ?_)
    · intro y0 y1 y2 y3 y4 y5 y6
      unfold changeforgelaw3_DeltachainReadMatchesSpec.l0
      repeat' first
      | (with_reducible exact ih0 _ _)
      | (with_reducible exact ih1 _ _ _ _ _ _ _ _)
      | (with_reducible exact ih2 _ _ _ _ _ _ _)
      | (with_reducible exact ih3 _ _ _ _ _ _)
      | (with_reducible exact ih4 _ _ _ _ _)
      | (with_reducible exact ih5 _ _ _ _ _ _ _)
      | (with_reducible exact changeforgelaw3_deltachainExample.mono _)
      | (with_reducible exact changeforgeref3_ChainDepth.mono _ _ _)
      | (with_reducible exact changeforgeref3_ChainFault.mono _ _)
      | (with_reducible exact changeforgeref3_ChainVersion.mono _ _ _)
      | (with_reducible exact deltachain_Depths.mono _ _)
      | (with_reducible exact deltachain_Read.mono _ _ _)
      | (with_reducible exact LeO.refl _)
      | (with_reducible exact LeO.none _)
      | (with_reducible refine LeO.ite ?_ ?_)
      | (with_reducible refine LeO.bind ?_ (fun _ => ?_))
      | exact ih0 _ _
      | exact ih1 _ _ _ _ _ _ _ _
      | exact ih2 _ _ _ _ _ _ _
      | exact ih3 _ _ _ _ _ _
      | exact ih4 _ _ _ _ _
      | exact ih5 _ _ _ _ _ _ _
      | exact changeforgelaw3_deltachainExample.mono _
      | exact changeforgeref3_ChainDepth.mono _ _ _
      | exact changeforgeref3_ChainFault.mono _ _
      | exact changeforgeref3_ChainVersion.mono _ _ _
      | exact deltachain_Depths.mono _ _
      | exact deltachain_Read.mono _ _ _
      | exact LeO.none _
      | refine LeO.ite ?_ ?_
      | refine LeO.bind ?_ (fun _ => ?_)
theorem changeforgelaw3_DeltachainReadMatchesSpec.mono : ∀ a0 a1 k, LeO (changeforgelaw3_DeltachainReadMatchesSpec.f k a0 a1) (changeforgelaw3_DeltachainReadMatchesSpec.f (k + 1) a0 a1) := by
  intro a0 a1 k
  obtain ⟨ih0, ih1, ih2, ih3, ih4, ih5⟩ := changeforgelaw3_DeltachainReadMatchesSpec.mono_l k
  unfold changeforgelaw3_DeltachainReadMatchesSpec.f
  repeat' first
      | (with_reducible exact ih0 _ _)
      | (with_reducible exact ih1 _ _ _ _ _ _ _ _)
      | (with_reducible exact ih2 _ _ _ _ _ _ _)
      | (with_reducible exact ih3 _ _ _ _ _ _)
      | (with_reducible exact ih4 _ _ _ _ _)
      | (with_reducible exact ih5 _ _ _ _ _ _ _)
      | (with_reducible exact changeforgelaw3_deltachainExample.mono _)
      | (with_reducible exact changeforgeref3_ChainDepth.mono _ _ _)
      | (with_reducible exact changeforgeref3_ChainFault.mono _ _)
      | (with_reducible exact changeforgeref3_ChainVersion.mono _ _ _)
      | (with_reducible exact deltachain_Depths.mono _ _)
      | (with_reducible exact deltachain_Read.mono _ _ _)
      | (with_reducible exact LeO.refl _)
      | (with_reducible exact LeO.none _)
      | (with_reducible refine LeO.ite ?_ ?_)
      | (with_reducible refine LeO.bind ?_ (fun _ => ?_))
      | exact ih0 _ _
      | exact ih1 _ _ _ _ _ _ _ _
      | exact ih2 _ _ _ _ _ _ _
      | exact ih3 _ _ _ _ _ _
      | exact ih4 _ _ _ _ _
      | exact ih5 _ _ _ _ _ _ _
      | exact changeforgelaw3_deltachainExample.mono _
      | exact changeforgeref3_ChainDepth.mono _ _ _
      | exact changeforgeref3_ChainFault.mono _ _
      | exact changeforgeref3_ChainVersion.mono _ _ _
      | exact deltachain_Depths.mono _ _
      | exact deltachain_Read.mono _ _ _
      | exact LeO.none _
      | refine LeO.ite ?_ ?_
      | refine LeO.bind ?_ (fun _ => ?_)
def changeforgelaw3_DeltachainReadMatchesSpec.T13 : Bool × List (List Nat × List Nat) := (true, [([], []), ([], []), ([0, 1], [0, 1]), ([2], [2]), ([], []), ([], []), ([4, 5], [4, 5]), ([3, 6], [3, 6])])
def changeforgelaw3_DeltachainReadMatchesSpec.B13 : List Nat := [0, 0, 3, 7, 0, 0, 48, 127]
theorem changeforgelaw3_DeltachainReadMatchesSpec.tab13 : rtab .any (opsOf Try.f8 13) = changeforgelaw3_DeltachainReadMatchesSpec.T13 := by kernel_rfl
theorem changeforgelaw3_DeltachainReadMatchesSpec.bits13 : waitsOk changeforgelaw3_DeltachainReadMatchesSpec.T13.2 changeforgelaw3_DeltachainReadMatchesSpec.B13 = true := by kernel_rfl
def changeforgelaw3_DeltachainReadMatchesSpec.T16 : Bool × List (List Nat × List Nat) := (true, [([], []), ([], []), ([0, 1], [0, 1]), ([2, 1], [2]), ([3], [3]), ([4, 3], [3, 4]), ([5, 3], [3, 5]), ([3, 6], [3, 6]), ([7, 3, 0, 1, 2, 3, 4, 5, 6, 7], [7])])
def changeforgelaw3_DeltachainReadMatchesSpec.B16 : List Nat := [0, 0, 3, 7, 15, 31, 63, 127, 255]
theorem changeforgelaw3_DeltachainReadMatchesSpec.tab16 : rtab .any (opsOf Try.f8 16) = changeforgelaw3_DeltachainReadMatchesSpec.T16 := by kernel_rfl
theorem changeforgelaw3_DeltachainReadMatchesSpec.bits16 : waitsOk changeforgelaw3_DeltachainReadMatchesSpec.T16.2 changeforgelaw3_DeltachainReadMatchesSpec.B16 = true := by kernel_rfl
def changeforgelaw3_DeltachainReadMatchesSpec.T17 : Bool × List (List Nat × List Nat) := (true, [([], []), ([0], [0]), ([1], [1]), ([2], [2]), ([3], [3]), ([4, 3], [3, 4]), ([3], [3]), ([3], [3]), ([6, 7, 3, 3], [3, 6, 7]), ([8, 3], [3, 8]), ([5, 9, 3], [3, 5, 9]), ([3, 10], [3, 10]), ([11, 8, 0, 1, 2, 3, 4, 5, 6, 7, 8, 9, 10, 11], [11])])
def changeforgelaw3_DeltachainReadMatchesSpec.B17 : List Nat := [0, 1, 3, 7, 15, 31, 15, 15, 207, 463, 1023, 2047, 4095]
theorem changeforgelaw3_DeltachainReadMatchesSpec.tab17 : rtab .any (opsOf Try.f8 17) = changeforgelaw3_DeltachainReadMatchesSpec.T17 := by kernel_rfl
theorem changeforgelaw3_DeltachainReadMatchesSpec.bits17 : waitsOk changeforgelaw3_DeltachainReadMatchesSpec.T17.2 changeforgelaw3_DeltachainReadMatchesSpec.B17 = true := by kernel_rfl
abbrev changeforgelaw3_DeltachainReadMatchesSpec.Z1 : Array Bool := #[false, false, false, false, false, false, false, false, false, false, false, false, false]
abbrev changeforgelaw3_DeltachainReadMatchesSpec.Z2 : Array Bool := #[true, false, false, false, false, false, false, false, false, false, false, false, false]
abbrev changeforgelaw3_DeltachainReadMatchesSpec.Z3 : Array Bool := #[true, true, false, false, false, false, false, false, false, false, false, false, false]
abbrev changeforgelaw3_DeltachainReadMatchesSpec.Z4 : Array Bool := #[true, true, true, false, false, false, false, false, false, false, false, false, false]
abbrev changeforgelaw3_DeltachainReadMatchesSpec.Z5 : Array Bool := #[true, true, true, true, false, false, false, false, false, false, false, false, false]
abbrev changeforgelaw3_DeltachainReadMatchesSpec.Z6 : Array Bool := #[true, true, true, true, true, false, false, false, false, false, false, false, false]
abbrev changeforgelaw3_DeltachainReadMatchesSpec.Z7 : Array Bool := #[true, true, true, true, true, false, true, false, false, false, false, false, false]
abbrev changeforgelaw3_DeltachainReadMatchesSpec.Z8 : Array Bool := #[true, true, true, true, true, false, true, true, false, false, false, false, false]
abbrev changeforgelaw3_DeltachainReadMatchesSpec.Z9 : Array Bool := #[true, true, true, true, true, true, true, true, false, false, false, false, false]
abbrev changeforgelaw3_DeltachainReadMatchesSpec.Z10 : Array Bool := #[true, true, true, true, true, true, true, true, true, false, false, false, false]
abbrev changeforgelaw3_DeltachainReadMatchesSpec.Z11 : Array Bool := #[true, true, true, true, true, true, true, true, true, true, false, false, false]
abbrev changeforgelaw3_DeltachainReadMatchesSpec.Z12 : Array Bool := #[true, true, true, true, true, true, true, true, true, true, true, false, false]
abbrev changeforgelaw3_DeltachainReadMatchesSpec.Z13 : Array Bool := #[true, true, true, true, true, true, true, true, true, true, true, true, false]
abbrev changeforgelaw3_DeltachainReadMatchesSpec.Z14 : Array Bool := #[true, true, true, true, true, true, true, true, true, true, true, true, true]
abbrev changeforgelaw3_DeltachainReadMatchesSpec.Z15 : Array Bool := #[true, true, true, true, true, true, false, false, false, false, false, false, false]
abbrev changeforgelaw3_DeltachainReadMatchesSpec.Z16 : Array Bool := #[true, true, true, true, true, true, true, false, false, false, false, false, false]
set_option maxHeartbeats 8000000 in
set_option maxRecDepth 100000 in
theorem changeforgelaw3_DeltachainReadMatchesSpec.calls (k : Nat) (A0 : Option Addr) (c0 : Nat) (l0 : List (S45)) (a1 : Int) (r : Bool) (w : World) (hr0 : Kd.C k45 w A0 l0.length l0) (hc0 : l0.length ≤ c0) (h : changeforgelaw3_DeltachainReadMatchesSpec.f k l0 a1 = some r) :
  Calls Try.prog 8 #[.slice A0 l0.length c0, .int .i64 a1] w fun e w' => e = .returned (.bool r) ∧ Below w.heap.size w w' := by
  have hu26 := Try.underlying26
  have HR0 := aZ hr0
  have HC0 := aZ hc0
  clear hr0 hc0
  have HB := aZ (Below.refl w.heap.size w)
  have H : ((changeforgelaw3_deltachainExample.f k).bind fun t481 => (if t481 = true then (changeforgelaw3_DeltachainReadMatchesSpec.j0 k l0 a1) else (some false))) = some r := h
  clear h
  replace H := Option.bind_eq_some_iff.mp H
  obtain ⟨t481, A30, H⟩ := H
  replace H : (if t481 = true then (changeforgelaw3_DeltachainReadMatchesSpec.j0 k l0 a1) else (some false)) = some r := H
  have A3 := aZ A30
  clear A30
  have HC4 := aZ H
  clear H
  go_enter Try.func8, Try.ntmps8
  go_upto_if 12 with (first | ((with_reducible refine gate_callee (f := 10) rfl ?_); refine goesL_ (some 11) rfl rfl Try.func10 (by kernel_rfl) rfl #[] rfl (by (try simp only [List.map_toArray, List.map_cons, List.map_nil]); first | done | rfl | (simp only [List.length_drop, List.length_take]; rfl)) ?_; (with_reducible refine (changeforgelaw3_deltachainExample.calls k  t481 _ A3.out).mono ?_); rintro e w5 ⟨rfl, hb⟩; refine ⟨_, rfl, ?_⟩; have n0_ := aZ (lT (by repeat (first | (with_reducible first | exact HB.out | apply lA | apply lN | apply lD) | exact HB.out)) hb); clear HB; have HB := n0_; clear n0_; (try clear hb); (try clear hb2); (try clear hk); (try clear hi)))
  (try simp only [Act.put, List.setIfInBounds_toArray, List.set_cons_zero, List.set_cons_succ])
  go_cut [] (fun wc => ∃ (kq : Nat), Aside0 (changeforgelaw3_DeltachainReadMatchesSpec.j0 kq l0 a1 = some r) ∧ Aside0 (kq ≤ k) ∧ Aside0 (Below w.heap.size w wc))
  case first =>
   have H := HC4.out
   clear HC4
   by_cases c6 : t481 = true
   · subst c6
     have H1 : (changeforgelaw3_DeltachainReadMatchesSpec.j0 k l0 a1) = some r := by rw [if_pos rfl] at H; exact H
     clear H
     have H := H1
     clear H1
     as_aux_lemma =>
      have H' := aZ H
      clear H
      go_wp2
      go_meet
      case rel => exact ⟨_, H', ⟨by first | omega | exact Nat.le_refl _⟩, ⟨by repeat (first | (with_reducible first | exact HB.out | apply lA | apply lN | apply lD) | exact HB.out)⟩⟩
   replace c6 := Bool.eq_false_iff.mpr c6
   subst c6
   have H1 : (some false) = some r := by rw [if_neg (show ¬ (false = true) by decide)] at H; exact H
   clear H
   have H := H1
   clear H1
   as_aux_lemma =>
    obtain rfl := Option.some.inj H
    go_wp2
    go_ret
    exact ⟨by first | rfl | (simp [errW_none, errW_some] <;> rfl) | (simp [*, errW_none, errW_some] <;> rfl), by repeat (first | (with_reducible first | exact HB.out | apply lA | apply lN | apply lD) | exact HB.out)⟩
  case rest =>
   clear HC4
   obtain ⟨kq, HA, HJ3, HB⟩ := hcut
   cases kq with
   | zero => exact absurd HA.out (by simp [changeforgelaw3_DeltachainReadMatchesSpec.j0])
   | succ kj3 =>
    have H := HA.out
    clear HA
    simp only [changeforgelaw3_DeltachainReadMatchesSpec.j0] at H
    replace H := Option.bind_eq_some_iff.mp H
    obtain ⟨⟨t482, t485, t486⟩, A70, H⟩ := H
    replace H : ((deltachain_Depths.f kj3 l0).bind fun bt488 => ((changeforgeref3_ChainFault.f kj3 l0).bind fun bt494 => (if bt494.1 = 0 then (changeforgelaw3_DeltachainReadMatchesSpec.j1 kj3 l0 a1 t482 bt488.1 t485 t486 bt488.2.1 bt488.2.2) else (if (t485 == bt494.1 && (t486 == bt494.2)) = true then (if (bt488.2.1 == bt494.1 && (bt488.2.2 == bt494.2)) = true then (if (t482.length : Int) = 0 then (some ((bt488.1.length : Int) == 0)) else (some false)) else (some false)) else (some false))))) = some r := H
    have A7 := aZ A70
    clear A70
    replace H := Option.bind_eq_some_iff.mp H
    obtain ⟨⟨t488, t491, t492⟩, A80, H⟩ := H
    replace H : ((changeforgeref3_ChainFault.f kj3 l0).bind fun bt494 => (if bt494.1 = 0 then (changeforgelaw3_DeltachainReadMatchesSpec.j1 kj3 l0 a1 t482 t488 t485 t486 t491 t492) else (if (t485 == bt494.1 && (t486 == bt494.2)) = true then (if (t491 == bt494.1 && (t492 == bt494.2)) = true then (if (t482.length : Int) = 0 then (some ((t488.length : Int) == 0)) else (some false)) else (some false)) else (some false)))) = some r := H
    have A8 := aZ A80
    clear A80
    replace H := Option.bind_eq_some_iff.mp H
    obtain ⟨⟨t494, t495⟩, A90, H⟩ := H
    replace H : (if t494 = 0 then (changeforgelaw3_DeltachainReadMatchesSpec.j1 kj3 l0 a1 t482 t488 t485 t486 t491 t492) else (if (t485 == t494 && (t486 == t495)) = true then (if (t491 == t494 && (t492 == t495)) = true then (if (t482.length : Int) = 0 then (some ((t488.length : Int) == 0)) else (some false)) else (some false)) else (some false))) = some r := H
    have A9 := aZ A90
    clear A90
    have HC10 := aZ H
    clear H
    go_upto_if 28 with (first | ((with_reducible refine gate_callee (f := 19) rfl ?_); refine goesL_ (some 16) rfl rfl Try.func19 (by kernel_rfl) rfl #[.slice A0 l0.length c0, .int .i64 a1] rfl (by (try simp only [List.map_toArray, List.map_cons, List.map_nil]); first | done | rfl | (simp only [List.length_drop, List.length_take]; rfl)) ?_; (with_reducible refine (deltachain_Read.calls kj3 _ _ l0 a1 t482 t485 t486 _ ?side1 ?side2 A7.out).mono ?_); (case side1 => repeat (first | exact (Kd.C_below HR0.out HB.out) | (with_reducible refine Kd.C_alloc ?_ _) | (with_reducible refine Kd.C_drewN ?_ _) | (with_reducible refine Kd.C_drew ?_))); (case side2 => exact HC0.out); rintro e w11 ⟨v483, rfl, ho0, hb⟩; refine ⟨_, rfl, ?_⟩; have n0_ := aZ (Kd.V_lower (Kd.V_mono (ok' := fun k_ => True) ho0 (fun k_ hk_ => trivial)) (lZ (by repeat (first | (with_reducible first | exact HB.out | apply lA | apply lN | apply lD) | exact HB.out)))); have n1_ := aZ (lT (by repeat (first | (with_reducible first | exact HB.out | apply lA | apply lN | apply lD) | exact HB.out)) hb); clear HB; have HO484 := n0_; have HB := n1_; clear n0_ n1_; (try clear hb); (try clear hb2); (try clear hk); (try clear hi); (try clear ho0)) | ((with_reducible refine gate_dst (N := 6) rfl ?_); (try (refine gate_guard (by rfl) ?_; dsimp only)); refine box_event ?hg (N := 6) ?hd (cs := #[.int .i64 0, .int .i64 0]) (t := 26) ?hr ?_; (case hd => rfl); (case hg => rfl); (case hr => first | (go_simp; done) | (go_simp; rfl)); intro gb487 hg w12 hbox hb; have n0_ := aZ (Kd.V_below (Kd.V_elderB (by (with_reducible repeat (first | apply Kd.V_alloc | apply Kd.V_drewN | apply Kd.V_drew)); exact HO484.out) gb487 (Nat.le_of_eq hg.symm)) hb); have n1_ := aZ (lT (by repeat (first | (with_reducible first | exact HB.out | apply lA | apply lN | apply lD) | exact HB.out)) hb); have n2_ := aZ (hbox); have n3_ := aZ ((by rw [hg]; exact (lZ (by repeat (first | (with_reducible first | exact HB.out | apply lA | apply lN | apply lD) | exact HB.out))) : w.heap.size ≤ gb487)); have n4_ := aZ ((by rw [hg]; exact (lZ (by repeat (first | (with_reducible first | exact HB.out | apply lA | apply lN | apply lD) | exact HB.out))) : w.heap.size ≤ gb487)); clear HO484; clear HB; have HO484 := n0_; have HB := n1_; have BK487 := n2_; have GW487 := n3_; have GE487 := n4_; clear n0_ n1_ n2_ n3_ n4_; clear hb hbox hg; have hcz13_0 : w12.cell? ⟨gb487, 0, none⟩ = some (.int .i64 0) := (blk_cell BK487.out 0).trans rfl; have hcz13_1 : w12.cell? ⟨gb487, 1, none⟩ = some (.int .i64 0) := (blk_cell BK487.out 1).trans rfl; have hfz13_0 := blk_frozen BK487.out 0; have hfz13_1 := blk_frozen BK487.out 1) | ((with_reducible refine gate_callee (f := 20) rfl ?_); refine goesL_ (some 21) rfl rfl Try.func20 (by kernel_rfl) rfl #[.slice A0 l0.length c0] rfl (by (try simp only [List.map_toArray, List.map_cons, List.map_nil]); first | done | rfl | (simp only [List.length_drop, List.length_take]; rfl)) ?_; (with_reducible refine (deltachain_Depths.calls kj3 _ _ l0 t488 t491 t492 _ ?side1 ?side2 A8.out).mono ?_); (case side1 => exact Kd.C_below HR0.out (by repeat (first | (with_reducible first | exact HB.out | apply lA | apply lN | apply lD | refine lS ?_ GE487.out) | exact HB.out))); (case side2 => exact HC0.out); rintro e w14 ⟨v489, rfl, ho0, hb⟩; refine ⟨_, rfl, ?_⟩; have n0_ := aZ (Kd.V_elder' (by (with_reducible repeat (first | apply Kd.V_alloc | apply Kd.V_drewN | apply Kd.V_drew)); exact (Kd.V_mono (Kd.V_far (p := ⟨gb487, 1, none⟩) (Kd.V_far (p := ⟨gb487, 0, none⟩) (Kd.V_mono HO484.out (fun k_ hk => (⟨hk, hk.2⟩ : _ ∧ k_ ≠ gb487))) (fun _ hk => hk.2) (.int .i64 t485)) (fun _ hk => hk.2) (.int .i64 t486)) (fun _ h_ => h_.1))) (Kd.R_base ho0) hb); have n1_ := aZ (Kd.R_lower ho0 (lZ (by repeat (first | (with_reducible first | exact HB.out | apply lA | apply lN | apply lD | refine lS ?_ GE487.out) | exact HB.out)))); have n2_ := aZ (blk_below (g := gb487) (o := .cells #[.int .i64 t485, .int .i64 t486] 26 (0, 0)) (by (with_reducible repeat (first | refine bN ?_ _ | refine bD ?_ | refine bA ?_ _)); refine blk_put (cs := #[.int .i64 t485, .int .i64 0]) ?_ 1 _ rfl; (with_reducible repeat (first | refine bN ?_ _ | refine bD ?_ | refine bA ?_ _)); refine blk_put (cs := #[.int .i64 0, .int .i64 0]) ?_ 0 _ rfl; (with_reducible repeat (first | refine bN ?_ _ | refine bD ?_ | refine bA ?_ _)); exact BK487.out) hb); have n3_ := aZ (lT (by repeat (first | (with_reducible first | exact HB.out | apply lA | apply lN | apply lD | refine lS ?_ GE487.out) | exact HB.out)) hb); clear HO484; clear BK487; clear HB; have HO484 := n0_; have HO490 := n1_; have BK487 := n2_; have HB := n3_; clear n0_ n1_ n2_ n3_; (try clear hb); (try clear hb2); (try clear hk); (try clear hi); (try clear ho0)) | ((with_reducible refine gate_dst (N := 8) rfl ?_); (try (refine gate_guard (by rfl) ?_; dsimp only)); refine box_event ?hg (N := 8) ?hd (cs := #[.int .i64 0, .int .i64 0]) (t := 26) ?hr ?_; (case hd => rfl); (case hg => rfl); (case hr => first | (go_simp; done) | (go_simp; rfl)); intro gb493 hg w15 hbox hb; have n0_ := aZ (Kd.V_below (Kd.V_elderB (by (with_reducible repeat (first | apply Kd.V_alloc | apply Kd.V_drewN | apply Kd.V_drew)); exact HO484.out) gb493 (Nat.le_of_eq hg.symm)) hb); have n1_ := aZ (Kd.R_below (by (with_reducible repeat (first | apply Kd.rA | apply Kd.rN | apply Kd.rD)); exact HO490.out) hb); have n2_ := aZ (blk_below (g := gb487) (o := .cells #[.int .i64 t485, .int .i64 t486] 26 (0, 0)) (by (with_reducible repeat (first | refine bN ?_ _ | refine bD ?_ | refine bA ?_ _)); exact BK487.out) hb); have n3_ := aZ (lT (by repeat (first | (with_reducible first | exact HB.out | apply lA | apply lN | apply lD | refine lS ?_ GE487.out) | exact HB.out)) hb); have n4_ := aZ (hbox); have n5_ := aZ ((by rw [hg]; exact (lZ (by repeat (first | (with_reducible first | exact HB.out | apply lA | apply lN | apply lD | refine lS ?_ GE487.out) | exact HB.out))) : w.heap.size ≤ gb493)); have n6_ := aZ ((by rw [hg]; exact (lZ (by repeat (first | (with_reducible first | exact HB.out | apply lA | apply lN | apply lD | refine lS ?_ GE487.out) | exact HB.out))) : w.heap.size ≤ gb493)); have n7_ := aZ ((by rw [hg]; exact Nat.ne_of_lt (blk_lt (g := gb487) (o := .cells #[.int .i64 t485, .int .i64 t486] 26 (0, 0)) (by (with_reducible repeat (first | refine bN ?_ _ | refine bD ?_ | refine bA ?_ _)); exact BK487.out)) : gb487 ≠ gb493)); have n8_ := aZ ((by rw [hg]; exact Nat.ne_of_gt (blk_lt (g := gb487) (o := .cells #[.int .i64 t485, .int .i64 t486] 26 (0, 0)) (by (with_reducible repeat (first | refine bN ?_ _ | refine bD ?_ | refine bA ?_ _)); exact BK487.out)) : gb493 ≠ gb487)); clear HO484; clear HO490; clear BK487; clear HB; have HO484 := n0_; have HO490 := n1_; have BK487 := n2_; have HB := n3_; have BK493 := n4_; have GW493 := n5_; have GE493 := n6_; have NB487_493 := n7_; have NB493_487 := n8_; clear n0_ n1_ n2_ n3_ n4_ n5_ n6_ n7_ n8_; clear hb hbox hg; have hnb16 := NB493_487.out; have hnc16 := NB487_493.out; have hcz17_0 : w15.cell? ⟨gb493, 0, none⟩ = some (.int .i64 0) := (blk_cell BK493.out 0).trans rfl; have hcz17_1 : w15.cell? ⟨gb493, 1, none⟩ = some (.int .i64 0) := (blk_cell BK493.out 1).trans rfl; have hfz17_0 := blk_frozen BK493.out 0; have hfz17_1 := blk_frozen BK493.out 1) | ((with_reducible refine gate_callee (f := 21) rfl ?_); refine goesL_ (some 25) rfl rfl Try.func21 (by kernel_rfl) rfl #[.slice A0 l0.length c0] rfl (by (try simp only [List.map_toArray, List.map_cons, List.map_nil]); first | done | rfl | (simp only [List.length_drop, List.length_take]; rfl)) ?_; (with_reducible refine (changeforgeref3_ChainFault.calls kj3 _ _ l0 t494 t495 _ ?side1 ?side2 A9.out).mono ?_); (case side1 => exact Kd.C_below HR0.out (by repeat (first | (with_reducible first | exact HB.out | apply lA | apply lN | apply lD | refine lS ?_ GE487.out | refine lS ?_ GE493.out) | exact HB.out))); (case side2 => exact HC0.out); rintro e w18 ⟨rfl, hb⟩; refine ⟨_, rfl, ?_⟩; have n0_ := aZ (Kd.V_below (by (with_reducible repeat (first | apply Kd.V_alloc | apply Kd.V_drewN | apply Kd.V_drew)); exact (Kd.V_mono (Kd.V_far (p := ⟨gb493, 1, none⟩) (Kd.V_far (p := ⟨gb493, 0, none⟩) (Kd.V_mono HO484.out (fun k_ hk => (⟨hk, hk.2⟩ : _ ∧ k_ ≠ gb493))) (fun _ hk => hk.2) (.int .i64 t491)) (fun _ hk => hk.2) (.int .i64 t492)) (fun _ h_ => h_.1))) hb); have n1_ := aZ (Kd.R_below (by (with_reducible repeat (first | apply Kd.rA | apply Kd.rN | apply Kd.rD)); exact (Kd.R_mono (Kd.R_far (p := ⟨gb493, 1, none⟩) (Kd.R_far (p := ⟨gb493, 0, none⟩) (Kd.R_types HO490.out BK493.out (by decide)) (fun _ hk => hk.2) (.int .i64 t491)) (fun _ hk => hk.2) (.int .i64 t492)) (fun _ h_ => h_.1))) hb); have n2_ := aZ (blk_below (g := gb487) (o := .cells #[.int .i64 t485, .int .i64 t486] 26 (0, 0)) (by (with_reducible repeat (first | refine bN ?_ _ | refine bD ?_ | refine bA ?_ _)); refine blk_far ?_ NB487_493.out _; (with_reducible repeat (first | refine bN ?_ _ | refine bD ?_ | refine bA ?_ _)); refine blk_far ?_ NB487_493.out _; (with_reducible repeat (first | refine bN ?_ _ | refine bD ?_ | refine bA ?_ _)); exact BK487.out) hb); have n3_ := aZ (blk_below (g := gb493) (o := .cells #[.int .i64 t491, .int .i64 t492] 26 (0, 0)) (by (with_reducible repeat (first | refine bN ?_ _ | refine bD ?_ | refine bA ?_ _)); refine blk_put (cs := #[.int .i64 t491, .int .i64 0]) ?_ 1 _ rfl; (with_reducible repeat (first | refine bN ?_ _ | refine bD ?_ | refine bA ?_ _)); refine blk_put (cs := #[.int .i64 0, .int .i64 0]) ?_ 0 _ rfl; (with_reducible repeat (first | refine bN ?_ _ | refine bD ?_ | refine bA ?_ _)); exact BK493.out) hb); have n4_ := aZ (lT (by repeat (first | (with_reducible first | exact HB.out | apply lA | apply lN | apply lD | refine lS ?_ GE487.out | refine lS ?_ GE493.out) | exact HB.out)) hb); clear HO484; clear HO490; clear BK487; clear BK493; clear HB; have HO484 := n0_; have HO490 := n1_; have BK487 := n2_; have BK493 := n3_; have HB := n4_; clear n0_ n1_ n2_ n3_ n4_; (try clear hb); (try clear hb2); (try clear hk); (try clear hi)) | ((with_reducible refine gate_dst (N := 9) rfl ?_); (try (refine gate_guard (by rfl) ?_; dsimp only)); refine box_event ?hg (N := 9) ?hd (cs := #[.int .i64 0, .int .i64 0]) (t := 26) ?hr ?_; (case hd => rfl); (case hg => rfl); (case hr => first | (go_simp; done) | (go_simp; rfl)); intro gb496 hg w19 hbox hb; have n0_ := aZ (Kd.V_below (Kd.V_elderB (by (with_reducible repeat (first | apply Kd.V_alloc | apply Kd.V_drewN | apply Kd.V_drew)); exact HO484.out) gb496 (Nat.le_of_eq hg.symm)) hb); have n1_ := aZ (Kd.R_below (by (with_reducible repeat (first | apply Kd.rA | apply Kd.rN | apply Kd.rD)); exact HO490.out) hb); have n2_ := aZ (blk_below (g := gb487) (o := .cells #[.int .i64 t485, .int .i64 t486] 26 (0, 0)) (by (with_reducible repeat (first | refine bN ?_ _ | refine bD ?_ | refine bA ?_ _)); exact BK487.out) hb); have n3_ := aZ (blk_below (g := gb493) (o := .cells #[.int .i64 t491, .int .i64 t492] 26 (0, 0)) (by (with_reducible repeat (first | refine bN ?_ _ | refine bD ?_ | refine bA ?_ _)); exact BK493.out) hb); have n4_ := aZ (lT (by repeat (first | (with_reducible first | exact HB.out | apply lA | apply lN | apply lD | refine lS ?_ GE487.out | refine lS ?_ GE493.out) | exact HB.out)) hb); have n5_ := aZ (hbox); have n6_ := aZ ((by rw [hg]; exact (lZ (by repeat (first | (with_reducible first | exact HB.out | apply lA | apply lN | apply lD | refine lS ?_ GE487.out | refine lS ?_ GE493.out) | exact HB.out))) : w.heap.size ≤ gb496)); have n7_ := aZ ((by rw [hg]; exact (lZ (by repeat (first | (with_reducible first | exact HB.out | apply lA | apply lN | apply lD | refine lS ?_ GE487.out | refine lS ?_ GE493.out) | exact HB.out))) : w.heap.size ≤ gb496)); have n8_ := aZ ((by rw [hg]; exact Nat.ne_of_lt (blk_lt (g := gb487) (o := .cells #[.int .i64 t485, .int .i64 t486] 26 (0, 0)) (by (with_reducible repeat (first | refine bN ?_ _ | refine bD ?_ | refine bA ?_ _)); exact BK487.out)) : gb487 ≠ gb496)); have n9_ := aZ ((by rw [hg]; exact Nat.ne_of_gt (blk_lt (g := gb487) (o := .cells #[.int .i64 t485, .int .i64 t486] 26 (0, 0)) (by (with_reducible repeat (first | refine bN ?_ _ | refine bD ?_ | refine bA ?_ _)); exact BK487.out)) : gb496 ≠ gb487)); have n10_ := aZ ((by rw [hg]; exact Nat.ne_of_lt (blk_lt (g := gb493) (o := .cells #[.int .i64 t491, .int .i64 t492] 26 (0, 0)) (by (with_reducible repeat (first | refine bN ?_ _ | refine bD ?_ | refine bA ?_ _)); exact BK493.out)) : gb493 ≠ gb496)); have n11_ := aZ ((by rw [hg]; exact Nat.ne_of_gt (blk_lt (g := gb493) (o := .cells #[.int .i64 t491, .int .i64 t492] 26 (0, 0)) (by (with_reducible repeat (first | refine bN ?_ _ | refine bD ?_ | refine bA ?_ _)); exact BK493.out)) : gb496 ≠ gb493)); clear HO484; clear HO490; clear BK487; clear BK493; clear HB; have HO484 := n0_; have HO490 := n1_; have BK487 := n2_; have BK493 := n3_; have HB := n4_; have BK496 := n5_; have GW496 := n6_; have GE496 := n7_; have NB487_496 := n8_; have NB496_487 := n9_; have NB493_496 := n10_; have NB496_493 := n11_; clear n0_ n1_ n2_ n3_ n4_ n5_ n6_ n7_ n8_ n9_ n10_ n11_; clear hb hbox hg; have hnb20 := NB496_487.out; have hnc20 := NB487_496.out; have hnb21 := NB496_493.out; have hnc21 := NB493_496.out; have hcz22_0 : w19.cell? ⟨gb496, 0, none⟩ = some (.int .i64 0) := (blk_cell BK496.out 0).trans rfl; have hcz22_1 : w19.cell? ⟨gb496, 1, none⟩ = some (.int .i64 0) := (blk_cell BK496.out 1).trans rfl; have hfz22_0 := blk_frozen BK496.out 0; have hfz22_1 := blk_frozen BK496.out 1))
    (try simp only [Act.put, List.setIfInBounds_toArray, List.set_cons_zero, List.set_cons_succ])
    go_cut [] (fun wc => ∃ (kq : Nat), Aside0 (changeforgelaw3_DeltachainReadMatchesSpec.j1 kq l0 a1 t482 t488 t485 t486 t491 t492 = some r) ∧ Aside0 (kq ≤ kj3) ∧ Aside0 (Kd.V (Kd.int .u8) 5 wc w.heap.size (fun k_ => some k_ ≠ (v489 : Value).ownBlock ∧ k_ ≠ gb487 ∧ k_ ≠ gb493 ∧ k_ ≠ gb496) v483 t482) ∧ Aside0 (Kd.R (Kd.int .i64) 3 wc w.heap.size (fun _ => True) v489 t488) ∧ Aside0 (wc.heap[gb487]? = some (.cells #[.int .i64 t485, .int .i64 t486] 26 (0, 0))) ∧ Aside0 (wc.heap[gb493]? = some (.cells #[.int .i64 t491, .int .i64 t492] 26 (0, 0))) ∧ Aside0 (wc.heap[gb496]? = some (.cells #[.int .i64 t494, .int .i64 t495] 26 (0, 0))) ∧ Aside0 (Below w.heap.size w wc))
    case first =>
     have H := HC10.out
     clear HC10
     by_cases c23 : t494 = 0
     · rw [if_pos c23] at H
       have c23b0 : (t494 == 0) = true := beq_iff_eq.mpr c23
       have c23b1 : (t494 != 0) = false := bne_eq_false_iff_eq.mpr c23
       clear c23
       (first | rw [c23b0] | (simp only [i64_w, i32_w]; rw [c23b0]) | skip)
       as_aux_lemma =>
        have H' := aZ H
        clear H
        go_wp2
        go_meet
        case rel => exact ⟨_, H', ⟨by have := HJ3.out; first | omega | exact Nat.le_refl _⟩, ⟨by (with_reducible repeat (first | apply Kd.V_alloc | apply Kd.V_drewN | apply Kd.V_drew)); exact Kd.V_mono (Kd.V_far (p := ⟨gb496, 1, none⟩) (Kd.V_far (p := ⟨gb496, 0, none⟩) (Kd.V_mono HO484.out (fun k_ hk => (⟨hk, hk.2⟩ : _ ∧ k_ ≠ gb496))) (fun _ hk => hk.2) (.int .i64 t494)) (fun _ hk => hk.2) (.int .i64 t495)) (fun _ hk => ⟨hk.1.1.1.2, ⟨hk.1.1.1.1.2, ⟨hk.1.1.2, hk.1.2⟩⟩⟩)⟩, ⟨by (with_reducible repeat (first | apply Kd.rA | apply Kd.rN | apply Kd.rD)); exact Kd.R_mono (Kd.R_far (p := ⟨gb496, 1, none⟩) (Kd.R_far (p := ⟨gb496, 0, none⟩) (Kd.R_types HO490.out BK496.out (by decide)) (fun _ hk => hk.2) (.int .i64 t494)) (fun _ hk => hk.2) (.int .i64 t495)) (fun _ hk => trivial)⟩, ⟨by (with_reducible repeat (first | refine bN ?_ _ | refine bD ?_ | refine bA ?_ _)); refine blk_far ?_ NB487_496.out _; (with_reducible repeat (first | refine bN ?_ _ | refine bD ?_ | refine bA ?_ _)); refine blk_far ?_ NB487_496.out _; (with_reducible repeat (first | refine bN ?_ _ | refine bD ?_ | refine bA ?_ _)); exact BK487.out⟩, ⟨by (with_reducible repeat (first | refine bN ?_ _ | refine bD ?_ | refine bA ?_ _)); refine blk_far ?_ NB493_496.out _; (with_reducible repeat (first | refine bN ?_ _ | refine bD ?_ | refine bA ?_ _)); refine blk_far ?_ NB493_496.out _; (with_reducible repeat (first | refine bN ?_ _ | refine bD ?_ | refine bA ?_ _)); exact BK493.out⟩, ⟨by (with_reducible repeat (first | refine bN ?_ _ | refine bD ?_ | refine bA ?_ _)); refine blk_put (cs := #[.int .i64 t494, .int .i64 0]) ?_ 1 _ rfl; (with_reducible repeat (first | refine bN ?_ _ | refine bD ?_ | refine bA ?_ _)); refine blk_put (cs := #[.int .i64 0, .int .i64 0]) ?_ 0 _ rfl; (with_reducible repeat (first | refine bN ?_ _ | refine bD ?_ | refine bA ?_ _)); exact BK496.out⟩, ⟨by repeat (first | (with_reducible first | exact HB.out | apply lA | apply lN | apply lD | refine lS ?_ GE487.out | refine lS ?_ GE493.out | refine lS ?_ GE496.out) | exact HB.out)⟩⟩
     rw [if_neg c23] at H
     have c23b0 : (t494 == 0) = false := beq_eq_false_iff_ne.mpr c23
     have c23b1 : (t494 != 0) = true := bne_iff_ne.mpr c23
     (first | rw [c23b0] | (simp only [i64_w, i32_w]; rw [c23b0]) | skip)
     by_cases c24 : (t485 == t494 && (t486 == t495)) = true
     rotate_left
     · rw [if_neg c24] at H
       have c24b0 : (t485 == t494 && (t486 == t495)) = false := by simpa using c24
       (try (have c24b1 : decide (t485 = t494 && (t486 == t495)) = false := by simpa using c24))
       (try (have c24b2 : (t485 == t494 && (t486 == t495)) = false := by simpa using c24))
       (try (have c24b3 : ¬ (t485 = t494 && (t486 == t495)) := by simpa using c24))
       clear c24
       as_aux_lemma =>
        obtain rfl := Option.some.inj H
        have hnb48 := NB487_493.out
        have hnc48 := NB493_487.out
        have hnb49 := NB487_496.out
        have hnc49 := NB496_487.out
        have hcz50_0 : w19.cell? ⟨gb487, 0, none⟩ = some (.int .i64 t485) := (blk_cell BK487.out 0).trans rfl
        have hcz50_1 : w19.cell? ⟨gb487, 1, none⟩ = some (.int .i64 t486) := (blk_cell BK487.out 1).trans rfl
        have hfz50_0 := blk_frozen BK487.out 0
        have hfz50_1 := blk_frozen BK487.out 1
        have hnb51 := NB496_493.out
        have hnc51 := NB493_496.out
        have hcz52_0 : w19.cell? ⟨gb496, 0, none⟩ = some (.int .i64 0) := (blk_cell BK496.out 0).trans rfl
        have hcz52_1 : w19.cell? ⟨gb496, 1, none⟩ = some (.int .i64 0) := (blk_cell BK496.out 1).trans rfl
        have hfz52_0 := blk_frozen BK496.out 0
        have hfz52_1 := blk_frozen BK496.out 1
        go_wp2
        go_ret
        exact ⟨by first | rfl | (simp [errW_none, errW_some] <;> rfl) | (simp [*, errW_none, errW_some] <;> rfl), by repeat (first | (with_reducible first | exact HB.out | apply lA | apply lN | apply lD | refine lS ?_ GE487.out | refine lS ?_ GE493.out | refine lS ?_ GE496.out) | exact HB.out)⟩
     rw [if_pos c24] at H
     have c24b0 : (t485 == t494 && (t486 == t495)) = true := c24
     (try (have c24b1 : decide (t485 = t494 && (t486 == t495)) = true := by simpa using c24))
     (try (have c24b2 : (t485 == t494 && (t486 == t495)) = true := by simpa using c24))
     clear c24
     by_cases c25 : (t491 == t494 && (t492 == t495)) = true
     rotate_left
     · rw [if_neg c25] at H
       have c25b0 : (t491 == t494 && (t492 == t495)) = false := by simpa using c25
       (try (have c25b1 : decide (t491 = t494 && (t492 == t495)) = false := by simpa using c25))
       (try (have c25b2 : (t491 == t494 && (t492 == t495)) = false := by simpa using c25))
       (try (have c25b3 : ¬ (t491 = t494 && (t492 == t495)) := by simpa using c25))
       clear c25
       as_aux_lemma =>
        obtain rfl := Option.some.inj H
        have hnb42 := NB487_493.out
        have hnc42 := NB493_487.out
        have hnb43 := NB487_496.out
        have hnc43 := NB496_487.out
        have hcz44_0 : w19.cell? ⟨gb487, 0, none⟩ = some (.int .i64 t485) := (blk_cell BK487.out 0).trans rfl
        have hcz44_1 : w19.cell? ⟨gb487, 1, none⟩ = some (.int .i64 t486) := (blk_cell BK487.out 1).trans rfl
        have hfz44_0 := blk_frozen BK487.out 0
        have hfz44_1 := blk_frozen BK487.out 1
        have hnb45 := NB496_493.out
        have hnc45 := NB493_496.out
        have hcz46_0 : w19.cell? ⟨gb496, 0, none⟩ = some (.int .i64 0) := (blk_cell BK496.out 0).trans rfl
        have hcz46_1 : w19.cell? ⟨gb496, 1, none⟩ = some (.int .i64 0) := (blk_cell BK496.out 1).trans rfl
        have hfz46_0 := blk_frozen BK496.out 0
        have hfz46_1 := blk_frozen BK496.out 1
        have hcz47_0 : w19.cell? ⟨gb493, 0, none⟩ = some (.int .i64 t491) := (blk_cell BK493.out 0).trans rfl
        have hcz47_1 : w19.cell? ⟨gb493, 1, none⟩ = some (.int .i64 t492) := (blk_cell BK493.out 1).trans rfl
        have hfz47_0 := blk_frozen BK493.out 0
        have hfz47_1 := blk_frozen BK493.out 1
        go_wp2
        go_ret
        exact ⟨by first | rfl | (simp [errW_none, errW_some] <;> rfl) | (simp [*, errW_none, errW_some] <;> rfl), by repeat (first | (with_reducible first | exact HB.out | apply lA | apply lN | apply lD | refine lS ?_ GE487.out | refine lS ?_ GE493.out | refine lS ?_ GE496.out) | exact HB.out)⟩
     rw [if_pos c25] at H
     have c25b0 : (t491 == t494 && (t492 == t495)) = true := c25
     (try (have c25b1 : decide (t491 = t494 && (t492 == t495)) = true := by simpa using c25))
     (try (have c25b2 : (t491 == t494 && (t492 == t495)) = true := by simpa using c25))
     clear c25
     by_cases c26 : (t482.length : Int) = 0
     rotate_left
     · rw [if_neg c26] at H
       have c26b0 : ((t482.length : Int) == 0) = false := beq_eq_false_iff_ne.mpr c26
       have c26b1 : ((t482.length : Int) != 0) = true := bne_iff_ne.mpr c26
       have c26b2 : ¬ (t482 = []) := fun h_ => c26 (by rw [h_]; rfl)
       as_aux_lemma =>
        obtain rfl := Option.some.inj H
        have hnb35 := NB487_493.out
        have hnc35 := NB493_487.out
        have hnb36 := NB487_496.out
        have hnc36 := NB496_487.out
        have hcz37_0 : w19.cell? ⟨gb487, 0, none⟩ = some (.int .i64 t485) := (blk_cell BK487.out 0).trans rfl
        have hcz37_1 : w19.cell? ⟨gb487, 1, none⟩ = some (.int .i64 t486) := (blk_cell BK487.out 1).trans rfl
        have hfz37_0 := blk_frozen BK487.out 0
        have hfz37_1 := blk_frozen BK487.out 1
        have hnb38 := NB496_493.out
        have hnc38 := NB493_496.out
        have hcz39_0 : w19.cell? ⟨gb496, 0, none⟩ = some (.int .i64 0) := (blk_cell BK496.out 0).trans rfl
        have hcz39_1 : w19.cell? ⟨gb496, 1, none⟩ = some (.int .i64 0) := (blk_cell BK496.out 1).trans rfl
        have hfz39_0 := blk_frozen BK496.out 0
        have hfz39_1 := blk_frozen BK496.out 1
        have hcz40_0 : w19.cell? ⟨gb493, 0, none⟩ = some (.int .i64 t491) := (blk_cell BK493.out 0).trans rfl
        have hcz40_1 : w19.cell? ⟨gb493, 1, none⟩ = some (.int .i64 t492) := (blk_cell BK493.out 1).trans rfl
        have hfz40_0 := blk_frozen BK493.out 0
        have hfz40_1 := blk_frozen BK493.out 1
        obtain ⟨Ao41, co41, eo41⟩ := Kd.V_slice HO484.out
        subst eo41
        go_wp2
        go_ret
        exact ⟨by first | rfl | (simp [errW_none, errW_some] <;> rfl) | (simp [*, errW_none, errW_some] <;> rfl), by repeat (first | (with_reducible first | exact HB.out | apply lA | apply lN | apply lD | refine lS ?_ GE487.out | refine lS ?_ GE493.out | refine lS ?_ GE496.out) | exact HB.out)⟩
     rw [if_pos c26] at H
     have c26b0 : ((t482.length : Int) == 0) = true := beq_iff_eq.mpr c26
     have c26b1 : ((t482.length : Int) != 0) = false := bne_eq_false_iff_eq.mpr c26
     clear c26
     as_aux_lemma =>
      obtain rfl := Option.some.inj H
      have hnb27 := NB487_493.out
      have hnc27 := NB493_487.out
      have hnb28 := NB487_496.out
      have hnc28 := NB496_487.out
      have hcz29_0 : w19.cell? ⟨gb487, 0, none⟩ = some (.int .i64 t485) := (blk_cell BK487.out 0).trans rfl
      have hcz29_1 : w19.cell? ⟨gb487, 1, none⟩ = some (.int .i64 t486) := (blk_cell BK487.out 1).trans rfl
      have hfz29_0 := blk_frozen BK487.out 0
      have hfz29_1 := blk_frozen BK487.out 1
      have hnb30 := NB496_493.out
      have hnc30 := NB493_496.out
      have hcz31_0 : w19.cell? ⟨gb496, 0, none⟩ = some (.int .i64 0) := (blk_cell BK496.out 0).trans rfl
      have hcz31_1 : w19.cell? ⟨gb496, 1, none⟩ = some (.int .i64 0) := (blk_cell BK496.out 1).trans rfl
      have hfz31_0 := blk_frozen BK496.out 0
      have hfz31_1 := blk_frozen BK496.out 1
      have hcz32_0 : w19.cell? ⟨gb493, 0, none⟩ = some (.int .i64 t491) := (blk_cell BK493.out 0).trans rfl
      have hcz32_1 : w19.cell? ⟨gb493, 1, none⟩ = some (.int .i64 t492) := (blk_cell BK493.out 1).trans rfl
      have hfz32_0 := blk_frozen BK493.out 0
      have hfz32_1 := blk_frozen BK493.out 1
      obtain ⟨Ao33, co33, eo33⟩ := Kd.V_slice HO484.out
      subst eo33
      obtain ⟨Ao34, co34, eo34⟩ := Kd.R_slice HO490.out
      subst eo34
      go_wp2
      go_ret
      exact ⟨by first | rfl | (simp [errW_none, errW_some] <;> rfl) | (simp [*, errW_none, errW_some] <;> rfl), by repeat (first | (with_reducible first | exact HB.out | apply lA | apply lN | apply lD | refine lS ?_ GE487.out | refine lS ?_ GE493.out | refine lS ?_ GE496.out) | exact HB.out)⟩
    case rest =>
     clear HC10
     (try clear hcz13_0); (try clear hcz13_1); (try clear hcz17_0); (try clear hcz17_1); (try clear hcz22_0); (try clear hcz22_1); (try clear hfz13_0); (try clear hfz13_1); (try clear hfz17_0); (try clear hfz17_1); (try clear hfz22_0); (try clear hfz22_1)
     obtain ⟨kq, HA, HJ9, HO_5, HO_7, BK487, BK493, BK496, HB⟩ := hcut
     cases kq with
     | zero => exact absurd HA.out (by simp [changeforgelaw3_DeltachainReadMatchesSpec.j1])
     | succ kj9 =>
      have H := HA.out
      clear HA
      simp only [changeforgelaw3_DeltachainReadMatchesSpec.j1] at H
      have HC53 := aZ H
      clear H
      go_upto_region 8 with (fail)
      go_cut [56] (fun v56 wc => ∃ (kq : Nat) (x56_52 : Bool), v56 = .bool x56_52 ∧ Aside0 (changeforgelaw3_DeltachainReadMatchesSpec.j2 kq l0 a1 t482 t488 x56_52 t485 t486 = some r) ∧ Aside0 (kq ≤ kj9) ∧ Aside0 (Kd.V (Kd.int .u8) 5 wc w.heap.size (fun k_ => some k_ ≠ (v489 : Value).ownBlock ∧ k_ ≠ gb487 ∧ k_ ≠ gb493 ∧ k_ ≠ gb496) v483 t482) ∧ Aside0 (Kd.R (Kd.int .i64) 3 wc w.heap.size (fun _ => True) v489 t488) ∧ Aside0 (wc.heap[gb487]? = some (.cells #[.int .i64 t485, .int .i64 t486] 26 (0, 0))) ∧ Aside0 (wc.heap[gb493]? = some (.cells #[.int .i64 t491, .int .i64 t492] 26 (0, 0))) ∧ Aside0 (wc.heap[gb496]? = some (.cells #[.int .i64 t494, .int .i64 t495] 26 (0, 0))) ∧ Aside0 (Below w.heap.size w wc))
      case first =>
       have H := HC53.out
       clear HC53
       by_cases c54 : t491 = 0
       rotate_left
       · rw [if_neg c54] at H
         have c54b0 : (t491 == 0) = false := beq_eq_false_iff_ne.mpr c54
         have c54b1 : (t491 != 0) = true := bne_iff_ne.mpr c54
         (first | rw [c54b0] | (simp only [i64_w, i32_w]; rw [c54b0]) | skip)
         as_aux_lemma =>
          have H' := aZ H
          clear H
          have hnb59 := NB493_487.out
          have hnc59 := NB487_493.out
          have hnb60 := NB493_496.out
          have hnc60 := NB496_493.out
          have hcz61_0 : wc.cell? ⟨gb493, 0, none⟩ = some (.int .i64 t491) := (blk_cell BK493.out 0).trans rfl
          have hcz61_1 : wc.cell? ⟨gb493, 1, none⟩ = some (.int .i64 t492) := (blk_cell BK493.out 1).trans rfl
          have hfz61_0 := blk_frozen BK493.out 0
          have hfz61_1 := blk_frozen BK493.out 1
          go_wp2
          go_meet
          case rel => exact ⟨_, (true), (by first | rfl | (simp; done) | (simp [*]; done) | (simp [i64_w]; done)), H', ⟨by have := HJ3.out; have := HJ9.out; first | omega | exact Nat.le_refl _⟩, ⟨by (with_reducible repeat (first | apply Kd.V_alloc | apply Kd.V_drewN | apply Kd.V_drew)); exact HO_5.out⟩, ⟨by (with_reducible repeat (first | apply Kd.rA | apply Kd.rN | apply Kd.rD)); exact HO_7.out⟩, ⟨by (with_reducible repeat (first | refine bN ?_ _ | refine bD ?_ | refine bA ?_ _)); exact BK487.out⟩, ⟨by (with_reducible repeat (first | refine bN ?_ _ | refine bD ?_ | refine bA ?_ _)); exact BK493.out⟩, ⟨by (with_reducible repeat (first | refine bN ?_ _ | refine bD ?_ | refine bA ?_ _)); exact BK496.out⟩, ⟨by repeat (first | (with_reducible first | exact HB.out | apply lA | apply lN | apply lD | refine lS ?_ GE487.out | refine lS ?_ GE493.out | refine lS ?_ GE496.out) | exact HB.out)⟩⟩
       rw [if_pos c54] at H
       have c54b0 : (t491 == 0) = true := beq_iff_eq.mpr c54
       have c54b1 : (t491 != 0) = false := bne_eq_false_iff_eq.mpr c54
       clear c54
       (first | rw [c54b0] | (simp only [i64_w, i32_w]; rw [c54b0]) | skip)
       as_aux_lemma =>
        have H' := aZ H
        clear H
        have hnb55 := NB493_487.out
        have hnc55 := NB487_493.out
        have hnb56 := NB493_496.out
        have hnc56 := NB496_493.out
        have hcz57_0 : wc.cell? ⟨gb493, 0, none⟩ = some (.int .i64 t491) := (blk_cell BK493.out 0).trans rfl
        have hcz57_1 : wc.cell? ⟨gb493, 1, none⟩ = some (.int .i64 t492) := (blk_cell BK493.out 1).trans rfl
        have hfz57_0 := blk_frozen BK493.out 0
        have hfz57_1 := blk_frozen BK493.out 1
        obtain ⟨Ao58, co58, eo58⟩ := Kd.R_slice HO_7.out
        subst eo58
        go_wp2
        go_meet
        case rel => exact ⟨_, (((t488.length : Int) != (l0.length : Int))), (by first | rfl | (simp; done) | (simp [*]; done) | (simp [i64_w]; done)), H', ⟨by have := HJ3.out; have := HJ9.out; first | omega | exact Nat.le_refl _⟩, ⟨by (with_reducible repeat (first | apply Kd.V_alloc | apply Kd.V_drewN | apply Kd.V_drew)); exact HO_5.out⟩, ⟨by (with_reducible repeat (first | apply Kd.rA | apply Kd.rN | apply Kd.rD)); exact HO_7.out⟩, ⟨by (with_reducible repeat (first | refine bN ?_ _ | refine bD ?_ | refine bA ?_ _)); exact BK487.out⟩, ⟨by (with_reducible repeat (first | refine bN ?_ _ | refine bD ?_ | refine bA ?_ _)); exact BK493.out⟩, ⟨by (with_reducible repeat (first | refine bN ?_ _ | refine bD ?_ | refine bA ?_ _)); exact BK496.out⟩, ⟨by repeat (first | (with_reducible first | exact HB.out | apply lA | apply lN | apply lD | refine lS ?_ GE487.out | refine lS ?_ GE493.out | refine lS ?_ GE496.out) | exact HB.out)⟩⟩
      case rest =>
       clear HC53
       obtain ⟨kq, x56_52, rfl, HA, HJ52, HO_5, HO_7, BK487, BK493, BK496, HB⟩ := hcut
       cases kq with
       | zero => exact absurd HA.out (by simp [changeforgelaw3_DeltachainReadMatchesSpec.j2])
       | succ kj52 =>
        have H := HA.out
        clear HA
        simp only [changeforgelaw3_DeltachainReadMatchesSpec.j2] at H
        have HC62 := aZ H
        clear H
        go_upto_if 56 with (fail)
        go_cut [] (fun wc => ∃ (kq : Nat), Aside0 (changeforgelaw3_DeltachainReadMatchesSpec.j3 kq l0 a1 t482 t488 t485 t486 = some r) ∧ Aside0 (kq ≤ kj52) ∧ Aside0 (Kd.V (Kd.int .u8) 5 wc w.heap.size (fun k_ => some k_ ≠ (v489 : Value).ownBlock ∧ k_ ≠ gb487 ∧ k_ ≠ gb493 ∧ k_ ≠ gb496) v483 t482) ∧ Aside0 (Kd.R (Kd.int .i64) 3 wc w.heap.size (fun _ => True) v489 t488) ∧ Aside0 (wc.heap[gb487]? = some (.cells #[.int .i64 t485, .int .i64 t486] 26 (0, 0))) ∧ Aside0 (wc.heap[gb493]? = some (.cells #[.int .i64 t491, .int .i64 t492] 26 (0, 0))) ∧ Aside0 (wc.heap[gb496]? = some (.cells #[.int .i64 t494, .int .i64 t495] 26 (0, 0))) ∧ Aside0 (Below w.heap.size w wc))
        case first =>
         have H := HC62.out
         clear HC62
         by_cases c63 : x56_52 = true
         · subst c63
           have H1 : (some false) = some r := by rw [if_pos rfl] at H; exact H
           clear H
           have H := H1
           clear H1
           as_aux_lemma =>
            obtain rfl := Option.some.inj H
            go_wp2
            go_ret
            exact ⟨by first | rfl | (simp [errW_none, errW_some] <;> rfl) | (simp [*, errW_none, errW_some] <;> rfl), by repeat (first | (with_reducible first | exact HB.out | apply lA | apply lN | apply lD | refine lS ?_ GE487.out | refine lS ?_ GE493.out | refine lS ?_ GE496.out) | exact HB.out)⟩
         replace c63 := Bool.eq_false_iff.mpr c63
         subst c63
         have H1 : (changeforgelaw3_DeltachainReadMatchesSpec.j3 kj52 l0 a1 t482 t488 t485 t486) = some r := by rw [if_neg (show ¬ (false = true) by decide)] at H; exact H
         clear H
         have H := H1
         clear H1
         as_aux_lemma =>
          have H' := aZ H
          clear H
          go_wp2
          go_meet
          case rel => exact ⟨_, H', ⟨by have := HJ3.out; have := HJ9.out; have := HJ52.out; first | omega | exact Nat.le_refl _⟩, ⟨by (with_reducible repeat (first | apply Kd.V_alloc | apply Kd.V_drewN | apply Kd.V_drew)); exact HO_5.out⟩, ⟨by (with_reducible repeat (first | apply Kd.rA | apply Kd.rN | apply Kd.rD)); exact HO_7.out⟩, ⟨by (with_reducible repeat (first | refine bN ?_ _ | refine bD ?_ | refine bA ?_ _)); exact BK487.out⟩, ⟨by (with_reducible repeat (first | refine bN ?_ _ | refine bD ?_ | refine bA ?_ _)); exact BK493.out⟩, ⟨by (with_reducible repeat (first | refine bN ?_ _ | refine bD ?_ | refine bA ?_ _)); exact BK496.out⟩, ⟨by repeat (first | (with_reducible first | exact HB.out | apply lA | apply lN | apply lD | refine lS ?_ GE487.out | refine lS ?_ GE493.out | refine lS ?_ GE496.out) | exact HB.out)⟩⟩
        case rest =>
         clear HC62
         obtain ⟨kq, HA, HJ61, HO_5, HO_7, BK487, BK493, BK496, HB⟩ := hcut
         cases kq with
         | zero => exact absurd HA.out (by simp [changeforgelaw3_DeltachainReadMatchesSpec.j3])
         | succ kj61 =>
          have H := HA.out
          clear HA
          simp only [changeforgelaw3_DeltachainReadMatchesSpec.j3] at H
          have HC64 := aZ H
          clear H
          go_upto_block 0 with (fail)
          go_cut [] (fun wc => ∃ (kq : Nat), Aside0 (changeforgelaw3_DeltachainReadMatchesSpec.j5 kq l0 a1 t482 t485 t486 = some r) ∧ Aside0 (kq ≤ kj61) ∧ Aside0 (Kd.V (Kd.int .u8) 5 wc w.heap.size (fun k_ => k_ ≠ gb487 ∧ k_ ≠ gb493 ∧ k_ ≠ gb496) v483 t482) ∧ Aside0 (wc.heap[gb487]? = some (.cells #[.int .i64 t485, .int .i64 t486] 26 (0, 0))) ∧ Aside0 (wc.heap[gb493]? = some (.cells #[.int .i64 t491, .int .i64 t492] 26 (0, 0))) ∧ Aside0 (wc.heap[gb496]? = some (.cells #[.int .i64 t494, .int .i64 t495] 26 (0, 0))) ∧ Aside0 (Below w.heap.size w wc))
          case first =>
           have H := HC64.out
           clear HC64
           have H' := aZ H
           clear H
           go_wp2
           go_loopg [10] kj61 (fun kq v10 w' => ∃ (x10_5 : Int), v10 = .int .i64 x10_5 ∧ Aside0 (changeforgelaw3_DeltachainReadMatchesSpec.l0 kq l0 a1 t482 t488 x10_5 t485 t486 = some r) ∧ Aside0 (kq ≤ kj61) ∧ Aside0 (Kd.V (Kd.int .u8) 5 w' w.heap.size (fun k_ => some k_ ≠ (v489 : Value).ownBlock ∧ k_ ≠ gb487 ∧ k_ ≠ gb493 ∧ k_ ≠ gb496) v483 t482) ∧ Aside0 (Kd.R (Kd.int .i64) 3 w' w.heap.size (fun _ => True) v489 t488) ∧ Aside0 (w'.heap[gb487]? = some (.cells #[.int .i64 t485, .int .i64 t486] 26 (0, 0))) ∧ Aside0 (w'.heap[gb493]? = some (.cells #[.int .i64 t491, .int .i64 t492] 26 (0, 0))) ∧ Aside0 (w'.heap[gb496]? = some (.cells #[.int .i64 t494, .int .i64 t495] 26 (0, 0))) ∧ Aside0 (Below w.heap.size w w'))
           case atStart => exact ⟨(0), (by first | rfl | (simp; done) | (simp [*]; done) | (simp [i64_w]; done)), H', ⟨Nat.le_refl _⟩, ⟨by (with_reducible repeat (first | apply Kd.V_alloc | apply Kd.V_drewN | apply Kd.V_drew)); exact HO_5.out⟩, ⟨by (with_reducible repeat (first | apply Kd.rA | apply Kd.rN | apply Kd.rD)); exact HO_7.out⟩, ⟨by (with_reducible repeat (first | refine bN ?_ _ | refine bD ?_ | refine bA ?_ _)); exact BK487.out⟩, ⟨by (with_reducible repeat (first | refine bN ?_ _ | refine bD ?_ | refine bA ?_ _)); exact BK493.out⟩, ⟨by (with_reducible repeat (first | refine bN ?_ _ | refine bD ?_ | refine bA ?_ _)); exact BK496.out⟩, ⟨by repeat (first | (with_reducible first | exact HB.out | apply lA | apply lN | apply lD | refine lS ?_ GE487.out | refine lS ?_ GE493.out | refine lS ?_ GE496.out) | exact HB.out)⟩⟩
           case round =>
            clear H'
            obtain ⟨x10_5, rfl, HA, HK5, HO_5, HO_7, BK487, BK493, BK496, HB⟩ := hrel
            cases gk with
            | zero => exact absurd HA.out (by simp [changeforgelaw3_DeltachainReadMatchesSpec.l0])
            | succ k5 =>
             have H := HA.out
             clear HA
             simp only [changeforgelaw3_DeltachainReadMatchesSpec.l0] at H
             by_cases c65 : x10_5 < (t488.length : Int)
             rotate_left
             · rw [if_neg c65] at H
               have c65b0 : decide (x10_5 < (t488.length : Int)) = false := decide_eq_false c65
               clear c65
               (first | rw [c65b0] | (simp only [i64_w, i32_w]; rw [c65b0]) | skip)
               as_aux_lemma =>
                have H' := aZ H
                clear H
                obtain ⟨Ao73, co73, eo73⟩ := Kd.R_slice HO_7.out
                subst eo73
                go_wp2
                go_meet
                case rel => exact ⟨_, H', ⟨by have := HJ3.out; have := HJ9.out; have := HJ52.out; have := HJ61.out; have := HK5.out; first | omega | exact Nat.le_refl _⟩, ⟨by (with_reducible repeat (first | apply Kd.V_alloc | apply Kd.V_drewN | apply Kd.V_drew)); exact Kd.V_mono HO_5.out (fun _ hk => ⟨hk.2.1, ⟨hk.2.2.1, hk.2.2.2⟩⟩)⟩, ⟨by (with_reducible repeat (first | refine bN ?_ _ | refine bD ?_ | refine bA ?_ _)); exact BK487.out⟩, ⟨by (with_reducible repeat (first | refine bN ?_ _ | refine bD ?_ | refine bA ?_ _)); exact BK493.out⟩, ⟨by (with_reducible repeat (first | refine bN ?_ _ | refine bD ?_ | refine bA ?_ _)); exact BK496.out⟩, ⟨by repeat (first | (with_reducible first | exact HB.out | apply lA | apply lN | apply lD | refine lS ?_ GE487.out | refine lS ?_ GE493.out | refine lS ?_ GE496.out) | exact HB.out)⟩⟩
             rw [if_pos c65] at H
             have c65b0 : decide (x10_5 < (t488.length : Int)) = true := decide_eq_true c65
             clear c65
             (first | rw [c65b0] | (simp only [i64_w, i32_w]; rw [c65b0]) | skip)
             by_cases c66 : 0 ≤ x10_5
             rotate_left
             · rw [if_neg c66] at H
               exact absurd H (by simp)
             rw [if_pos c66] at H
             have c66b0 : decide (0 ≤ x10_5) = true := decide_eq_true c66
             clear c66
             replace H := Option.bind_eq_some_iff.mp H
             obtain ⟨t498, A670, H⟩ := H
             replace H : (if (rd t488 x10_5) = t498 then (changeforgelaw3_DeltachainReadMatchesSpec.l0 k5 l0 a1 t482 t488 (wrap64 (x10_5 + 1)) t485 t486) else (some false)) = some r := H
             have A67 := aZ A670
             clear A670
             by_cases c68 : (rd t488 x10_5) = t498
             rotate_left
             · rw [if_neg c68] at H
               have c68b0 : ((rd t488 x10_5) == t498) = false := beq_eq_false_iff_ne.mpr c68
               have c68b1 : ((rd t488 x10_5) != t498) = true := bne_iff_ne.mpr c68
               as_aux_lemma =>
                obtain rfl := Option.some.inj H
                obtain ⟨Ao71, co71, eo71⟩ := Kd.R_slice HO_7.out
                subst eo71
                try go_wp2
                have n0_ := aZ (Kd.V_drew HO_5.out)
                have n1_ := aZ (Kd.rD HO_7.out)
                have n2_ := aZ (bD BK487.out)
                have n3_ := aZ (bD BK493.out)
                have n4_ := aZ (bD BK496.out)
                have n5_ := aZ (lD HB.out)
                clear HO_5
                clear HO_7
                clear BK487
                clear BK493
                clear BK496
                clear HB
                have HO_5 := n0_
                have HO_7 := n1_
                have BK487 := n2_
                have BK493 := n3_
                have BK496 := n4_
                have HB := n5_
                clear n0_ n1_ n2_ n3_ n4_ n5_
                have p497 : 0 ≤ (x10_5 : Int) := of_decide_eq_true (by first | (with_reducible assumption) | assumption)
                have q497 : x10_5 < (t488.length : Int) := of_decide_eq_true (by first | (with_reducible assumption) | assumption)
                obtain ⟨ad497, e497, hx497_0⟩ := Kd.at_int (Kd.R_reads' HO_7.out).2.2 x10_5 p497 q497
                cases e497
                replace p497 := eq_true p497
                replace q497 := eq_true q497
                refine start_ (n := 8) (S := fun w' => w'.cell? (ad497.add (x10_5).toNat) = some (.int .i64 (rd t488 x10_5))) (ds := []) #[false, false, false, false, false, false, false, false] (by kernel_rfl) rfl rfl (hx497_0) (fun hHeld => ?_); refine with_tabW changeforgelaw3_DeltachainReadMatchesSpec.tab13 changeforgelaw3_DeltachainReadMatchesSpec.bits13 (fun HT_ HW_ => ?_)
                generalize wr.drew = w72 at HO_5 HO_7 BK487 BK493 BK496 HB hx497_0 hHeld ⊢
                refine pu 0 63 #[true, false, false, false, false, false, false, false] HT_ rfl rfl (h := ?_)
                refine pu 1 64 #[true, true, false, false, false, false, false, false] HT_ rfl rfl (h := ?_)
                refine pu 2 65 #[true, true, true, false, false, false, false, false] HT_ rfl rfl (h := ?_)
                refine pu 4 67 #[true, true, true, false, true, false, false, false] HT_ rfl rfl (h := ?_)
                refine pu 5 68 #[true, true, true, false, true, true, false, false] HT_ rfl rfl (h := ?_)
                refine tk 3 66 #[true, true, true, true, true, true, false, false] HT_ HW_ rfl rfl hHeld (by intro w' s0; go_simp; with_reducible rfl) (h := ?_)
                refine one_ (i := 6) (N := some 69) #[true, true, true, true, true, true, true, false] rfl rfl (one_of HT_.out (by kernel_rfl)) (by decide) (fun K hK => ?_)
                refine goes_ Try.func22 (by kernel_rfl) rfl #[.slice A0 l0.length c0, .int .i64 x10_5] (by rfl) rfl rfl (by (try simp only [List.map_toArray, List.map_cons, List.map_nil]); first | done | rfl | (simp only [List.length_drop, List.length_take]; rfl)) ?_
                with_reducible refine (changeforgeref3_ChainDepth.calls k5 _ _ l0 x10_5 t498 _ ?side1 ?side2 A67.out).mono ?_
                (case side1 => repeat (first | exact (Kd.C_below HR0.out HB.out) | (with_reducible refine Kd.C_alloc ?_ _) | (with_reducible refine Kd.C_drewN ?_ _) | (with_reducible refine Kd.C_drew ?_)))
                (case side2 => exact HC0.out)
                rintro e w' ⟨rfl, ⟨nd, rfl⟩⟩
                refine ⟨_, rfl, ?_⟩
                refine hK.out _ _ (hHeld) (fun hHeld => ?_)
                clear hK K
                refine norm_ (a' := ?_) ?_ ?_
                rotate_left
                · show Act.put _ (some 69) _ = _
                  simp only [Act.put, List.setIfInBounds_toArray, List.set_cons_zero, List.set_cons_succ, i64_w, i32_w]
                  rfl
                refine pu 7 70 #[true, true, true, true, true, true, true, true] HT_ rfl rfl (h := ?_)
                refine done_ (done_of HT_.out (by kernel_rfl)) ?_
                try go_wp2
                go_ret
                exact ⟨by first | rfl | (simp [errW_none, errW_some] <;> rfl) | (simp [*, errW_none, errW_some] <;> rfl), by repeat (first | (with_reducible first | exact HB.out | apply lA | apply lN | apply lD | refine lS ?_ GE487.out | refine lS ?_ GE493.out | refine lS ?_ GE496.out) | exact HB.out)⟩
             rw [if_pos c68] at H
             have c68b0 : ((rd t488 x10_5) == t498) = true := beq_iff_eq.mpr c68
             have c68b1 : ((rd t488 x10_5) != t498) = false := bne_eq_false_iff_eq.mpr c68
             clear c68
             as_aux_lemma =>
              have H' := aZ H
              clear H
              obtain ⟨Ao69, co69, eo69⟩ := Kd.R_slice HO_7.out
              subst eo69
              try go_wp2
              have n0_ := aZ (Kd.V_drew HO_5.out)
              have n1_ := aZ (Kd.rD HO_7.out)
              have n2_ := aZ (bD BK487.out)
              have n3_ := aZ (bD BK493.out)
              have n4_ := aZ (bD BK496.out)
              have n5_ := aZ (lD HB.out)
              clear HO_5
              clear HO_7
              clear BK487
              clear BK493
              clear BK496
              clear HB
              have HO_5 := n0_
              have HO_7 := n1_
              have BK487 := n2_
              have BK493 := n3_
              have BK496 := n4_
              have HB := n5_
              clear n0_ n1_ n2_ n3_ n4_ n5_
              have p497 : 0 ≤ (x10_5 : Int) := of_decide_eq_true (by first | (with_reducible assumption) | assumption)
              have q497 : x10_5 < (t488.length : Int) := of_decide_eq_true (by first | (with_reducible assumption) | assumption)
              obtain ⟨ad497, e497, hx497_0⟩ := Kd.at_int (Kd.R_reads' HO_7.out).2.2 x10_5 p497 q497
              cases e497
              replace p497 := eq_true p497
              replace q497 := eq_true q497
              refine start_ (n := 8) (S := fun w' => w'.cell? (ad497.add (x10_5).toNat) = some (.int .i64 (rd t488 x10_5))) (ds := []) #[false, false, false, false, false, false, false, false] (by kernel_rfl) rfl rfl (hx497_0) (fun hHeld => ?_); refine with_tabW changeforgelaw3_DeltachainReadMatchesSpec.tab13 changeforgelaw3_DeltachainReadMatchesSpec.bits13 (fun HT_ HW_ => ?_)
              generalize wr.drew = w70 at HO_5 HO_7 BK487 BK493 BK496 HB hx497_0 hHeld ⊢
              refine pu 0 63 #[true, false, false, false, false, false, false, false] HT_ rfl rfl (h := ?_)
              refine pu 1 64 #[true, true, false, false, false, false, false, false] HT_ rfl rfl (h := ?_)
              refine pu 2 65 #[true, true, true, false, false, false, false, false] HT_ rfl rfl (h := ?_)
              refine pu 4 67 #[true, true, true, false, true, false, false, false] HT_ rfl rfl (h := ?_)
              refine pu 5 68 #[true, true, true, false, true, true, false, false] HT_ rfl rfl (h := ?_)
              refine tk 3 66 #[true, true, true, true, true, true, false, false] HT_ HW_ rfl rfl hHeld (by intro w' s0; go_simp; with_reducible rfl) (h := ?_)
              refine one_ (i := 6) (N := some 69) #[true, true, true, true, true, true, true, false] rfl rfl (one_of HT_.out (by kernel_rfl)) (by decide) (fun K hK => ?_)
              refine goes_ Try.func22 (by kernel_rfl) rfl #[.slice A0 l0.length c0, .int .i64 x10_5] (by rfl) rfl rfl (by (try simp only [List.map_toArray, List.map_cons, List.map_nil]); first | done | rfl | (simp only [List.length_drop, List.length_take]; rfl)) ?_
              with_reducible refine (changeforgeref3_ChainDepth.calls k5 _ _ l0 x10_5 t498 _ ?side1 ?side2 A67.out).mono ?_
              (case side1 => repeat (first | exact (Kd.C_below HR0.out HB.out) | (with_reducible refine Kd.C_alloc ?_ _) | (with_reducible refine Kd.C_drewN ?_ _) | (with_reducible refine Kd.C_drew ?_)))
              (case side2 => exact HC0.out)
              rintro e w' ⟨rfl, ⟨nd, rfl⟩⟩
              refine ⟨_, rfl, ?_⟩
              refine hK.out _ _ (hHeld) (fun hHeld => ?_)
              clear hK K
              refine norm_ (a' := ?_) ?_ ?_
              rotate_left
              · show Act.put _ (some 69) _ = _
                simp only [Act.put, List.setIfInBounds_toArray, List.set_cons_zero, List.set_cons_succ, i64_w, i32_w]
                rfl
              refine pu 7 70 #[true, true, true, true, true, true, true, true] HT_ rfl rfl (h := ?_)
              refine done_ (done_of HT_.out (by kernel_rfl)) ?_
              try go_wp2
              go_roundg k5
              case measure => have := HJ3.out; have := HJ9.out; have := HJ52.out; have := HJ61.out; have := HK5.out; omega
              case rel => exact ⟨(wrap64 (x10_5 + 1)), (by first | rfl | (simp; done) | (simp [*]; done) | (simp [i64_w]; done)), H', ⟨by have := HJ3.out; have := HJ9.out; have := HJ52.out; have := HJ61.out; have := HK5.out; omega⟩, ⟨by (with_reducible repeat (first | apply Kd.V_alloc | apply Kd.V_drewN | apply Kd.V_drew)); exact HO_5.out⟩, ⟨by (with_reducible repeat (first | apply Kd.rA | apply Kd.rN | apply Kd.rD)); exact HO_7.out⟩, ⟨by (with_reducible repeat (first | refine bN ?_ _ | refine bD ?_ | refine bA ?_ _)); exact BK487.out⟩, ⟨by (with_reducible repeat (first | refine bN ?_ _ | refine bD ?_ | refine bA ?_ _)); exact BK493.out⟩, ⟨by (with_reducible repeat (first | refine bN ?_ _ | refine bD ?_ | refine bA ?_ _)); exact BK496.out⟩, ⟨by repeat (first | (with_reducible first | exact HB.out | apply lA | apply lN | apply lD | refine lS ?_ GE487.out | refine lS ?_ GE493.out | refine lS ?_ GE496.out) | exact HB.out)⟩⟩
          case rest =>
           clear HC64
           obtain ⟨kq, HA, HJ63, HO_5, BK487, BK493, BK496, HB⟩ := hcut
           cases kq with
           | zero => exact absurd HA.out (by simp [changeforgelaw3_DeltachainReadMatchesSpec.j5])
           | succ kj63 =>
            have H := HA.out
            clear HA
            simp only [changeforgelaw3_DeltachainReadMatchesSpec.j5] at H
            replace H := Option.bind_eq_some_iff.mp H
            obtain ⟨t499, A740, H⟩ := H
            replace H : (if t499 = true then (if t485 = 0 then ((changeforgeref3_ChainVersion.f kj63 l0 a1).bind fun t500 => (some ((strOfNums t482).toList == (strOfNums t500).toList))) else (some false)) else ((changeforgeref3_Fault.f 6 (-1)).bind fun bt503 => (if (t485 == bt503.1 && (t486 == bt503.2)) = true then (some ((t482.length : Int) == 0)) else (some false)))) = some r := H
            have A74 := aZ A740
            clear A740
            by_cases c75 : t499 = true
            · subst c75
              have H1 : (if t485 = 0 then ((changeforgeref3_ChainVersion.f kj63 l0 a1).bind fun t500 => (some ((strOfNums t482).toList == (strOfNums t500).toList))) else (some false)) = some r := by rw [if_pos rfl] at H; exact H
              clear H
              have H := H1
              clear H1
              by_cases c76 : t485 = 0
              rotate_left
              · rw [if_neg c76] at H
                have c76b0 : (t485 == 0) = false := beq_eq_false_iff_ne.mpr c76
                have c76b1 : (t485 != 0) = true := bne_iff_ne.mpr c76
                as_aux_lemma =>
                 obtain rfl := Option.some.inj H
                 try go_wp2_with (first | ((with_reducible refine gate_callee (f := 18) rfl ?_); refine goesL_ (some 75) rfl rfl Try.func18 (by kernel_rfl) rfl #[.int .i64 a1, .int .i64 0, .int .i64 (wrap64 ((l0.length : Int) - 1))] rfl (by (try simp only [List.map_toArray, List.map_cons, List.map_nil]); first | done | rfl | (simp only [List.length_drop, List.length_take]; rfl)) ?_; (with_reducible refine (changeforgeref3_In.calls a1 0 (wrap64 ((l0.length : Int) - 1)) true _ A74.out).mono ?_); rintro e w' ⟨rfl, ⟨nd, rfl⟩⟩; refine ⟨_, rfl, ?_⟩))
                 (try (rw [drewN_self wc]; generalize hq_ : World.drewN wc _ = wc; have n0_ : Aside0 (Kd.V (Kd.int .u8) 5 wc w.heap.size (fun k_ => k_ ≠ gb487 ∧ k_ ≠ gb493 ∧ k_ ≠ gb496) v483 t482) := ⟨by rw [← hq_]; exact (by (with_reducible repeat (first | apply Kd.V_alloc | apply Kd.V_drewN | apply Kd.V_drew)); exact HO_5.out)⟩; have n1_ : Aside0 (wc.heap[gb487]? = some (.cells #[.int .i64 t485, .int .i64 t486] 26 (0, 0))) := ⟨by rw [← hq_]; exact (by (with_reducible repeat (first | refine bN ?_ _ | refine bD ?_ | refine bA ?_ _)); exact BK487.out)⟩; have n2_ : Aside0 (wc.heap[gb493]? = some (.cells #[.int .i64 t491, .int .i64 t492] 26 (0, 0))) := ⟨by rw [← hq_]; exact (by (with_reducible repeat (first | refine bN ?_ _ | refine bD ?_ | refine bA ?_ _)); exact BK493.out)⟩; have n3_ : Aside0 (wc.heap[gb496]? = some (.cells #[.int .i64 t494, .int .i64 t495] 26 (0, 0))) := ⟨by rw [← hq_]; exact (by (with_reducible repeat (first | refine bN ?_ _ | refine bD ?_ | refine bA ?_ _)); exact BK496.out)⟩; have n4_ : Aside0 (Below w.heap.size w wc) := ⟨by rw [← hq_]; exact (by repeat (first | (with_reducible first | exact HB.out | apply lA | apply lN | apply lD | refine lS ?_ GE487.out | refine lS ?_ GE493.out | refine lS ?_ GE496.out) | exact HB.out))⟩; clear HO_5 BK487 BK493 BK496 HB hq_; have HO_5 := n0_; have BK487 := n1_; have BK493 := n2_; have BK496 := n3_; have HB := n4_; clear n0_ n1_ n2_ n3_ n4_))
                 have n0_ := aZ (Kd.V_drew HO_5.out)
                 have n1_ := aZ (bD BK487.out)
                 have n2_ := aZ (bD BK493.out)
                 have n3_ := aZ (bD BK496.out)
                 have n4_ := aZ (lD HB.out)
                 clear HO_5
                 clear BK487
                 clear BK493
                 clear BK496
                 clear HB
                 have HO_5 := n0_
                 have BK487 := n1_
                 have BK493 := n2_
                 have BK496 := n3_
                 have HB := n4_
                 clear n0_ n1_ n2_ n3_ n4_
                 refine start_ (n := 13) (S := fun w' => w'.cell? ⟨gb487, 0, none⟩ = some (.int .i64 t485) ∧ w'.cell? ⟨gb487, 1, none⟩ = some (.int .i64 t486)) (ds := []) Z1 (by kernel_rfl) rfl rfl ⟨(blk_cell BK487.out 0).trans rfl, (blk_cell BK487.out 1).trans rfl⟩ (fun hHeld => ?_); refine with_tabW changeforgelaw3_DeltachainReadMatchesSpec.tab17 changeforgelaw3_DeltachainReadMatchesSpec.bits17 (fun HT_ HW_ => ?_)
                 generalize wc.drew = w82 at HO_5 BK487 BK493 BK496 HB hHeld ⊢
                 refine pu 0 85 Z2 HT_ rfl rfl (h := ?_)
                 refine tk 1 86 Z3 HT_ HW_ rfl rfl hHeld (by rintro w' ⟨s0, s1⟩; go_simp; with_reducible rfl) (h := ?_)
                 refine pu 2 87 Z4 HT_ rfl rfl (h := ?_)
                 refine pu 3 88 Z5 HT_ rfl rfl (h := ?_)
                 refine pv 4 89 Z6 HT_ rfl rfl (h := ?_)
                 refine pv 5 90 Z15 HT_ rfl rfl (h := ?_)
                 refine pv 6 91 Z16 HT_ rfl rfl (h := ?_)
                 refine pv 7 92 Z9 HT_ rfl rfl (h := ?_)
                 refine pv 8 93 Z10 HT_ rfl rfl (h := ?_)
                 refine pv 9 94 Z11 HT_ rfl rfl (h := ?_)
                 refine pv 10 95 Z12 HT_ rfl rfl (h := ?_)
                 refine pu 11 96 Z13 HT_ rfl rfl (h := ?_)
                 refine pu 12 4 Z14 HT_ rfl rfl (h := ?_)
                 refine done_ (done_of HT_.out (by kernel_rfl)) ?_
                 try go_wp2
                 go_ret
                 exact ⟨by first | rfl | (simp [errW_none, errW_some] <;> rfl) | (simp [*, errW_none, errW_some] <;> rfl), by repeat (first | (with_reducible first | exact HB.out | apply lA | apply lN | apply lD | refine lS ?_ GE487.out | refine lS ?_ GE493.out | refine lS ?_ GE496.out) | exact HB.out)⟩
              rw [if_pos c76] at H
              have c76b0 : (t485 == 0) = true := beq_iff_eq.mpr c76
              have c76b1 : (t485 != 0) = false := bne_eq_false_iff_eq.mpr c76
              clear c76
              replace H := Option.bind_eq_some_iff.mp H
              obtain ⟨t500, A770, H⟩ := H
              replace H : (some ((strOfNums t482).toList == (strOfNums t500).toList)) = some r := H
              have A77 := aZ A770
              clear A770
              as_aux_lemma =>
               obtain rfl := Option.some.inj H
               try go_wp2_with (first | ((with_reducible refine gate_callee (f := 18) rfl ?_); refine goesL_ (some 75) rfl rfl Try.func18 (by kernel_rfl) rfl #[.int .i64 a1, .int .i64 0, .int .i64 (wrap64 ((l0.length : Int) - 1))] rfl (by (try simp only [List.map_toArray, List.map_cons, List.map_nil]); first | done | rfl | (simp only [List.length_drop, List.length_take]; rfl)) ?_; (with_reducible refine (changeforgeref3_In.calls a1 0 (wrap64 ((l0.length : Int) - 1)) true _ A74.out).mono ?_); rintro e w' ⟨rfl, ⟨nd, rfl⟩⟩; refine ⟨_, rfl, ?_⟩))
               (try (rw [drewN_self wc]; generalize hq_ : World.drewN wc _ = wc; have n0_ : Aside0 (Kd.V (Kd.int .u8) 5 wc w.heap.size (fun k_ => k_ ≠ gb487 ∧ k_ ≠ gb493 ∧ k_ ≠ gb496) v483 t482) := ⟨by rw [← hq_]; exact (by (with_reducible repeat (first | apply Kd.V_alloc | apply Kd.V_drewN | apply Kd.V_drew)); exact HO_5.out)⟩; have n1_ : Aside0 (wc.heap[gb487]? = some (.cells #[.int .i64 t485, .int .i64 t486] 26 (0, 0))) := ⟨by rw [← hq_]; exact (by (with_reducible repeat (first | refine bN ?_ _ | refine bD ?_ | refine bA ?_ _)); exact BK487.out)⟩; have n2_ : Aside0 (wc.heap[gb493]? = some (.cells #[.int .i64 t491, .int .i64 t492] 26 (0, 0))) := ⟨by rw [← hq_]; exact (by (with_reducible repeat (first | refine bN ?_ _ | refine bD ?_ | refine bA ?_ _)); exact BK493.out)⟩; have n3_ : Aside0 (wc.heap[gb496]? = some (.cells #[.int .i64 t494, .int .i64 t495] 26 (0, 0))) := ⟨by rw [← hq_]; exact (by (with_reducible repeat (first | refine bN ?_ _ | refine bD ?_ | refine bA ?_ _)); exact BK496.out)⟩; have n4_ : Aside0 (Below w.heap.size w wc) := ⟨by rw [← hq_]; exact (by repeat (first | (with_reducible first | exact HB.out | apply lA | apply lN | apply lD | refine lS ?_ GE487.out | refine lS ?_ GE493.out | refine lS ?_ GE496.out) | exact HB.out))⟩; clear HO_5 BK487 BK493 BK496 HB hq_; have HO_5 := n0_; have BK487 := n1_; have BK493 := n2_; have BK496 := n3_; have HB := n4_; clear n0_ n1_ n2_ n3_ n4_))
               have n0_ := aZ (Kd.V_drew HO_5.out)
               have n1_ := aZ (bD BK487.out)
               have n2_ := aZ (bD BK493.out)
               have n3_ := aZ (bD BK496.out)
               have n4_ := aZ (lD HB.out)
               clear HO_5
               clear BK487
               clear BK493
               clear BK496
               clear HB
               have HO_5 := n0_
               have BK487 := n1_
               have BK493 := n2_
               have BK496 := n3_
               have HB := n4_
               clear n0_ n1_ n2_ n3_ n4_
               refine start_ (n := 13) (S := fun w' => w'.cell? ⟨gb487, 0, none⟩ = some (.int .i64 t485) ∧ w'.cell? ⟨gb487, 1, none⟩ = some (.int .i64 t486) ∧ (convert 22 9 v483).run Try.prog w' = .ok (.string (strOfNums t482)) w') (ds := []) Z1 (by kernel_rfl) rfl rfl ⟨(blk_cell BK487.out 0).trans rfl, (blk_cell BK487.out 1).trans rfl, (Kd.V_string (P := Try.prog) Try.underlying22 Try.underlying5 Try.underlying9 (by repeat (first | exact HO_5.out | (with_reducible refine Kd.V_drew ?_) | (with_reducible refine Kd.V_drewN ?_ _) | (with_reducible refine Kd.V_alloc ?_ _))))⟩ (fun hHeld => ?_); refine with_tabW changeforgelaw3_DeltachainReadMatchesSpec.tab17 changeforgelaw3_DeltachainReadMatchesSpec.bits17 (fun HT_ HW_ => ?_)
               generalize wc.drew = w78 at HO_5 BK487 BK493 BK496 HB hHeld ⊢
               refine pu 0 85 Z2 HT_ rfl rfl (h := ?_)
               refine tk 1 86 Z3 HT_ HW_ rfl rfl hHeld (by rintro w' ⟨s0, s1, s2⟩; go_simp; with_reducible rfl) (h := ?_)
               refine pu 2 87 Z4 HT_ rfl rfl (h := ?_)
               refine pu 3 88 Z5 HT_ rfl rfl (h := ?_)
               refine pu 4 89 Z6 HT_ rfl rfl (h := ?_)
               refine pu 6 91 Z7 HT_ rfl rfl (h := ?_)
               refine pu 7 92 Z8 HT_ rfl rfl (h := ?_)
               refine tk 5 90 Z9 HT_ HW_ rfl rfl hHeld (by rintro w' ⟨s0, s1, s2⟩; go_simp; with_reducible rfl) (h := ?_)
               refine one_ (i := 8) (N := some 93) Z10 rfl rfl (one_of HT_.out (by kernel_rfl)) (by decide) (fun K hK => ?_)
               refine goes_ Try.func23 (by kernel_rfl) rfl #[.slice A0 l0.length c0, .int .i64 a1] (by rfl) rfl rfl (by (try simp only [List.map_toArray, List.map_cons, List.map_nil]); first | done | rfl | (simp only [List.length_drop, List.length_take]; rfl)) ?_
               with_reducible refine (changeforgeref3_ChainVersion.calls kj63 (fun k_ => k_ < w.heap.size) _ _ l0 a1 t500 _ ?side1 A77.out).mono ?_
               (case side1 => exact Kd.V_mk HC0.out (Kd.F_below (Kd.C_F k45_heap HR0.out) (by repeat (first | (with_reducible first | exact HB.out | apply lA | apply lN | apply lD | refine lS ?_ GE487.out | refine lS ?_ GE493.out | refine lS ?_ GE496.out) | exact HB.out))))
               rintro e w79 ⟨v501, rfl, ho0, hb⟩
               refine ⟨_, rfl, ?_⟩
               have n0_ := aZ (Kd.V_below (by (with_reducible repeat (first | apply Kd.V_alloc | apply Kd.V_drewN | apply Kd.V_drew)); exact HO_5.out) hb)
               have n1_ := aZ (Kd.V_lower (Kd.V_mono (ok' := fun k_ => k_ ≠ gb487 ∧ k_ ≠ gb493 ∧ k_ ≠ gb496) ho0 (fun k_ hk_ => ⟨Or.elim hk_ (fun hs_ => fun e_ => Nat.not_le.2 hs_ (by rw [e_]; exact GW487.out)) (fun hn_ => (Kd.freshB (g := gb487) (o := .cells #[.int .i64 t485, .int .i64 t486] 26 (0, 0)) (by (with_reducible repeat (first | refine bN ?_ _ | refine bD ?_ | refine bA ?_ _)); exact BK487.out) k_ hn_)), Or.elim hk_ (fun hs_ => fun e_ => Nat.not_le.2 hs_ (by rw [e_]; exact GW493.out)) (fun hn_ => (Kd.freshB (g := gb493) (o := .cells #[.int .i64 t491, .int .i64 t492] 26 (0, 0)) (by (with_reducible repeat (first | refine bN ?_ _ | refine bD ?_ | refine bA ?_ _)); exact BK493.out) k_ hn_)), Or.elim hk_ (fun hs_ => fun e_ => Nat.not_le.2 hs_ (by rw [e_]; exact GW496.out)) (fun hn_ => (Kd.freshB (g := gb496) (o := .cells #[.int .i64 t494, .int .i64 t495] 26 (0, 0)) (by (with_reducible repeat (first | refine bN ?_ _ | refine bD ?_ | refine bA ?_ _)); exact BK496.out) k_ hn_))⟩)) (lZ (by repeat (first | (with_reducible first | exact HB.out | apply lA | apply lN | apply lD | refine lS ?_ GE487.out | refine lS ?_ GE493.out | refine lS ?_ GE496.out) | exact HB.out))))
               have n2_ := aZ (blk_below (g := gb487) (o := .cells #[.int .i64 t485, .int .i64 t486] 26 (0, 0)) (by (with_reducible repeat (first | refine bN ?_ _ | refine bD ?_ | refine bA ?_ _)); exact BK487.out) hb)
               have n3_ := aZ (blk_below (g := gb493) (o := .cells #[.int .i64 t491, .int .i64 t492] 26 (0, 0)) (by (with_reducible repeat (first | refine bN ?_ _ | refine bD ?_ | refine bA ?_ _)); exact BK493.out) hb)
               have n4_ := aZ (blk_below (g := gb496) (o := .cells #[.int .i64 t494, .int .i64 t495] 26 (0, 0)) (by (with_reducible repeat (first | refine bN ?_ _ | refine bD ?_ | refine bA ?_ _)); exact BK496.out) hb)
               have n5_ := aZ (lT (by repeat (first | (with_reducible first | exact HB.out | apply lA | apply lN | apply lD | refine lS ?_ GE487.out | refine lS ?_ GE493.out | refine lS ?_ GE496.out) | exact HB.out)) hb)
               clear HO_5
               clear BK487
               clear BK493
               clear BK496
               clear HB
               have HO_5 := n0_
               have HO502 := n1_
               have BK487 := n2_
               have BK493 := n3_
               have BK496 := n4_
               have HB := n5_
               clear n0_ n1_ n2_ n3_ n4_ n5_
               (try clear hb)
               (try clear hb2)
               (try clear hk)
               (try clear hi)
               (try clear ho0)
               refine hK.out _ _ ⟨(blk_cell BK487.out 0).trans rfl, (blk_cell BK487.out 1).trans rfl, (Kd.V_string (P := Try.prog) Try.underlying22 Try.underlying5 Try.underlying9 (by repeat (first | exact HO_5.out | (with_reducible refine Kd.V_drew ?_) | (with_reducible refine Kd.V_drewN ?_ _) | (with_reducible refine Kd.V_alloc ?_ _))))⟩ (fun hHeld => ?_)
               clear hK K
               refine norm_ (a' := ?_) ?_ ?_
               rotate_left
               · show Act.put _ (some 93) _ = _
                 simp only [Act.put, List.setIfInBounds_toArray, List.set_cons_zero, List.set_cons_succ, i64_w, i32_w]
                 rfl
               refine one_ (i := 9) (N := some 94) Z11 rfl rfl (one_of HT_.out (by kernel_rfl)) (by decide) (fun K hK => ?_)
               have hcv80 := Kd.V_string (P := Try.prog) Try.underlying22 Try.underlying5 Try.underlying9 HO502.out
               refine value_ (w1 := ?_) (v := ?_) (by rfl) rfl ?_ ?_
               rotate_left 2
               · go_simp
                 constructor
                 · rfl
                 · rfl
               clear hcv80
               refine hK.out _ _ ⟨(blk_cell BK487.out 0).trans rfl, (blk_cell BK487.out 1).trans rfl, (Kd.V_string (P := Try.prog) Try.underlying22 Try.underlying5 Try.underlying9 (by repeat (first | exact HO_5.out | (with_reducible refine Kd.V_drew ?_) | (with_reducible refine Kd.V_drewN ?_ _) | (with_reducible refine Kd.V_alloc ?_ _))))⟩ (fun hHeld => ?_)
               clear hK K
               refine norm_ (a' := ?_) ?_ ?_
               rotate_left
               · show Act.put _ (some 94) _ = _
                 simp only [Act.put, List.setIfInBounds_toArray, List.set_cons_zero, List.set_cons_succ, i64_w, i32_w]
                 rfl
               refine pu 10 95 Z12 HT_ rfl rfl (h := ?_)
               refine pu 11 96 Z13 HT_ rfl rfl (h := ?_)
               refine pu 12 4 Z14 HT_ rfl rfl (h := ?_)
               refine done_ (done_of HT_.out (by kernel_rfl)) ?_
               try go_wp2
               go_ret
               exact ⟨by first | rfl | (simp [errW_none, errW_some] <;> rfl) | (simp [*, errW_none, errW_some] <;> rfl), by repeat (first | (with_reducible first | exact HB.out | apply lA | apply lN | apply lD | refine lS ?_ GE487.out | refine lS ?_ GE493.out | refine lS ?_ GE496.out) | exact HB.out)⟩
            replace c75 := Bool.eq_false_iff.mpr c75
            subst c75
            have H1 : ((changeforgeref3_Fault.f 6 (-1)).bind fun bt503 => (if (t485 == bt503.1 && (t486 == bt503.2)) = true then (some ((t482.length : Int) == 0)) else (some false))) = some r := by rw [if_neg (show ¬ (false = true) by decide)] at H; exact H
            clear H
            have H := H1
            clear H1
            replace H := Option.bind_eq_some_iff.mp H
            obtain ⟨⟨t503, t504⟩, A830, H⟩ := H
            replace H : (if (t485 == t503 && (t486 == t504)) = true then (some ((t482.length : Int) == 0)) else (some false)) = some r := H
            have A83 := aZ A830
            clear A830
            by_cases c84 : (t485 == t503 && (t486 == t504)) = true
            rotate_left
            · rw [if_neg c84] at H
              have c84b0 : (t485 == t503 && (t486 == t504)) = false := by simpa using c84
              (try (have c84b1 : decide (t485 = t503 && (t486 == t504)) = false := by simpa using c84))
              (try (have c84b2 : (t485 == t503 && (t486 == t504)) = false := by simpa using c84))
              (try (have c84b3 : ¬ (t485 = t503 && (t486 == t504)) := by simpa using c84))
              clear c84
              as_aux_lemma =>
               obtain rfl := Option.some.inj H
               try go_wp2_with (first | ((with_reducible refine gate_callee (f := 18) rfl ?_); refine goesL_ (some 75) rfl rfl Try.func18 (by kernel_rfl) rfl #[.int .i64 a1, .int .i64 0, .int .i64 (wrap64 ((l0.length : Int) - 1))] rfl (by (try simp only [List.map_toArray, List.map_cons, List.map_nil]); first | done | rfl | (simp only [List.length_drop, List.length_take]; rfl)) ?_; (with_reducible refine (changeforgeref3_In.calls a1 0 (wrap64 ((l0.length : Int) - 1)) false _ A74.out).mono ?_); rintro e w' ⟨rfl, ⟨nd, rfl⟩⟩; refine ⟨_, rfl, ?_⟩))
               (try (rw [drewN_self wc]; generalize hq_ : World.drewN wc _ = wc; have n0_ : Aside0 (Kd.V (Kd.int .u8) 5 wc w.heap.size (fun k_ => k_ ≠ gb487 ∧ k_ ≠ gb493 ∧ k_ ≠ gb496) v483 t482) := ⟨by rw [← hq_]; exact (by (with_reducible repeat (first | apply Kd.V_alloc | apply Kd.V_drewN | apply Kd.V_drew)); exact HO_5.out)⟩; have n1_ : Aside0 (wc.heap[gb487]? = some (.cells #[.int .i64 t485, .int .i64 t486] 26 (0, 0))) := ⟨by rw [← hq_]; exact (by (with_reducible repeat (first | refine bN ?_ _ | refine bD ?_ | refine bA ?_ _)); exact BK487.out)⟩; have n2_ : Aside0 (wc.heap[gb493]? = some (.cells #[.int .i64 t491, .int .i64 t492] 26 (0, 0))) := ⟨by rw [← hq_]; exact (by (with_reducible repeat (first | refine bN ?_ _ | refine bD ?_ | refine bA ?_ _)); exact BK493.out)⟩; have n3_ : Aside0 (wc.heap[gb496]? = some (.cells #[.int .i64 t494, .int .i64 t495] 26 (0, 0))) := ⟨by rw [← hq_]; exact (by (with_reducible repeat (first | refine bN ?_ _ | refine bD ?_ | refine bA ?_ _)); exact BK496.out)⟩; have n4_ : Aside0 (Below w.heap.size w wc) := ⟨by rw [← hq_]; exact (by repeat (first | (with_reducible first | exact HB.out | apply lA | apply lN | apply lD | refine lS ?_ GE487.out | refine lS ?_ GE493.out | refine lS ?_ GE496.out) | exact HB.out))⟩; clear HO_5 BK487 BK493 BK496 HB hq_; have HO_5 := n0_; have BK487 := n1_; have BK493 := n2_; have BK496 := n3_; have HB := n4_; clear n0_ n1_ n2_ n3_ n4_))
               have n0_ := aZ (Kd.V_drew HO_5.out)
               have n1_ := aZ (bD BK487.out)
               have n2_ := aZ (bD BK493.out)
               have n3_ := aZ (bD BK496.out)
               have n4_ := aZ (lD HB.out)
               clear HO_5
               clear BK487
               clear BK493
               clear BK496
               clear HB
               have HO_5 := n0_
               have BK487 := n1_
               have BK493 := n2_
               have BK496 := n3_
               have HB := n4_
               clear n0_ n1_ n2_ n3_ n4_
               refine start_ (n := 9) (S := fun w' => w'.cell? ⟨gb487, 0, none⟩ = some (.int .i64 t485) ∧ w'.cell? ⟨gb487, 1, none⟩ = some (.int .i64 t486)) (ds := []) #[false, false, false, false, false, false, false, false, false] (by kernel_rfl) rfl rfl ⟨(blk_cell BK487.out 0).trans rfl, (blk_cell BK487.out 1).trans rfl⟩ (fun hHeld => ?_); refine with_tabW changeforgelaw3_DeltachainReadMatchesSpec.tab16 changeforgelaw3_DeltachainReadMatchesSpec.bits16 (fun HT_ HW_ => ?_)
               generalize wc.drew = w88 at HO_5 BK487 BK493 BK496 HB hHeld ⊢
               refine tk 0 77 #[true, false, false, false, false, false, false, false, false] HT_ HW_ rfl rfl hHeld (by rintro w' ⟨s0, s1⟩; go_simp; with_reducible rfl) (h := ?_)
               refine one_ (i := 1) (N := some 78) #[true, true, false, false, false, false, false, false, false] rfl rfl (one_of HT_.out (by kernel_rfl)) (by decide) (fun K hK => ?_)
               refine goes_ Try.func12 (by kernel_rfl) rfl #[.int .i64 6, .int .i64 (-1)] (by rfl) rfl rfl (by (try simp only [List.map_toArray, List.map_cons, List.map_nil]); first | done | rfl | (simp only [List.length_drop, List.length_take]; rfl)) ?_
               with_reducible refine (changeforgeref3_Fault.calls 6 (-1) t503 t504 _ A83.out).mono ?_
               rintro e w89 ⟨rfl, hb⟩
               refine ⟨_, rfl, ?_⟩
               have n0_ := aZ (Kd.V_below (by (with_reducible repeat (first | apply Kd.V_alloc | apply Kd.V_drewN | apply Kd.V_drew)); exact HO_5.out) hb)
               have n1_ := aZ (blk_below (g := gb487) (o := .cells #[.int .i64 t485, .int .i64 t486] 26 (0, 0)) (by (with_reducible repeat (first | refine bN ?_ _ | refine bD ?_ | refine bA ?_ _)); exact BK487.out) hb)
               have n2_ := aZ (blk_below (g := gb493) (o := .cells #[.int .i64 t491, .int .i64 t492] 26 (0, 0)) (by (with_reducible repeat (first | refine bN ?_ _ | refine bD ?_ | refine bA ?_ _)); exact BK493.out) hb)
               have n3_ := aZ (blk_below (g := gb496) (o := .cells #[.int .i64 t494, .int .i64 t495] 26 (0, 0)) (by (with_reducible repeat (first | refine bN ?_ _ | refine bD ?_ | refine bA ?_ _)); exact BK496.out) hb)
               have n4_ := aZ (lT (by repeat (first | (with_reducible first | exact HB.out | apply lA | apply lN | apply lD | refine lS ?_ GE487.out | refine lS ?_ GE493.out | refine lS ?_ GE496.out) | exact HB.out)) hb)
               clear HO_5
               clear BK487
               clear BK493
               clear BK496
               clear HB
               have HO_5 := n0_
               have BK487 := n1_
               have BK493 := n2_
               have BK496 := n3_
               have HB := n4_
               clear n0_ n1_ n2_ n3_ n4_
               (try clear hb)
               (try clear hb2)
               (try clear hk)
               (try clear hi)
               refine hK.out _ _ ⟨(blk_cell BK487.out 0).trans rfl, (blk_cell BK487.out 1).trans rfl⟩ (fun hHeld => ?_)
               clear hK K
               refine norm_ (a' := ?_) ?_ ?_
               rotate_left
               · show Act.put _ (some 78) _ = _
                 simp only [Act.put, List.setIfInBounds_toArray, List.set_cons_zero, List.set_cons_succ, i64_w, i32_w]
                 rfl
               refine pu 2 79 #[true, true, true, false, false, false, false, false, false] HT_ rfl rfl (h := ?_)
               refine pu 3 80 #[true, true, true, true, false, false, false, false, false] HT_ rfl rfl (h := ?_)
               refine pv 4 81 #[true, true, true, true, true, false, false, false, false] HT_ rfl rfl (h := ?_)
               refine pv 5 82 #[true, true, true, true, true, true, false, false, false] HT_ rfl rfl (h := ?_)
               refine pv 6 83 #[true, true, true, true, true, true, true, false, false] HT_ rfl rfl (h := ?_)
               refine pu 7 84 #[true, true, true, true, true, true, true, true, false] HT_ rfl rfl (h := ?_)
               refine pu 8 4 #[true, true, true, true, true, true, true, true, true] HT_ rfl rfl (h := ?_)
               refine done_ (done_of HT_.out (by kernel_rfl)) ?_
               try go_wp2
               go_ret
               exact ⟨by first | rfl | (simp [errW_none, errW_some] <;> rfl) | (simp [*, errW_none, errW_some] <;> rfl), by repeat (first | (with_reducible first | exact HB.out | apply lA | apply lN | apply lD | refine lS ?_ GE487.out | refine lS ?_ GE493.out | refine lS ?_ GE496.out) | exact HB.out)⟩

            rw [if_pos c84] at H
            have c84b0 : (t485 == t503 && (t486 == t504)) = true := c84
            (try (have c84b1 : decide (t485 = t503 && (t486 == t504)) = true := by simpa using c84))
            (try (have c84b2 : (t485 == t503 && (t486 == t504)) = true := by simpa using c84))
            clear c84
            as_aux_lemma =>
             obtain rfl := Option.some.inj H
             try go_wp2_with (first | ((with_reducible refine gate_callee (f := 18) rfl ?_); refine goesL_ (some 75) rfl rfl Try.func18 (by kernel_rfl) rfl #[.int .i64 a1, .int .i64 0, .int .i64 (wrap64 ((l0.length : Int) - 1))] rfl (by (try simp only [List.map_toArray, List.map_cons, List.map_nil]); first | done | rfl | (simp only [List.length_drop, List.length_take]; rfl)) ?_; (with_reducible refine (changeforgeref3_In.calls a1 0 (wrap64 ((l0.length : Int) - 1)) false _ A74.out).mono ?_); rintro e w' ⟨rfl, ⟨nd, rfl⟩⟩; refine ⟨_, rfl, ?_⟩))
             (try (rw [drewN_self wc]; generalize hq_ : World.drewN wc _ = wc; have n0_ : Aside0 (Kd.V (Kd.int .u8) 5 wc w.heap.size (fun k_ => k_ ≠ gb487 ∧ k_ ≠ gb493 ∧ k_ ≠ gb496) v483 t482) := ⟨by rw [← hq_]; exact (by (with_reducible repeat (first | apply Kd.V_alloc | apply Kd.V_drewN | apply Kd.V_drew)); exact HO_5.out)⟩; have n1_ : Aside0 (wc.heap[gb487]? = some (.cells #[.int .i64 t485, .int .i64 t486] 26 (0, 0))) := ⟨by rw [← hq_]; exact (by (with_reducible repeat (first | refine bN ?_ _ | refine bD ?_ | refine bA ?_ _)); exact BK487.out)⟩; have n2_ : Aside0 (wc.heap[gb493]? = some (.cells #[.int .i64 t491, .int .i64 t492] 26 (0, 0))) := ⟨by rw [← hq_]; exact (by (with_reducible repeat (first | refine bN ?_ _ | refine bD ?_ | refine bA ?_ _)); exact BK493.out)⟩; have n3_ : Aside0 (wc.heap[gb496]? = some (.cells #[.int .i64 t494, .int .i64 t495] 26 (0, 0))) := ⟨by rw [← hq_]; exact (by (with_reducible repeat (first | refine bN ?_ _ | refine bD ?_ | refine bA ?_ _)); exact BK496.out)⟩; have n4_ : Aside0 (Below w.heap.size w wc) := ⟨by rw [← hq_]; exact (by repeat (first | (with_reducible first | exact HB.out | apply lA | apply lN | apply lD | refine lS ?_ GE487.out | refine lS ?_ GE493.out | refine lS ?_ GE496.out) | exact HB.out))⟩; clear HO_5 BK487 BK493 BK496 HB hq_; have HO_5 := n0_; have BK487 := n1_; have BK493 := n2_; have BK496 := n3_; have HB := n4_; clear n0_ n1_ n2_ n3_ n4_))
             have n0_ := aZ (Kd.V_drew HO_5.out)
             have n1_ := aZ (bD BK487.out)
             have n2_ := aZ (bD BK493.out)
             have n3_ := aZ (bD BK496.out)
             have n4_ := aZ (lD HB.out)
             clear HO_5
             clear BK487
             clear BK493
             clear BK496
             clear HB
             have HO_5 := n0_
             have BK487 := n1_
             have BK493 := n2_
             have BK496 := n3_
             have HB := n4_
             clear n0_ n1_ n2_ n3_ n4_
             refine start_ (n := 9) (S := fun w' => w'.cell? ⟨gb487, 0, none⟩ = some (.int .i64 t485) ∧ w'.cell? ⟨gb487, 1, none⟩ = some (.int .i64 t486)) (ds := []) #[false, false, false, false, false, false, false, false, false] (by kernel_rfl) rfl rfl ⟨(blk_cell BK487.out 0).trans rfl, (blk_cell BK487.out 1).trans rfl⟩ (fun hHeld => ?_); refine with_tabW changeforgelaw3_DeltachainReadMatchesSpec.tab16 changeforgelaw3_DeltachainReadMatchesSpec.bits16 (fun HT_ HW_ => ?_)
             generalize wc.drew = w85 at HO_5 BK487 BK493 BK496 HB hHeld ⊢
             refine tk 0 77 #[true, false, false, false, false, false, false, false, false] HT_ HW_ rfl rfl hHeld (by rintro w' ⟨s0, s1⟩; go_simp; with_reducible rfl) (h := ?_)
             refine one_ (i := 1) (N := some 78) #[true, true, false, false, false, false, false, false, false] rfl rfl (one_of HT_.out (by kernel_rfl)) (by decide) (fun K hK => ?_)
             refine goes_ Try.func12 (by kernel_rfl) rfl #[.int .i64 6, .int .i64 (-1)] (by rfl) rfl rfl (by (try simp only [List.map_toArray, List.map_cons, List.map_nil]); first | done | rfl | (simp only [List.length_drop, List.length_take]; rfl)) ?_
             with_reducible refine (changeforgeref3_Fault.calls 6 (-1) t503 t504 _ A83.out).mono ?_
             rintro e w86 ⟨rfl, hb⟩
             refine ⟨_, rfl, ?_⟩
             have n0_ := aZ (Kd.V_below (by (with_reducible repeat (first | apply Kd.V_alloc | apply Kd.V_drewN | apply Kd.V_drew)); exact HO_5.out) hb)
             have n1_ := aZ (blk_below (g := gb487) (o := .cells #[.int .i64 t485, .int .i64 t486] 26 (0, 0)) (by (with_reducible repeat (first | refine bN ?_ _ | refine bD ?_ | refine bA ?_ _)); exact BK487.out) hb)
             have n2_ := aZ (blk_below (g := gb493) (o := .cells #[.int .i64 t491, .int .i64 t492] 26 (0, 0)) (by (with_reducible repeat (first | refine bN ?_ _ | refine bD ?_ | refine bA ?_ _)); exact BK493.out) hb)
             have n3_ := aZ (blk_below (g := gb496) (o := .cells #[.int .i64 t494, .int .i64 t495] 26 (0, 0)) (by (with_reducible repeat (first | refine bN ?_ _ | refine bD ?_ | refine bA ?_ _)); exact BK496.out) hb)
             have n4_ := aZ (lT (by repeat (first | (with_reducible first | exact HB.out | apply lA | apply lN | apply lD | refine lS ?_ GE487.out | refine lS ?_ GE493.out | refine lS ?_ GE496.out) | exact HB.out)) hb)
             clear HO_5
             clear BK487
             clear BK493
             clear BK496
             clear HB
             have HO_5 := n0_
             have BK487 := n1_
             have BK493 := n2_
             have BK496 := n3_
             have HB := n4_
             clear n0_ n1_ n2_ n3_ n4_
             (try clear hb)
             (try clear hb2)
             (try clear hk)
             (try clear hi)
             obtain ⟨Ao87, co87, eo87⟩ := Kd.V_slice HO_5.out
             (first | subst eo87 | (injection eo87 with f1_ f2_ f3_; have f4_ := f1_.symm; have f5_ := f3_.symm; clear f1_ f2_ f3_; subst f4_; subst f5_))
             refine hK.out _ _ ⟨(blk_cell BK487.out 0).trans rfl, (blk_cell BK487.out 1).trans rfl⟩ (fun hHeld => ?_)
             clear hK K
             refine norm_ (a' := ?_) ?_ ?_
             rotate_left
             · show Act.put _ (some 78) _ = _
               simp only [Act.put, List.setIfInBounds_toArray, List.set_cons_zero, List.set_cons_succ, i64_w, i32_w]
               rfl
             refine pu 2 79 #[true, true, true, false, false, false, false, false, false] HT_ rfl rfl (h := ?_)
             refine pu 3 80 #[true, true, true, true, false, false, false, false, false] HT_ rfl rfl (h := ?_)
             refine pu 4 81 #[true, true, true, true, true, false, false, false, false] HT_ rfl rfl (h := ?_)
             refine pu 5 82 #[true, true, true, true, true, true, false, false, false] HT_ rfl rfl (h := ?_)
             refine pu 6 83 #[true, true, true, true, true, true, true, false, false] HT_ rfl rfl (h := ?_)
             refine pu 7 84 #[true, true, true, true, true, true, true, true, false] HT_ rfl rfl (h := ?_)
             refine pu 8 4 #[true, true, true, true, true, true, true, true, true] HT_ rfl rfl (h := ?_)
             refine done_ (done_of HT_.out (by kernel_rfl)) ?_
             try go_wp2
             go_ret
             exact ⟨by first | rfl | (simp [errW_none, errW_some] <;> rfl) | (simp [*, errW_none, errW_some] <;> rfl), by repeat (first | (with_reducible first | exact HB.out | apply lA | apply lN | apply lD | refine lS ?_ GE487.out | refine lS ?_ GE493.out | refine lS ?_ GE496.out) | exact HB.out)⟩
/-- THE PURE STATEMENT of changeforgelaw3_DeltachainReadMatchesSpec. -/
def changeforgelaw3_DeltachainReadMatchesSpec.Pure : Prop := ∀ (l0 : List (S45)) (a1 : Int), (l0.length * 56 ≤ 140737488351232 ∧ ∀ x_ ∈ l0, S45.ok x_) → (Lit.int .i64 a1).wf = true → ∃ k, changeforgelaw3_DeltachainReadMatchesSpec.f k l0 a1 = some true

end Go.Proofs.Ytgmpnghgmcgghaa.P
