/- What the Go functions of this seat compute, and that they do: printed by a program over the kit's print. -/
import Derived.Test.YtojhnjgnpjoacaaP0
import Derived.Test.YtojhnjgnpjoacaaP1
import Derived.Test.YtojhnjgnpjoacaaP5
import Derived.Test.YtojhnjgnpjoacaaP6
import Derived.Test.YtojhnjgnpjoacaaP7
import Derived.Test.YtojhnjgnpjoacaaP8
import Derived.Test.YtojhnjgnpjoacaaP9
namespace Go.Proofs.Ytojhnjgnpjoacaa.P
open Go.RowKit Go.Proofs.YtojhnjgnpjoacaaW.PrintWords Go.Proofs.YtojhnjgnpjoacaaW.PrintLast Go.Proofs.YtojhnjgnpjoacaaW.PrintMore
attribute [local go_sem] max2_int min2_int max_two min_two max_three min_three max_four min_four   -- for this text's walks alone
set_option linter.unusedVariables false
set_option linter.unusedSimpArgs false

attribute [local go_sem high] eqA26
/-! ### changeforgelaw3_MergebaseMatchesSpec: function 3 -/
mutual
def changeforgelaw3_MergebaseMatchesSpec.j0 : Nat → List (S49) → Int → Int → List Int → Option (Bool)
  | 0, _, _, _, _ => none
  | k + 1, x0, x1, x2, x3 => (mergebase_Bases.f k x0 x1 x2).bind fun bt258 => ((mergebase_Octopus.f k x0 x3).bind fun bt264 => ((mergebase_IsAncestor.f k x0 x1 x2).bind fun bt270 => ((changeforgeref3_HistoryFault.f k x0).bind fun bt274 => (if bt274.1 = 0 then (changeforgelaw3_MergebaseMatchesSpec.j1 k x0 x1 x2 x3 bt258.1 bt264.1 bt270.1 bt258.2.1 bt258.2.2 bt264.2.1 bt264.2.2 bt270.2.1 bt270.2.2) else (if (bt258.2.1 == bt274.1 && (bt258.2.2 == bt274.2)) = true then (if (bt264.2.1 == bt274.1 && (bt264.2.2 == bt274.2)) = true then (if (bt270.2.1 == bt274.1 && (bt270.2.2 == bt274.2)) = true then (if (wrap64 ((bt258.1.length : Int) + (bt264.1.length : Int))) = 0 then (some (!bt270.1)) else (some false)) else (some false)) else (some false)) else (some false))))))
def changeforgelaw3_MergebaseMatchesSpec.j1 : Nat → List (S49) → Int → Int → List Int → List Int → List Int → Bool → Int → Int → Int → Int → Int → Int → Option (Bool)
  | 0, _, _, _, _, _, _, _, _, _, _, _, _, _ => none
  | k + 1, x0, x1, x2, x3, x9, x11, x13, x264000, x264001, x270000, x270001, x274000, x274001 => (changeforgeref3_In.f x1 0 (wrap64 ((x0.length : Int) - 1))).bind fun t278 => (if t278 = true then ((changeforgeref3_In.f x2 0 (wrap64 ((x0.length : Int) - 1))).bind fun t279 => (if t279 = true then (changeforgelaw3_MergebaseMatchesSpec.j2 k x0 x1 x2 x3 x9 x11 x13 x264000 x264001 x270000 x270001 x274000 x274001 0 0) else ((changeforgeref3_Fault.f 6 1).bind fun bt280 => (changeforgelaw3_MergebaseMatchesSpec.j2 k x0 x1 x2 x3 x9 x11 x13 x264000 x264001 x270000 x270001 x274000 x274001 bt280.1 bt280.2)))) else ((changeforgeref3_Fault.f 6 0).bind fun bt282 => (changeforgelaw3_MergebaseMatchesSpec.j2 k x0 x1 x2 x3 x9 x11 x13 x264000 x264001 x270000 x270001 x274000 x274001 bt282.1 bt282.2)))
def changeforgelaw3_MergebaseMatchesSpec.j2 : Nat → List (S49) → Int → Int → List Int → List Int → List Int → Bool → Int → Int → Int → Int → Int → Int → Int → Int → Option (Bool)
  | 0, _, _, _, _, _, _, _, _, _, _, _, _, _, _, _ => none
  | k + 1, x0, x1, x2, x3, x9, x11, x13, x264000, x264001, x270000, x270001, x274000, x274001, x278000, x278001 => if x278000 = 0 then (if x264000 = 0 then (if x274000 = 0 then ((changeforgeref3_BestOf.f k x0 (([x1, x2] : List Int))).bind fun t287 => ((changeforgeref3_Ints.f k x9 t287).bind fun t290 => (if t290 = true then ((changeforgeref3_Reach.f k x0).bind fun t291 => (if 0 ≤ x2 then (if x2 < (t291.length : Int) then (if 0 ≤ x1 then (if x1 < ((rd_L5 t291 x2).length : Int) then (if (x13 != (rdOf false (rd_L5 t291 x2) x1)) = true then (some false) else (changeforgelaw3_MergebaseMatchesSpec.j3 k x0 x3 x11 x270000 x270001)) else (none)) else (none)) else (none)) else (none))) else (some false)))) else (some false)) else (some false)) else (if (!(x264000 == x278000) || (!(x264001 == x278001))) = true then (some false) else (if (!(x274000 == x278000) || (!(x274001 == x278001))) = true then (some false) else (if (x9.length : Int) > 0 then (some false) else (if x13 = true then (some false) else (changeforgelaw3_MergebaseMatchesSpec.j3 k x0 x3 x11 x270000 x270001)))))
def changeforgelaw3_MergebaseMatchesSpec.j3 : Nat → List (S49) → List Int → List Int → Int → Int → Option (Bool)
  | 0, _, _, _, _, _ => none
  | k + 1, x0, x3, x11, x270000, x270001 => (changeforgeref3_In.f (x3.length : Int) 1 60).bind fun t296 => (if t296 = true then (changeforgelaw3_MergebaseMatchesSpec.j4 k x0 x3 x11 x270000 x270001 0 0) else ((changeforgeref3_Fault.f 9 (-1)).bind fun bt297 => (changeforgelaw3_MergebaseMatchesSpec.j4 k x0 x3 x11 x270000 x270001 bt297.1 bt297.2)))
def changeforgelaw3_MergebaseMatchesSpec.j4 : Nat → List (S49) → List Int → List Int → Int → Int → Int → Int → Option (Bool)
  | 0, _, _, _, _, _, _, _ => none
  | k + 1, x0, x3, x11, x270000, x270001, x278000, x278001 => changeforgelaw3_MergebaseMatchesSpec.l0 k x0 x3 x11 0 x270000 x270001 x278000 x278001
def changeforgelaw3_MergebaseMatchesSpec.j8 : Nat → List (S49) → List Int → List Int → Int → Int → Int → Int → Option (Bool)
  | 0, _, _, _, _, _, _, _ => none
  | k + 1, x0, x3, x11, x270000, x270001, x278000, x278001 => if x278000 = 0 then (if x270000 = 0 then ((changeforgeref3_BestOf.f k x0 x3).bind fun t303 => ((changeforgeref3_Ints.f k x11 t303).bind fun t306 => (some t306))) else (some false)) else (if (x270000 == x278000 && (x270001 == x278001)) = true then (some ((x11.length : Int) == 0)) else (some false))
def changeforgelaw3_MergebaseMatchesSpec.l0 : Nat → List (S49) → List Int → List Int → Int → Int → Int → Int → Int → Option (Bool)
  | 0, _, _, _, _, _, _, _, _ => none
  | k + 1, x0, x3, x11, x17, x270000, x270001, x278000, x278001 => if x17 < (x3.length : Int) then (changeforgelaw3_MergebaseMatchesSpec.j6 k x0 x3 x11 x17 (x278000 == 0) x270000 x270001 x278000 x278001) else (changeforgelaw3_MergebaseMatchesSpec.j6 k x0 x3 x11 x17 false x270000 x270001 x278000 x278001)
def changeforgelaw3_MergebaseMatchesSpec.j6 : Nat → List (S49) → List Int → List Int → Int → Bool → Int → Int → Int → Int → Option (Bool)
  | 0, _, _, _, _, _, _, _, _, _ => none
  | k + 1, x0, x3, x11, x17, x148, x270000, x270001, x278000, x278001 => if x148 = true then (changeforgelaw3_MergebaseMatchesSpec.j7 k x0 x3 x11 x17 x270000 x270001 x278000 x278001) else (changeforgelaw3_MergebaseMatchesSpec.j8 k x0 x3 x11 x270000 x270001 x278000 x278001)
def changeforgelaw3_MergebaseMatchesSpec.j7 : Nat → List (S49) → List Int → List Int → Int → Int → Int → Int → Int → Option (Bool)
  | 0, _, _, _, _, _, _, _, _ => none
  | k + 1, x0, x3, x11, x17, x270000, x270001, x278000, x278001 => if 0 ≤ x17 then (if x17 < (x3.length : Int) then ((changeforgeref3_In.f (rd x3 x17) 0 (wrap64 ((x0.length : Int) - 1))).bind fun t300 => (if t300 = true then (changeforgelaw3_MergebaseMatchesSpec.l0 k x0 x3 x11 (wrap64 (x17 + 1)) x270000 x270001 x278000 x278001) else ((changeforgeref3_Fault.f 6 x17).bind fun bt301 => (changeforgelaw3_MergebaseMatchesSpec.l0 k x0 x3 x11 (wrap64 (x17 + 1)) x270000 x270001 bt301.1 bt301.2)))) else (none)) else (none)
end
def changeforgelaw3_MergebaseMatchesSpec.f (k : Nat) (l0 : List (S49)) (a1 : Int) (a2 : Int) (l3 : List Int) : Option (Bool) := (changeforgelaw3_mergebaseExample.f k).bind fun t257 => (if t257 = true then (changeforgelaw3_MergebaseMatchesSpec.j0 k l0 a1 a2 l3) else (some false))
theorem changeforgelaw3_MergebaseMatchesSpec.mono_l : ∀ k, (∀ y0 y1 y2 y3, LeO (changeforgelaw3_MergebaseMatchesSpec.j0 k y0 y1 y2 y3) (changeforgelaw3_MergebaseMatchesSpec.j0 (k + 1) y0 y1 y2 y3)) ∧ (∀ y0 y1 y2 y3 y4 y5 y6 y7 y8 y9 y10 y11 y12, LeO (changeforgelaw3_MergebaseMatchesSpec.j1 k y0 y1 y2 y3 y4 y5 y6 y7 y8 y9 y10 y11 y12) (changeforgelaw3_MergebaseMatchesSpec.j1 (k + 1) y0 y1 y2 y3 y4 y5 y6 y7 y8 y9 y10 y11 y12)) ∧ (∀ y0 y1 y2 y3 y4 y5 y6 y7 y8 y9 y10 y11 y12 y13 y14, LeO (changeforgelaw3_MergebaseMatchesSpec.j2 k y0 y1 y2 y3 y4 y5 y6 y7 y8 y9 y10 y11 y12 y13 y14) (changeforgelaw3_MergebaseMatchesSpec.j2 (k + 1) y0 y1 y2 y3 y4 y5 y6 y7 y8 y9 y10 y11 y12 y13 y14)) ∧ (∀ y0 y1 y2 y3 y4, LeO (changeforgelaw3_MergebaseMatchesSpec.j3 k y0 y1 y2 y3 y4) (changeforgelaw3_MergebaseMatchesSpec.j3 (k + 1) y0 y1 y2 y3 y4)) ∧ (∀ y0 y1 y2 y3 y4 y5 y6, LeO (changeforgelaw3_MergebaseMatchesSpec.j4 k y0 y1 y2 y3 y4 y5 y6) (changeforgelaw3_MergebaseMatchesSpec.j4 (k + 1) y0 y1 y2 y3 y4 y5 y6)) ∧ (∀ y0 y1 y2 y3 y4 y5 y6, LeO (changeforgelaw3_MergebaseMatchesSpec.j8 k y0 y1 y2 y3 y4 y5 y6) (changeforgelaw3_MergebaseMatchesSpec.j8 (k + 1) y0 y1 y2 y3 y4 y5 y6)) ∧ (∀ y0 y1 y2 y3 y4 y5 y6 y7, LeO (changeforgelaw3_MergebaseMatchesSpec.l0 k y0 y1 y2 y3 y4 y5 y6 y7) (changeforgelaw3_MergebaseMatchesSpec.l0 (k + 1) y0 y1 y2 y3 y4 y5 y6 y7)) ∧ (∀ y0 y1 y2 y3 y4 y5 y6 y7 y8, LeO (changeforgelaw3_MergebaseMatchesSpec.j6 k y0 y1 y2 y3 y4 y5 y6 y7 y8) (changeforgelaw3_MergebaseMatchesSpec.j6 (k + 1) y0 y1 y2 y3 y4 y5 y6 y7 y8)) ∧ (∀ y0 y1 y2 y3 y4 y5 y6 y7, LeO (changeforgelaw3_MergebaseMatchesSpec.j7 k y0 y1 y2 y3 y4 y5 y6 y7) (changeforgelaw3_MergebaseMatchesSpec.j7 (k + 1) y0 y1 y2 y3 y4 y5 y6 y7))
  | 0 => ⟨fun _ _ _ _ r h => by simp [changeforgelaw3_MergebaseMatchesSpec.j0] at h, fun _ _ _ _ _ _ _ _ _ _ _ _ _ r h => by simp [changeforgelaw3_MergebaseMatchesSpec.j1] at h, fun _ _ _ _ _ _ _ _ _ _ _ _ _ _ _ r h => by simp [changeforgelaw3_MergebaseMatchesSpec.j2] at h, fun _ _ _ _ _ r h => by simp [changeforgelaw3_MergebaseMatchesSpec.j3] at h, fun _ _ _ _ _ _ _ r h => by simp [changeforgelaw3_MergebaseMatchesSpec.j4] at h, fun _ _ _ _ _ _ _ r h => by simp [changeforgelaw3_MergebaseMatchesSpec.j8] at h, fun _ _ _ _ _ _ _ _ r h => by simp [changeforgelaw3_MergebaseMatchesSpec.l0] at h, fun _ _ _ _ _ _ _ _ _ r h => by simp [changeforgelaw3_MergebaseMatchesSpec.j6] at h, fun _ _ _ _ _ _ _ _ r h => by simp [changeforgelaw3_MergebaseMatchesSpec.j7] at h⟩
  | k + 1 => by
    obtain ⟨ih0, ih1, ih2, ih3, ih4, ih5, ih6, ih7, ih8⟩ := changeforgelaw3_MergebaseMatchesSpec.mono_l k
    refine ⟨?_, ?_, ?_, ?_, ?_, ?_, ?_, ?_, ?_⟩
    · intro y0 y1 y2 y3
      unfold changeforgelaw3_MergebaseMatchesSpec.j0
      repeat' first
      | (with_reducible exact ih0 _ _ _ _)
      | (with_reducible exact ih1 _ _ _ _ _ _ _ _ _ _ _ _ _)
      | (with_reducible exact ih2 _ _ _ _ _ _ _ _ _ _ _ _ _ _ _)
      | (with_reducible exact ih3 _ _ _ _ _)
      | (with_reducible exact ih4 _ _ _ _ _ _ _)
      | (with_reducible exact ih5 _ _ _ _ _ _ _)
      | (with_reducible exact ih6 _ _ _ _ _ _ _ _)
      | (with_reducible exact ih7 _ _ _ _ _ _ _ _ _)
      | (with_reducible exact ih8 _ _ _ _ _ _ _ _)
      | (with_reducible exact changeforgelaw3_mergebaseExample.mono _)
      | (with_reducible exact changeforgeref3_BestOf.mono _ _ _)
      | (with_reducible exact changeforgeref3_HistoryFault.mono _ _)
      | (with_reducible exact changeforgeref3_Ints.mono _ _ _)
      | (with_reducible exact changeforgeref3_Reach.mono _ _)
      | (with_reducible exact mergebase_Bases.mono _ _ _ _)
      | (with_reducible exact mergebase_IsAncestor.mono _ _ _ _)
      | (with_reducible exact mergebase_Octopus.mono _ _ _)
      | (with_reducible exact LeO.refl _)
      | (with_reducible exact LeO.none _)
      | (with_reducible refine LeO.ite ?_ ?_)
      | (with_reducible refine LeO.bind ?_ (fun _ => ?_))
      | exact ih0 _ _ _ _
      | exact ih1 _ _ _ _ _ _ _ _ _ _ _ _ _
      | exact ih2 _ _ _ _ _ _ _ _ _ _ _ _ _ _ _
      | exact ih3 _ _ _ _ _
      | exact ih4 _ _ _ _ _ _ _
      | exact ih5 _ _ _ _ _ _ _
      | exact ih6 _ _ _ _ _ _ _ _
      | exact ih7 _ _ _ _ _ _ _ _ _
      | exact ih8 _ _ _ _ _ _ _ _
      | exact changeforgelaw3_mergebaseExample.mono _
      | exact changeforgeref3_BestOf.mono _ _ _
      | exact changeforgeref3_HistoryFault.mono _ _
      | exact changeforgeref3_Ints.mono _ _ _
      | exact changeforgeref3_Reach.mono _ _
      | exact mergebase_Bases.mono _ _ _ _
      | exact mergebase_IsAncestor.mono _ _ _ _
      | exact mergebase_Octopus.mono _ _ _
      | exact LeO.none _
      | refine LeO.ite ?_ ?_
      | refine LeO.bind ?_ (fun _ => ?_)
    · intro y0 y1 y2 y3 y4 y5 y6 y7 y8 y9 y10 y11 y12
      unfold changeforgelaw3_MergebaseMatchesSpec.j1
      repeat' first
      | (with_reducible exact ih0 _ _ _ _)
      | (with_reducible exact ih1 _ _ _ _ _ _ _ _ _ _ _ _ _)
      | (with_reducible exact ih2 _ _ _ _ _ _ _ _ _ _ _ _ _ _ _)
      | (with_reducible exact ih3 _ _ _ _ _)
      | (with_reducible exact ih4 _ _ _ _ _ _ _)
      | (with_reducible exact ih5 _ _ _ _ _ _ _)
      | (with_reducible exact ih6 _ _ _ _ _ _ _ _)
      | (with_reducible exact ih7 _ _ _ _ _ _ _ _ _)
      | (with_reducible exact ih8 _ _ _ _ _ _ _ _)
      | (with_reducible exact changeforgelaw3_mergebaseExample.mono _)
      | (with_reducible exact changeforgeref3_BestOf.mono _ _ _)
      | (with_reducible exact changeforgeref3_HistoryFault.mono _ _)
      | (with_reducible exact changeforgeref3_Ints.mono _ _ _)
      | (with_reducible exact changeforgeref3_Reach.mono _ _)
      | (with_reducible exact mergebase_Bases.mono _ _ _ _)
      | (with_reducible exact mergebase_IsAncestor.mono _ _ _ _)
      | (with_reducible exact mergebase_Octopus.mono _ _ _)
      | (with_reducible exact LeO.refl _)
      | (with_reducible exact LeO.none _)
      | (with_reducible refine LeO.ite ?_ ?_)
      | (with_reducible refine LeO.bind ?_ (fun _ => ?_))
      | exact ih0 _ _ _ _
      | exact ih1 _ _ _ _ _ _ _ _ _ _ _ _ _
      | exact ih2 _ _ _ _ _ _ _ _ _ _ _ _ _ _ _
      | exact ih3 _ _ _ _ _
      | exact ih4 _ _ _ _ _ _ _
      | exact ih5 _ _ _ _ _ _ _
      | exact ih6 _ _ _ _ _ _ _ _
      | exact ih7 _ _ _ _ _ _ _ _ _
      | exact ih8 _ _ _ _ _ _ _ _
      | exact changeforgelaw3_mergebaseExample.mono _
      | exact changeforgeref3_BestOf.mono _ _ _
      | exact changeforgeref3_HistoryFault.mono _ _
      | exact changeforgeref3_Ints.mono _ _ _
      | exact changeforgeref3_Reach.mono _ _
      | exact mergebase_Bases.mono _ _ _ _
      | exact mergebase_IsAncestor.mono _ _ _ _
      | exact mergebase_Octopus.mono _ _ _
      | exact LeO.none _
      | refine LeO.ite ?_ ?_
      | refine LeO.bind ?_ (fun _ => ?_)
    · intro y0 y1 y2 y3 y4 y5 y6 y7 y8 y9 y10 y11 y12 y13 y14
      unfold changeforgelaw3_MergebaseMatchesSpec.j2
      repeat' first
      | (with_reducible exact ih0 _ _ _ _)
      | (with_reducible exact ih1 _ _ _ _ _ _ _ _ _ _ _ _ _)
      | (with_reducible exact ih2 _ _ _ _ _ _ _ _ _ _ _ _ _ _ _)
      | (with_reducible exact ih3 _ _ _ _ _)
      | (with_reducible exact ih4 _ _ _ _ _ _ _)
      | (with_reducible exact ih5 _ _ _ _ _ _ _)
      | (with_reducible exact ih6 _ _ _ _ _ _ _ _)
      | (with_reducible exact ih7 _ _ _ _ _ _ _ _ _)
      | (with_reducible exact ih8 _ _ _ _ _ _ _ _)
      | (with_reducible exact changeforgelaw3_mergebaseExample.mono _)
      | (with_reducible exact changeforgeref3_BestOf.mono _ _ _)
      | (with_reducible exact changeforgeref3_HistoryFault.mono _ _)
      | (with_reducible exact changeforgeref3_Ints.mono _ _ _)
      | (with_reducible exact changeforgeref3_Reach.mono _ _)
      | (with_reducible exact mergebase_Bases.mono _ _ _ _)
      | (with_reducible exact mergebase_IsAncestor.mono _ _ _ _)
      | (with_reducible exact mergebase_Octopus.mono _ _ _)
      | (with_reducible exact LeO.refl _)
      | (with_reducible exact LeO.none _)
      | (with_reducible refine LeO.ite ?_ ?_)
      | (with_reducible refine LeO.bind ?_ (fun _ => ?_))
      | exact ih0 _ _ _ _
      | exact ih1 _ _ _ _ _ _ _ _ _ _ _ _ _
      | exact ih2 _ _ _ _ _ _ _ _ _ _ _ _ _ _ _
      | exact ih3 _ _ _ _ _
      | exact ih4 _ _ _ _ _ _ _
      | exact ih5 _ _ _ _ _ _ _
      | exact ih6 _ _ _ _ _ _ _ _
      | exact ih7 _ _ _ _ _ _ _ _ _
      | exact ih8 _ _ _ _ _ _ _ _
      | exact changeforgelaw3_mergebaseExample.mono _
      | exact changeforgeref3_BestOf.mono _ _ _
      | exact changeforgeref3_HistoryFault.mono _ _
      | exact changeforgeref3_Ints.mono _ _ _
      | exact changeforgeref3_Reach.mono _ _
      | exact mergebase_Bases.mono _ _ _ _
      | exact mergebase_IsAncestor.mono _ _ _ _
      | exact mergebase_Octopus.mono _ _ _
      | exact LeO.none _
      | refine LeO.ite ?_ ?_
      | refine LeO.bind ?_ (fun _ => ?_)
    · intro y0 y1 y2 y3 y4
      unfold changeforgelaw3_MergebaseMatchesSpec.j3
      repeat' first
      | (with_reducible exact ih0 _ _ _ _)
      | (with_reducible exact ih1 _ _ _ _ _ _ _ _ _ _ _ _ _)
      | (with_reducible exact ih2 _ _ _ _ _ _ _ _ _ _ _ _ _ _ _)
      | (with_reducible exact ih3 _ _ _ _ _)
      | (with_reducible exact ih4 _ _ _ _ _ _ _)
      | (with_reducible exact ih5 _ _ _ _ _ _ _)
      | (with_reducible exact ih6 _ _ _ _ _ _ _ _)
      | (with_reducible exact ih7 _ _ _ _ _ _ _ _ _)
      | (with_reducible exact ih8 _ _ _ _ _ _ _ _)
      | (with_reducible exact changeforgelaw3_mergebaseExample.mono _)
      | (with_reducible exact changeforgeref3_BestOf.mono _ _ _)
      | (with_reducible exact changeforgeref3_HistoryFault.mono _ _)
      | (with_reducible exact changeforgeref3_Ints.mono _ _ _)
      | (with_reducible exact changeforgeref3_Reach.mono _ _)
      | (with_reducible exact mergebase_Bases.mono _ _ _ _)
      | (with_reducible exact mergebase_IsAncestor.mono _ _ _ _)
      | (with_reducible exact mergebase_Octopus.mono _ _ _)
      | (with_reducible exact LeO.refl _)
      | (with_reducible exact LeO.none _)
      | (with_reducible refine LeO.ite ?_ ?_)
      | (with_reducible refine LeO.bind ?_ (fun _ => ?_))
      | exact ih0 _ _ _ _
      | exact ih1 _ _ _ _ _ _ _ _ _ _ _ _ _
      | exact ih2 _ _ _ _ _ _ _ _ _ _ _ _ _ _ _
      | exact ih3 _ _ _ _ _
      | exact ih4 _ _ _ _ _ _ _
      | exact ih5 _ _ _ _ _ _ _
      | exact ih6 _ _ _ _ _ _ _ _
      | exact ih7 _ _ _ _ _ _ _ _ _
      | exact ih8 _ _ _ _ _ _ _ _
      | exact changeforgelaw3_mergebaseExample.mono _
      | exact changeforgeref3_BestOf.mono _ _ _
      | exact changeforgeref3_HistoryFault.mono _ _
      | exact changeforgeref3_Ints.mono _ _ _
      | exact changeforgeref3_Reach.mono _ _
      | exact mergebase_Bases.mono _ _ _ _
      | exact mergebase_IsAncestor.mono _ _ _ _
      | exact mergebase_Octopus.mono _ _ _
      | exact LeO.none _
      | refine LeO.ite ?_ ?_
      | refine LeO.bind ?_ (fun _ => ?_)
    · intro y0 y1 y2 y3 y4 y5 y6
      unfold changeforgelaw3_MergebaseMatchesSpec.j4
      repeat' first
      | (with_reducible exact ih0 _ _ _ _)
      | (with_reducible exact ih1 _ _ _ _ _ _ _ _ _ _ _ _ _)
      | (with_reducible exact ih2 _ _ _ _ _ _ _ _ _ _ _ _ _ _ _)
      | (with_reducible exact ih3 _ _ _ _ _)
      | (with_reducible exact ih4 _ _ _ _ _ _ _)
      | (with_reducible exact ih5 _ _ _ _ _ _ _)
      | (with_reducible exact ih6 _ _ _ _ _ _ _ _)
      | (with_reducible exact ih7 _ _ _ _ _ _ _ _ _)
      | (with_reducible exact ih8 _ _ _ _ _ _ _ _)
      | (with_reducible exact changeforgelaw3_mergebaseExample.mono _)
      | (with_reducible exact changeforgeref3_BestOf.mono _ _ _)
      | (with_reducible exact changeforgeref3_HistoryFault.mono _ _)
      | (with_reducible exact changeforgeref3_Ints.mono _ _ _)
      | (with_reducible exact changeforgeref3_Reach.mono _ _)
      | (with_reducible exact mergebase_Bases.mono _ _ _ _)
      | (with_reducible exact mergebase_IsAncestor.mono _ _ _ _)
      | (with_reducible exact mergebase_Octopus.mono _ _ _)
      | (with_reducible exact LeO.refl _)
      | (with_reducible exact LeO.none _)
      | (with_reducible refine LeO.ite ?_ ?_)
      | (with_reducible refine LeO.bind ?_ (fun _ => ?_))
      | exact ih0 _ _ _ _
      | exact ih1 _ _ _ _ _ _ _ _ _ _ _ _ _
      | exact ih2 _ _ _ _ _ _ _ _ _ _ _ _ _ _ _
      | exact ih3 _ _ _ _ _
      | exact ih4 _ _ _ _ _ _ _
      | exact ih5 _ _ _ _ _ _ _
      | exact ih6 _ _ _ _ _ _ _ _
      | exact ih7 _ _ _ _ _ _ _ _ _
      | exact ih8 _ _ _ _ _ _ _ _
      | exact changeforgelaw3_mergebaseExample.mono _
      | exact changeforgeref3_BestOf.mono _ _ _
      | exact changeforgeref3_HistoryFault.mono _ _
      | exact changeforgeref3_Ints.mono _ _ _
      | exact changeforgeref3_Reach.mono _ _
      | exact mergebase_Bases.mono _ _ _ _
      | exact mergebase_IsAncestor.mono _ _ _ _
      | exact mergebase_Octopus.mono _ _ _
      | exact LeO.none _
      | refine LeO.ite ?_ ?_
      | refine LeO.bind ?_ (fun _ => ?_)
    · intro y0 y1 y2 y3 y4 y5 y6
      unfold changeforgelaw3_MergebaseMatchesSpec.j8
      repeat' first
      | (with_reducible exact ih0 _ _ _ _)
      | (with_reducible exact ih1 _ _ _ _ _ _ _ _ _ _ _ _ _)
      | (with_reducible exact ih2 _ _ _ _ _ _ _ _ _ _ _ _ _ _ _)
      | (with_reducible exact ih3 _ _ _ _ _)
      | (with_reducible exact ih4 _ _ _ _ _ _ _)
      | (with_reducible exact ih5 _ _ _ _ _ _ _)
      | (with_reducible exact ih6 _ _ _ _ _ _ _ _)
      | (with_reducible exact ih7 _ _ _ _ _ _ _ _ _)
      | (with_reducible exact ih8 _ _ _ _ _ _ _ _)
      | (with_reducible exact changeforgelaw3_mergebaseExample.mono _)
      | (with_reducible exact changeforgeref3_BestOf.mono _ _ _)
      | (with_reducible exact changeforgeref3_HistoryFault.mono _ _)
      | (with_reducible exact changeforgeref3_Ints.mono _ _ _)
      | (with_reducible exact changeforgeref3_Reach.mono _ _)
      | (with_reducible exact mergebase_Bases.mono _ _ _ _)
      | (with_reducible exact mergebase_IsAncestor.mono _ _ _ _)
      | (with_reducible exact mergebase_Octopus.mono _ _ _)
      | (with_reducible exact LeO.refl _)
      | (with_reducible exact LeO.none _)
      | (with_reducible refine LeO.ite ?_ ?_)
      | (with_reducible refine LeO.bind ?_ (fun _ => ?_))
      | exact ih0 _ _ _ _
      | exact ih1 _ _ _ _ _ _ _ _ _ _ _ _ _
      | exact ih2 _ _ _ _ _ _ _ _ _ _ _ _ _ _ _
      | exact ih3 _ _ _ _ _
      | exact ih4 _ _ _ _ _ _ _
      | exact ih5 _ _ _ _ _ _ _
      | exact ih6 _ _ _ _ _ _ _ _
      | exact ih7 _ _ _ _ _ _ _ _ _
      | exact ih8 _ _ _ _ _ _ _ _
      | exact changeforgelaw3_mergebaseExample.mono _
      | exact changeforgeref3_BestOf.mono _ _ _
      | exact changeforgeref3_HistoryFault.mono _ _
      | exact changeforgeref3_Ints.mono _ _ _
      | exact changeforgeref3_Reach.mono _ _
      | exact mergebase_Bases.mono _ _ _ _
      | exact mergebase_IsAncestor.mono _ _ _ _
      | exact mergebase_Octopus.mono _ _ _
      | exact LeO.none _
      | refine LeO.ite ?_ ?_
      | refine LeO.bind ?_ (fun _ => ?_)
    · intro y0 y1 y2 y3 y4 y5 y6 y7
      unfold changeforgelaw3_MergebaseMatchesSpec.l0
      repeat' first
      | (with_reducible exact ih0 _ _ _ _)
      | (with_reducible exact ih1 _ _ _ _ _ _ _ _ _ _ _ _ _)
      | (with_reducible exact ih2 _ _ _ _ _ _ _ _ _ _ _ _ _ _ _)
      | (with_reducible exact ih3 _ _ _ _ _)
      | (with_reducible exact ih4 _ _ _ _ _ _ _)
      | (with_reducible exact ih5 _ _ _ _ _ _ _)
      | (with_reducible exact ih6 _ _ _ _ _ _ _ _)
      | (with_reducible exact ih7 _ _ _ _ _ _ _ _ _)
      | (with_reducible exact ih8 _ _ _ _ _ _ _ _)
      | (with_reducible exact changeforgelaw3_mergebaseExample.mono _)
      | (with_reducible exact changeforgeref3_BestOf.mono _ _ _)
      | (with_reducible exact changeforgeref3_HistoryFault.mono _ _)
      | (with_reducible exact changeforgeref3_Ints.mono _ _ _)
      | (with_reducible exact changeforgeref3_Reach.mono _ _)
      | (with_reducible exact mergebase_Bases.mono _ _ _ _)
      | (with_reducible exact mergebase_IsAncestor.mono _ _ _ _)
      | (with_reducible exact mergebase_Octopus.mono _ _ _)
      | (with_reducible exact LeO.refl _)
      | (with_reducible exact LeO.none _)
      | (with_reducible refine LeO.ite ?_ ?_)
      | (with_reducible refine LeO.bind ?_ (fun _ => ?_))
      | exact ih0 _ _ _ _
      | exact ih1 _ _ _ _ _ _ _ _ _ _ _ _ _
      | exact ih2 _ _ _ _ _ _ _ _ _ _ _ _ _ _ _
      | exact ih3 _ _ _ _ _
      | exact ih4 _ _ _ _ _ _ _
      | exact ih5 _ _ _ _ _ _ _
      | exact ih6 _ _ _ _ _ _ _ _
      | exact ih7 _ _ _ _ _ _ _ _ _
      | exact ih8 _ _ _ _ _ _ _ _
      | exact changeforgelaw3_mergebaseExample.mono _
      | exact changeforgeref3_BestOf.mono _ _ _
      | exact changeforgeref3_HistoryFault.mono _ _
      | exact changeforgeref3_Ints.mono _ _ _
      | exact changeforgeref3_Reach.mono _ _
      | exact mergebase_Bases.mono _ _ _ _
      | exact mergebase_IsAncestor.mono _ _ _ _
      | exact mergebase_Octopus.mono _ _ _
      | exact LeO.none _
      | refine LeO.ite ?_ ?_
      | refine LeO.bind ?_ (fun _ => ?_)
    · intro y0 y1 y2 y3 y4 y5 y6 y7 y8
      unfold changeforgelaw3_MergebaseMatchesSpec.j6
      repeat' first
      | (with_reducible exact ih0 _ _ _ _)
      | (with_reducible exact ih1 _ _ _ _ _ _ _ _ _ _ _ _ _)
      | (with_reducible exact ih2 _ _ _ _ _ _ _ _ _ _ _ _ _ _ _)
      | (with_reducible exact ih3 _ _ _ _ _)
      | (with_reducible exact ih4 _ _ _ _ _ _ _)
      | (with_reducible exact ih5 _ _ _ _ _ _ _)
      | (with_reducible exact ih6 _ _ _ _ _ _ _ _)
      | (with_reducible exact ih7 _ _ _ _ _ _ _ _ _)
      | (with_reducible exact ih8 _ _ _ _ _ _ _ _)
      | (with_reducible exact changeforgelaw3_mergebaseExample.mono _)
      | (with_reducible exact changeforgeref3_BestOf.mono _ _ _)
      | (with_reducible exact changeforgeref3_HistoryFault.mono _ _)
      | (with_reducible exact changeforgeref3_Ints.mono _ _ _)
      | (with_reducible exact changeforgeref3_Reach.mono _ _)
      | (with_reducible exact mergebase_Bases.mono _ _ _ _)
      | (with_reducible exact mergebase_IsAncestor.mono _ _ _ _)
      | (with_reducible exact mergebase_Octopus.mono _ _ _)
      | (with_reducible exact LeO.refl _)
      | (with_reducible exact LeO.none _)
      | (with_reducible refine LeO.ite ?_ ?_)
      | (with_reducible refine LeO.bind ?_ (fun _ => ?_))
      | exact ih0 _ _ _ _
      | exact ih1 _ _ _ _ _ _ _ _ _ _ _ _ _
      | exact ih2 _ _ _ _ _ _ _ _ _ _ _ _ _ _ _
      | exact ih3 _ _ _ _ _
      | exact ih4 _ _ _ _ _ _ _
      | exact ih5 _ _ _ _ _ _ _
      | exact ih6 _ _ _ _ _ _ _ _
      | exact ih7 _ _ _ _ _ _ _ _ _
      | exact ih8 _ _ _ _ _ _ _ _
      | exact changeforgelaw3_mergebaseExample.mono _
      | exact changeforgeref3_BestOf.mono _ _ _
      | exact changeforgeref3_HistoryFault.mono _ _
      | exact changeforgeref3_Ints.mono _ _ _
      | exact changeforgeref3_Reach.mono _ _
      | exact mergebase_Bases.mono _ _ _ _
      | exact mergebase_IsAncestor.mono _ _ _ _
      | exact mergebase_Octopus.mono _ _ _
      | exact LeO.none _
      | refine LeO.ite ?_ ?_
      | refine LeO.bind ?_ (fun _ => ?_)
    · intro y0 y1 y2 y3 y4 y5 y6 y7
      unfold changeforgelaw3_MergebaseMatchesSpec.j7
      repeat' first
      | (with_reducible exact ih0 _ _ _ _)
      | (with_reducible exact ih1 _ _ _ _ _ _ _ _ _ _ _ _ _)
      | (with_reducible exact ih2 _ _ _ _ _ _ _ _ _ _ _ _ _ _ _)
      | (with_reducible exact ih3 _ _ _ _ _)
      | (with_reducible exact ih4 _ _ _ _ _ _ _)
      | (with_reducible exact ih5 _ _ _ _ _ _ _)
      | (with_reducible exact ih6 _ _ _ _ _ _ _ _)
      | (with_reducible exact ih7 _ _ _ _ _ _ _ _ _)
      | (with_reducible exact ih8 _ _ _ _ _ _ _ _)
      | (with_reducible exact changeforgelaw3_mergebaseExample.mono _)
      | (with_reducible exact changeforgeref3_BestOf.mono _ _ _)
      | (with_reducible exact changeforgeref3_HistoryFault.mono _ _)
      | (with_reducible exact changeforgeref3_Ints.mono _ _ _)
      | (with_reducible exact changeforgeref3_Reach.mono _ _)
      | (with_reducible exact mergebase_Bases.mono _ _ _ _)
      | (with_reducible exact mergebase_IsAncestor.mono _ _ _ _)
      | (with_reducible exact mergebase_Octopus.mono _ _ _)
      | (with_reducible exact LeO.refl _)
      | (with_reducible exact LeO.none _)
      | (with_reducible refine LeO.ite ?_ ?_)
      | (with_reducible refine LeO.bind ?_ (fun _ => ?_))
      | exact ih0 _ _ _ _
      | exact ih1 _ _ _ _ _ _ _ _ _ _ _ _ _
      | exact ih2 _ _ _ _ _ _ _ _ _ _ _ _ _ _ _
      | exact ih3 _ _ _ _ _
      | exact ih4 _ _ _ _ _ _ _
      | exact ih5 _ _ _ _ _ _ _
      | exact ih6 _ _ _ _ _ _ _ _
      | exact ih7 _ _ _ _ _ _ _ _ _
      | exact ih8 _ _ _ _ _ _ _ _
      | exact changeforgelaw3_mergebaseExample.mono _
      | exact changeforgeref3_BestOf.mono _ _ _
      | exact changeforgeref3_HistoryFault.mono _ _
      | exact changeforgeref3_Ints.mono _ _ _
      | exact changeforgeref3_Reach.mono _ _
      | exact mergebase_Bases.mono _ _ _ _
      | exact mergebase_IsAncestor.mono _ _ _ _
      | exact mergebase_Octopus.mono _ _ _
      | exact LeO.none _
      | refine LeO.ite ?_ ?_
      | refine LeO.bind ?_ (fun _ => ?_)
theorem changeforgelaw3_MergebaseMatchesSpec.mono : ∀ a0 a1 a2 a3 k, LeO (changeforgelaw3_MergebaseMatchesSpec.f k a0 a1 a2 a3) (changeforgelaw3_MergebaseMatchesSpec.f (k + 1) a0 a1 a2 a3) := by
  intro a0 a1 a2 a3 k
  obtain ⟨ih0, ih1, ih2, ih3, ih4, ih5, ih6, ih7, ih8⟩ := changeforgelaw3_MergebaseMatchesSpec.mono_l k
  unfold changeforgelaw3_MergebaseMatchesSpec.f
  repeat' first
      | (with_reducible exact ih0 _ _ _ _)
      | (with_reducible exact ih1 _ _ _ _ _ _ _ _ _ _ _ _ _)
      | (with_reducible exact ih2 _ _ _ _ _ _ _ _ _ _ _ _ _ _ _)
      | (with_reducible exact ih3 _ _ _ _ _)
      | (with_reducible exact ih4 _ _ _ _ _ _ _)
      | (with_reducible exact ih5 _ _ _ _ _ _ _)
      | (with_reducible exact ih6 _ _ _ _ _ _ _ _)
      | (with_reducible exact ih7 _ _ _ _ _ _ _ _ _)
      | (with_reducible exact ih8 _ _ _ _ _ _ _ _)
      | (with_reducible exact changeforgelaw3_mergebaseExample.mono _)
      | (with_reducible exact changeforgeref3_BestOf.mono _ _ _)
      | (with_reducible exact changeforgeref3_HistoryFault.mono _ _)
      | (with_reducible exact changeforgeref3_Ints.mono _ _ _)
      | (with_reducible exact changeforgeref3_Reach.mono _ _)
      | (with_reducible exact mergebase_Bases.mono _ _ _ _)
      | (with_reducible exact mergebase_IsAncestor.mono _ _ _ _)
      | (with_reducible exact mergebase_Octopus.mono _ _ _)
      | (with_reducible exact LeO.refl _)
      | (with_reducible exact LeO.none _)
      | (with_reducible refine LeO.ite ?_ ?_)
      | (with_reducible refine LeO.bind ?_ (fun _ => ?_))
      | exact ih0 _ _ _ _
      | exact ih1 _ _ _ _ _ _ _ _ _ _ _ _ _
      | exact ih2 _ _ _ _ _ _ _ _ _ _ _ _ _ _ _
      | exact ih3 _ _ _ _ _
      | exact ih4 _ _ _ _ _ _ _
      | exact ih5 _ _ _ _ _ _ _
      | exact ih6 _ _ _ _ _ _ _ _
      | exact ih7 _ _ _ _ _ _ _ _ _
      | exact ih8 _ _ _ _ _ _ _ _
      | exact changeforgelaw3_mergebaseExample.mono _
      | exact changeforgeref3_BestOf.mono _ _ _
      | exact changeforgeref3_HistoryFault.mono _ _
      | exact changeforgeref3_Ints.mono _ _ _
      | exact changeforgeref3_Reach.mono _ _
      | exact mergebase_Bases.mono _ _ _ _
      | exact mergebase_IsAncestor.mono _ _ _ _
      | exact mergebase_Octopus.mono _ _ _
      | exact LeO.none _
      | refine LeO.ite ?_ ?_
      | refine LeO.bind ?_ (fun _ => ?_)
set_option maxHeartbeats 8000000 in
set_option maxRecDepth 100000 in
theorem changeforgelaw3_MergebaseMatchesSpec.calls (k : Nat) (A0 : Option Addr) (c0 : Nat) (l0 : List (S49)) (a1 : Int) (a2 : Int) (A3 : Option Addr) (c3 : Nat) (l3 : List Int) (r : Bool) (w : World) (hr0 : Kd.C k49 w A0 l0.length l0) (hc0 : l0.length ≤ c0) (hr3 : Kd.C (Kd.int .i64) w A3 l3.length l3) (hc3 : l3.length ≤ c3) (h : changeforgelaw3_MergebaseMatchesSpec.f k l0 a1 a2 l3 = some r) :
  Calls Try.prog 3 #[.slice A0 l0.length c0, .int .i64 a1, .int .i64 a2, .slice A3 l3.length c3] w fun e w' => e = .returned (.bool r) ∧ Below w.heap.size w w' := by
  have hu26 := Try.underlying26
  have HR0 := aZ hr0
  have HC0 := aZ hc0
  clear hr0 hc0
  have HR3 := aZ hr3
  have HC3 := aZ hc3
  clear hr3 hc3
  have HB := aZ (Below.refl w.heap.size w)
  have H : ((changeforgelaw3_mergebaseExample.f k).bind fun t257 => (if t257 = true then (changeforgelaw3_MergebaseMatchesSpec.j0 k l0 a1 a2 l3) else (some false))) = some r := h
  clear h
  replace H := Option.bind_eq_some_iff.mp H
  obtain ⟨t257, A50, H⟩ := H
  replace H : (if t257 = true then (changeforgelaw3_MergebaseMatchesSpec.j0 k l0 a1 a2 l3) else (some false)) = some r := H
  have A5 := aZ A50
  clear A50
  have HC6 := aZ H
  clear H
  go_enter Try.func3, Try.ntmps3
  go_upto_if 19 with (first | ((with_reducible refine gate_callee (f := 13) rfl ?_); refine goesL_ (some 18) rfl rfl Try.func13 (by kernel_rfl) rfl #[] rfl (by (try simp only [List.map_toArray, List.map_cons, List.map_nil]); first | done | rfl | (simp only [List.length_drop, List.length_take]; rfl)) ?_; (with_reducible refine (changeforgelaw3_mergebaseExample.calls k  t257 _ A5.out).mono ?_); rintro e w7 ⟨rfl, hb⟩; refine ⟨_, rfl, ?_⟩; have n0_ := aZ (lT (by repeat (first | (with_reducible first | exact HB.out | apply lA | apply lN | apply lD) | exact HB.out)) hb); clear HB; have HB := n0_; clear n0_; (try clear hb); (try clear hb2); (try clear hk); (try clear hi)))
  (try simp only [Act.put, List.setIfInBounds_toArray, List.set_cons_zero, List.set_cons_succ])
  go_cut [] (fun wc => ∃ (kq : Nat), Aside0 (changeforgelaw3_MergebaseMatchesSpec.j0 kq l0 a1 a2 l3 = some r) ∧ Aside0 (kq ≤ k) ∧ Aside0 (Below w.heap.size w wc))
  case first =>
   have H := HC6.out
   clear HC6
   by_cases c8 : t257 = true
   · subst c8
     have H1 : (changeforgelaw3_MergebaseMatchesSpec.j0 k l0 a1 a2 l3) = some r := by rw [if_pos rfl] at H; exact H
     clear H
     have H := H1
     clear H1
     as_aux_lemma =>
      have H' := aZ H
      clear H
      go_wp2
      go_meet
      case rel => exact ⟨_, H', ⟨by first | omega | exact Nat.le_refl _⟩, ⟨by repeat (first | (with_reducible first | exact HB.out | apply lA | apply lN | apply lD) | exact HB.out)⟩⟩
   replace c8 := Bool.eq_false_iff.mpr c8
   subst c8
   have H1 : (some false) = some r := by rw [if_neg (show ¬ (false = true) by decide)] at H; exact H
   clear H
   have H := H1
   clear H1
   as_aux_lemma =>
    obtain rfl := Option.some.inj H
    go_wp2
    go_ret
    exact ⟨by first | rfl | (simp [errW_none, errW_some] <;> rfl) | (simp [*, errW_none, errW_some] <;> rfl), by repeat (first | (with_reducible first | exact HB.out | apply lA | apply lN | apply lD) | exact HB.out)⟩
  case rest =>
   clear HC6
   (try clear c3)
   obtain ⟨kq, HA, HJ5, HB⟩ := hcut
   cases kq with
   | zero => exact absurd HA.out (by simp [changeforgelaw3_MergebaseMatchesSpec.j0])
   | succ kj5 =>
    have H := HA.out
    clear HA
    simp only [changeforgelaw3_MergebaseMatchesSpec.j0] at H
    replace H := Option.bind_eq_some_iff.mp H
    obtain ⟨⟨t258, t261, t262⟩, A90, H⟩ := H
    replace H : ((mergebase_Octopus.f kj5 l0 l3).bind fun bt264 => ((mergebase_IsAncestor.f kj5 l0 a1 a2).bind fun bt270 => ((changeforgeref3_HistoryFault.f kj5 l0).bind fun bt274 => (if bt274.1 = 0 then (changeforgelaw3_MergebaseMatchesSpec.j1 kj5 l0 a1 a2 l3 t258 bt264.1 bt270.1 t261 t262 bt264.2.1 bt264.2.2 bt270.2.1 bt270.2.2) else (if (t261 == bt274.1 && (t262 == bt274.2)) = true then (if (bt264.2.1 == bt274.1 && (bt264.2.2 == bt274.2)) = true then (if (bt270.2.1 == bt274.1 && (bt270.2.2 == bt274.2)) = true then (if (wrap64 ((t258.length : Int) + (bt264.1.length : Int))) = 0 then (some (!bt270.1)) else (some false)) else (some false)) else (some false)) else (some false)))))) = some r := H
    have A9 := aZ A90
    clear A90
    replace H := Option.bind_eq_some_iff.mp H
    obtain ⟨⟨t264, t267, t268⟩, A100, H⟩ := H
    replace H : ((mergebase_IsAncestor.f kj5 l0 a1 a2).bind fun bt270 => ((changeforgeref3_HistoryFault.f kj5 l0).bind fun bt274 => (if bt274.1 = 0 then (changeforgelaw3_MergebaseMatchesSpec.j1 kj5 l0 a1 a2 l3 t258 t264 bt270.1 t261 t262 t267 t268 bt270.2.1 bt270.2.2) else (if (t261 == bt274.1 && (t262 == bt274.2)) = true then (if (t267 == bt274.1 && (t268 == bt274.2)) = true then (if (bt270.2.1 == bt274.1 && (bt270.2.2 == bt274.2)) = true then (if (wrap64 ((t258.length : Int) + (t264.length : Int))) = 0 then (some (!bt270.1)) else (some false)) else (some false)) else (some false)) else (some false))))) = some r := H
    have A10 := aZ A100
    clear A100
    replace H := Option.bind_eq_some_iff.mp H
    obtain ⟨⟨t270, t271, t272⟩, A110, H⟩ := H
    replace H : ((changeforgeref3_HistoryFault.f kj5 l0).bind fun bt274 => (if bt274.1 = 0 then (changeforgelaw3_MergebaseMatchesSpec.j1 kj5 l0 a1 a2 l3 t258 t264 t270 t261 t262 t267 t268 t271 t272) else (if (t261 == bt274.1 && (t262 == bt274.2)) = true then (if (t267 == bt274.1 && (t268 == bt274.2)) = true then (if (t271 == bt274.1 && (t272 == bt274.2)) = true then (if (wrap64 ((t258.length : Int) + (t264.length : Int))) = 0 then (some (!t270)) else (some false)) else (some false)) else (some false)) else (some false)))) = some r := H
    have A11 := aZ A110
    clear A110
    replace H := Option.bind_eq_some_iff.mp H
    obtain ⟨⟨t274, t275⟩, A120, H⟩ := H
    replace H : (if t274 = 0 then (changeforgelaw3_MergebaseMatchesSpec.j1 kj5 l0 a1 a2 l3 t258 t264 t270 t261 t262 t267 t268 t271 t272) else (if (t261 == t274 && (t262 == t275)) = true then (if (t267 == t274 && (t268 == t275)) = true then (if (t271 == t274 && (t272 == t275)) = true then (if (wrap64 ((t258.length : Int) + (t264.length : Int))) = 0 then (some (!t270)) else (some false)) else (some false)) else (some false)) else (some false))) = some r := H
    have A12 := aZ A120
    clear A120
    have HC13 := aZ H
    clear H
    go_upto_if 44 with (first | ((with_reducible refine gate_callee (f := 14) rfl ?_); refine goesL_ (some 24) rfl rfl Try.func14 (by kernel_rfl) rfl #[.slice A0 l0.length c0, .int .i64 a1, .int .i64 a2] rfl (by (try simp only [List.map_toArray, List.map_cons, List.map_nil]); first | done | rfl | (simp only [List.length_drop, List.length_take]; rfl)) ?_; (with_reducible refine (mergebase_Bases.calls kj5 _ _ l0 a1 a2 t258 t261 t262 _ ?side1 ?side2 A9.out).mono ?_); (case side1 => repeat (first | exact (Kd.C_below HR0.out HB.out) | (with_reducible refine Kd.C_alloc ?_ _) | (with_reducible refine Kd.C_drewN ?_ _) | (with_reducible refine Kd.C_drew ?_))); (case side2 => exact HC0.out); rintro e w14 ⟨v259, rfl, ho0, hb⟩; refine ⟨_, rfl, ?_⟩; have n0_ := aZ (Kd.R_lower ho0 (lZ (by repeat (first | (with_reducible first | exact HB.out | apply lA | apply lN | apply lD) | exact HB.out)))); have n1_ := aZ (lT (by repeat (first | (with_reducible first | exact HB.out | apply lA | apply lN | apply lD) | exact HB.out)) hb); clear HB; have HO260 := n0_; have HB := n1_; clear n0_ n1_; (try clear hb); (try clear hb2); (try clear hk); (try clear hi); (try clear ho0)) | ((with_reducible refine gate_dst (N := 10) rfl ?_); (try (refine gate_guard (by rfl) ?_; dsimp only)); refine box_event ?hg (N := 10) ?hd (cs := #[.int .i64 0, .int .i64 0]) (t := 26) ?hr ?_; (case hd => rfl); (case hg => rfl); (case hr => first | (go_simp; done) | (go_simp; rfl)); intro gb263 hg w15 hbox hb; have n0_ := aZ (Kd.R_below (by (with_reducible repeat (first | apply Kd.rA | apply Kd.rN | apply Kd.rD)); exact HO260.out) hb); have n1_ := aZ (lT (by repeat (first | (with_reducible first | exact HB.out | apply lA | apply lN | apply lD) | exact HB.out)) hb); have n2_ := aZ (hbox); have n3_ := aZ ((by rw [hg]; exact (lZ (by repeat (first | (with_reducible first | exact HB.out | apply lA | apply lN | apply lD) | exact HB.out))) : w.heap.size ≤ gb263)); have n4_ := aZ ((by rw [hg]; exact (lZ (by repeat (first | (with_reducible first | exact HB.out | apply lA | apply lN | apply lD) | exact HB.out))) : w.heap.size ≤ gb263)); clear HO260; clear HB; have HO260 := n0_; have HB := n1_; have BK263 := n2_; have GW263 := n3_; have GE263 := n4_; clear n0_ n1_ n2_ n3_ n4_; clear hb hbox hg; have hcz16_0 : w15.cell? ⟨gb263, 0, none⟩ = some (.int .i64 0) := (blk_cell BK263.out 0).trans rfl; have hcz16_1 : w15.cell? ⟨gb263, 1, none⟩ = some (.int .i64 0) := (blk_cell BK263.out 1).trans rfl; have hfz16_0 := blk_frozen BK263.out 0; have hfz16_1 := blk_frozen BK263.out 1) | ((with_reducible refine gate_callee (f := 15) rfl ?_); refine goesL_ (some 30) rfl rfl Try.func15 (by kernel_rfl) rfl #[.slice A0 l0.length c0, .slice A3 l3.length c3] rfl (by (try simp only [List.map_toArray, List.map_cons, List.map_nil]); first | done | rfl | (simp only [List.length_drop, List.length_take]; rfl)) ?_; (with_reducible refine (mergebase_Octopus.calls kj5 _ _ l0 _ _ l3 t264 t267 t268 _ ?side1 ?side2 ?side3 ?side4 A10.out).mono ?_); (case side1 => exact Kd.C_below HR0.out (by repeat (first | (with_reducible first | exact HB.out | apply lA | apply lN | apply lD | refine lS ?_ GE263.out) | exact HB.out))); (case side2 => exact HC0.out); (case side3 => exact Kd.C_below HR3.out (by repeat (first | (with_reducible first | exact HB.out | apply lA | apply lN | apply lD | refine lS ?_ GE263.out) | exact HB.out))); (case side4 => exact HC3.out); rintro e w17 ⟨v265, rfl, ho0, hb⟩; refine ⟨_, rfl, ?_⟩; have n0_ := aZ (Kd.R_elder' (by (with_reducible repeat (first | apply Kd.rA | apply Kd.rN | apply Kd.rD)); exact (Kd.R_mono (Kd.R_far (p := ⟨gb263, 1, none⟩) (Kd.R_far (p := ⟨gb263, 0, none⟩) (Kd.R_types HO260.out BK263.out (by decide)) (fun _ hk => hk.2) (.int .i64 t261)) (fun _ hk => hk.2) (.int .i64 t262)) (fun _ h_ => h_.1))) (Kd.R_base ho0) hb); have n1_ := aZ (Kd.R_lower (Kd.R_new' ho0 (Kd.R_lt (by (with_reducible repeat (first | apply Kd.rA | apply Kd.rN | apply Kd.rD)); exact (Kd.R_mono (Kd.R_far (p := ⟨gb263, 1, none⟩) (Kd.R_far (p := ⟨gb263, 0, none⟩) (Kd.R_types HO260.out BK263.out (by decide)) (fun _ hk => hk.2) (.int .i64 t261)) (fun _ hk => hk.2) (.int .i64 t262)) (fun _ h_ => h_.1))))) (lZ (by repeat (first | (with_reducible first | exact HB.out | apply lA | apply lN | apply lD | refine lS ?_ GE263.out) | exact HB.out)))); have n2_ := aZ (blk_below (g := gb263) (o := .cells #[.int .i64 t261, .int .i64 t262] 26 (0, 0)) (by (with_reducible repeat (first | refine bN ?_ _ | refine bD ?_ | refine bA ?_ _)); refine blk_put (cs := #[.int .i64 t261, .int .i64 0]) ?_ 1 _ rfl; (with_reducible repeat (first | refine bN ?_ _ | refine bD ?_ | refine bA ?_ _)); refine blk_put (cs := #[.int .i64 0, .int .i64 0]) ?_ 0 _ rfl; (with_reducible repeat (first | refine bN ?_ _ | refine bD ?_ | refine bA ?_ _)); exact BK263.out) hb); have n3_ := aZ (lT (by repeat (first | (with_reducible first | exact HB.out | apply lA | apply lN | apply lD | refine lS ?_ GE263.out) | exact HB.out)) hb); clear HO260; clear BK263; clear HB; have HO260 := n0_; have HO266 := n1_; have BK263 := n2_; have HB := n3_; clear n0_ n1_ n2_ n3_; (try clear hb); (try clear hb2); (try clear hk); (try clear hi); (try clear ho0)) | ((with_reducible refine gate_dst (N := 12) rfl ?_); (try (refine gate_guard (by rfl) ?_; dsimp only)); refine box_event ?hg (N := 12) ?hd (cs := #[.int .i64 0, .int .i64 0]) (t := 26) ?hr ?_; (case hd => rfl); (case hg => rfl); (case hr => first | (go_simp; done) | (go_simp; rfl)); intro gb269 hg w18 hbox hb; have n0_ := aZ (Kd.R_below (by (with_reducible repeat (first | apply Kd.rA | apply Kd.rN | apply Kd.rD)); exact HO260.out) hb); have n1_ := aZ (Kd.R_below (by (with_reducible repeat (first | apply Kd.rA | apply Kd.rN | apply Kd.rD)); exact HO266.out) hb); have n2_ := aZ (blk_below (g := gb263) (o := .cells #[.int .i64 t261, .int .i64 t262] 26 (0, 0)) (by (with_reducible repeat (first | refine bN ?_ _ | refine bD ?_ | refine bA ?_ _)); exact BK263.out) hb); have n3_ := aZ (lT (by repeat (first | (with_reducible first | exact HB.out | apply lA | apply lN | apply lD | refine lS ?_ GE263.out) | exact HB.out)) hb); have n4_ := aZ (hbox); have n5_ := aZ ((by rw [hg]; exact (lZ (by repeat (first | (with_reducible first | exact HB.out | apply lA | apply lN | apply lD | refine lS ?_ GE263.out) | exact HB.out))) : w.heap.size ≤ gb269)); have n6_ := aZ ((by rw [hg]; exact (lZ (by repeat (first | (with_reducible first | exact HB.out | apply lA | apply lN | apply lD | refine lS ?_ GE263.out) | exact HB.out))) : w.heap.size ≤ gb269)); have n7_ := aZ ((by rw [hg]; exact Nat.ne_of_lt (blk_lt (g := gb263) (o := .cells #[.int .i64 t261, .int .i64 t262] 26 (0, 0)) (by (with_reducible repeat (first | refine bN ?_ _ | refine bD ?_ | refine bA ?_ _)); exact BK263.out)) : gb263 ≠ gb269)); have n8_ := aZ ((by rw [hg]; exact Nat.ne_of_gt (blk_lt (g := gb263) (o := .cells #[.int .i64 t261, .int .i64 t262] 26 (0, 0)) (by (with_reducible repeat (first | refine bN ?_ _ | refine bD ?_ | refine bA ?_ _)); exact BK263.out)) : gb269 ≠ gb263)); clear HO260; clear HO266; clear BK263; clear HB; have HO260 := n0_; have HO266 := n1_; have BK263 := n2_; have HB := n3_; have BK269 := n4_; have GW269 := n5_; have GE269 := n6_; have NB263_269 := n7_; have NB269_263 := n8_; clear n0_ n1_ n2_ n3_ n4_ n5_ n6_ n7_ n8_; clear hb hbox hg; have hnb19 := NB269_263.out; have hnc19 := NB263_269.out; have hcz20_0 : w18.cell? ⟨gb269, 0, none⟩ = some (.int .i64 0) := (blk_cell BK269.out 0).trans rfl; have hcz20_1 : w18.cell? ⟨gb269, 1, none⟩ = some (.int .i64 0) := (blk_cell BK269.out 1).trans rfl; have hfz20_0 := blk_frozen BK269.out 0; have hfz20_1 := blk_frozen BK269.out 1) | ((with_reducible refine gate_callee (f := 16) rfl ?_); refine goesL_ (some 37) rfl rfl Try.func16 (by kernel_rfl) rfl #[.slice A0 l0.length c0, .int .i64 a1, .int .i64 a2] rfl (by (try simp only [List.map_toArray, List.map_cons, List.map_nil]); first | done | rfl | (simp only [List.length_drop, List.length_take]; rfl)) ?_; (with_reducible refine (mergebase_IsAncestor.calls kj5 _ _ l0 a1 a2 t270 t271 t272 _ ?side1 ?side2 A11.out).mono ?_); (case side1 => exact Kd.C_below HR0.out (by repeat (first | (with_reducible first | exact HB.out | apply lA | apply lN | apply lD | refine lS ?_ GE263.out | refine lS ?_ GE269.out) | exact HB.out))); (case side2 => exact HC0.out); rintro e w21 ⟨rfl, hb⟩; refine ⟨_, rfl, ?_⟩; have n0_ := aZ (Kd.R_below (by (with_reducible repeat (first | apply Kd.rA | apply Kd.rN | apply Kd.rD)); exact (Kd.R_mono (Kd.R_far (p := ⟨gb269, 1, none⟩) (Kd.R_far (p := ⟨gb269, 0, none⟩) (Kd.R_types HO260.out BK269.out (by decide)) (fun _ hk => hk.2) (.int .i64 t267)) (fun _ hk => hk.2) (.int .i64 t268)) (fun _ h_ => h_.1))) hb); have n1_ := aZ (Kd.R_below (by (with_reducible repeat (first | apply Kd.rA | apply Kd.rN | apply Kd.rD)); exact (Kd.R_mono (Kd.R_far (p := ⟨gb269, 1, none⟩) (Kd.R_far (p := ⟨gb269, 0, none⟩) (Kd.R_types HO266.out BK269.out (by decide)) (fun _ hk => hk.2) (.int .i64 t267)) (fun _ hk => hk.2) (.int .i64 t268)) (fun _ h_ => h_.1))) hb); have n2_ := aZ (blk_below (g := gb263) (o := .cells #[.int .i64 t261, .int .i64 t262] 26 (0, 0)) (by (with_reducible repeat (first | refine bN ?_ _ | refine bD ?_ | refine bA ?_ _)); refine blk_far ?_ NB263_269.out _; (with_reducible repeat (first | refine bN ?_ _ | refine bD ?_ | refine bA ?_ _)); refine blk_far ?_ NB263_269.out _; (with_reducible repeat (first | refine bN ?_ _ | refine bD ?_ | refine bA ?_ _)); exact BK263.out) hb); have n3_ := aZ (blk_below (g := gb269) (o := .cells #[.int .i64 t267, .int .i64 t268] 26 (0, 0)) (by (with_reducible repeat (first | refine bN ?_ _ | refine bD ?_ | refine bA ?_ _)); refine blk_put (cs := #[.int .i64 t267, .int .i64 0]) ?_ 1 _ rfl; (with_reducible repeat (first | refine bN ?_ _ | refine bD ?_ | refine bA ?_ _)); refine blk_put (cs := #[.int .i64 0, .int .i64 0]) ?_ 0 _ rfl; (with_reducible repeat (first | refine bN ?_ _ | refine bD ?_ | refine bA ?_ _)); exact BK269.out) hb); have n4_ := aZ (lT (by repeat (first | (with_reducible first | exact HB.out | apply lA | apply lN | apply lD | refine lS ?_ GE263.out | refine lS ?_ GE269.out) | exact HB.out)) hb); clear HO260; clear HO266; clear BK263; clear BK269; clear HB; have HO260 := n0_; have HO266 := n1_; have BK263 := n2_; have BK269 := n3_; have HB := n4_; clear n0_ n1_ n2_ n3_ n4_; (try clear hb); (try clear hb2); (try clear hk); (try clear hi)) | ((with_reducible refine gate_dst (N := 14) rfl ?_); (try (refine gate_guard (by rfl) ?_; dsimp only)); refine box_event ?hg (N := 14) ?hd (cs := #[.int .i64 0, .int .i64 0]) (t := 26) ?hr ?_; (case hd => rfl); (case hg => rfl); (case hr => first | (go_simp; done) | (go_simp; rfl)); intro gb273 hg w22 hbox hb; have n0_ := aZ (Kd.R_below (by (with_reducible repeat (first | apply Kd.rA | apply Kd.rN | apply Kd.rD)); exact HO260.out) hb); have n1_ := aZ (Kd.R_below (by (with_reducible repeat (first | apply Kd.rA | apply Kd.rN | apply Kd.rD)); exact HO266.out) hb); have n2_ := aZ (blk_below (g := gb263) (o := .cells #[.int .i64 t261, .int .i64 t262] 26 (0, 0)) (by (with_reducible repeat (first | refine bN ?_ _ | refine bD ?_ | refine bA ?_ _)); exact BK263.out) hb); have n3_ := aZ (blk_below (g := gb269) (o := .cells #[.int .i64 t267, .int .i64 t268] 26 (0, 0)) (by (with_reducible repeat (first | refine bN ?_ _ | refine bD ?_ | refine bA ?_ _)); exact BK269.out) hb); have n4_ := aZ (lT (by repeat (first | (with_reducible first | exact HB.out | apply lA | apply lN | apply lD | refine lS ?_ GE263.out | refine lS ?_ GE269.out) | exact HB.out)) hb); have n5_ := aZ (hbox); have n6_ := aZ ((by rw [hg]; exact (lZ (by repeat (first | (with_reducible first | exact HB.out | apply lA | apply lN | apply lD | refine lS ?_ GE263.out | refine lS ?_ GE269.out) | exact HB.out))) : w.heap.size ≤ gb273)); have n7_ := aZ ((by rw [hg]; exact (lZ (by repeat (first | (with_reducible first | exact HB.out | apply lA | apply lN | apply lD | refine lS ?_ GE263.out | refine lS ?_ GE269.out) | exact HB.out))) : w.heap.size ≤ gb273)); have n8_ := aZ ((by rw [hg]; exact Nat.ne_of_lt (blk_lt (g := gb263) (o := .cells #[.int .i64 t261, .int .i64 t262] 26 (0, 0)) (by (with_reducible repeat (first | refine bN ?_ _ | refine bD ?_ | refine bA ?_ _)); exact BK263.out)) : gb263 ≠ gb273)); have n9_ := aZ ((by rw [hg]; exact Nat.ne_of_gt (blk_lt (g := gb263) (o := .cells #[.int .i64 t261, .int .i64 t262] 26 (0, 0)) (by (with_reducible repeat (first | refine bN ?_ _ | refine bD ?_ | refine bA ?_ _)); exact BK263.out)) : gb273 ≠ gb263)); have n10_ := aZ ((by rw [hg]; exact Nat.ne_of_lt (blk_lt (g := gb269) (o := .cells #[.int .i64 t267, .int .i64 t268] 26 (0, 0)) (by (with_reducible repeat (first | refine bN ?_ _ | refine bD ?_ | refine bA ?_ _)); exact BK269.out)) : gb269 ≠ gb273)); have n11_ := aZ ((by rw [hg]; exact Nat.ne_of_gt (blk_lt (g := gb269) (o := .cells #[.int .i64 t267, .int .i64 t268] 26 (0, 0)) (by (with_reducible repeat (first | refine bN ?_ _ | refine bD ?_ | refine bA ?_ _)); exact BK269.out)) : gb273 ≠ gb269)); clear HO260; clear HO266; clear BK263; clear BK269; clear HB; have HO260 := n0_; have HO266 := n1_; have BK263 := n2_; have BK269 := n3_; have HB := n4_; have BK273 := n5_; have GW273 := n6_; have GE273 := n7_; have NB263_273 := n8_; have NB273_263 := n9_; have NB269_273 := n10_; have NB273_269 := n11_; clear n0_ n1_ n2_ n3_ n4_ n5_ n6_ n7_ n8_ n9_ n10_ n11_; clear hb hbox hg; have hnb23 := NB273_263.out; have hnc23 := NB263_273.out; have hnb24 := NB273_269.out; have hnc24 := NB269_273.out; have hcz25_0 : w22.cell? ⟨gb273, 0, none⟩ = some (.int .i64 0) := (blk_cell BK273.out 0).trans rfl; have hcz25_1 : w22.cell? ⟨gb273, 1, none⟩ = some (.int .i64 0) := (blk_cell BK273.out 1).trans rfl; have hfz25_0 := blk_frozen BK273.out 0; have hfz25_1 := blk_frozen BK273.out 1) | ((with_reducible refine gate_callee (f := 17) rfl ?_); refine goesL_ (some 41) rfl rfl Try.func17 (by kernel_rfl) rfl #[.slice A0 l0.length c0] rfl (by (try simp only [List.map_toArray, List.map_cons, List.map_nil]); first | done | rfl | (simp only [List.length_drop, List.length_take]; rfl)) ?_; (with_reducible refine (changeforgeref3_HistoryFault.calls kj5 _ _ l0 t274 t275 _ ?side1 ?side2 A12.out).mono ?_); (case side1 => exact Kd.C_below HR0.out (by repeat (first | (with_reducible first | exact HB.out | apply lA | apply lN | apply lD | refine lS ?_ GE263.out | refine lS ?_ GE269.out | refine lS ?_ GE273.out) | exact HB.out))); (case side2 => exact HC0.out); rintro e w26 ⟨rfl, hb⟩; refine ⟨_, rfl, ?_⟩; have n0_ := aZ (Kd.R_below (by (with_reducible repeat (first | apply Kd.rA | apply Kd.rN | apply Kd.rD)); exact (Kd.R_mono (Kd.R_far (p := ⟨gb273, 1, none⟩) (Kd.R_far (p := ⟨gb273, 0, none⟩) (Kd.R_types HO260.out BK273.out (by decide)) (fun _ hk => hk.2) (.int .i64 t271)) (fun _ hk => hk.2) (.int .i64 t272)) (fun _ h_ => h_.1))) hb); have n1_ := aZ (Kd.R_below (by (with_reducible repeat (first | apply Kd.rA | apply Kd.rN | apply Kd.rD)); exact (Kd.R_mono (Kd.R_far (p := ⟨gb273, 1, none⟩) (Kd.R_far (p := ⟨gb273, 0, none⟩) (Kd.R_types HO266.out BK273.out (by decide)) (fun _ hk => hk.2) (.int .i64 t271)) (fun _ hk => hk.2) (.int .i64 t272)) (fun _ h_ => h_.1))) hb); have n2_ := aZ (blk_below (g := gb263) (o := .cells #[.int .i64 t261, .int .i64 t262] 26 (0, 0)) (by (with_reducible repeat (first | refine bN ?_ _ | refine bD ?_ | refine bA ?_ _)); refine blk_far ?_ NB263_273.out _; (with_reducible repeat (first | refine bN ?_ _ | refine bD ?_ | refine bA ?_ _)); refine blk_far ?_ NB263_273.out _; (with_reducible repeat (first | refine bN ?_ _ | refine bD ?_ | refine bA ?_ _)); exact BK263.out) hb); have n3_ := aZ (blk_below (g := gb269) (o := .cells #[.int .i64 t267, .int .i64 t268] 26 (0, 0)) (by (with_reducible repeat (first | refine bN ?_ _ | refine bD ?_ | refine bA ?_ _)); refine blk_far ?_ NB269_273.out _; (with_reducible repeat (first | refine bN ?_ _ | refine bD ?_ | refine bA ?_ _)); refine blk_far ?_ NB269_273.out _; (with_reducible repeat (first | refine bN ?_ _ | refine bD ?_ | refine bA ?_ _)); exact BK269.out) hb); have n4_ := aZ (blk_below (g := gb273) (o := .cells #[.int .i64 t271, .int .i64 t272] 26 (0, 0)) (by (with_reducible repeat (first | refine bN ?_ _ | refine bD ?_ | refine bA ?_ _)); refine blk_put (cs := #[.int .i64 t271, .int .i64 0]) ?_ 1 _ rfl; (with_reducible repeat (first | refine bN ?_ _ | refine bD ?_ | refine bA ?_ _)); refine blk_put (cs := #[.int .i64 0, .int .i64 0]) ?_ 0 _ rfl; (with_reducible repeat (first | refine bN ?_ _ | refine bD ?_ | refine bA ?_ _)); exact BK273.out) hb); have n5_ := aZ (lT (by repeat (first | (with_reducible first | exact HB.out | apply lA | apply lN | apply lD | refine lS ?_ GE263.out | refine lS ?_ GE269.out | refine lS ?_ GE273.out) | exact HB.out)) hb); clear HO260; clear HO266; clear BK263; clear BK269; clear BK273; clear HB; have HO260 := n0_; have HO266 := n1_; have BK263 := n2_; have BK269 := n3_; have BK273 := n4_; have HB := n5_; clear n0_ n1_ n2_ n3_ n4_ n5_; (try clear hb); (try clear hb2); (try clear hk); (try clear hi)) | ((with_reducible refine gate_dst (N := 15) rfl ?_); (try (refine gate_guard (by rfl) ?_; dsimp only)); refine box_event ?hg (N := 15) ?hd (cs := #[.int .i64 0, .int .i64 0]) (t := 26) ?hr ?_; (case hd => rfl); (case hg => rfl); (case hr => first | (go_simp; done) | (go_simp; rfl)); intro gb276 hg w27 hbox hb; have n0_ := aZ (Kd.R_below (by (with_reducible repeat (first | apply Kd.rA | apply Kd.rN | apply Kd.rD)); exact HO260.out) hb); have n1_ := aZ (Kd.R_below (by (with_reducible repeat (first | apply Kd.rA | apply Kd.rN | apply Kd.rD)); exact HO266.out) hb); have n2_ := aZ (blk_below (g := gb263) (o := .cells #[.int .i64 t261, .int .i64 t262] 26 (0, 0)) (by (with_reducible repeat (first | refine bN ?_ _ | refine bD ?_ | refine bA ?_ _)); exact BK263.out) hb); have n3_ := aZ (blk_below (g := gb269) (o := .cells #[.int .i64 t267, .int .i64 t268] 26 (0, 0)) (by (with_reducible repeat (first | refine bN ?_ _ | refine bD ?_ | refine bA ?_ _)); exact BK269.out) hb); have n4_ := aZ (blk_below (g := gb273) (o := .cells #[.int .i64 t271, .int .i64 t272] 26 (0, 0)) (by (with_reducible repeat (first | refine bN ?_ _ | refine bD ?_ | refine bA ?_ _)); exact BK273.out) hb); have n5_ := aZ (lT (by repeat (first | (with_reducible first | exact HB.out | apply lA | apply lN | apply lD | refine lS ?_ GE263.out | refine lS ?_ GE269.out | refine lS ?_ GE273.out) | exact HB.out)) hb); have n6_ := aZ (hbox); have n7_ := aZ ((by rw [hg]; exact (lZ (by repeat (first | (with_reducible first | exact HB.out | apply lA | apply lN | apply lD | refine lS ?_ GE263.out | refine lS ?_ GE269.out | refine lS ?_ GE273.out) | exact HB.out))) : w.heap.size ≤ gb276)); have n8_ := aZ ((by rw [hg]; exact (lZ (by repeat (first | (with_reducible first | exact HB.out | apply lA | apply lN | apply lD | refine lS ?_ GE263.out | refine lS ?_ GE269.out | refine lS ?_ GE273.out) | exact HB.out))) : w.heap.size ≤ gb276)); have n9_ := aZ ((by rw [hg]; exact Nat.ne_of_lt (blk_lt (g := gb263) (o := .cells #[.int .i64 t261, .int .i64 t262] 26 (0, 0)) (by (with_reducible repeat (first | refine bN ?_ _ | refine bD ?_ | refine bA ?_ _)); exact BK263.out)) : gb263 ≠ gb276)); have n10_ := aZ ((by rw [hg]; exact Nat.ne_of_gt (blk_lt (g := gb263) (o := .cells #[.int .i64 t261, .int .i64 t262] 26 (0, 0)) (by (with_reducible repeat (first | refine bN ?_ _ | refine bD ?_ | refine bA ?_ _)); exact BK263.out)) : gb276 ≠ gb263)); have n11_ := aZ ((by rw [hg]; exact Nat.ne_of_lt (blk_lt (g := gb269) (o := .cells #[.int .i64 t267, .int .i64 t268] 26 (0, 0)) (by (with_reducible repeat (first | refine bN ?_ _ | refine bD ?_ | refine bA ?_ _)); exact BK269.out)) : gb269 ≠ gb276)); have n12_ := aZ ((by rw [hg]; exact Nat.ne_of_gt (blk_lt (g := gb269) (o := .cells #[.int .i64 t267, .int .i64 t268] 26 (0, 0)) (by (with_reducible repeat (first | refine bN ?_ _ | refine bD ?_ | refine bA ?_ _)); exact BK269.out)) : gb276 ≠ gb269)); have n13_ := aZ ((by rw [hg]; exact Nat.ne_of_lt (blk_lt (g := gb273) (o := .cells #[.int .i64 t271, .int .i64 t272] 26 (0, 0)) (by (with_reducible repeat (first | refine bN ?_ _ | refine bD ?_ | refine bA ?_ _)); exact BK273.out)) : gb273 ≠ gb276)); have n14_ := aZ ((by rw [hg]; exact Nat.ne_of_gt (blk_lt (g := gb273) (o := .cells #[.int .i64 t271, .int .i64 t272] 26 (0, 0)) (by (with_reducible repeat (first | refine bN ?_ _ | refine bD ?_ | refine bA ?_ _)); exact BK273.out)) : gb276 ≠ gb273)); clear HO260; clear HO266; clear BK263; clear BK269; clear BK273; clear HB; have HO260 := n0_; have HO266 := n1_; have BK263 := n2_; have BK269 := n3_; have BK273 := n4_; have HB := n5_; have BK276 := n6_; have GW276 := n7_; have GE276 := n8_; have NB263_276 := n9_; have NB276_263 := n10_; have NB269_276 := n11_; have NB276_269 := n12_; have NB273_276 := n13_; have NB276_273 := n14_; clear n0_ n1_ n2_ n3_ n4_ n5_ n6_ n7_ n8_ n9_ n10_ n11_ n12_ n13_ n14_; clear hb hbox hg; have hnb28 := NB276_263.out; have hnc28 := NB263_276.out; have hnb29 := NB276_269.out; have hnc29 := NB269_276.out; have hnb30 := NB276_273.out; have hnc30 := NB273_276.out; have hcz31_0 : w27.cell? ⟨gb276, 0, none⟩ = some (.int .i64 0) := (blk_cell BK276.out 0).trans rfl; have hcz31_1 : w27.cell? ⟨gb276, 1, none⟩ = some (.int .i64 0) := (blk_cell BK276.out 1).trans rfl; have hfz31_0 := blk_frozen BK276.out 0; have hfz31_1 := blk_frozen BK276.out 1))
    (try simp only [Act.put, List.setIfInBounds_toArray, List.set_cons_zero, List.set_cons_succ])
    go_cut [] (fun wc => ∃ (kq : Nat), Aside0 (changeforgelaw3_MergebaseMatchesSpec.j1 kq l0 a1 a2 l3 t258 t264 t270 t261 t262 t267 t268 t271 t272 = some r) ∧ Aside0 (kq ≤ kj5) ∧ Aside0 (Kd.R (Kd.int .i64) 3 wc w.heap.size (fun k_ => some k_ ≠ (v265 : Value).ownBlock) v259 t258) ∧ Aside0 (Kd.R (Kd.int .i64) 3 wc w.heap.size (fun k_ => some k_ ≠ (v259 : Value).ownBlock) v265 t264) ∧ Aside0 (wc.heap[gb263]? = some (.cells #[.int .i64 t261, .int .i64 t262] 26 (0, 0))) ∧ Aside0 (wc.heap[gb269]? = some (.cells #[.int .i64 t267, .int .i64 t268] 26 (0, 0))) ∧ Aside0 (wc.heap[gb273]? = some (.cells #[.int .i64 t271, .int .i64 t272] 26 (0, 0))) ∧ Aside0 (wc.heap[gb276]? = some (.cells #[.int .i64 t274, .int .i64 t275] 26 (0, 0))) ∧ Aside0 (Below w.heap.size w wc))
    case first =>
     have H := HC13.out
     clear HC13
     by_cases c32 : t274 = 0
     · rw [if_pos c32] at H
       have c32b0 : (t274 == 0) = true := beq_iff_eq.mpr c32
       have c32b1 : (t274 != 0) = false := bne_eq_false_iff_eq.mpr c32
       clear c32
       (first | rw [c32b0] | (simp only [i64_w, i32_w]; rw [c32b0]) | skip)
       as_aux_lemma =>
        have H' := aZ H
        clear H
        go_wp2
        go_meet
        case rel => exact ⟨_, H', ⟨by have := HJ5.out; first | omega | exact Nat.le_refl _⟩, ⟨by (with_reducible repeat (first | apply Kd.rA | apply Kd.rN | apply Kd.rD)); exact Kd.R_mono (Kd.R_far (p := ⟨gb276, 1, none⟩) (Kd.R_far (p := ⟨gb276, 0, none⟩) (Kd.R_types HO260.out BK276.out (by decide)) (fun _ hk => hk.2) (.int .i64 t274)) (fun _ hk => hk.2) (.int .i64 t275)) (fun _ hk => hk.1.2)⟩, ⟨by (with_reducible repeat (first | apply Kd.rA | apply Kd.rN | apply Kd.rD)); exact Kd.R_mono (Kd.R_far (p := ⟨gb276, 1, none⟩) (Kd.R_far (p := ⟨gb276, 0, none⟩) (Kd.R_types HO266.out BK276.out (by decide)) (fun _ hk => hk.2) (.int .i64 t274)) (fun _ hk => hk.2) (.int .i64 t275)) (fun _ hk => hk.1.2)⟩, ⟨by (with_reducible repeat (first | refine bN ?_ _ | refine bD ?_ | refine bA ?_ _)); refine blk_far ?_ NB263_276.out _; (with_reducible repeat (first | refine bN ?_ _ | refine bD ?_ | refine bA ?_ _)); refine blk_far ?_ NB263_276.out _; (with_reducible repeat (first | refine bN ?_ _ | refine bD ?_ | refine bA ?_ _)); exact BK263.out⟩, ⟨by (with_reducible repeat (first | refine bN ?_ _ | refine bD ?_ | refine bA ?_ _)); refine blk_far ?_ NB269_276.out _; (with_reducible repeat (first | refine bN ?_ _ | refine bD ?_ | refine bA ?_ _)); refine blk_far ?_ NB269_276.out _; (with_reducible repeat (first | refine bN ?_ _ | refine bD ?_ | refine bA ?_ _)); exact BK269.out⟩, ⟨by (with_reducible repeat (first | refine bN ?_ _ | refine bD ?_ | refine bA ?_ _)); refine blk_far ?_ NB273_276.out _; (with_reducible repeat (first | refine bN ?_ _ | refine bD ?_ | refine bA ?_ _)); refine blk_far ?_ NB273_276.out _; (with_reducible repeat (first | refine bN ?_ _ | refine bD ?_ | refine bA ?_ _)); exact BK273.out⟩, ⟨by (with_reducible repeat (first | refine bN ?_ _ | refine bD ?_ | refine bA ?_ _)); refine blk_put (cs := #[.int .i64 t274, .int .i64 0]) ?_ 1 _ rfl; (with_reducible repeat (first | refine bN ?_ _ | refine bD ?_ | refine bA ?_ _)); refine blk_put (cs := #[.int .i64 0, .int .i64 0]) ?_ 0 _ rfl; (with_reducible repeat (first | refine bN ?_ _ | refine bD ?_ | refine bA ?_ _)); exact BK276.out⟩, ⟨by repeat (first | (with_reducible first | exact HB.out | apply lA | apply lN | apply lD | refine lS ?_ GE263.out | refine lS ?_ GE269.out | refine lS ?_ GE273.out | refine lS ?_ GE276.out) | exact HB.out)⟩⟩
     rw [if_neg c32] at H
     have c32b0 : (t274 == 0) = false := beq_eq_false_iff_ne.mpr c32
     have c32b1 : (t274 != 0) = true := bne_iff_ne.mpr c32
     (first | rw [c32b0] | (simp only [i64_w, i32_w]; rw [c32b0]) | skip)
     by_cases c33 : (t261 == t274 && (t262 == t275)) = true
     rotate_left
     · rw [if_neg c33] at H
       have c33b0 : (t261 == t274 && (t262 == t275)) = false := by simpa using c33
       (try (have c33b1 : decide (t261 = t274 && (t262 == t275)) = false := by simpa using c33))
       (try (have c33b2 : (t261 == t274 && (t262 == t275)) = false := by simpa using c33))
       (try (have c33b3 : ¬ (t261 = t274 && (t262 == t275)) := by simpa using c33))
       clear c33
       as_aux_lemma =>
        obtain rfl := Option.some.inj H
        have hnb80 := NB263_269.out
        have hnc80 := NB269_263.out
        have hnb81 := NB263_273.out
        have hnc81 := NB273_263.out
        have hnb82 := NB263_276.out
        have hnc82 := NB276_263.out
        have hcz83_0 : w27.cell? ⟨gb263, 0, none⟩ = some (.int .i64 t261) := (blk_cell BK263.out 0).trans rfl
        have hcz83_1 : w27.cell? ⟨gb263, 1, none⟩ = some (.int .i64 t262) := (blk_cell BK263.out 1).trans rfl
        have hfz83_0 := blk_frozen BK263.out 0
        have hfz83_1 := blk_frozen BK263.out 1
        have hnb84 := NB276_269.out
        have hnc84 := NB269_276.out
        have hnb85 := NB276_273.out
        have hnc85 := NB273_276.out
        have hcz86_0 : w27.cell? ⟨gb276, 0, none⟩ = some (.int .i64 0) := (blk_cell BK276.out 0).trans rfl
        have hcz86_1 : w27.cell? ⟨gb276, 1, none⟩ = some (.int .i64 0) := (blk_cell BK276.out 1).trans rfl
        have hfz86_0 := blk_frozen BK276.out 0
        have hfz86_1 := blk_frozen BK276.out 1
        go_wp2
        go_ret
        exact ⟨by first | rfl | (simp [errW_none, errW_some] <;> rfl) | (simp [*, errW_none, errW_some] <;> rfl), by repeat (first | (with_reducible first | exact HB.out | apply lA | apply lN | apply lD | refine lS ?_ GE263.out | refine lS ?_ GE269.out | refine lS ?_ GE273.out | refine lS ?_ GE276.out) | exact HB.out)⟩
     rw [if_pos c33] at H
     have c33b0 : (t261 == t274 && (t262 == t275)) = true := c33
     (try (have c33b1 : decide (t261 = t274 && (t262 == t275)) = true := by simpa using c33))
     (try (have c33b2 : (t261 == t274 && (t262 == t275)) = true := by simpa using c33))
     clear c33
     by_cases c34 : (t267 == t274 && (t268 == t275)) = true
     rotate_left
     · rw [if_neg c34] at H
       have c34b0 : (t267 == t274 && (t268 == t275)) = false := by simpa using c34
       (try (have c34b1 : decide (t267 = t274 && (t268 == t275)) = false := by simpa using c34))
       (try (have c34b2 : (t267 == t274 && (t268 == t275)) = false := by simpa using c34))
       (try (have c34b3 : ¬ (t267 = t274 && (t268 == t275)) := by simpa using c34))
       clear c34
       as_aux_lemma =>
        obtain rfl := Option.some.inj H
        have hnb71 := NB263_269.out
        have hnc71 := NB269_263.out
        have hnb72 := NB263_273.out
        have hnc72 := NB273_263.out
        have hnb73 := NB263_276.out
        have hnc73 := NB276_263.out
        have hcz74_0 : w27.cell? ⟨gb263, 0, none⟩ = some (.int .i64 t261) := (blk_cell BK263.out 0).trans rfl
        have hcz74_1 : w27.cell? ⟨gb263, 1, none⟩ = some (.int .i64 t262) := (blk_cell BK263.out 1).trans rfl
        have hfz74_0 := blk_frozen BK263.out 0
        have hfz74_1 := blk_frozen BK263.out 1
        have hnb75 := NB276_269.out
        have hnc75 := NB269_276.out
        have hnb76 := NB276_273.out
        have hnc76 := NB273_276.out
        have hcz77_0 : w27.cell? ⟨gb276, 0, none⟩ = some (.int .i64 0) := (blk_cell BK276.out 0).trans rfl
        have hcz77_1 : w27.cell? ⟨gb276, 1, none⟩ = some (.int .i64 0) := (blk_cell BK276.out 1).trans rfl
        have hfz77_0 := blk_frozen BK276.out 0
        have hfz77_1 := blk_frozen BK276.out 1
        have hnb78 := NB269_273.out
        have hnc78 := NB273_269.out
        have hcz79_0 : w27.cell? ⟨gb269, 0, none⟩ = some (.int .i64 t267) := (blk_cell BK269.out 0).trans rfl
        have hcz79_1 : w27.cell? ⟨gb269, 1, none⟩ = some (.int .i64 t268) := (blk_cell BK269.out 1).trans rfl
        have hfz79_0 := blk_frozen BK269.out 0
        have hfz79_1 := blk_frozen BK269.out 1
        go_wp2
        go_ret
        exact ⟨by first | rfl | (simp [errW_none, errW_some] <;> rfl) | (simp [*, errW_none, errW_some] <;> rfl), by repeat (first | (with_reducible first | exact HB.out | apply lA | apply lN | apply lD | refine lS ?_ GE263.out | refine lS ?_ GE269.out | refine lS ?_ GE273.out | refine lS ?_ GE276.out) | exact HB.out)⟩
     rw [if_pos c34] at H
     have c34b0 : (t267 == t274 && (t268 == t275)) = true := c34
     (try (have c34b1 : decide (t267 = t274 && (t268 == t275)) = true := by simpa using c34))
     (try (have c34b2 : (t267 == t274 && (t268 == t275)) = true := by simpa using c34))
     clear c34
     by_cases c35 : (t271 == t274 && (t272 == t275)) = true
     rotate_left
     · rw [if_neg c35] at H
       have c35b0 : (t271 == t274 && (t272 == t275)) = false := by simpa using c35
       (try (have c35b1 : decide (t271 = t274 && (t272 == t275)) = false := by simpa using c35))
       (try (have c35b2 : (t271 == t274 && (t272 == t275)) = false := by simpa using c35))
       (try (have c35b3 : ¬ (t271 = t274 && (t272 == t275)) := by simpa using c35))
       clear c35
       as_aux_lemma =>
        obtain rfl := Option.some.inj H
        have hnb61 := NB263_269.out
        have hnc61 := NB269_263.out
        have hnb62 := NB263_273.out
        have hnc62 := NB273_263.out
        have hnb63 := NB263_276.out
        have hnc63 := NB276_263.out
        have hcz64_0 : w27.cell? ⟨gb263, 0, none⟩ = some (.int .i64 t261) := (blk_cell BK263.out 0).trans rfl
        have hcz64_1 : w27.cell? ⟨gb263, 1, none⟩ = some (.int .i64 t262) := (blk_cell BK263.out 1).trans rfl
        have hfz64_0 := blk_frozen BK263.out 0
        have hfz64_1 := blk_frozen BK263.out 1
        have hnb65 := NB276_269.out
        have hnc65 := NB269_276.out
        have hnb66 := NB276_273.out
        have hnc66 := NB273_276.out
        have hcz67_0 : w27.cell? ⟨gb276, 0, none⟩ = some (.int .i64 0) := (blk_cell BK276.out 0).trans rfl
        have hcz67_1 : w27.cell? ⟨gb276, 1, none⟩ = some (.int .i64 0) := (blk_cell BK276.out 1).trans rfl
        have hfz67_0 := blk_frozen BK276.out 0
        have hfz67_1 := blk_frozen BK276.out 1
        have hnb68 := NB269_273.out
        have hnc68 := NB273_269.out
        have hcz69_0 : w27.cell? ⟨gb269, 0, none⟩ = some (.int .i64 t267) := (blk_cell BK269.out 0).trans rfl
        have hcz69_1 : w27.cell? ⟨gb269, 1, none⟩ = some (.int .i64 t268) := (blk_cell BK269.out 1).trans rfl
        have hfz69_0 := blk_frozen BK269.out 0
        have hfz69_1 := blk_frozen BK269.out 1
        have hcz70_0 : w27.cell? ⟨gb273, 0, none⟩ = some (.int .i64 t271) := (blk_cell BK273.out 0).trans rfl
        have hcz70_1 : w27.cell? ⟨gb273, 1, none⟩ = some (.int .i64 t272) := (blk_cell BK273.out 1).trans rfl
        have hfz70_0 := blk_frozen BK273.out 0
        have hfz70_1 := blk_frozen BK273.out 1
        go_wp2
        go_ret
        exact ⟨by first | rfl | (simp [errW_none, errW_some] <;> rfl) | (simp [*, errW_none, errW_some] <;> rfl), by repeat (first | (with_reducible first | exact HB.out | apply lA | apply lN | apply lD | refine lS ?_ GE263.out | refine lS ?_ GE269.out | refine lS ?_ GE273.out | refine lS ?_ GE276.out) | exact HB.out)⟩
     rw [if_pos c35] at H
     have c35b0 : (t271 == t274 && (t272 == t275)) = true := c35
     (try (have c35b1 : decide (t271 = t274 && (t272 == t275)) = true := by simpa using c35))
     (try (have c35b2 : (t271 == t274 && (t272 == t275)) = true := by simpa using c35))
     clear c35
     by_cases c36 : (wrap64 ((t258.length : Int) + (t264.length : Int))) = 0
     rotate_left
     · rw [if_neg c36] at H
       have c36b0 : ((wrap64 ((t258.length : Int) + (t264.length : Int))) == 0) = false := beq_eq_false_iff_ne.mpr c36
       have c36b1 : ((wrap64 ((t258.length : Int) + (t264.length : Int))) != 0) = true := bne_iff_ne.mpr c36
       as_aux_lemma =>
        obtain rfl := Option.some.inj H
        have hnb49 := NB263_269.out
        have hnc49 := NB269_263.out
        have hnb50 := NB263_273.out
        have hnc50 := NB273_263.out
        have hnb51 := NB263_276.out
        have hnc51 := NB276_263.out
        have hcz52_0 : w27.cell? ⟨gb263, 0, none⟩ = some (.int .i64 t261) := (blk_cell BK263.out 0).trans rfl
        have hcz52_1 : w27.cell? ⟨gb263, 1, none⟩ = some (.int .i64 t262) := (blk_cell BK263.out 1).trans rfl
        have hfz52_0 := blk_frozen BK263.out 0
        have hfz52_1 := blk_frozen BK263.out 1
        have hnb53 := NB276_269.out
        have hnc53 := NB269_276.out
        have hnb54 := NB276_273.out
        have hnc54 := NB273_276.out
        have hcz55_0 : w27.cell? ⟨gb276, 0, none⟩ = some (.int .i64 0) := (blk_cell BK276.out 0).trans rfl
        have hcz55_1 : w27.cell? ⟨gb276, 1, none⟩ = some (.int .i64 0) := (blk_cell BK276.out 1).trans rfl
        have hfz55_0 := blk_frozen BK276.out 0
        have hfz55_1 := blk_frozen BK276.out 1
        have hnb56 := NB269_273.out
        have hnc56 := NB273_269.out
        have hcz57_0 : w27.cell? ⟨gb269, 0, none⟩ = some (.int .i64 t267) := (blk_cell BK269.out 0).trans rfl
        have hcz57_1 : w27.cell? ⟨gb269, 1, none⟩ = some (.int .i64 t268) := (blk_cell BK269.out 1).trans rfl
        have hfz57_0 := blk_frozen BK269.out 0
        have hfz57_1 := blk_frozen BK269.out 1
        have hcz58_0 : w27.cell? ⟨gb273, 0, none⟩ = some (.int .i64 t271) := (blk_cell BK273.out 0).trans rfl
        have hcz58_1 : w27.cell? ⟨gb273, 1, none⟩ = some (.int .i64 t272) := (blk_cell BK273.out 1).trans rfl
        have hfz58_0 := blk_frozen BK273.out 0
        have hfz58_1 := blk_frozen BK273.out 1
        obtain ⟨Ao59, co59, eo59⟩ := Kd.R_slice HO260.out
        subst eo59
        obtain ⟨Ao60, co60, eo60⟩ := Kd.R_slice HO266.out
        subst eo60
        go_wp2
        go_ret
        exact ⟨by first | rfl | (simp [errW_none, errW_some] <;> rfl) | (simp [*, errW_none, errW_some] <;> rfl), by repeat (first | (with_reducible first | exact HB.out | apply lA | apply lN | apply lD | refine lS ?_ GE263.out | refine lS ?_ GE269.out | refine lS ?_ GE273.out | refine lS ?_ GE276.out) | exact HB.out)⟩
     rw [if_pos c36] at H
     have c36b0 : ((wrap64 ((t258.length : Int) + (t264.length : Int))) == 0) = true := beq_iff_eq.mpr c36
     have c36b1 : ((wrap64 ((t258.length : Int) + (t264.length : Int))) != 0) = false := bne_eq_false_iff_eq.mpr c36
     clear c36
     as_aux_lemma =>
      obtain rfl := Option.some.inj H
      have hnb37 := NB263_269.out
      have hnc37 := NB269_263.out
      have hnb38 := NB263_273.out
      have hnc38 := NB273_263.out
      have hnb39 := NB263_276.out
      have hnc39 := NB276_263.out
      have hcz40_0 : w27.cell? ⟨gb263, 0, none⟩ = some (.int .i64 t261) := (blk_cell BK263.out 0).trans rfl
      have hcz40_1 : w27.cell? ⟨gb263, 1, none⟩ = some (.int .i64 t262) := (blk_cell BK263.out 1).trans rfl
      have hfz40_0 := blk_frozen BK263.out 0
      have hfz40_1 := blk_frozen BK263.out 1
      have hnb41 := NB276_269.out
      have hnc41 := NB269_276.out
      have hnb42 := NB276_273.out
      have hnc42 := NB273_276.out
      have hcz43_0 : w27.cell? ⟨gb276, 0, none⟩ = some (.int .i64 0) := (blk_cell BK276.out 0).trans rfl
      have hcz43_1 : w27.cell? ⟨gb276, 1, none⟩ = some (.int .i64 0) := (blk_cell BK276.out 1).trans rfl
      have hfz43_0 := blk_frozen BK276.out 0
      have hfz43_1 := blk_frozen BK276.out 1
      have hnb44 := NB269_273.out
      have hnc44 := NB273_269.out
      have hcz45_0 : w27.cell? ⟨gb269, 0, none⟩ = some (.int .i64 t267) := (blk_cell BK269.out 0).trans rfl
      have hcz45_1 : w27.cell? ⟨gb269, 1, none⟩ = some (.int .i64 t268) := (blk_cell BK269.out 1).trans rfl
      have hfz45_0 := blk_frozen BK269.out 0
      have hfz45_1 := blk_frozen BK269.out 1
      have hcz46_0 : w27.cell? ⟨gb273, 0, none⟩ = some (.int .i64 t271) := (blk_cell BK273.out 0).trans rfl
      have hcz46_1 : w27.cell? ⟨gb273, 1, none⟩ = some (.int .i64 t272) := (blk_cell BK273.out 1).trans rfl
      have hfz46_0 := blk_frozen BK273.out 0
      have hfz46_1 := blk_frozen BK273.out 1
      obtain ⟨Ao47, co47, eo47⟩ := Kd.R_slice HO260.out
      subst eo47
      obtain ⟨Ao48, co48, eo48⟩ := Kd.R_slice HO266.out
      subst eo48
      go_wp2
      go_ret
      exact ⟨by first | rfl | (simp [errW_none, errW_some] <;> rfl) | (simp [*, errW_none, errW_some] <;> rfl), by repeat (first | (with_reducible first | exact HB.out | apply lA | apply lN | apply lD | refine lS ?_ GE263.out | refine lS ?_ GE269.out | refine lS ?_ GE273.out | refine lS ?_ GE276.out) | exact HB.out)⟩
    case rest =>
     clear HC13
     (try clear c3); (try clear hcz16_0); (try clear hcz16_1); (try clear hcz20_0); (try clear hcz20_1); (try clear hcz25_0); (try clear hcz25_1); (try clear hcz31_0); (try clear hcz31_1); (try clear hfz16_0); (try clear hfz16_1); (try clear hfz20_0); (try clear hfz20_1); (try clear hfz25_0); (try clear hfz25_1); (try clear hfz31_0); (try clear hfz31_1)
     obtain ⟨kq, HA, HJ12, HO_9, HO_11, BK263, BK269, BK273, BK276, HB⟩ := hcut
     cases kq with
     | zero => exact absurd HA.out (by simp [changeforgelaw3_MergebaseMatchesSpec.j1])
     | succ kj12 =>
      have H := HA.out
      clear HA
      simp only [changeforgelaw3_MergebaseMatchesSpec.j1] at H
      replace H := Option.bind_eq_some_iff.mp H
      obtain ⟨t278, A870, H⟩ := H
      replace H : (if t278 = true then ((changeforgeref3_In.f a2 0 (wrap64 ((l0.length : Int) - 1))).bind fun t279 => (if t279 = true then (changeforgelaw3_MergebaseMatchesSpec.j2 kj12 l0 a1 a2 l3 t258 t264 t270 t261 t262 t267 t268 t271 t272 0 0) else ((changeforgeref3_Fault.f 6 1).bind fun bt280 => (changeforgelaw3_MergebaseMatchesSpec.j2 kj12 l0 a1 a2 l3 t258 t264 t270 t261 t262 t267 t268 t271 t272 bt280.1 bt280.2)))) else ((changeforgeref3_Fault.f 6 0).bind fun bt282 => (changeforgelaw3_MergebaseMatchesSpec.j2 kj12 l0 a1 a2 l3 t258 t264 t270 t261 t262 t267 t268 t271 t272 bt282.1 bt282.2))) = some r := H
      have A87 := aZ A870
      clear A870
      have HC88 := aZ H
      clear H
      go_upto_if 76 with (first | ((with_reducible refine gate_dst (N := 16) rfl ?_); (try (refine gate_guard (by rfl) ?_; dsimp only)); refine box_event ?hg (N := 16) ?hd (cs := #[.int .i64 0, .int .i64 0]) (t := 26) ?hr ?_; (case hd => rfl); (case hg => rfl); (case hr => first | (go_simp; done) | (go_simp; rfl)); intro gb277 hg w89 hbox hb; have n0_ := aZ (Kd.R_below (by (with_reducible repeat (first | apply Kd.rA | apply Kd.rN | apply Kd.rD)); exact HO_9.out) hb); have n1_ := aZ (Kd.R_below (by (with_reducible repeat (first | apply Kd.rA | apply Kd.rN | apply Kd.rD)); exact HO_11.out) hb); have n2_ := aZ (blk_below (g := gb263) (o := .cells #[.int .i64 t261, .int .i64 t262] 26 (0, 0)) (by (with_reducible repeat (first | refine bN ?_ _ | refine bD ?_ | refine bA ?_ _)); exact BK263.out) hb); have n3_ := aZ (blk_below (g := gb269) (o := .cells #[.int .i64 t267, .int .i64 t268] 26 (0, 0)) (by (with_reducible repeat (first | refine bN ?_ _ | refine bD ?_ | refine bA ?_ _)); exact BK269.out) hb); have n4_ := aZ (blk_below (g := gb273) (o := .cells #[.int .i64 t271, .int .i64 t272] 26 (0, 0)) (by (with_reducible repeat (first | refine bN ?_ _ | refine bD ?_ | refine bA ?_ _)); exact BK273.out) hb); have n5_ := aZ (blk_below (g := gb276) (o := .cells #[.int .i64 t274, .int .i64 t275] 26 (0, 0)) (by (with_reducible repeat (first | refine bN ?_ _ | refine bD ?_ | refine bA ?_ _)); exact BK276.out) hb); have n6_ := aZ (lT (by repeat (first | (with_reducible first | exact HB.out | apply lA | apply lN | apply lD | refine lS ?_ GE263.out | refine lS ?_ GE269.out | refine lS ?_ GE273.out | refine lS ?_ GE276.out) | exact HB.out)) hb); have n7_ := aZ (hbox); have n8_ := aZ ((by rw [hg]; exact (lZ (by repeat (first | (with_reducible first | exact HB.out | apply lA | apply lN | apply lD | refine lS ?_ GE263.out | refine lS ?_ GE269.out | refine lS ?_ GE273.out | refine lS ?_ GE276.out) | exact HB.out))) : w.heap.size ≤ gb277)); have n9_ := aZ ((by rw [hg]; exact (lZ (by repeat (first | (with_reducible first | exact HB.out | apply lA | apply lN | apply lD | refine lS ?_ GE263.out | refine lS ?_ GE269.out | refine lS ?_ GE273.out | refine lS ?_ GE276.out) | exact HB.out))) : w.heap.size ≤ gb277)); have n10_ := aZ ((by rw [hg]; exact Nat.ne_of_lt (blk_lt (g := gb263) (o := .cells #[.int .i64 t261, .int .i64 t262] 26 (0, 0)) (by (with_reducible repeat (first | refine bN ?_ _ | refine bD ?_ | refine bA ?_ _)); exact BK263.out)) : gb263 ≠ gb277)); have n11_ := aZ ((by rw [hg]; exact Nat.ne_of_gt (blk_lt (g := gb263) (o := .cells #[.int .i64 t261, .int .i64 t262] 26 (0, 0)) (by (with_reducible repeat (first | refine bN ?_ _ | refine bD ?_ | refine bA ?_ _)); exact BK263.out)) : gb277 ≠ gb263)); have n12_ := aZ ((by rw [hg]; exact Nat.ne_of_lt (blk_lt (g := gb269) (o := .cells #[.int .i64 t267, .int .i64 t268] 26 (0, 0)) (by (with_reducible repeat (first | refine bN ?_ _ | refine bD ?_ | refine bA ?_ _)); exact BK269.out)) : gb269 ≠ gb277)); have n13_ := aZ ((by rw [hg]; exact Nat.ne_of_gt (blk_lt (g := gb269) (o := .cells #[.int .i64 t267, .int .i64 t268] 26 (0, 0)) (by (with_reducible repeat (first | refine bN ?_ _ | refine bD ?_ | refine bA ?_ _)); exact BK269.out)) : gb277 ≠ gb269)); have n14_ := aZ ((by rw [hg]; exact Nat.ne_of_lt (blk_lt (g := gb273) (o := .cells #[.int .i64 t271, .int .i64 t272] 26 (0, 0)) (by (with_reducible repeat (first | refine bN ?_ _ | refine bD ?_ | refine bA ?_ _)); exact BK273.out)) : gb273 ≠ gb277)); have n15_ := aZ ((by rw [hg]; exact Nat.ne_of_gt (blk_lt (g := gb273) (o := .cells #[.int .i64 t271, .int .i64 t272] 26 (0, 0)) (by (with_reducible repeat (first | refine bN ?_ _ | refine bD ?_ | refine bA ?_ _)); exact BK273.out)) : gb277 ≠ gb273)); have n16_ := aZ ((by rw [hg]; exact Nat.ne_of_lt (blk_lt (g := gb276) (o := .cells #[.int .i64 t274, .int .i64 t275] 26 (0, 0)) (by (with_reducible repeat (first | refine bN ?_ _ | refine bD ?_ | refine bA ?_ _)); exact BK276.out)) : gb276 ≠ gb277)); have n17_ := aZ ((by rw [hg]; exact Nat.ne_of_gt (blk_lt (g := gb276) (o := .cells #[.int .i64 t274, .int .i64 t275] 26 (0, 0)) (by (with_reducible repeat (first | refine bN ?_ _ | refine bD ?_ | refine bA ?_ _)); exact BK276.out)) : gb277 ≠ gb276)); clear HO_9; clear HO_11; clear BK263; clear BK269; clear BK273; clear BK276; clear HB; have HO_9 := n0_; have HO_11 := n1_; have BK263 := n2_; have BK269 := n3_; have BK273 := n4_; have BK276 := n5_; have HB := n6_; have BK277 := n7_; have GW277 := n8_; have GE277 := n9_; have NB263_277 := n10_; have NB277_263 := n11_; have NB269_277 := n12_; have NB277_269 := n13_; have NB273_277 := n14_; have NB277_273 := n15_; have NB276_277 := n16_; have NB277_276 := n17_; clear n0_ n1_ n2_ n3_ n4_ n5_ n6_ n7_ n8_ n9_ n10_ n11_ n12_ n13_ n14_ n15_ n16_ n17_; clear hb hbox hg; have hnb90 := NB277_263.out; have hnc90 := NB263_277.out; have hnb91 := NB277_269.out; have hnc91 := NB269_277.out; have hnb92 := NB277_273.out; have hnc92 := NB273_277.out; have hnb93 := NB277_276.out; have hnc93 := NB276_277.out; have hcz94_0 : w89.cell? ⟨gb277, 0, none⟩ = some (.int .i64 0) := (blk_cell BK277.out 0).trans rfl; have hcz94_1 : w89.cell? ⟨gb277, 1, none⟩ = some (.int .i64 0) := (blk_cell BK277.out 1).trans rfl; have hfz94_0 := blk_frozen BK277.out 0; have hfz94_1 := blk_frozen BK277.out 1) | ((with_reducible refine gate_callee (f := 18) rfl ?_); refine goesL_ (some 75) rfl rfl Try.func18 (by kernel_rfl) rfl #[.int .i64 a1, .int .i64 0, .int .i64 (wrap64 ((l0.length : Int) - 1))] rfl (by (try simp only [List.map_toArray, List.map_cons, List.map_nil]); first | done | rfl | (simp only [List.length_drop, List.length_take]; rfl)) ?_; (with_reducible refine (changeforgeref3_In.calls a1 0 (wrap64 ((l0.length : Int) - 1)) t278 _ A87.out).mono ?_); rintro e w' ⟨rfl, ⟨nd, rfl⟩⟩; refine ⟨_, rfl, ?_⟩))
      (try simp only [Act.put, List.setIfInBounds_toArray, List.set_cons_zero, List.set_cons_succ])
      go_cut [] (fun wc => ∃ (kq : Nat) (x278000_87 : Int) (x278001_87 : Int), Aside0 (changeforgelaw3_MergebaseMatchesSpec.j2 kq l0 a1 a2 l3 t258 t264 t270 t261 t262 t267 t268 t271 t272 x278000_87 x278001_87 = some r) ∧ Aside0 (kq ≤ kj12) ∧ Aside0 (Kd.R (Kd.int .i64) 3 wc w.heap.size (fun k_ => some k_ ≠ (v265 : Value).ownBlock) v259 t258) ∧ Aside0 (Kd.R (Kd.int .i64) 3 wc w.heap.size (fun k_ => some k_ ≠ (v259 : Value).ownBlock) v265 t264) ∧ Aside0 (wc.heap[gb263]? = some (.cells #[.int .i64 t261, .int .i64 t262] 26 (0, 0))) ∧ Aside0 (wc.heap[gb269]? = some (.cells #[.int .i64 t267, .int .i64 t268] 26 (0, 0))) ∧ Aside0 (wc.heap[gb273]? = some (.cells #[.int .i64 t271, .int .i64 t272] 26 (0, 0))) ∧ Aside0 (wc.heap[gb276]? = some (.cells #[.int .i64 t274, .int .i64 t275] 26 (0, 0))) ∧ Aside0 (wc.heap[gb277]? = some (.cells #[.int .i64 x278000_87, .int .i64 x278001_87] 26 (0, 0))) ∧ Aside0 (Below w.heap.size w wc))
      case first =>
       have H := HC88.out
       clear HC88
       by_cases c95 : t278 = true
       rotate_left
       · replace c95 := Bool.eq_false_iff.mpr c95
         subst c95
         have H1 : ((changeforgeref3_Fault.f 6 0).bind fun bt282 => (changeforgelaw3_MergebaseMatchesSpec.j2 kj12 l0 a1 a2 l3 t258 t264 t270 t261 t262 t267 t268 t271 t272 bt282.1 bt282.2)) = some r := by rw [if_neg (show ¬ (false = true) by decide)] at H; exact H
         clear H
         have H := H1
         clear H1
         replace H := Option.bind_eq_some_iff.mp H
         obtain ⟨⟨t282, t283⟩, A1050, H⟩ := H
         replace H : (changeforgelaw3_MergebaseMatchesSpec.j2 kj12 l0 a1 a2 l3 t258 t264 t270 t261 t262 t267 t268 t271 t272 t282 t283) = some r := H
         have A105 := aZ A1050
         clear A1050
         as_aux_lemma =>
          have H' := aZ H
          clear H
          go_wp2_with (first | ((with_reducible refine gate_callee (f := 19) rfl ?_); refine goesL_ (some 77) rfl rfl Try.func19 (by kernel_rfl) rfl #[.int .i64 6, .int .i64 0] rfl (by (try simp only [List.map_toArray, List.map_cons, List.map_nil]); first | done | rfl | (simp only [List.length_drop, List.length_take]; rfl)) ?_; (with_reducible refine (changeforgeref3_Fault.calls 6 0 t282 t283 _ A105.out).mono ?_); rintro e w106 ⟨rfl, hb⟩; refine ⟨_, rfl, ?_⟩; have n0_ := aZ (Kd.R_below (by (with_reducible repeat (first | apply Kd.rA | apply Kd.rN | apply Kd.rD)); exact (Kd.R_mono (Kd.R_far (p := ⟨gb277, 1, none⟩) (Kd.R_far (p := ⟨gb277, 0, none⟩) (Kd.R_types HO_9.out BK277.out (by decide)) (fun _ hk => hk.2) (.int .i64 0)) (fun _ hk => hk.2) (.int .i64 0)) (fun _ h_ => h_.1))) hb); have n1_ := aZ (Kd.R_below (by (with_reducible repeat (first | apply Kd.rA | apply Kd.rN | apply Kd.rD)); exact (Kd.R_mono (Kd.R_far (p := ⟨gb277, 1, none⟩) (Kd.R_far (p := ⟨gb277, 0, none⟩) (Kd.R_types HO_11.out BK277.out (by decide)) (fun _ hk => hk.2) (.int .i64 0)) (fun _ hk => hk.2) (.int .i64 0)) (fun _ h_ => h_.1))) hb); have n2_ := aZ (blk_below (g := gb263) (o := .cells #[.int .i64 t261, .int .i64 t262] 26 (0, 0)) (by (with_reducible repeat (first | refine bN ?_ _ | refine bD ?_ | refine bA ?_ _)); refine blk_far ?_ NB263_277.out _; (with_reducible repeat (first | refine bN ?_ _ | refine bD ?_ | refine bA ?_ _)); refine blk_far ?_ NB263_277.out _; (with_reducible repeat (first | refine bN ?_ _ | refine bD ?_ | refine bA ?_ _)); exact BK263.out) hb); have n3_ := aZ (blk_below (g := gb269) (o := .cells #[.int .i64 t267, .int .i64 t268] 26 (0, 0)) (by (with_reducible repeat (first | refine bN ?_ _ | refine bD ?_ | refine bA ?_ _)); refine blk_far ?_ NB269_277.out _; (with_reducible repeat (first | refine bN ?_ _ | refine bD ?_ | refine bA ?_ _)); refine blk_far ?_ NB269_277.out _; (with_reducible repeat (first | refine bN ?_ _ | refine bD ?_ | refine bA ?_ _)); exact BK269.out) hb); have n4_ := aZ (blk_below (g := gb273) (o := .cells #[.int .i64 t271, .int .i64 t272] 26 (0, 0)) (by (with_reducible repeat (first | refine bN ?_ _ | refine bD ?_ | refine bA ?_ _)); refine blk_far ?_ NB273_277.out _; (with_reducible repeat (first | refine bN ?_ _ | refine bD ?_ | refine bA ?_ _)); refine blk_far ?_ NB273_277.out _; (with_reducible repeat (first | refine bN ?_ _ | refine bD ?_ | refine bA ?_ _)); exact BK273.out) hb); have n5_ := aZ (blk_below (g := gb276) (o := .cells #[.int .i64 t274, .int .i64 t275] 26 (0, 0)) (by (with_reducible repeat (first | refine bN ?_ _ | refine bD ?_ | refine bA ?_ _)); refine blk_far ?_ NB276_277.out _; (with_reducible repeat (first | refine bN ?_ _ | refine bD ?_ | refine bA ?_ _)); refine blk_far ?_ NB276_277.out _; (with_reducible repeat (first | refine bN ?_ _ | refine bD ?_ | refine bA ?_ _)); exact BK276.out) hb); have n6_ := aZ (blk_below (g := gb277) (o := .cells #[.int .i64 0, .int .i64 0] 26 (0, 0)) (by (with_reducible repeat (first | refine bN ?_ _ | refine bD ?_ | refine bA ?_ _)); refine blk_put (cs := #[.int .i64 0, .int .i64 0]) ?_ 1 _ rfl; (with_reducible repeat (first | refine bN ?_ _ | refine bD ?_ | refine bA ?_ _)); refine blk_put (cs := #[.int .i64 0, .int .i64 0]) ?_ 0 _ rfl; (with_reducible repeat (first | refine bN ?_ _ | refine bD ?_ | refine bA ?_ _)); exact BK277.out) hb); have n7_ := aZ (lT (by repeat (first | (with_reducible first | exact HB.out | apply lA | apply lN | apply lD | refine lS ?_ GE263.out | refine lS ?_ GE269.out | refine lS ?_ GE273.out | refine lS ?_ GE276.out | refine lS ?_ GE277.out) | exact HB.out)) hb); clear HO_9; clear HO_11; clear BK263; clear BK269; clear BK273; clear BK276; clear BK277; clear HB; have HO_9 := n0_; have HO_11 := n1_; have BK263 := n2_; have BK269 := n3_; have BK273 := n4_; have BK276 := n5_; have BK277 := n6_; have HB := n7_; clear n0_ n1_ n2_ n3_ n4_ n5_ n6_ n7_; (try clear hb); (try clear hb2); (try clear hk); (try clear hi); have hnb107 := NB277_263.out; have hnc107 := NB263_277.out; have hnb108 := NB277_269.out; have hnc108 := NB269_277.out; have hnb109 := NB277_273.out; have hnc109 := NB273_277.out; have hnb110 := NB277_276.out; have hnc110 := NB276_277.out; have hcz111_0 : w106.cell? ⟨gb277, 0, none⟩ = some (.int .i64 0) := (blk_cell BK277.out 0).trans rfl; have hcz111_1 : w106.cell? ⟨gb277, 1, none⟩ = some (.int .i64 0) := (blk_cell BK277.out 1).trans rfl; have hfz111_0 := blk_frozen BK277.out 0; have hfz111_1 := blk_frozen BK277.out 1))
          go_meet
          case rel => exact ⟨_, (t282), (t283), H', ⟨by have := HJ5.out; have := HJ12.out; first | omega | exact Nat.le_refl _⟩, ⟨by (with_reducible repeat (first | apply Kd.rA | apply Kd.rN | apply Kd.rD)); exact Kd.R_mono (Kd.R_far (p := ⟨gb277, 1, none⟩) (Kd.R_far (p := ⟨gb277, 0, none⟩) (Kd.R_types HO_9.out BK277.out (by decide)) (fun _ hk => hk.2) (.int .i64 t282)) (fun _ hk => hk.2) (.int .i64 t283)) (fun _ hk => hk.1)⟩, ⟨by (with_reducible repeat (first | apply Kd.rA | apply Kd.rN | apply Kd.rD)); exact Kd.R_mono (Kd.R_far (p := ⟨gb277, 1, none⟩) (Kd.R_far (p := ⟨gb277, 0, none⟩) (Kd.R_types HO_11.out BK277.out (by decide)) (fun _ hk => hk.2) (.int .i64 t282)) (fun _ hk => hk.2) (.int .i64 t283)) (fun _ hk => hk.1)⟩, ⟨by (with_reducible repeat (first | refine bN ?_ _ | refine bD ?_ | refine bA ?_ _)); refine blk_far ?_ NB263_277.out _; (with_reducible repeat (first | refine bN ?_ _ | refine bD ?_ | refine bA ?_ _)); refine blk_far ?_ NB263_277.out _; (with_reducible repeat (first | refine bN ?_ _ | refine bD ?_ | refine bA ?_ _)); exact BK263.out⟩, ⟨by (with_reducible repeat (first | refine bN ?_ _ | refine bD ?_ | refine bA ?_ _)); refine blk_far ?_ NB269_277.out _; (with_reducible repeat (first | refine bN ?_ _ | refine bD ?_ | refine bA ?_ _)); refine blk_far ?_ NB269_277.out _; (with_reducible repeat (first | refine bN ?_ _ | refine bD ?_ | refine bA ?_ _)); exact BK269.out⟩, ⟨by (with_reducible repeat (first | refine bN ?_ _ | refine bD ?_ | refine bA ?_ _)); refine blk_far ?_ NB273_277.out _; (with_reducible repeat (first | refine bN ?_ _ | refine bD ?_ | refine bA ?_ _)); refine blk_far ?_ NB273_277.out _; (with_reducible repeat (first | refine bN ?_ _ | refine bD ?_ | refine bA ?_ _)); exact BK273.out⟩, ⟨by (with_reducible repeat (first | refine bN ?_ _ | refine bD ?_ | refine bA ?_ _)); refine blk_far ?_ NB276_277.out _; (with_reducible repeat (first | refine bN ?_ _ | refine bD ?_ | refine bA ?_ _)); refine blk_far ?_ NB276_277.out _; (with_reducible repeat (first | refine bN ?_ _ | refine bD ?_ | refine bA ?_ _)); exact BK276.out⟩, ⟨by (with_reducible repeat (first | refine bN ?_ _ | refine bD ?_ | refine bA ?_ _)); refine blk_put (cs := #[.int .i64 t282, .int .i64 0]) ?_ 1 _ rfl; (with_reducible repeat (first | refine bN ?_ _ | refine bD ?_ | refine bA ?_ _)); refine blk_put (cs := #[.int .i64 0, .int .i64 0]) ?_ 0 _ rfl; (with_reducible repeat (first | refine bN ?_ _ | refine bD ?_ | refine bA ?_ _)); exact BK277.out⟩, ⟨by repeat (first | (with_reducible first | exact HB.out | apply lA | apply lN | apply lD | refine lS ?_ GE263.out | refine lS ?_ GE269.out | refine lS ?_ GE273.out | refine lS ?_ GE276.out | refine lS ?_ GE277.out) | exact HB.out)⟩⟩
       subst c95
       have H1 : ((changeforgeref3_In.f a2 0 (wrap64 ((l0.length : Int) - 1))).bind fun t279 => (if t279 = true then (changeforgelaw3_MergebaseMatchesSpec.j2 kj12 l0 a1 a2 l3 t258 t264 t270 t261 t262 t267 t268 t271 t272 0 0) else ((changeforgeref3_Fault.f 6 1).bind fun bt280 => (changeforgelaw3_MergebaseMatchesSpec.j2 kj12 l0 a1 a2 l3 t258 t264 t270 t261 t262 t267 t268 t271 t272 bt280.1 bt280.2)))) = some r := by rw [if_pos rfl] at H; exact H
       clear H
       have H := H1
       clear H1
       replace H := Option.bind_eq_some_iff.mp H
       obtain ⟨t279, A960, H⟩ := H
       replace H : (if t279 = true then (changeforgelaw3_MergebaseMatchesSpec.j2 kj12 l0 a1 a2 l3 t258 t264 t270 t261 t262 t267 t268 t271 t272 0 0) else ((changeforgeref3_Fault.f 6 1).bind fun bt280 => (changeforgelaw3_MergebaseMatchesSpec.j2 kj12 l0 a1 a2 l3 t258 t264 t270 t261 t262 t267 t268 t271 t272 bt280.1 bt280.2))) = some r := H
       have A96 := aZ A960
       clear A960
       by_cases c97 : t279 = true
       · subst c97
         have H1 : (changeforgelaw3_MergebaseMatchesSpec.j2 kj12 l0 a1 a2 l3 t258 t264 t270 t261 t262 t267 t268 t271 t272 0 0) = some r := by rw [if_pos rfl] at H; exact H
         clear H
         have H := H1
         clear H1
         as_aux_lemma =>
          have H' := aZ H
          clear H
          go_wp2_with (first | ((with_reducible refine gate_callee (f := 18) rfl ?_); refine goesL_ (some 82) rfl rfl Try.func18 (by kernel_rfl) rfl #[.int .i64 a2, .int .i64 0, .int .i64 (wrap64 ((l0.length : Int) - 1))] rfl (by (try simp only [List.map_toArray, List.map_cons, List.map_nil]); first | done | rfl | (simp only [List.length_drop, List.length_take]; rfl)) ?_; (with_reducible refine (changeforgeref3_In.calls a2 0 (wrap64 ((l0.length : Int) - 1)) true _ A96.out).mono ?_); rintro e w' ⟨rfl, ⟨nd, rfl⟩⟩; refine ⟨_, rfl, ?_⟩))
          go_meet
          case rel => exact ⟨_, (0), (0), H', ⟨by have := HJ5.out; have := HJ12.out; first | omega | exact Nat.le_refl _⟩, ⟨by (with_reducible repeat (first | apply Kd.rA | apply Kd.rN | apply Kd.rD)); exact Kd.R_mono (Kd.R_far (p := ⟨gb277, 1, none⟩) (Kd.R_far (p := ⟨gb277, 0, none⟩) (Kd.R_types HO_9.out BK277.out (by decide)) (fun _ hk => hk.2) (.int .i64 0)) (fun _ hk => hk.2) (.int .i64 0)) (fun _ hk => hk.1)⟩, ⟨by (with_reducible repeat (first | apply Kd.rA | apply Kd.rN | apply Kd.rD)); exact Kd.R_mono (Kd.R_far (p := ⟨gb277, 1, none⟩) (Kd.R_far (p := ⟨gb277, 0, none⟩) (Kd.R_types HO_11.out BK277.out (by decide)) (fun _ hk => hk.2) (.int .i64 0)) (fun _ hk => hk.2) (.int .i64 0)) (fun _ hk => hk.1)⟩, ⟨by (with_reducible repeat (first | refine bN ?_ _ | refine bD ?_ | refine bA ?_ _)); refine blk_far ?_ NB263_277.out _; (with_reducible repeat (first | refine bN ?_ _ | refine bD ?_ | refine bA ?_ _)); refine blk_far ?_ NB263_277.out _; (with_reducible repeat (first | refine bN ?_ _ | refine bD ?_ | refine bA ?_ _)); exact BK263.out⟩, ⟨by (with_reducible repeat (first | refine bN ?_ _ | refine bD ?_ | refine bA ?_ _)); refine blk_far ?_ NB269_277.out _; (with_reducible repeat (first | refine bN ?_ _ | refine bD ?_ | refine bA ?_ _)); refine blk_far ?_ NB269_277.out _; (with_reducible repeat (first | refine bN ?_ _ | refine bD ?_ | refine bA ?_ _)); exact BK269.out⟩, ⟨by (with_reducible repeat (first | refine bN ?_ _ | refine bD ?_ | refine bA ?_ _)); refine blk_far ?_ NB273_277.out _; (with_reducible repeat (first | refine bN ?_ _ | refine bD ?_ | refine bA ?_ _)); refine blk_far ?_ NB273_277.out _; (with_reducible repeat (first | refine bN ?_ _ | refine bD ?_ | refine bA ?_ _)); exact BK273.out⟩, ⟨by (with_reducible repeat (first | refine bN ?_ _ | refine bD ?_ | refine bA ?_ _)); refine blk_far ?_ NB276_277.out _; (with_reducible repeat (first | refine bN ?_ _ | refine bD ?_ | refine bA ?_ _)); refine blk_far ?_ NB276_277.out _; (with_reducible repeat (first | refine bN ?_ _ | refine bD ?_ | refine bA ?_ _)); exact BK276.out⟩, ⟨by (with_reducible repeat (first | refine bN ?_ _ | refine bD ?_ | refine bA ?_ _)); refine blk_put (cs := #[.int .i64 0, .int .i64 0]) ?_ 1 _ rfl; (with_reducible repeat (first | refine bN ?_ _ | refine bD ?_ | refine bA ?_ _)); refine blk_put (cs := #[.int .i64 0, .int .i64 0]) ?_ 0 _ rfl; (with_reducible repeat (first | refine bN ?_ _ | refine bD ?_ | refine bA ?_ _)); exact BK277.out⟩, ⟨by repeat (first | (with_reducible first | exact HB.out | apply lA | apply lN | apply lD | refine lS ?_ GE263.out | refine lS ?_ GE269.out | refine lS ?_ GE273.out | refine lS ?_ GE276.out | refine lS ?_ GE277.out) | exact HB.out)⟩⟩
       replace c97 := Bool.eq_false_iff.mpr c97
       subst c97
       have H1 : ((changeforgeref3_Fault.f 6 1).bind fun bt280 => (changeforgelaw3_MergebaseMatchesSpec.j2 kj12 l0 a1 a2 l3 t258 t264 t270 t261 t262 t267 t268 t271 t272 bt280.1 bt280.2)) = some r := by rw [if_neg (show ¬ (false = true) by decide)] at H; exact H
       clear H
       have H := H1
       clear H1
       replace H := Option.bind_eq_some_iff.mp H
       obtain ⟨⟨t280, t281⟩, A980, H⟩ := H
       replace H : (changeforgelaw3_MergebaseMatchesSpec.j2 kj12 l0 a1 a2 l3 t258 t264 t270 t261 t262 t267 t268 t271 t272 t280 t281) = some r := H
       have A98 := aZ A980
       clear A980
       as_aux_lemma =>
        have H' := aZ H
        clear H
        go_wp2_with (first | ((with_reducible refine gate_callee (f := 18) rfl ?_); refine goesL_ (some 82) rfl rfl Try.func18 (by kernel_rfl) rfl #[.int .i64 a2, .int .i64 0, .int .i64 (wrap64 ((l0.length : Int) - 1))] rfl (by (try simp only [List.map_toArray, List.map_cons, List.map_nil]); first | done | rfl | (simp only [List.length_drop, List.length_take]; rfl)) ?_; (with_reducible refine (changeforgeref3_In.calls a2 0 (wrap64 ((l0.length : Int) - 1)) false _ A96.out).mono ?_); rintro e w' ⟨rfl, ⟨nd, rfl⟩⟩; refine ⟨_, rfl, ?_⟩) | ((with_reducible refine gate_callee (f := 19) rfl ?_); refine goesL_ (some 84) rfl rfl Try.func19 (by kernel_rfl) rfl #[.int .i64 6, .int .i64 1] rfl (by (try simp only [List.map_toArray, List.map_cons, List.map_nil]); first | done | rfl | (simp only [List.length_drop, List.length_take]; rfl)) ?_; (with_reducible refine (changeforgeref3_Fault.calls 6 1 t280 t281 _ A98.out).mono ?_); rintro e w99 ⟨rfl, hb⟩; refine ⟨_, rfl, ?_⟩; have n0_ := aZ (Kd.R_below (by (with_reducible repeat (first | apply Kd.rA | apply Kd.rN | apply Kd.rD)); exact (Kd.R_mono (Kd.R_far (p := ⟨gb277, 1, none⟩) (Kd.R_far (p := ⟨gb277, 0, none⟩) (Kd.R_types HO_9.out BK277.out (by decide)) (fun _ hk => hk.2) (.int .i64 0)) (fun _ hk => hk.2) (.int .i64 0)) (fun _ h_ => h_.1))) hb); have n1_ := aZ (Kd.R_below (by (with_reducible repeat (first | apply Kd.rA | apply Kd.rN | apply Kd.rD)); exact (Kd.R_mono (Kd.R_far (p := ⟨gb277, 1, none⟩) (Kd.R_far (p := ⟨gb277, 0, none⟩) (Kd.R_types HO_11.out BK277.out (by decide)) (fun _ hk => hk.2) (.int .i64 0)) (fun _ hk => hk.2) (.int .i64 0)) (fun _ h_ => h_.1))) hb); have n2_ := aZ (blk_below (g := gb263) (o := .cells #[.int .i64 t261, .int .i64 t262] 26 (0, 0)) (by (with_reducible repeat (first | refine bN ?_ _ | refine bD ?_ | refine bA ?_ _)); refine blk_far ?_ NB263_277.out _; (with_reducible repeat (first | refine bN ?_ _ | refine bD ?_ | refine bA ?_ _)); refine blk_far ?_ NB263_277.out _; (with_reducible repeat (first | refine bN ?_ _ | refine bD ?_ | refine bA ?_ _)); exact BK263.out) hb); have n3_ := aZ (blk_below (g := gb269) (o := .cells #[.int .i64 t267, .int .i64 t268] 26 (0, 0)) (by (with_reducible repeat (first | refine bN ?_ _ | refine bD ?_ | refine bA ?_ _)); refine blk_far ?_ NB269_277.out _; (with_reducible repeat (first | refine bN ?_ _ | refine bD ?_ | refine bA ?_ _)); refine blk_far ?_ NB269_277.out _; (with_reducible repeat (first | refine bN ?_ _ | refine bD ?_ | refine bA ?_ _)); exact BK269.out) hb); have n4_ := aZ (blk_below (g := gb273) (o := .cells #[.int .i64 t271, .int .i64 t272] 26 (0, 0)) (by (with_reducible repeat (first | refine bN ?_ _ | refine bD ?_ | refine bA ?_ _)); refine blk_far ?_ NB273_277.out _; (with_reducible repeat (first | refine bN ?_ _ | refine bD ?_ | refine bA ?_ _)); refine blk_far ?_ NB273_277.out _; (with_reducible repeat (first | refine bN ?_ _ | refine bD ?_ | refine bA ?_ _)); exact BK273.out) hb); have n5_ := aZ (blk_below (g := gb276) (o := .cells #[.int .i64 t274, .int .i64 t275] 26 (0, 0)) (by (with_reducible repeat (first | refine bN ?_ _ | refine bD ?_ | refine bA ?_ _)); refine blk_far ?_ NB276_277.out _; (with_reducible repeat (first | refine bN ?_ _ | refine bD ?_ | refine bA ?_ _)); refine blk_far ?_ NB276_277.out _; (with_reducible repeat (first | refine bN ?_ _ | refine bD ?_ | refine bA ?_ _)); exact BK276.out) hb); have n6_ := aZ (blk_below (g := gb277) (o := .cells #[.int .i64 0, .int .i64 0] 26 (0, 0)) (by (with_reducible repeat (first | refine bN ?_ _ | refine bD ?_ | refine bA ?_ _)); refine blk_put (cs := #[.int .i64 0, .int .i64 0]) ?_ 1 _ rfl; (with_reducible repeat (first | refine bN ?_ _ | refine bD ?_ | refine bA ?_ _)); refine blk_put (cs := #[.int .i64 0, .int .i64 0]) ?_ 0 _ rfl; (with_reducible repeat (first | refine bN ?_ _ | refine bD ?_ | refine bA ?_ _)); exact BK277.out) hb); have n7_ := aZ (lT (by repeat (first | (with_reducible first | exact HB.out | apply lA | apply lN | apply lD | refine lS ?_ GE263.out | refine lS ?_ GE269.out | refine lS ?_ GE273.out | refine lS ?_ GE276.out | refine lS ?_ GE277.out) | exact HB.out)) hb); clear HO_9; clear HO_11; clear BK263; clear BK269; clear BK273; clear BK276; clear BK277; clear HB; have HO_9 := n0_; have HO_11 := n1_; have BK263 := n2_; have BK269 := n3_; have BK273 := n4_; have BK276 := n5_; have BK277 := n6_; have HB := n7_; clear n0_ n1_ n2_ n3_ n4_ n5_ n6_ n7_; (try clear hb); (try clear hb2); (try clear hk); (try clear hi); have hnb100 := NB277_263.out; have hnc100 := NB263_277.out; have hnb101 := NB277_269.out; have hnc101 := NB269_277.out; have hnb102 := NB277_273.out; have hnc102 := NB273_277.out; have hnb103 := NB277_276.out; have hnc103 := NB276_277.out; have hcz104_0 : w99.cell? ⟨gb277, 0, none⟩ = some (.int .i64 0) := (blk_cell BK277.out 0).trans rfl; have hcz104_1 : w99.cell? ⟨gb277, 1, none⟩ = some (.int .i64 0) := (blk_cell BK277.out 1).trans rfl; have hfz104_0 := blk_frozen BK277.out 0; have hfz104_1 := blk_frozen BK277.out 1))
        go_meet
        case rel => exact ⟨_, (t280), (t281), H', ⟨by have := HJ5.out; have := HJ12.out; first | omega | exact Nat.le_refl _⟩, ⟨by (with_reducible repeat (first | apply Kd.rA | apply Kd.rN | apply Kd.rD)); exact Kd.R_mono (Kd.R_far (p := ⟨gb277, 1, none⟩) (Kd.R_far (p := ⟨gb277, 0, none⟩) (Kd.R_types HO_9.out BK277.out (by decide)) (fun _ hk => hk.2) (.int .i64 t280)) (fun _ hk => hk.2) (.int .i64 t281)) (fun _ hk => hk.1)⟩, ⟨by (with_reducible repeat (first | apply Kd.rA | apply Kd.rN | apply Kd.rD)); exact Kd.R_mono (Kd.R_far (p := ⟨gb277, 1, none⟩) (Kd.R_far (p := ⟨gb277, 0, none⟩) (Kd.R_types HO_11.out BK277.out (by decide)) (fun _ hk => hk.2) (.int .i64 t280)) (fun _ hk => hk.2) (.int .i64 t281)) (fun _ hk => hk.1)⟩, ⟨by (with_reducible repeat (first | refine bN ?_ _ | refine bD ?_ | refine bA ?_ _)); refine blk_far ?_ NB263_277.out _; (with_reducible repeat (first | refine bN ?_ _ | refine bD ?_ | refine bA ?_ _)); refine blk_far ?_ NB263_277.out _; (with_reducible repeat (first | refine bN ?_ _ | refine bD ?_ | refine bA ?_ _)); exact BK263.out⟩, ⟨by (with_reducible repeat (first | refine bN ?_ _ | refine bD ?_ | refine bA ?_ _)); refine blk_far ?_ NB269_277.out _; (with_reducible repeat (first | refine bN ?_ _ | refine bD ?_ | refine bA ?_ _)); refine blk_far ?_ NB269_277.out _; (with_reducible repeat (first | refine bN ?_ _ | refine bD ?_ | refine bA ?_ _)); exact BK269.out⟩, ⟨by (with_reducible repeat (first | refine bN ?_ _ | refine bD ?_ | refine bA ?_ _)); refine blk_far ?_ NB273_277.out _; (with_reducible repeat (first | refine bN ?_ _ | refine bD ?_ | refine bA ?_ _)); refine blk_far ?_ NB273_277.out _; (with_reducible repeat (first | refine bN ?_ _ | refine bD ?_ | refine bA ?_ _)); exact BK273.out⟩, ⟨by (with_reducible repeat (first | refine bN ?_ _ | refine bD ?_ | refine bA ?_ _)); refine blk_far ?_ NB276_277.out _; (with_reducible repeat (first | refine bN ?_ _ | refine bD ?_ | refine bA ?_ _)); refine blk_far ?_ NB276_277.out _; (with_reducible repeat (first | refine bN ?_ _ | refine bD ?_ | refine bA ?_ _)); exact BK276.out⟩, ⟨by (with_reducible repeat (first | refine bN ?_ _ | refine bD ?_ | refine bA ?_ _)); refine blk_put (cs := #[.int .i64 t280, .int .i64 0]) ?_ 1 _ rfl; (with_reducible repeat (first | refine bN ?_ _ | refine bD ?_ | refine bA ?_ _)); refine blk_put (cs := #[.int .i64 0, .int .i64 0]) ?_ 0 _ rfl; (with_reducible repeat (first | refine bN ?_ _ | refine bD ?_ | refine bA ?_ _)); exact BK277.out⟩, ⟨by repeat (first | (with_reducible first | exact HB.out | apply lA | apply lN | apply lD | refine lS ?_ GE263.out | refine lS ?_ GE269.out | refine lS ?_ GE273.out | refine lS ?_ GE276.out | refine lS ?_ GE277.out) | exact HB.out)⟩⟩
      case rest =>
       clear HC88
       (try clear hcz94_0); (try clear hcz94_1); (try clear hfz94_0); (try clear hfz94_1)
       obtain ⟨kq, x278000_87, x278001_87, HA, HJ87, HO_9, HO_11, BK263, BK269, BK273, BK276, BK277, HB⟩ := hcut
       cases kq with
       | zero => exact absurd HA.out (by simp [changeforgelaw3_MergebaseMatchesSpec.j2])
       | succ kj87 =>
        have H := HA.out
        clear HA
        simp only [changeforgelaw3_MergebaseMatchesSpec.j2] at H
        have HC112 := aZ H
        clear H
        have hnb113 := NB277_263.out
        have hnc113 := NB263_277.out
        have hnb114 := NB277_269.out
        have hnc114 := NB269_277.out
        have hnb115 := NB277_273.out
        have hnc115 := NB273_277.out
        have hnb116 := NB277_276.out
        have hnc116 := NB276_277.out
        have hcz117_0 : wc.cell? ⟨gb277, 0, none⟩ = some (.int .i64 x278000_87) := (blk_cell BK277.out 0).trans rfl
        have hcz117_1 : wc.cell? ⟨gb277, 1, none⟩ = some (.int .i64 x278001_87) := (blk_cell BK277.out 1).trans rfl
        have hfz117_0 := blk_frozen BK277.out 0
        have hfz117_1 := blk_frozen BK277.out 1
        go_upto_if 87 with (fail)
        go_cut [] (fun wc => ∃ (kq : Nat), Aside0 (changeforgelaw3_MergebaseMatchesSpec.j3 kq l0 l3 t264 t267 t268 = some r) ∧ Aside0 (kq ≤ kj87) ∧ Aside0 (Kd.R (Kd.int .i64) 3 wc w.heap.size (fun _ => True) v265 t264) ∧ Aside0 (wc.heap[gb263]? = some (.cells #[.int .i64 t261, .int .i64 t262] 26 (0, 0))) ∧ Aside0 (wc.heap[gb269]? = some (.cells #[.int .i64 t267, .int .i64 t268] 26 (0, 0))) ∧ Aside0 (wc.heap[gb273]? = some (.cells #[.int .i64 t271, .int .i64 t272] 26 (0, 0))) ∧ Aside0 (wc.heap[gb276]? = some (.cells #[.int .i64 t274, .int .i64 t275] 26 (0, 0))) ∧ Aside0 (wc.heap[gb277]? = some (.cells #[.int .i64 x278000_87, .int .i64 x278001_87] 26 (0, 0))) ∧ Aside0 (Below w.heap.size w wc))
        case first =>
         have H := HC112.out
         clear HC112
         by_cases c118 : x278000_87 = 0
         rotate_left
         · rw [if_neg c118] at H
           have c118b0 : (x278000_87 == 0) = false := beq_eq_false_iff_ne.mpr c118
           have c118b1 : (x278000_87 != 0) = true := bne_iff_ne.mpr c118
           (first | rw [c118b0] | (simp only [i64_w, i32_w]; rw [c118b0]) | skip)
           by_cases c193 : (!(t261 == x278000_87) || (!(t262 == x278001_87))) = true
           · rw [if_pos c193] at H
             have c193b0 : (!(t261 == x278000_87) || (!(t262 == x278001_87))) = true := c193
             clear c193
             as_aux_lemma =>
              obtain rfl := Option.some.inj H
              have hnb194 := NB263_269.out
              have hnc194 := NB269_263.out
              have hnb195 := NB263_273.out
              have hnc195 := NB273_263.out
              have hnb196 := NB263_276.out
              have hnc196 := NB276_263.out
              have hnb197 := NB263_277.out
              have hnc197 := NB277_263.out
              have hcz198_0 : wc.cell? ⟨gb263, 0, none⟩ = some (.int .i64 t261) := (blk_cell BK263.out 0).trans rfl
              have hcz198_1 : wc.cell? ⟨gb263, 1, none⟩ = some (.int .i64 t262) := (blk_cell BK263.out 1).trans rfl
              have hfz198_0 := blk_frozen BK263.out 0
              have hfz198_1 := blk_frozen BK263.out 1
              have hnb199 := NB277_269.out
              have hnc199 := NB269_277.out
              have hnb200 := NB277_273.out
              have hnc200 := NB273_277.out
              have hnb201 := NB277_276.out
              have hnc201 := NB276_277.out
              have hcz202_0 : wc.cell? ⟨gb277, 0, none⟩ = some (.int .i64 x278000_87) := (blk_cell BK277.out 0).trans rfl
              have hcz202_1 : wc.cell? ⟨gb277, 1, none⟩ = some (.int .i64 x278001_87) := (blk_cell BK277.out 1).trans rfl
              have hfz202_0 := blk_frozen BK277.out 0
              have hfz202_1 := blk_frozen BK277.out 1
              go_wp2
              go_ret
              exact ⟨by first | rfl | (simp [errW_none, errW_some] <;> rfl) | (simp [*, errW_none, errW_some] <;> rfl), by repeat (first | (with_reducible first | exact HB.out | apply lA | apply lN | apply lD | refine lS ?_ GE263.out | refine lS ?_ GE269.out | refine lS ?_ GE273.out | refine lS ?_ GE276.out | refine lS ?_ GE277.out) | exact HB.out)⟩
           rw [if_neg c193] at H
           have c193b0 : (!(t261 == x278000_87) || (!(t262 == x278001_87))) = false := by simpa using c193
           clear c193
           by_cases c203 : (!(t271 == x278000_87) || (!(t272 == x278001_87))) = true
           · rw [if_pos c203] at H
             have c203b0 : (!(t271 == x278000_87) || (!(t272 == x278001_87))) = true := c203
             clear c203
             as_aux_lemma =>
              obtain rfl := Option.some.inj H
              have hnb204 := NB263_269.out
              have hnc204 := NB269_263.out
              have hnb205 := NB263_273.out
              have hnc205 := NB273_263.out
              have hnb206 := NB263_276.out
              have hnc206 := NB276_263.out
              have hnb207 := NB263_277.out
              have hnc207 := NB277_263.out
              have hcz208_0 : wc.cell? ⟨gb263, 0, none⟩ = some (.int .i64 t261) := (blk_cell BK263.out 0).trans rfl
              have hcz208_1 : wc.cell? ⟨gb263, 1, none⟩ = some (.int .i64 t262) := (blk_cell BK263.out 1).trans rfl
              have hfz208_0 := blk_frozen BK263.out 0
              have hfz208_1 := blk_frozen BK263.out 1
              have hnb209 := NB277_269.out
              have hnc209 := NB269_277.out
              have hnb210 := NB277_273.out
              have hnc210 := NB273_277.out
              have hnb211 := NB277_276.out
              have hnc211 := NB276_277.out
              have hcz212_0 : wc.cell? ⟨gb277, 0, none⟩ = some (.int .i64 x278000_87) := (blk_cell BK277.out 0).trans rfl
              have hcz212_1 : wc.cell? ⟨gb277, 1, none⟩ = some (.int .i64 x278001_87) := (blk_cell BK277.out 1).trans rfl
              have hfz212_0 := blk_frozen BK277.out 0
              have hfz212_1 := blk_frozen BK277.out 1
              have hnb213 := NB273_269.out
              have hnc213 := NB269_273.out
              have hnb214 := NB273_276.out
              have hnc214 := NB276_273.out
              have hcz215_0 : wc.cell? ⟨gb273, 0, none⟩ = some (.int .i64 t271) := (blk_cell BK273.out 0).trans rfl
              have hcz215_1 : wc.cell? ⟨gb273, 1, none⟩ = some (.int .i64 t272) := (blk_cell BK273.out 1).trans rfl
              have hfz215_0 := blk_frozen BK273.out 0
              have hfz215_1 := blk_frozen BK273.out 1
              go_wp2
              go_ret
              exact ⟨by first | rfl | (simp [errW_none, errW_some] <;> rfl) | (simp [*, errW_none, errW_some] <;> rfl), by repeat (first | (with_reducible first | exact HB.out | apply lA | apply lN | apply lD | refine lS ?_ GE263.out | refine lS ?_ GE269.out | refine lS ?_ GE273.out | refine lS ?_ GE276.out | refine lS ?_ GE277.out) | exact HB.out)⟩
           rw [if_neg c203] at H
           have c203b0 : (!(t271 == x278000_87) || (!(t272 == x278001_87))) = false := by simpa using c203
           clear c203
           by_cases c216 : (t258.length : Int) > 0
           · rw [if_pos c216] at H
             have c216b0 : decide (0 < (t258.length : Int)) = true := decide_eq_true c216
             have c216b1 : decide (0 < t258.length) = true := decide_eq_true (by omega)
             clear c216
             as_aux_lemma =>
              obtain rfl := Option.some.inj H
              have hnb217 := NB263_269.out
              have hnc217 := NB269_263.out
              have hnb218 := NB263_273.out
              have hnc218 := NB273_263.out
              have hnb219 := NB263_276.out
              have hnc219 := NB276_263.out
              have hnb220 := NB263_277.out
              have hnc220 := NB277_263.out
              have hcz221_0 : wc.cell? ⟨gb263, 0, none⟩ = some (.int .i64 t261) := (blk_cell BK263.out 0).trans rfl
              have hcz221_1 : wc.cell? ⟨gb263, 1, none⟩ = some (.int .i64 t262) := (blk_cell BK263.out 1).trans rfl
              have hfz221_0 := blk_frozen BK263.out 0
              have hfz221_1 := blk_frozen BK263.out 1
              have hnb222 := NB277_269.out
              have hnc222 := NB269_277.out
              have hnb223 := NB277_273.out
              have hnc223 := NB273_277.out
              have hnb224 := NB277_276.out
              have hnc224 := NB276_277.out
              have hcz225_0 : wc.cell? ⟨gb277, 0, none⟩ = some (.int .i64 x278000_87) := (blk_cell BK277.out 0).trans rfl
              have hcz225_1 : wc.cell? ⟨gb277, 1, none⟩ = some (.int .i64 x278001_87) := (blk_cell BK277.out 1).trans rfl
              have hfz225_0 := blk_frozen BK277.out 0
              have hfz225_1 := blk_frozen BK277.out 1
              have hnb226 := NB273_269.out
              have hnc226 := NB269_273.out
              have hnb227 := NB273_276.out
              have hnc227 := NB276_273.out
              have hcz228_0 : wc.cell? ⟨gb273, 0, none⟩ = some (.int .i64 t271) := (blk_cell BK273.out 0).trans rfl
              have hcz228_1 : wc.cell? ⟨gb273, 1, none⟩ = some (.int .i64 t272) := (blk_cell BK273.out 1).trans rfl
              have hfz228_0 := blk_frozen BK273.out 0
              have hfz228_1 := blk_frozen BK273.out 1
              obtain ⟨Ao229, co229, eo229⟩ := Kd.R_slice HO_9.out
              subst eo229
              go_wp2
              go_ret
              exact ⟨by first | rfl | (simp [errW_none, errW_some] <;> rfl) | (simp [*, errW_none, errW_some] <;> rfl), by repeat (first | (with_reducible first | exact HB.out | apply lA | apply lN | apply lD | refine lS ?_ GE263.out | refine lS ?_ GE269.out | refine lS ?_ GE273.out | refine lS ?_ GE276.out | refine lS ?_ GE277.out) | exact HB.out)⟩
           rw [if_neg c216] at H
           have c216b0 : decide (0 < (t258.length : Int)) = false := decide_eq_false c216
           have c216b1 : decide (0 < t258.length) = false := decide_eq_false (by omega)
           clear c216
           by_cases c230 : t270 = true
           · subst c230
             have H1 : (some false) = some r := by rw [if_pos rfl] at H; exact H
             clear H
             have H := H1
             clear H1
             as_aux_lemma =>
              obtain rfl := Option.some.inj H
              have hnb231 := NB263_269.out
              have hnc231 := NB269_263.out
              have hnb232 := NB263_273.out
              have hnc232 := NB273_263.out
              have hnb233 := NB263_276.out
              have hnc233 := NB276_263.out
              have hnb234 := NB263_277.out
              have hnc234 := NB277_263.out
              have hcz235_0 : wc.cell? ⟨gb263, 0, none⟩ = some (.int .i64 t261) := (blk_cell BK263.out 0).trans rfl
              have hcz235_1 : wc.cell? ⟨gb263, 1, none⟩ = some (.int .i64 t262) := (blk_cell BK263.out 1).trans rfl
              have hfz235_0 := blk_frozen BK263.out 0
              have hfz235_1 := blk_frozen BK263.out 1
              have hnb236 := NB277_269.out
              have hnc236 := NB269_277.out
              have hnb237 := NB277_273.out
              have hnc237 := NB273_277.out
              have hnb238 := NB277_276.out
              have hnc238 := NB276_277.out
              have hcz239_0 : wc.cell? ⟨gb277, 0, none⟩ = some (.int .i64 x278000_87) := (blk_cell BK277.out 0).trans rfl
              have hcz239_1 : wc.cell? ⟨gb277, 1, none⟩ = some (.int .i64 x278001_87) := (blk_cell BK277.out 1).trans rfl
              have hfz239_0 := blk_frozen BK277.out 0
              have hfz239_1 := blk_frozen BK277.out 1
              have hnb240 := NB273_269.out
              have hnc240 := NB269_273.out
              have hnb241 := NB273_276.out
              have hnc241 := NB276_273.out
              have hcz242_0 : wc.cell? ⟨gb273, 0, none⟩ = some (.int .i64 t271) := (blk_cell BK273.out 0).trans rfl
              have hcz242_1 : wc.cell? ⟨gb273, 1, none⟩ = some (.int .i64 t272) := (blk_cell BK273.out 1).trans rfl
              have hfz242_0 := blk_frozen BK273.out 0
              have hfz242_1 := blk_frozen BK273.out 1
              obtain ⟨Ao243, co243, eo243⟩ := Kd.R_slice HO_9.out
              subst eo243
              go_wp2
              go_ret
              exact ⟨by first | rfl | (simp [errW_none, errW_some] <;> rfl) | (simp [*, errW_none, errW_some] <;> rfl), by repeat (first | (with_reducible first | exact HB.out | apply lA | apply lN | apply lD | refine lS ?_ GE263.out | refine lS ?_ GE269.out | refine lS ?_ GE273.out | refine lS ?_ GE276.out | refine lS ?_ GE277.out) | exact HB.out)⟩
           replace c230 := Bool.eq_false_iff.mpr c230
           subst c230
           have H1 : (changeforgelaw3_MergebaseMatchesSpec.j3 kj87 l0 l3 t264 t267 t268) = some r := by rw [if_neg (show ¬ (false = true) by decide)] at H; exact H
           clear H
           have H := H1
           clear H1
           as_aux_lemma =>
            have H' := aZ H
            clear H
            have hnb244 := NB263_269.out
            have hnc244 := NB269_263.out
            have hnb245 := NB263_273.out
            have hnc245 := NB273_263.out
            have hnb246 := NB263_276.out
            have hnc246 := NB276_263.out
            have hnb247 := NB263_277.out
            have hnc247 := NB277_263.out
            have hcz248_0 : wc.cell? ⟨gb263, 0, none⟩ = some (.int .i64 t261) := (blk_cell BK263.out 0).trans rfl
            have hcz248_1 : wc.cell? ⟨gb263, 1, none⟩ = some (.int .i64 t262) := (blk_cell BK263.out 1).trans rfl
            have hfz248_0 := blk_frozen BK263.out 0
            have hfz248_1 := blk_frozen BK263.out 1
            have hnb249 := NB277_269.out
            have hnc249 := NB269_277.out
            have hnb250 := NB277_273.out
            have hnc250 := NB273_277.out
            have hnb251 := NB277_276.out
            have hnc251 := NB276_277.out
            have hcz252_0 : wc.cell? ⟨gb277, 0, none⟩ = some (.int .i64 x278000_87) := (blk_cell BK277.out 0).trans rfl
            have hcz252_1 : wc.cell? ⟨gb277, 1, none⟩ = some (.int .i64 x278001_87) := (blk_cell BK277.out 1).trans rfl
            have hfz252_0 := blk_frozen BK277.out 0
            have hfz252_1 := blk_frozen BK277.out 1
            have hnb253 := NB273_269.out
            have hnc253 := NB269_273.out
            have hnb254 := NB273_276.out
            have hnc254 := NB276_273.out
            have hcz255_0 : wc.cell? ⟨gb273, 0, none⟩ = some (.int .i64 t271) := (blk_cell BK273.out 0).trans rfl
            have hcz255_1 : wc.cell? ⟨gb273, 1, none⟩ = some (.int .i64 t272) := (blk_cell BK273.out 1).trans rfl
            have hfz255_0 := blk_frozen BK273.out 0
            have hfz255_1 := blk_frozen BK273.out 1
            obtain ⟨Ao256, co256, eo256⟩ := Kd.R_slice HO_9.out
            subst eo256
            go_wp2
            go_meet
            case rel => exact ⟨_, H', ⟨by have := HJ5.out; have := HJ12.out; have := HJ87.out; first | omega | exact Nat.le_refl _⟩, ⟨by (with_reducible repeat (first | apply Kd.rA | apply Kd.rN | apply Kd.rD)); exact Kd.R_mono HO_11.out (fun _ hk => trivial)⟩, ⟨by (with_reducible repeat (first | refine bN ?_ _ | refine bD ?_ | refine bA ?_ _)); exact BK263.out⟩, ⟨by (with_reducible repeat (first | refine bN ?_ _ | refine bD ?_ | refine bA ?_ _)); exact BK269.out⟩, ⟨by (with_reducible repeat (first | refine bN ?_ _ | refine bD ?_ | refine bA ?_ _)); exact BK273.out⟩, ⟨by (with_reducible repeat (first | refine bN ?_ _ | refine bD ?_ | refine bA ?_ _)); exact BK276.out⟩, ⟨by (with_reducible repeat (first | refine bN ?_ _ | refine bD ?_ | refine bA ?_ _)); exact BK277.out⟩, ⟨by repeat (first | (with_reducible first | exact HB.out | apply lA | apply lN | apply lD | refine lS ?_ GE263.out | refine lS ?_ GE269.out | refine lS ?_ GE273.out | refine lS ?_ GE276.out | refine lS ?_ GE277.out) | exact HB.out)⟩⟩
         rw [if_pos c118] at H
         have c118b0 : (x278000_87 == 0) = true := beq_iff_eq.mpr c118
         have c118b1 : (x278000_87 != 0) = false := bne_eq_false_iff_eq.mpr c118
         clear c118
         (first | rw [c118b0] | (simp only [i64_w, i32_w]; rw [c118b0]) | skip)
         by_cases c119 : t261 = 0
         rotate_left
         · rw [if_neg c119] at H
           have c119b0 : (t261 == 0) = false := beq_eq_false_iff_ne.mpr c119
           have c119b1 : (t261 != 0) = true := bne_iff_ne.mpr c119
           as_aux_lemma =>
            obtain rfl := Option.some.inj H
            have hnb188 := NB263_269.out
            have hnc188 := NB269_263.out
            have hnb189 := NB263_273.out
            have hnc189 := NB273_263.out
            have hnb190 := NB263_276.out
            have hnc190 := NB276_263.out
            have hnb191 := NB263_277.out
            have hnc191 := NB277_263.out
            have hcz192_0 : wc.cell? ⟨gb263, 0, none⟩ = some (.int .i64 t261) := (blk_cell BK263.out 0).trans rfl
            have hcz192_1 : wc.cell? ⟨gb263, 1, none⟩ = some (.int .i64 t262) := (blk_cell BK263.out 1).trans rfl
            have hfz192_0 := blk_frozen BK263.out 0
            have hfz192_1 := blk_frozen BK263.out 1
            go_wp2
            go_ret
            exact ⟨by first | rfl | (simp [errW_none, errW_some] <;> rfl) | (simp [*, errW_none, errW_some] <;> rfl), by repeat (first | (with_reducible first | exact HB.out | apply lA | apply lN | apply lD | refine lS ?_ GE263.out | refine lS ?_ GE269.out | refine lS ?_ GE273.out | refine lS ?_ GE276.out | refine lS ?_ GE277.out) | exact HB.out)⟩
         rw [if_pos c119] at H
         have c119b0 : (t261 == 0) = true := beq_iff_eq.mpr c119
         have c119b1 : (t261 != 0) = false := bne_eq_false_iff_eq.mpr c119
         clear c119
         by_cases c120 : t271 = 0
         rotate_left
         · rw [if_neg c120] at H
           have c120b0 : (t271 == 0) = false := beq_eq_false_iff_ne.mpr c120
           have c120b1 : (t271 != 0) = true := bne_iff_ne.mpr c120
           as_aux_lemma =>
            obtain rfl := Option.some.inj H
            have hnb179 := NB263_269.out
            have hnc179 := NB269_263.out
            have hnb180 := NB263_273.out
            have hnc180 := NB273_263.out
            have hnb181 := NB263_276.out
            have hnc181 := NB276_263.out
            have hnb182 := NB263_277.out
            have hnc182 := NB277_263.out
            have hcz183_0 : wc.cell? ⟨gb263, 0, none⟩ = some (.int .i64 t261) := (blk_cell BK263.out 0).trans rfl
            have hcz183_1 : wc.cell? ⟨gb263, 1, none⟩ = some (.int .i64 t262) := (blk_cell BK263.out 1).trans rfl
            have hfz183_0 := blk_frozen BK263.out 0
            have hfz183_1 := blk_frozen BK263.out 1
            have hnb184 := NB273_269.out
            have hnc184 := NB269_273.out
            have hnb185 := NB273_276.out
            have hnc185 := NB276_273.out
            have hnb186 := NB273_277.out
            have hnc186 := NB277_273.out
            have hcz187_0 : wc.cell? ⟨gb273, 0, none⟩ = some (.int .i64 t271) := (blk_cell BK273.out 0).trans rfl
            have hcz187_1 : wc.cell? ⟨gb273, 1, none⟩ = some (.int .i64 t272) := (blk_cell BK273.out 1).trans rfl
            have hfz187_0 := blk_frozen BK273.out 0
            have hfz187_1 := blk_frozen BK273.out 1
            go_wp2
            go_ret
            exact ⟨by first | rfl | (simp [errW_none, errW_some] <;> rfl) | (simp [*, errW_none, errW_some] <;> rfl), by repeat (first | (with_reducible first | exact HB.out | apply lA | apply lN | apply lD | refine lS ?_ GE263.out | refine lS ?_ GE269.out | refine lS ?_ GE273.out | refine lS ?_ GE276.out | refine lS ?_ GE277.out) | exact HB.out)⟩
         rw [if_pos c120] at H
         have c120b0 : (t271 == 0) = true := beq_iff_eq.mpr c120
         have c120b1 : (t271 != 0) = false := bne_eq_false_iff_eq.mpr c120
         clear c120
         obtain ⟨y284, hy284⟩ : ∃ y_ : List Int, y_ = (([a1, a2] : List Int)) := ⟨_, rfl⟩
         replace H : ((changeforgeref3_BestOf.f kj87 l0 y284).bind fun t287 => ((changeforgeref3_Ints.f kj87 t258 t287).bind fun t290 => (if t290 = true then ((changeforgeref3_Reach.f kj87 l0).bind fun t291 => (if 0 ≤ a2 then (if a2 < (t291.length : Int) then (if 0 ≤ a1 then (if a1 < ((rd_L5 t291 a2).length : Int) then (if (t270 != (rdOf false (rd_L5 t291 a2) a1)) = true then (some false) else (changeforgelaw3_MergebaseMatchesSpec.j3 kj87 l0 l3 t264 t267 t268)) else (none)) else (none)) else (none)) else (none))) else (some false)))) = some r := by first | (rw [hy284]; with_reducible exact H) | (have H2_ := (Option.bind_some _ _).symm.trans H; rw [hy284]; with_reducible exact H2_) | (have H2_ := (Option.bind_some _ _).symm.trans H; with_reducible exact H2_) | with_reducible exact H | (rw [hy284]; exact H) | exact H
         have Ny284 := aZ hy284
         clear hy284
         replace H := Option.bind_eq_some_iff.mp H
         obtain ⟨t287, A1210, H⟩ := H
         replace H : ((changeforgeref3_Ints.f kj87 t258 t287).bind fun t290 => (if t290 = true then ((changeforgeref3_Reach.f kj87 l0).bind fun t291 => (if 0 ≤ a2 then (if a2 < (t291.length : Int) then (if 0 ≤ a1 then (if a1 < ((rd_L5 t291 a2).length : Int) then (if (t270 != (rdOf false (rd_L5 t291 a2) a1)) = true then (some false) else (changeforgelaw3_MergebaseMatchesSpec.j3 kj87 l0 l3 t264 t267 t268)) else (none)) else (none)) else (none)) else (none))) else (some false))) = some r := H
         have A121 := aZ A1210
         clear A1210
         replace H := Option.bind_eq_some_iff.mp H
         obtain ⟨t290, A1220, H⟩ := H
         replace H : (if t290 = true then ((changeforgeref3_Reach.f kj87 l0).bind fun t291 => (if 0 ≤ a2 then (if a2 < (t291.length : Int) then (if 0 ≤ a1 then (if a1 < ((rd_L5 t291 a2).length : Int) then (if (t270 != (rdOf false (rd_L5 t291 a2) a1)) = true then (some false) else (changeforgelaw3_MergebaseMatchesSpec.j3 kj87 l0 l3 t264 t267 t268)) else (none)) else (none)) else (none)) else (none))) else (some false)) = some r := H
         have A122 := aZ A1220
         clear A1220
         by_cases c123 : t290 = true
         rotate_left
         · replace c123 := Bool.eq_false_iff.mpr c123
           subst c123
           have H1 : (some false) = some r := by rw [if_neg (show ¬ (false = true) by decide)] at H; exact H
           clear H
           have H := H1
           clear H1
           as_aux_lemma =>
            obtain rfl := Option.some.inj H
            have hnb164 := NB263_269.out
            have hnc164 := NB269_263.out
            have hnb165 := NB263_273.out
            have hnc165 := NB273_263.out
            have hnb166 := NB263_276.out
            have hnc166 := NB276_263.out
            have hnb167 := NB263_277.out
            have hnc167 := NB277_263.out
            have hcz168_0 : wc.cell? ⟨gb263, 0, none⟩ = some (.int .i64 t261) := (blk_cell BK263.out 0).trans rfl
            have hcz168_1 : wc.cell? ⟨gb263, 1, none⟩ = some (.int .i64 t262) := (blk_cell BK263.out 1).trans rfl
            have hfz168_0 := blk_frozen BK263.out 0
            have hfz168_1 := blk_frozen BK263.out 1
            have hnb169 := NB273_269.out
            have hnc169 := NB269_273.out
            have hnb170 := NB273_276.out
            have hnc170 := NB276_273.out
            have hnb171 := NB273_277.out
            have hnc171 := NB277_273.out
            have hcz172_0 : wc.cell? ⟨gb273, 0, none⟩ = some (.int .i64 t271) := (blk_cell BK273.out 0).trans rfl
            have hcz172_1 : wc.cell? ⟨gb273, 1, none⟩ = some (.int .i64 t272) := (blk_cell BK273.out 1).trans rfl
            have hfz172_0 := blk_frozen BK273.out 0
            have hfz172_1 := blk_frozen BK273.out 1
            go_wp2_with (first | ((with_reducible refine gate_dst (N := 117) rfl ?_); (try (refine gate_guard (by rfl) ?_; dsimp only)); refine Kd.R_lit (Kd.int .i64) _ 3 ?hg (N := 117) ?hd (xs := ([a1, a2] : List Int)) (inner := [.int .i64 a1, .int .i64 a2]) (ok := fun _ => True) (okp := fun _ => True) ?hr ?hp (fun _ hk => hk) trivial (Below.refl _ _) (Nat.le_refl _) (by simp) ?_; (case hd => rfl); (case hg => rfl); (case hr => first | (go_simp; done) | (go_simp; rfl)); (case hp => exact (Reps.one (show Kd.M (Kd.int .i64) _ _ _ a1 [.int .i64 a1] from rfl) (Reps.one (show Kd.M (Kd.int .i64) _ _ _ a2 [.int .i64 a2] from rfl) (Reps.none _ _)))); intro v285 w173 ho174 hb hg_ hnew_; clear hg_ hnew_; (first | rw [← Ny284.out] at ho174 | (simp only [Int.reduceToNat] at ho174; rw [← Ny284.out] at ho174)); have n0_ := aZ (Kd.R_elder' (by (with_reducible repeat (first | apply Kd.rA | apply Kd.rN | apply Kd.rD)); exact HO_9.out) (Kd.R_base ho174) hb); have n1_ := aZ (Kd.R_elder' (by (with_reducible repeat (first | apply Kd.rA | apply Kd.rN | apply Kd.rD)); exact HO_11.out) (Kd.R_base ho174) hb); have n2_ := aZ (Kd.R_lower (Kd.R_new' (Kd.R_new' ho174 (Kd.R_lt (by (with_reducible repeat (first | apply Kd.rA | apply Kd.rN | apply Kd.rD)); exact HO_9.out))) (Kd.R_lt (by (with_reducible repeat (first | apply Kd.rA | apply Kd.rN | apply Kd.rD)); exact HO_11.out))) (lZ (by repeat (first | (with_reducible first | exact HB.out | apply lA | apply lN | apply lD | refine lS ?_ GE263.out | refine lS ?_ GE269.out | refine lS ?_ GE273.out | refine lS ?_ GE276.out | refine lS ?_ GE277.out) | exact HB.out)))); have n3_ := aZ (blk_below (g := gb263) (o := .cells #[.int .i64 t261, .int .i64 t262] 26 (0, 0)) (by (with_reducible repeat (first | refine bN ?_ _ | refine bD ?_ | refine bA ?_ _)); exact BK263.out) hb); have n4_ := aZ (blk_below (g := gb269) (o := .cells #[.int .i64 t267, .int .i64 t268] 26 (0, 0)) (by (with_reducible repeat (first | refine bN ?_ _ | refine bD ?_ | refine bA ?_ _)); exact BK269.out) hb); have n5_ := aZ (blk_below (g := gb273) (o := .cells #[.int .i64 t271, .int .i64 t272] 26 (0, 0)) (by (with_reducible repeat (first | refine bN ?_ _ | refine bD ?_ | refine bA ?_ _)); exact BK273.out) hb); have n6_ := aZ (blk_below (g := gb276) (o := .cells #[.int .i64 t274, .int .i64 t275] 26 (0, 0)) (by (with_reducible repeat (first | refine bN ?_ _ | refine bD ?_ | refine bA ?_ _)); exact BK276.out) hb); have n7_ := aZ (blk_below (g := gb277) (o := .cells #[.int .i64 x278000_87, .int .i64 x278001_87] 26 (0, 0)) (by (with_reducible repeat (first | refine bN ?_ _ | refine bD ?_ | refine bA ?_ _)); exact BK277.out) hb); have n8_ := aZ (lT (by repeat (first | (with_reducible first | exact HB.out | apply lA | apply lN | apply lD | refine lS ?_ GE263.out | refine lS ?_ GE269.out | refine lS ?_ GE273.out | refine lS ?_ GE276.out | refine lS ?_ GE277.out) | exact HB.out)) hb); clear HO_9; clear HO_11; clear BK263; clear BK269; clear BK273; clear BK276; clear BK277; clear HB; have HO_9 := n0_; have HO_11 := n1_; have HO286 := n2_; have BK263 := n3_; have BK269 := n4_; have BK273 := n5_; have BK276 := n6_; have BK277 := n7_; have HB := n8_; clear n0_ n1_ n2_ n3_ n4_ n5_ n6_ n7_ n8_; clear hb ho174; obtain ⟨Ao175, co175, eo175⟩ := Kd.R_slice HO286.out; subst eo175) | (go_at_call 21; (with_reducible refine (changeforgeref3_BestOf.calls kj87 _ _ l0 _ _ y284 t287 _ ?side1 ?side2 ?side3 ?side4 A121.out).mono ?_); (case side1 => repeat (first | exact (Kd.C_below HR0.out HB.out) | (with_reducible refine Kd.C_alloc ?_ _) | (with_reducible refine Kd.C_drewN ?_ _) | (with_reducible refine Kd.C_drew ?_))); (case side2 => exact HC0.out); (case side3 => repeat (first | exact (Kd.R_reads' HO286.out).2.2 | (with_reducible refine Kd.C_alloc ?_ _) | (with_reducible refine Kd.C_drewN ?_ _) | (with_reducible refine Kd.C_drew ?_))); (case side4 => exact (Kd.R_reads' HO286.out).2.1); rintro e w176 ⟨v288, rfl, ho0, hb⟩; have n0_ := aZ (Kd.R_elder' (by (with_reducible repeat (first | apply Kd.rA | apply Kd.rN | apply Kd.rD)); exact HO_9.out) (Kd.R_base ho0) hb); have n1_ := aZ (Kd.R_elder' (by (with_reducible repeat (first | apply Kd.rA | apply Kd.rN | apply Kd.rD)); exact HO_11.out) (Kd.R_base ho0) hb); have n2_ := aZ (Kd.R_elder' (by (with_reducible repeat (first | apply Kd.rA | apply Kd.rN | apply Kd.rD)); exact HO286.out) (Kd.R_base ho0) hb); have n3_ := aZ (Kd.R_lower (Kd.R_new' (Kd.R_new' (Kd.R_new' ho0 (Kd.R_lt (by (with_reducible repeat (first | apply Kd.rA | apply Kd.rN | apply Kd.rD)); exact HO_9.out))) (Kd.R_lt (by (with_reducible repeat (first | apply Kd.rA | apply Kd.rN | apply Kd.rD)); exact HO_11.out))) (Kd.R_lt (by (with_reducible repeat (first | apply Kd.rA | apply Kd.rN | apply Kd.rD)); exact HO286.out))) (lZ (by repeat (first | (with_reducible first | exact HB.out | apply lA | apply lN | apply lD | refine lS ?_ GE263.out | refine lS ?_ GE269.out | refine lS ?_ GE273.out | refine lS ?_ GE276.out | refine lS ?_ GE277.out) | exact HB.out)))); have n4_ := aZ (blk_below (g := gb263) (o := .cells #[.int .i64 t261, .int .i64 t262] 26 (0, 0)) (by (with_reducible repeat (first | refine bN ?_ _ | refine bD ?_ | refine bA ?_ _)); exact BK263.out) hb); have n5_ := aZ (blk_below (g := gb269) (o := .cells #[.int .i64 t267, .int .i64 t268] 26 (0, 0)) (by (with_reducible repeat (first | refine bN ?_ _ | refine bD ?_ | refine bA ?_ _)); exact BK269.out) hb); have n6_ := aZ (blk_below (g := gb273) (o := .cells #[.int .i64 t271, .int .i64 t272] 26 (0, 0)) (by (with_reducible repeat (first | refine bN ?_ _ | refine bD ?_ | refine bA ?_ _)); exact BK273.out) hb); have n7_ := aZ (blk_below (g := gb276) (o := .cells #[.int .i64 t274, .int .i64 t275] 26 (0, 0)) (by (with_reducible repeat (first | refine bN ?_ _ | refine bD ?_ | refine bA ?_ _)); exact BK276.out) hb); have n8_ := aZ (blk_below (g := gb277) (o := .cells #[.int .i64 x278000_87, .int .i64 x278001_87] 26 (0, 0)) (by (with_reducible repeat (first | refine bN ?_ _ | refine bD ?_ | refine bA ?_ _)); exact BK277.out) hb); have n9_ := aZ (lT (by repeat (first | (with_reducible first | exact HB.out | apply lA | apply lN | apply lD | refine lS ?_ GE263.out | refine lS ?_ GE269.out | refine lS ?_ GE273.out | refine lS ?_ GE276.out | refine lS ?_ GE277.out) | exact HB.out)) hb); clear HO_9; clear HO_11; clear HO286; clear BK263; clear BK269; clear BK273; clear BK276; clear BK277; clear HB; have HO_9 := n0_; have HO_11 := n1_; have HO286 := n2_; have HO289 := n3_; have BK263 := n4_; have BK269 := n5_; have BK273 := n6_; have BK276 := n7_; have BK277 := n8_; have HB := n9_; clear n0_ n1_ n2_ n3_ n4_ n5_ n6_ n7_ n8_ n9_; (try clear hb); (try clear hb2); (try clear hk); (try clear hi); (try clear ho0); obtain ⟨Ao177, co177, eo177⟩ := Kd.R_slice HO_9.out; subst eo177; obtain ⟨Ao178, co178, eo178⟩ := Kd.R_slice HO289.out; subst eo178) | (go_at_call 20; (with_reducible refine (changeforgeref3_Ints.calls kj87 _ _ t258 _ _ t287 false _ ?side1 ?side2 ?side3 ?side4 A122.out).mono ?_); (case side1 => repeat (first | exact (Kd.R_reads' HO_9.out).2.2 | (with_reducible refine Kd.C_alloc ?_ _) | (with_reducible refine Kd.C_drewN ?_ _) | (with_reducible refine Kd.C_drew ?_))); (case side2 => exact (Kd.R_reads' HO_9.out).2.1); (case side3 => repeat (first | exact (Kd.R_reads' HO289.out).2.2 | (with_reducible refine Kd.C_alloc ?_ _) | (with_reducible refine Kd.C_drewN ?_ _) | (with_reducible refine Kd.C_drew ?_))); (case side4 => exact (Kd.R_reads' HO289.out).2.1); rintro e w' ⟨rfl, ⟨nd, rfl⟩⟩))
            go_ret
            exact ⟨by first | rfl | (simp [errW_none, errW_some] <;> rfl) | (simp [*, errW_none, errW_some] <;> rfl), by repeat (first | (with_reducible first | exact HB.out | apply lA | apply lN | apply lD | refine lS ?_ GE263.out | refine lS ?_ GE269.out | refine lS ?_ GE273.out | refine lS ?_ GE276.out | refine lS ?_ GE277.out) | exact HB.out)⟩
         subst c123
         have H1 : ((changeforgeref3_Reach.f kj87 l0).bind fun t291 => (if 0 ≤ a2 then (if a2 < (t291.length : Int) then (if 0 ≤ a1 then (if a1 < ((rd_L5 t291 a2).length : Int) then (if (t270 != (rdOf false (rd_L5 t291 a2) a1)) = true then (some false) else (changeforgelaw3_MergebaseMatchesSpec.j3 kj87 l0 l3 t264 t267 t268)) else (none)) else (none)) else (none)) else (none))) = some r := by rw [if_pos rfl] at H; exact H
         clear H
         have H := H1
         clear H1
         replace H := Option.bind_eq_some_iff.mp H
         obtain ⟨t291, A1240, H⟩ := H
         replace H : (if 0 ≤ a2 then (if a2 < (t291.length : Int) then (if 0 ≤ a1 then (if a1 < ((rd_L5 t291 a2).length : Int) then (if (t270 != (rdOf false (rd_L5 t291 a2) a1)) = true then (some false) else (changeforgelaw3_MergebaseMatchesSpec.j3 kj87 l0 l3 t264 t267 t268)) else (none)) else (none)) else (none)) else (none)) = some r := H
         have A124 := aZ A1240
         clear A1240
         by_cases c125 : 0 ≤ a2
         rotate_left
         · rw [if_neg c125] at H
           exact absurd H (by simp)
         rw [if_pos c125] at H
         have c125b0 : decide (0 ≤ a2) = true := decide_eq_true c125
         clear c125
         by_cases c126 : a2 < (t291.length : Int)
         rotate_left
         · rw [if_neg c126] at H
           exact absurd H (by simp)
         rw [if_pos c126] at H
         have c126b0 : decide (a2 < (t291.length : Int)) = true := decide_eq_true c126
         clear c126
         by_cases c127 : 0 ≤ a1
         rotate_left
         · rw [if_neg c127] at H
           exact absurd H (by simp)
         rw [if_pos c127] at H
         have c127b0 : decide (0 ≤ a1) = true := decide_eq_true c127
         clear c127
         by_cases c128 : a1 < ((rd_L5 t291 a2).length : Int)
         rotate_left
         · rw [if_neg c128] at H
           exact absurd H (by simp)
         rw [if_pos c128] at H
         have c128b0 : decide (a1 < ((rd_L5 t291 a2).length : Int)) = true := decide_eq_true c128
         clear c128
         by_cases c129 : (t270 != (rdOf false (rd_L5 t291 a2) a1)) = true
         · rw [if_pos c129] at H
           have c129b0 : (t270 != (rdOf false (rd_L5 t291 a2) a1)) = true := c129
           (try (have c129b1 : decide (t270 = (rdOf false (rd_L5 t291 a2) a1)) = false := by simpa using c129))
           (try (have c129b2 : (t270 == (rdOf false (rd_L5 t291 a2) a1)) = false := by simpa using c129))
           (try (have c129b3 : ¬ (t270 = (rdOf false (rd_L5 t291 a2) a1)) := by simpa using c129))
           clear c129
           as_aux_lemma =>
            obtain rfl := Option.some.inj H
            have hnb130 := NB263_269.out
            have hnc130 := NB269_263.out
            have hnb131 := NB263_273.out
            have hnc131 := NB273_263.out
            have hnb132 := NB263_276.out
            have hnc132 := NB276_263.out
            have hnb133 := NB263_277.out
            have hnc133 := NB277_263.out
            have hcz134_0 : wc.cell? ⟨gb263, 0, none⟩ = some (.int .i64 t261) := (blk_cell BK263.out 0).trans rfl
            have hcz134_1 : wc.cell? ⟨gb263, 1, none⟩ = some (.int .i64 t262) := (blk_cell BK263.out 1).trans rfl
            have hfz134_0 := blk_frozen BK263.out 0
            have hfz134_1 := blk_frozen BK263.out 1
            have hnb135 := NB273_269.out
            have hnc135 := NB269_273.out
            have hnb136 := NB273_276.out
            have hnc136 := NB276_273.out
            have hnb137 := NB273_277.out
            have hnc137 := NB277_273.out
            have hcz138_0 : wc.cell? ⟨gb273, 0, none⟩ = some (.int .i64 t271) := (blk_cell BK273.out 0).trans rfl
            have hcz138_1 : wc.cell? ⟨gb273, 1, none⟩ = some (.int .i64 t272) := (blk_cell BK273.out 1).trans rfl
            have hfz138_0 := blk_frozen BK273.out 0
            have hfz138_1 := blk_frozen BK273.out 1
            go_wp2_with (first | ((with_reducible refine gate_dst (N := 117) rfl ?_); (try (refine gate_guard (by rfl) ?_; dsimp only)); refine Kd.R_lit (Kd.int .i64) _ 3 ?hg (N := 117) ?hd (xs := ([a1, a2] : List Int)) (inner := [.int .i64 a1, .int .i64 a2]) (ok := fun _ => True) (okp := fun _ => True) ?hr ?hp (fun _ hk => hk) trivial (Below.refl _ _) (Nat.le_refl _) (by simp) ?_; (case hd => rfl); (case hg => rfl); (case hr => first | (go_simp; done) | (go_simp; rfl)); (case hp => exact (Reps.one (show Kd.M (Kd.int .i64) _ _ _ a1 [.int .i64 a1] from rfl) (Reps.one (show Kd.M (Kd.int .i64) _ _ _ a2 [.int .i64 a2] from rfl) (Reps.none _ _)))); intro v285 w139 ho140 hb hg_ hnew_; clear hg_ hnew_; (first | rw [← Ny284.out] at ho140 | (simp only [Int.reduceToNat] at ho140; rw [← Ny284.out] at ho140)); have n0_ := aZ (Kd.R_elder' (by (with_reducible repeat (first | apply Kd.rA | apply Kd.rN | apply Kd.rD)); exact HO_9.out) (Kd.R_base ho140) hb); have n1_ := aZ (Kd.R_elder' (by (with_reducible repeat (first | apply Kd.rA | apply Kd.rN | apply Kd.rD)); exact HO_11.out) (Kd.R_base ho140) hb); have n2_ := aZ (Kd.R_lower (Kd.R_new' (Kd.R_new' ho140 (Kd.R_lt (by (with_reducible repeat (first | apply Kd.rA | apply Kd.rN | apply Kd.rD)); exact HO_9.out))) (Kd.R_lt (by (with_reducible repeat (first | apply Kd.rA | apply Kd.rN | apply Kd.rD)); exact HO_11.out))) (lZ (by repeat (first | (with_reducible first | exact HB.out | apply lA | apply lN | apply lD | refine lS ?_ GE263.out | refine lS ?_ GE269.out | refine lS ?_ GE273.out | refine lS ?_ GE276.out | refine lS ?_ GE277.out) | exact HB.out)))); have n3_ := aZ (blk_below (g := gb263) (o := .cells #[.int .i64 t261, .int .i64 t262] 26 (0, 0)) (by (with_reducible repeat (first | refine bN ?_ _ | refine bD ?_ | refine bA ?_ _)); exact BK263.out) hb); have n4_ := aZ (blk_below (g := gb269) (o := .cells #[.int .i64 t267, .int .i64 t268] 26 (0, 0)) (by (with_reducible repeat (first | refine bN ?_ _ | refine bD ?_ | refine bA ?_ _)); exact BK269.out) hb); have n5_ := aZ (blk_below (g := gb273) (o := .cells #[.int .i64 t271, .int .i64 t272] 26 (0, 0)) (by (with_reducible repeat (first | refine bN ?_ _ | refine bD ?_ | refine bA ?_ _)); exact BK273.out) hb); have n6_ := aZ (blk_below (g := gb276) (o := .cells #[.int .i64 t274, .int .i64 t275] 26 (0, 0)) (by (with_reducible repeat (first | refine bN ?_ _ | refine bD ?_ | refine bA ?_ _)); exact BK276.out) hb); have n7_ := aZ (blk_below (g := gb277) (o := .cells #[.int .i64 x278000_87, .int .i64 x278001_87] 26 (0, 0)) (by (with_reducible repeat (first | refine bN ?_ _ | refine bD ?_ | refine bA ?_ _)); exact BK277.out) hb); have n8_ := aZ (lT (by repeat (first | (with_reducible first | exact HB.out | apply lA | apply lN | apply lD | refine lS ?_ GE263.out | refine lS ?_ GE269.out | refine lS ?_ GE273.out | refine lS ?_ GE276.out | refine lS ?_ GE277.out) | exact HB.out)) hb); clear HO_9; clear HO_11; clear BK263; clear BK269; clear BK273; clear BK276; clear BK277; clear HB; have HO_9 := n0_; have HO_11 := n1_; have HO286 := n2_; have BK263 := n3_; have BK269 := n4_; have BK273 := n5_; have BK276 := n6_; have BK277 := n7_; have HB := n8_; clear n0_ n1_ n2_ n3_ n4_ n5_ n6_ n7_ n8_; clear hb ho140; obtain ⟨Ao141, co141, eo141⟩ := Kd.R_slice HO286.out; subst eo141) | (go_at_call 21; (with_reducible refine (changeforgeref3_BestOf.calls kj87 _ _ l0 _ _ y284 t287 _ ?side1 ?side2 ?side3 ?side4 A121.out).mono ?_); (case side1 => repeat (first | exact (Kd.C_below HR0.out HB.out) | (with_reducible refine Kd.C_alloc ?_ _) | (with_reducible refine Kd.C_drewN ?_ _) | (with_reducible refine Kd.C_drew ?_))); (case side2 => exact HC0.out); (case side3 => repeat (first | exact (Kd.R_reads' HO286.out).2.2 | (with_reducible refine Kd.C_alloc ?_ _) | (with_reducible refine Kd.C_drewN ?_ _) | (with_reducible refine Kd.C_drew ?_))); (case side4 => exact (Kd.R_reads' HO286.out).2.1); rintro e w142 ⟨v288, rfl, ho0, hb⟩; have n0_ := aZ (Kd.R_elder' (by (with_reducible repeat (first | apply Kd.rA | apply Kd.rN | apply Kd.rD)); exact HO_9.out) (Kd.R_base ho0) hb); have n1_ := aZ (Kd.R_elder' (by (with_reducible repeat (first | apply Kd.rA | apply Kd.rN | apply Kd.rD)); exact HO_11.out) (Kd.R_base ho0) hb); have n2_ := aZ (Kd.R_elder' (by (with_reducible repeat (first | apply Kd.rA | apply Kd.rN | apply Kd.rD)); exact HO286.out) (Kd.R_base ho0) hb); have n3_ := aZ (Kd.R_lower (Kd.R_new' (Kd.R_new' (Kd.R_new' ho0 (Kd.R_lt (by (with_reducible repeat (first | apply Kd.rA | apply Kd.rN | apply Kd.rD)); exact HO_9.out))) (Kd.R_lt (by (with_reducible repeat (first | apply Kd.rA | apply Kd.rN | apply Kd.rD)); exact HO_11.out))) (Kd.R_lt (by (with_reducible repeat (first | apply Kd.rA | apply Kd.rN | apply Kd.rD)); exact HO286.out))) (lZ (by repeat (first | (with_reducible first | exact HB.out | apply lA | apply lN | apply lD | refine lS ?_ GE263.out | refine lS ?_ GE269.out | refine lS ?_ GE273.out | refine lS ?_ GE276.out | refine lS ?_ GE277.out) | exact HB.out)))); have n4_ := aZ (blk_below (g := gb263) (o := .cells #[.int .i64 t261, .int .i64 t262] 26 (0, 0)) (by (with_reducible repeat (first | refine bN ?_ _ | refine bD ?_ | refine bA ?_ _)); exact BK263.out) hb); have n5_ := aZ (blk_below (g := gb269) (o := .cells #[.int .i64 t267, .int .i64 t268] 26 (0, 0)) (by (with_reducible repeat (first | refine bN ?_ _ | refine bD ?_ | refine bA ?_ _)); exact BK269.out) hb); have n6_ := aZ (blk_below (g := gb273) (o := .cells #[.int .i64 t271, .int .i64 t272] 26 (0, 0)) (by (with_reducible repeat (first | refine bN ?_ _ | refine bD ?_ | refine bA ?_ _)); exact BK273.out) hb); have n7_ := aZ (blk_below (g := gb276) (o := .cells #[.int .i64 t274, .int .i64 t275] 26 (0, 0)) (by (with_reducible repeat (first | refine bN ?_ _ | refine bD ?_ | refine bA ?_ _)); exact BK276.out) hb); have n8_ := aZ (blk_below (g := gb277) (o := .cells #[.int .i64 x278000_87, .int .i64 x278001_87] 26 (0, 0)) (by (with_reducible repeat (first | refine bN ?_ _ | refine bD ?_ | refine bA ?_ _)); exact BK277.out) hb); have n9_ := aZ (lT (by repeat (first | (with_reducible first | exact HB.out | apply lA | apply lN | apply lD | refine lS ?_ GE263.out | refine lS ?_ GE269.out | refine lS ?_ GE273.out | refine lS ?_ GE276.out | refine lS ?_ GE277.out) | exact HB.out)) hb); clear HO_9; clear HO_11; clear HO286; clear BK263; clear BK269; clear BK273; clear BK276; clear BK277; clear HB; have HO_9 := n0_; have HO_11 := n1_; have HO286 := n2_; have HO289 := n3_; have BK263 := n4_; have BK269 := n5_; have BK273 := n6_; have BK276 := n7_; have BK277 := n8_; have HB := n9_; clear n0_ n1_ n2_ n3_ n4_ n5_ n6_ n7_ n8_ n9_; (try clear hb); (try clear hb2); (try clear hk); (try clear hi); (try clear ho0); obtain ⟨Ao143, co143, eo143⟩ := Kd.R_slice HO_9.out; subst eo143; obtain ⟨Ao144, co144, eo144⟩ := Kd.R_slice HO289.out; subst eo144) | (go_at_call 20; (with_reducible refine (changeforgeref3_Ints.calls kj87 _ _ t258 _ _ t287 true _ ?side1 ?side2 ?side3 ?side4 A122.out).mono ?_); (case side1 => repeat (first | exact (Kd.R_reads' HO_9.out).2.2 | (with_reducible refine Kd.C_alloc ?_ _) | (with_reducible refine Kd.C_drewN ?_ _) | (with_reducible refine Kd.C_drew ?_))); (case side2 => exact (Kd.R_reads' HO_9.out).2.1); (case side3 => repeat (first | exact (Kd.R_reads' HO289.out).2.2 | (with_reducible refine Kd.C_alloc ?_ _) | (with_reducible refine Kd.C_drewN ?_ _) | (with_reducible refine Kd.C_drew ?_))); (case side4 => exact (Kd.R_reads' HO289.out).2.1); rintro e w' ⟨rfl, ⟨nd, rfl⟩⟩) | (go_at_call 22; (with_reducible refine (changeforgeref3_Reach.calls kj87 _ _ l0 t291 _ ?side1 ?side2 A124.out).mono ?_); (case side1 => repeat (first | exact (Kd.C_below HR0.out (by repeat (first | (with_reducible first | exact HB.out | apply lA | apply lN | apply lD | refine lS ?_ GE263.out | refine lS ?_ GE269.out | refine lS ?_ GE273.out | refine lS ?_ GE276.out | refine lS ?_ GE277.out) | exact HB.out))) | (with_reducible refine Kd.C_alloc ?_ _) | (with_reducible refine Kd.C_drewN ?_ _) | (with_reducible refine Kd.C_drew ?_))); (case side2 => exact HC0.out); rintro e w145 ⟨v292, rfl, ho0, hb⟩; have n0_ := aZ (Kd.R_below (by (with_reducible repeat (first | apply Kd.rA | apply Kd.rN | apply Kd.rD)); exact HO_9.out) hb); have n1_ := aZ (Kd.R_below (by (with_reducible repeat (first | apply Kd.rA | apply Kd.rN | apply Kd.rD)); exact HO_11.out) hb); have n2_ := aZ (Kd.R_below (by (with_reducible repeat (first | apply Kd.rA | apply Kd.rN | apply Kd.rD)); exact HO286.out) hb); have n3_ := aZ (Kd.R_below (by (with_reducible repeat (first | apply Kd.rA | apply Kd.rN | apply Kd.rD)); exact HO289.out) hb); have n4_ := aZ (Kd.S_lower ho0 (lZ (by repeat (first | (with_reducible first | exact HB.out | apply lA | apply lN | apply lD | refine lS ?_ GE263.out | refine lS ?_ GE269.out | refine lS ?_ GE273.out | refine lS ?_ GE276.out | refine lS ?_ GE277.out) | exact HB.out)))); have n5_ := aZ (blk_below (g := gb263) (o := .cells #[.int .i64 t261, .int .i64 t262] 26 (0, 0)) (by (with_reducible repeat (first | refine bN ?_ _ | refine bD ?_ | refine bA ?_ _)); exact BK263.out) hb); have n6_ := aZ (blk_below (g := gb269) (o := .cells #[.int .i64 t267, .int .i64 t268] 26 (0, 0)) (by (with_reducible repeat (first | refine bN ?_ _ | refine bD ?_ | refine bA ?_ _)); exact BK269.out) hb); have n7_ := aZ (blk_below (g := gb273) (o := .cells #[.int .i64 t271, .int .i64 t272] 26 (0, 0)) (by (with_reducible repeat (first | refine bN ?_ _ | refine bD ?_ | refine bA ?_ _)); exact BK273.out) hb); have n8_ := aZ (blk_below (g := gb276) (o := .cells #[.int .i64 t274, .int .i64 t275] 26 (0, 0)) (by (with_reducible repeat (first | refine bN ?_ _ | refine bD ?_ | refine bA ?_ _)); exact BK276.out) hb); have n9_ := aZ (blk_below (g := gb277) (o := .cells #[.int .i64 x278000_87, .int .i64 x278001_87] 26 (0, 0)) (by (with_reducible repeat (first | refine bN ?_ _ | refine bD ?_ | refine bA ?_ _)); exact BK277.out) hb); have n10_ := aZ (lT (by repeat (first | (with_reducible first | exact HB.out | apply lA | apply lN | apply lD | refine lS ?_ GE263.out | refine lS ?_ GE269.out | refine lS ?_ GE273.out | refine lS ?_ GE276.out | refine lS ?_ GE277.out) | exact HB.out)) hb); clear HO_9; clear HO_11; clear HO286; clear HO289; clear BK263; clear BK269; clear BK273; clear BK276; clear BK277; clear HB; have HO_9 := n0_; have HO_11 := n1_; have HO286 := n2_; have HO289 := n3_; have HO293 := n4_; have BK263 := n5_; have BK269 := n6_; have BK273 := n7_; have BK276 := n8_; have BK277 := n9_; have HB := n10_; clear n0_ n1_ n2_ n3_ n4_ n5_ n6_ n7_ n8_ n9_ n10_; (try clear hb); (try clear hb2); (try clear hk); (try clear hi); (try clear ho0); obtain ⟨Ao146, co146, eo146⟩ := Kd.S_slice HO293.out; subst eo146; have p294 : 0 ≤ (a2 : Int) := of_decide_eq_true (by first | (with_reducible assumption) | assumption); have q294 : a2 < (t291.length : Int) := of_decide_eq_true (by first | (with_reducible assumption) | assumption); obtain ⟨ad294, A294_0, c294_0, e294, hx294_0, hl294_0, hi294_0⟩ := at_L5 (Kd.S_reads' HO293.out).2.2 a2 p294 q294; cases e294; obtain ⟨ce294, hce294, hMe294, hcc294⟩ := Kd.S_get HO293.out [] a2 p294 (by first | exact q294 | exact of_decide_eq_true (by first | (with_reducible assumption) | assumption) | (have e_ := (Kd.S_reads' HO293.out).1; omega)); obtain ⟨ve294_0, rfl, ge294_0⟩ := hMe294; have hv294_0 := hcc294 0 _ rfl; rw [Nat.add_zero, show ((Kd.slice 4 Kd.bool)).sz = 1 from rfl, Nat.mul_one] at hv294_0; replace hv294_0 := Option.some.inj (hv294_0.symm.trans hx294_0); rw [hv294_0] at ge294_0; have HL294_0 := aZ (show Kd.R Kd.bool 4 _ _ _ _ (rd_L5 t291 a2) from ge294_0); clear hv294_0 ge294_0; clear hcc294 hce294; have HR294_0 := aZ hi294_0; have HC294_0 := aZ hl294_0; clear hi294_0 hl294_0; replace p294 := eq_true p294; replace q294 := eq_true q294; have p295 : 0 ≤ (a1 : Int) := of_decide_eq_true (by first | (with_reducible assumption) | assumption); have q295 : a1 < ((rd_L5 t291 a2).length : Int) := of_decide_eq_true (by first | (with_reducible assumption) | assumption); obtain ⟨ad295, e295, hx295_0⟩ := Kd.at_bool (by repeat (first | (with_reducible exact HR294_0.out) | (with_reducible refine Kd.C_alloc ?_ _) | (with_reducible refine Kd.C_drewN ?_ _) | (with_reducible refine Kd.C_drew ?_) | exact HR294_0.out)) a1 p295 q295; cases e295; replace p295 := eq_true p295; replace q295 := eq_true q295))
            go_ret
            exact ⟨by first | rfl | (simp [errW_none, errW_some] <;> rfl) | (simp [*, errW_none, errW_some] <;> rfl), by repeat (first | (with_reducible first | exact HB.out | apply lA | apply lN | apply lD | refine lS ?_ GE263.out | refine lS ?_ GE269.out | refine lS ?_ GE273.out | refine lS ?_ GE276.out | refine lS ?_ GE277.out) | exact HB.out)⟩
         rw [if_neg c129] at H
         have c129b0 : (t270 != (rdOf false (rd_L5 t291 a2) a1)) = false := by simpa using c129
         (try (have c129b1 : decide (t270 = (rdOf false (rd_L5 t291 a2) a1)) = true := by simpa using c129))
         (try (have c129b2 : (t270 == (rdOf false (rd_L5 t291 a2) a1)) = true := by simpa using c129))
         clear c129
         as_aux_lemma =>
          have H' := aZ H
          clear H
          have hnb147 := NB263_269.out
          have hnc147 := NB269_263.out
          have hnb148 := NB263_273.out
          have hnc148 := NB273_263.out
          have hnb149 := NB263_276.out
          have hnc149 := NB276_263.out
          have hnb150 := NB263_277.out
          have hnc150 := NB277_263.out
          have hcz151_0 : wc.cell? ⟨gb263, 0, none⟩ = some (.int .i64 t261) := (blk_cell BK263.out 0).trans rfl
          have hcz151_1 : wc.cell? ⟨gb263, 1, none⟩ = some (.int .i64 t262) := (blk_cell BK263.out 1).trans rfl
          have hfz151_0 := blk_frozen BK263.out 0
          have hfz151_1 := blk_frozen BK263.out 1
          have hnb152 := NB273_269.out
          have hnc152 := NB269_273.out
          have hnb153 := NB273_276.out
          have hnc153 := NB276_273.out
          have hnb154 := NB273_277.out
          have hnc154 := NB277_273.out
          have hcz155_0 : wc.cell? ⟨gb273, 0, none⟩ = some (.int .i64 t271) := (blk_cell BK273.out 0).trans rfl
          have hcz155_1 : wc.cell? ⟨gb273, 1, none⟩ = some (.int .i64 t272) := (blk_cell BK273.out 1).trans rfl
          have hfz155_0 := blk_frozen BK273.out 0
          have hfz155_1 := blk_frozen BK273.out 1
          go_wp2_with (first | ((with_reducible refine gate_dst (N := 117) rfl ?_); (try (refine gate_guard (by rfl) ?_; dsimp only)); refine Kd.R_lit (Kd.int .i64) _ 3 ?hg (N := 117) ?hd (xs := ([a1, a2] : List Int)) (inner := [.int .i64 a1, .int .i64 a2]) (ok := fun _ => True) (okp := fun _ => True) ?hr ?hp (fun _ hk => hk) trivial (Below.refl _ _) (Nat.le_refl _) (by simp) ?_; (case hd => rfl); (case hg => rfl); (case hr => first | (go_simp; done) | (go_simp; rfl)); (case hp => exact (Reps.one (show Kd.M (Kd.int .i64) _ _ _ a1 [.int .i64 a1] from rfl) (Reps.one (show Kd.M (Kd.int .i64) _ _ _ a2 [.int .i64 a2] from rfl) (Reps.none _ _)))); intro v285 w156 ho157 hb hg_ hnew_; clear hg_ hnew_; (first | rw [← Ny284.out] at ho157 | (simp only [Int.reduceToNat] at ho157; rw [← Ny284.out] at ho157)); have n0_ := aZ (Kd.R_elder' (by (with_reducible repeat (first | apply Kd.rA | apply Kd.rN | apply Kd.rD)); exact HO_9.out) (Kd.R_base ho157) hb); have n1_ := aZ (Kd.R_elder' (by (with_reducible repeat (first | apply Kd.rA | apply Kd.rN | apply Kd.rD)); exact HO_11.out) (Kd.R_base ho157) hb); have n2_ := aZ (Kd.R_lower (Kd.R_new' (Kd.R_new' ho157 (Kd.R_lt (by (with_reducible repeat (first | apply Kd.rA | apply Kd.rN | apply Kd.rD)); exact HO_9.out))) (Kd.R_lt (by (with_reducible repeat (first | apply Kd.rA | apply Kd.rN | apply Kd.rD)); exact HO_11.out))) (lZ (by repeat (first | (with_reducible first | exact HB.out | apply lA | apply lN | apply lD | refine lS ?_ GE263.out | refine lS ?_ GE269.out | refine lS ?_ GE273.out | refine lS ?_ GE276.out | refine lS ?_ GE277.out) | exact HB.out)))); have n3_ := aZ (blk_below (g := gb263) (o := .cells #[.int .i64 t261, .int .i64 t262] 26 (0, 0)) (by (with_reducible repeat (first | refine bN ?_ _ | refine bD ?_ | refine bA ?_ _)); exact BK263.out) hb); have n4_ := aZ (blk_below (g := gb269) (o := .cells #[.int .i64 t267, .int .i64 t268] 26 (0, 0)) (by (with_reducible repeat (first | refine bN ?_ _ | refine bD ?_ | refine bA ?_ _)); exact BK269.out) hb); have n5_ := aZ (blk_below (g := gb273) (o := .cells #[.int .i64 t271, .int .i64 t272] 26 (0, 0)) (by (with_reducible repeat (first | refine bN ?_ _ | refine bD ?_ | refine bA ?_ _)); exact BK273.out) hb); have n6_ := aZ (blk_below (g := gb276) (o := .cells #[.int .i64 t274, .int .i64 t275] 26 (0, 0)) (by (with_reducible repeat (first | refine bN ?_ _ | refine bD ?_ | refine bA ?_ _)); exact BK276.out) hb); have n7_ := aZ (blk_below (g := gb277) (o := .cells #[.int .i64 x278000_87, .int .i64 x278001_87] 26 (0, 0)) (by (with_reducible repeat (first | refine bN ?_ _ | refine bD ?_ | refine bA ?_ _)); exact BK277.out) hb); have n8_ := aZ (lT (by repeat (first | (with_reducible first | exact HB.out | apply lA | apply lN | apply lD | refine lS ?_ GE263.out | refine lS ?_ GE269.out | refine lS ?_ GE273.out | refine lS ?_ GE276.out | refine lS ?_ GE277.out) | exact HB.out)) hb); clear HO_9; clear HO_11; clear BK263; clear BK269; clear BK273; clear BK276; clear BK277; clear HB; have HO_9 := n0_; have HO_11 := n1_; have HO286 := n2_; have BK263 := n3_; have BK269 := n4_; have BK273 := n5_; have BK276 := n6_; have BK277 := n7_; have HB := n8_; clear n0_ n1_ n2_ n3_ n4_ n5_ n6_ n7_ n8_; clear hb ho157; obtain ⟨Ao158, co158, eo158⟩ := Kd.R_slice HO286.out; subst eo158) | (go_at_call 21; (with_reducible refine (changeforgeref3_BestOf.calls kj87 _ _ l0 _ _ y284 t287 _ ?side1 ?side2 ?side3 ?side4 A121.out).mono ?_); (case side1 => repeat (first | exact (Kd.C_below HR0.out HB.out) | (with_reducible refine Kd.C_alloc ?_ _) | (with_reducible refine Kd.C_drewN ?_ _) | (with_reducible refine Kd.C_drew ?_))); (case side2 => exact HC0.out); (case side3 => repeat (first | exact (Kd.R_reads' HO286.out).2.2 | (with_reducible refine Kd.C_alloc ?_ _) | (with_reducible refine Kd.C_drewN ?_ _) | (with_reducible refine Kd.C_drew ?_))); (case side4 => exact (Kd.R_reads' HO286.out).2.1); rintro e w159 ⟨v288, rfl, ho0, hb⟩; have n0_ := aZ (Kd.R_elder' (by (with_reducible repeat (first | apply Kd.rA | apply Kd.rN | apply Kd.rD)); exact HO_9.out) (Kd.R_base ho0) hb); have n1_ := aZ (Kd.R_elder' (by (with_reducible repeat (first | apply Kd.rA | apply Kd.rN | apply Kd.rD)); exact HO_11.out) (Kd.R_base ho0) hb); have n2_ := aZ (Kd.R_elder' (by (with_reducible repeat (first | apply Kd.rA | apply Kd.rN | apply Kd.rD)); exact HO286.out) (Kd.R_base ho0) hb); have n3_ := aZ (Kd.R_lower (Kd.R_new' (Kd.R_new' (Kd.R_new' ho0 (Kd.R_lt (by (with_reducible repeat (first | apply Kd.rA | apply Kd.rN | apply Kd.rD)); exact HO_9.out))) (Kd.R_lt (by (with_reducible repeat (first | apply Kd.rA | apply Kd.rN | apply Kd.rD)); exact HO_11.out))) (Kd.R_lt (by (with_reducible repeat (first | apply Kd.rA | apply Kd.rN | apply Kd.rD)); exact HO286.out))) (lZ (by repeat (first | (with_reducible first | exact HB.out | apply lA | apply lN | apply lD | refine lS ?_ GE263.out | refine lS ?_ GE269.out | refine lS ?_ GE273.out | refine lS ?_ GE276.out | refine lS ?_ GE277.out) | exact HB.out)))); have n4_ := aZ (blk_below (g := gb263) (o := .cells #[.int .i64 t261, .int .i64 t262] 26 (0, 0)) (by (with_reducible repeat (first | refine bN ?_ _ | refine bD ?_ | refine bA ?_ _)); exact BK263.out) hb); have n5_ := aZ (blk_below (g := gb269) (o := .cells #[.int .i64 t267, .int .i64 t268] 26 (0, 0)) (by (with_reducible repeat (first | refine bN ?_ _ | refine bD ?_ | refine bA ?_ _)); exact BK269.out) hb); have n6_ := aZ (blk_below (g := gb273) (o := .cells #[.int .i64 t271, .int .i64 t272] 26 (0, 0)) (by (with_reducible repeat (first | refine bN ?_ _ | refine bD ?_ | refine bA ?_ _)); exact BK273.out) hb); have n7_ := aZ (blk_below (g := gb276) (o := .cells #[.int .i64 t274, .int .i64 t275] 26 (0, 0)) (by (with_reducible repeat (first | refine bN ?_ _ | refine bD ?_ | refine bA ?_ _)); exact BK276.out) hb); have n8_ := aZ (blk_below (g := gb277) (o := .cells #[.int .i64 x278000_87, .int .i64 x278001_87] 26 (0, 0)) (by (with_reducible repeat (first | refine bN ?_ _ | refine bD ?_ | refine bA ?_ _)); exact BK277.out) hb); have n9_ := aZ (lT (by repeat (first | (with_reducible first | exact HB.out | apply lA | apply lN | apply lD | refine lS ?_ GE263.out | refine lS ?_ GE269.out | refine lS ?_ GE273.out | refine lS ?_ GE276.out | refine lS ?_ GE277.out) | exact HB.out)) hb); clear HO_9; clear HO_11; clear HO286; clear BK263; clear BK269; clear BK273; clear BK276; clear BK277; clear HB; have HO_9 := n0_; have HO_11 := n1_; have HO286 := n2_; have HO289 := n3_; have BK263 := n4_; have BK269 := n5_; have BK273 := n6_; have BK276 := n7_; have BK277 := n8_; have HB := n9_; clear n0_ n1_ n2_ n3_ n4_ n5_ n6_ n7_ n8_ n9_; (try clear hb); (try clear hb2); (try clear hk); (try clear hi); (try clear ho0); obtain ⟨Ao160, co160, eo160⟩ := Kd.R_slice HO_9.out; subst eo160; obtain ⟨Ao161, co161, eo161⟩ := Kd.R_slice HO289.out; subst eo161) | (go_at_call 20; (with_reducible refine (changeforgeref3_Ints.calls kj87 _ _ t258 _ _ t287 true _ ?side1 ?side2 ?side3 ?side4 A122.out).mono ?_); (case side1 => repeat (first | exact (Kd.R_reads' HO_9.out).2.2 | (with_reducible refine Kd.C_alloc ?_ _) | (with_reducible refine Kd.C_drewN ?_ _) | (with_reducible refine Kd.C_drew ?_))); (case side2 => exact (Kd.R_reads' HO_9.out).2.1); (case side3 => repeat (first | exact (Kd.R_reads' HO289.out).2.2 | (with_reducible refine Kd.C_alloc ?_ _) | (with_reducible refine Kd.C_drewN ?_ _) | (with_reducible refine Kd.C_drew ?_))); (case side4 => exact (Kd.R_reads' HO289.out).2.1); rintro e w' ⟨rfl, ⟨nd, rfl⟩⟩) | (go_at_call 22; (with_reducible refine (changeforgeref3_Reach.calls kj87 _ _ l0 t291 _ ?side1 ?side2 A124.out).mono ?_); (case side1 => repeat (first | exact (Kd.C_below HR0.out (by repeat (first | (with_reducible first | exact HB.out | apply lA | apply lN | apply lD | refine lS ?_ GE263.out | refine lS ?_ GE269.out | refine lS ?_ GE273.out | refine lS ?_ GE276.out | refine lS ?_ GE277.out) | exact HB.out))) | (with_reducible refine Kd.C_alloc ?_ _) | (with_reducible refine Kd.C_drewN ?_ _) | (with_reducible refine Kd.C_drew ?_))); (case side2 => exact HC0.out); rintro e w162 ⟨v292, rfl, ho0, hb⟩; have n0_ := aZ (Kd.R_below (by (with_reducible repeat (first | apply Kd.rA | apply Kd.rN | apply Kd.rD)); exact HO_9.out) hb); have n1_ := aZ (Kd.R_below (by (with_reducible repeat (first | apply Kd.rA | apply Kd.rN | apply Kd.rD)); exact HO_11.out) hb); have n2_ := aZ (Kd.R_below (by (with_reducible repeat (first | apply Kd.rA | apply Kd.rN | apply Kd.rD)); exact HO286.out) hb); have n3_ := aZ (Kd.R_below (by (with_reducible repeat (first | apply Kd.rA | apply Kd.rN | apply Kd.rD)); exact HO289.out) hb); have n4_ := aZ (Kd.S_lower ho0 (lZ (by repeat (first | (with_reducible first | exact HB.out | apply lA | apply lN | apply lD | refine lS ?_ GE263.out | refine lS ?_ GE269.out | refine lS ?_ GE273.out | refine lS ?_ GE276.out | refine lS ?_ GE277.out) | exact HB.out)))); have n5_ := aZ (blk_below (g := gb263) (o := .cells #[.int .i64 t261, .int .i64 t262] 26 (0, 0)) (by (with_reducible repeat (first | refine bN ?_ _ | refine bD ?_ | refine bA ?_ _)); exact BK263.out) hb); have n6_ := aZ (blk_below (g := gb269) (o := .cells #[.int .i64 t267, .int .i64 t268] 26 (0, 0)) (by (with_reducible repeat (first | refine bN ?_ _ | refine bD ?_ | refine bA ?_ _)); exact BK269.out) hb); have n7_ := aZ (blk_below (g := gb273) (o := .cells #[.int .i64 t271, .int .i64 t272] 26 (0, 0)) (by (with_reducible repeat (first | refine bN ?_ _ | refine bD ?_ | refine bA ?_ _)); exact BK273.out) hb); have n8_ := aZ (blk_below (g := gb276) (o := .cells #[.int .i64 t274, .int .i64 t275] 26 (0, 0)) (by (with_reducible repeat (first | refine bN ?_ _ | refine bD ?_ | refine bA ?_ _)); exact BK276.out) hb); have n9_ := aZ (blk_below (g := gb277) (o := .cells #[.int .i64 x278000_87, .int .i64 x278001_87] 26 (0, 0)) (by (with_reducible repeat (first | refine bN ?_ _ | refine bD ?_ | refine bA ?_ _)); exact BK277.out) hb); have n10_ := aZ (lT (by repeat (first | (with_reducible first | exact HB.out | apply lA | apply lN | apply lD | refine lS ?_ GE263.out | refine lS ?_ GE269.out | refine lS ?_ GE273.out | refine lS ?_ GE276.out | refine lS ?_ GE277.out) | exact HB.out)) hb); clear HO_9; clear HO_11; clear HO286; clear HO289; clear BK263; clear BK269; clear BK273; clear BK276; clear BK277; clear HB; have HO_9 := n0_; have HO_11 := n1_; have HO286 := n2_; have HO289 := n3_; have HO293 := n4_; have BK263 := n5_; have BK269 := n6_; have BK273 := n7_; have BK276 := n8_; have BK277 := n9_; have HB := n10_; clear n0_ n1_ n2_ n3_ n4_ n5_ n6_ n7_ n8_ n9_ n10_; (try clear hb); (try clear hb2); (try clear hk); (try clear hi); (try clear ho0); obtain ⟨Ao163, co163, eo163⟩ := Kd.S_slice HO293.out; subst eo163; have p294 : 0 ≤ (a2 : Int) := of_decide_eq_true (by first | (with_reducible assumption) | assumption); have q294 : a2 < (t291.length : Int) := of_decide_eq_true (by first | (with_reducible assumption) | assumption); obtain ⟨ad294, A294_0, c294_0, e294, hx294_0, hl294_0, hi294_0⟩ := at_L5 (Kd.S_reads' HO293.out).2.2 a2 p294 q294; cases e294; obtain ⟨ce294, hce294, hMe294, hcc294⟩ := Kd.S_get HO293.out [] a2 p294 (by first | exact q294 | exact of_decide_eq_true (by first | (with_reducible assumption) | assumption) | (have e_ := (Kd.S_reads' HO293.out).1; omega)); obtain ⟨ve294_0, rfl, ge294_0⟩ := hMe294; have hv294_0 := hcc294 0 _ rfl; rw [Nat.add_zero, show ((Kd.slice 4 Kd.bool)).sz = 1 from rfl, Nat.mul_one] at hv294_0; replace hv294_0 := Option.some.inj (hv294_0.symm.trans hx294_0); rw [hv294_0] at ge294_0; have HL294_0 := aZ (show Kd.R Kd.bool 4 _ _ _ _ (rd_L5 t291 a2) from ge294_0); clear hv294_0 ge294_0; clear hcc294 hce294; have HR294_0 := aZ hi294_0; have HC294_0 := aZ hl294_0; clear hi294_0 hl294_0; replace p294 := eq_true p294; replace q294 := eq_true q294; have p295 : 0 ≤ (a1 : Int) := of_decide_eq_true (by first | (with_reducible assumption) | assumption); have q295 : a1 < ((rd_L5 t291 a2).length : Int) := of_decide_eq_true (by first | (with_reducible assumption) | assumption); obtain ⟨ad295, e295, hx295_0⟩ := Kd.at_bool (by repeat (first | (with_reducible exact HR294_0.out) | (with_reducible refine Kd.C_alloc ?_ _) | (with_reducible refine Kd.C_drewN ?_ _) | (with_reducible refine Kd.C_drew ?_) | exact HR294_0.out)) a1 p295 q295; cases e295; replace p295 := eq_true p295; replace q295 := eq_true q295))
          go_meet
          case rel => exact ⟨_, H', ⟨by have := HJ5.out; have := HJ12.out; have := HJ87.out; first | omega | exact Nat.le_refl _⟩, ⟨by (with_reducible repeat (first | apply Kd.rA | apply Kd.rN | apply Kd.rD)); exact Kd.R_mono HO_11.out (fun _ hk => trivial)⟩, ⟨by (with_reducible repeat (first | refine bN ?_ _ | refine bD ?_ | refine bA ?_ _)); exact BK263.out⟩, ⟨by (with_reducible repeat (first | refine bN ?_ _ | refine bD ?_ | refine bA ?_ _)); exact BK269.out⟩, ⟨by (with_reducible repeat (first | refine bN ?_ _ | refine bD ?_ | refine bA ?_ _)); exact BK273.out⟩, ⟨by (with_reducible repeat (first | refine bN ?_ _ | refine bD ?_ | refine bA ?_ _)); exact BK276.out⟩, ⟨by (with_reducible repeat (first | refine bN ?_ _ | refine bD ?_ | refine bA ?_ _)); exact BK277.out⟩, ⟨by repeat (first | (with_reducible first | exact HB.out | apply lA | apply lN | apply lD | refine lS ?_ GE263.out | refine lS ?_ GE269.out | refine lS ?_ GE273.out | refine lS ?_ GE276.out | refine lS ?_ GE277.out) | exact HB.out)⟩⟩
        case rest =>
         clear HC112
         (try clear hcz117_0); (try clear hcz117_1); (try clear hfz117_0); (try clear hfz117_1)
         obtain ⟨kq, HA, HJ111, HO_11, BK263, BK269, BK273, BK276, BK277, HB⟩ := hcut
         cases kq with
         | zero => exact absurd HA.out (by simp [changeforgelaw3_MergebaseMatchesSpec.j3])
         | succ kj111 =>
          have H := HA.out
          clear HA
          simp only [changeforgelaw3_MergebaseMatchesSpec.j3] at H
          replace H := Option.bind_eq_some_iff.mp H
          obtain ⟨t296, A2570, H⟩ := H
          replace H : (if t296 = true then (changeforgelaw3_MergebaseMatchesSpec.j4 kj111 l0 l3 t264 t267 t268 0 0) else ((changeforgeref3_Fault.f 9 (-1)).bind fun bt297 => (changeforgelaw3_MergebaseMatchesSpec.j4 kj111 l0 l3 t264 t267 t268 bt297.1 bt297.2))) = some r := H
          have A257 := aZ A2570
          clear A2570
          have HC258 := aZ H
          clear H
          have hnb259 := NB277_263.out
          have hnc259 := NB263_277.out
          have hnb260 := NB277_269.out
          have hnc260 := NB269_277.out
          have hnb261 := NB277_273.out
          have hnc261 := NB273_277.out
          have hnb262 := NB277_276.out
          have hnc262 := NB276_277.out
          have hcz263_0 : wc.cell? ⟨gb277, 0, none⟩ = some (.int .i64 x278000_87) := (blk_cell BK277.out 0).trans rfl
          have hcz263_1 : wc.cell? ⟨gb277, 1, none⟩ = some (.int .i64 x278001_87) := (blk_cell BK277.out 1).trans rfl
          have hfz263_0 := blk_frozen BK277.out 0
          have hfz263_1 := blk_frozen BK277.out 1
          go_upto_if 138 with (first | ((with_reducible refine gate_callee (f := 18) rfl ?_); refine goesL_ (some 137) rfl rfl Try.func18 (by kernel_rfl) rfl #[.int .i64 (l3.length : Int), .int .i64 1, .int .i64 60] rfl (by (try simp only [List.map_toArray, List.map_cons, List.map_nil]); first | done | rfl | (simp only [List.length_drop, List.length_take]; rfl)) ?_; (with_reducible refine (changeforgeref3_In.calls (l3.length : Int) 1 60 t296 _ A257.out).mono ?_); rintro e w' ⟨rfl, ⟨nd, rfl⟩⟩; refine ⟨_, rfl, ?_⟩))
          (try simp only [Act.put, List.setIfInBounds_toArray, List.set_cons_zero, List.set_cons_succ])
          go_cut [] (fun wc => ∃ (kq : Nat) (x278000_257 : Int) (x278001_257 : Int), Aside0 (changeforgelaw3_MergebaseMatchesSpec.j4 kq l0 l3 t264 t267 t268 x278000_257 x278001_257 = some r) ∧ Aside0 (kq ≤ kj111) ∧ Aside0 (Kd.R (Kd.int .i64) 3 wc w.heap.size (fun _ => True) v265 t264) ∧ Aside0 (wc.heap[gb263]? = some (.cells #[.int .i64 t261, .int .i64 t262] 26 (0, 0))) ∧ Aside0 (wc.heap[gb269]? = some (.cells #[.int .i64 t267, .int .i64 t268] 26 (0, 0))) ∧ Aside0 (wc.heap[gb273]? = some (.cells #[.int .i64 t271, .int .i64 t272] 26 (0, 0))) ∧ Aside0 (wc.heap[gb276]? = some (.cells #[.int .i64 t274, .int .i64 t275] 26 (0, 0))) ∧ Aside0 (wc.heap[gb277]? = some (.cells #[.int .i64 x278000_257, .int .i64 x278001_257] 26 (0, 0))) ∧ Aside0 (Below w.heap.size w wc))
          case first =>
           have H := HC258.out
           clear HC258
           by_cases c264 : t296 = true
           · subst c264
             have H1 : (changeforgelaw3_MergebaseMatchesSpec.j4 kj111 l0 l3 t264 t267 t268 0 0) = some r := by rw [if_pos rfl] at H; exact H
             clear H
             have H := H1
             clear H1
             as_aux_lemma =>
              have H' := aZ H
              clear H
              go_wp2
              go_meet
              case rel => exact ⟨_, (0), (0), H', ⟨by have := HJ5.out; have := HJ12.out; have := HJ87.out; have := HJ111.out; first | omega | exact Nat.le_refl _⟩, ⟨by (with_reducible repeat (first | apply Kd.rA | apply Kd.rN | apply Kd.rD)); exact Kd.R_mono (Kd.R_far (p := ⟨gb277, 1, none⟩) (Kd.R_far (p := ⟨gb277, 0, none⟩) (Kd.R_types HO_11.out BK277.out (by decide)) (fun _ hk => hk.2) (.int .i64 0)) (fun _ hk => hk.2) (.int .i64 0)) (fun _ hk => trivial)⟩, ⟨by (with_reducible repeat (first | refine bN ?_ _ | refine bD ?_ | refine bA ?_ _)); refine blk_far ?_ NB263_277.out _; (with_reducible repeat (first | refine bN ?_ _ | refine bD ?_ | refine bA ?_ _)); refine blk_far ?_ NB263_277.out _; (with_reducible repeat (first | refine bN ?_ _ | refine bD ?_ | refine bA ?_ _)); exact BK263.out⟩, ⟨by (with_reducible repeat (first | refine bN ?_ _ | refine bD ?_ | refine bA ?_ _)); refine blk_far ?_ NB269_277.out _; (with_reducible repeat (first | refine bN ?_ _ | refine bD ?_ | refine bA ?_ _)); refine blk_far ?_ NB269_277.out _; (with_reducible repeat (first | refine bN ?_ _ | refine bD ?_ | refine bA ?_ _)); exact BK269.out⟩, ⟨by (with_reducible repeat (first | refine bN ?_ _ | refine bD ?_ | refine bA ?_ _)); refine blk_far ?_ NB273_277.out _; (with_reducible repeat (first | refine bN ?_ _ | refine bD ?_ | refine bA ?_ _)); refine blk_far ?_ NB273_277.out _; (with_reducible repeat (first | refine bN ?_ _ | refine bD ?_ | refine bA ?_ _)); exact BK273.out⟩, ⟨by (with_reducible repeat (first | refine bN ?_ _ | refine bD ?_ | refine bA ?_ _)); refine blk_far ?_ NB276_277.out _; (with_reducible repeat (first | refine bN ?_ _ | refine bD ?_ | refine bA ?_ _)); refine blk_far ?_ NB276_277.out _; (with_reducible repeat (first | refine bN ?_ _ | refine bD ?_ | refine bA ?_ _)); exact BK276.out⟩, ⟨by (with_reducible repeat (first | refine bN ?_ _ | refine bD ?_ | refine bA ?_ _)); refine blk_put (cs := #[.int .i64 0, .int .i64 x278001_87]) ?_ 1 _ rfl; (with_reducible repeat (first | refine bN ?_ _ | refine bD ?_ | refine bA ?_ _)); refine blk_put (cs := #[.int .i64 x278000_87, .int .i64 x278001_87]) ?_ 0 _ rfl; (with_reducible repeat (first | refine bN ?_ _ | refine bD ?_ | refine bA ?_ _)); exact BK277.out⟩, ⟨by repeat (first | (with_reducible first | exact HB.out | apply lA | apply lN | apply lD | refine lS ?_ GE263.out | refine lS ?_ GE269.out | refine lS ?_ GE273.out | refine lS ?_ GE276.out | refine lS ?_ GE277.out) | exact HB.out)⟩⟩
           replace c264 := Bool.eq_false_iff.mpr c264
           subst c264
           have H1 : ((changeforgeref3_Fault.f 9 (-1)).bind fun bt297 => (changeforgelaw3_MergebaseMatchesSpec.j4 kj111 l0 l3 t264 t267 t268 bt297.1 bt297.2)) = some r := by rw [if_neg (show ¬ (false = true) by decide)] at H; exact H
           clear H
           have H := H1
           clear H1
           replace H := Option.bind_eq_some_iff.mp H
           obtain ⟨⟨t297, t298⟩, A2650, H⟩ := H
           replace H : (changeforgelaw3_MergebaseMatchesSpec.j4 kj111 l0 l3 t264 t267 t268 t297 t298) = some r := H
           have A265 := aZ A2650
           clear A2650
           as_aux_lemma =>
            have H' := aZ H
            clear H
            go_wp2_with (first | ((with_reducible refine gate_callee (f := 19) rfl ?_); refine goesL_ (some 139) rfl rfl Try.func19 (by kernel_rfl) rfl #[.int .i64 9, .int .i64 (-1)] rfl (by (try simp only [List.map_toArray, List.map_cons, List.map_nil]); first | done | rfl | (simp only [List.length_drop, List.length_take]; rfl)) ?_; (with_reducible refine (changeforgeref3_Fault.calls 9 (-1) t297 t298 _ A265.out).mono ?_); rintro e w266 ⟨rfl, hb⟩; refine ⟨_, rfl, ?_⟩; have n0_ := aZ (Kd.R_below (by (with_reducible repeat (first | apply Kd.rA | apply Kd.rN | apply Kd.rD)); exact (Kd.R_mono (Kd.R_far (p := ⟨gb277, 1, none⟩) (Kd.R_far (p := ⟨gb277, 0, none⟩) (Kd.R_types HO_11.out BK277.out (by decide)) (fun _ hk => hk.2) (.int .i64 0)) (fun _ hk => hk.2) (.int .i64 0)) (fun _ h_ => h_.1))) hb); have n1_ := aZ (blk_below (g := gb263) (o := .cells #[.int .i64 t261, .int .i64 t262] 26 (0, 0)) (by (with_reducible repeat (first | refine bN ?_ _ | refine bD ?_ | refine bA ?_ _)); refine blk_far ?_ NB263_277.out _; (with_reducible repeat (first | refine bN ?_ _ | refine bD ?_ | refine bA ?_ _)); refine blk_far ?_ NB263_277.out _; (with_reducible repeat (first | refine bN ?_ _ | refine bD ?_ | refine bA ?_ _)); exact BK263.out) hb); have n2_ := aZ (blk_below (g := gb269) (o := .cells #[.int .i64 t267, .int .i64 t268] 26 (0, 0)) (by (with_reducible repeat (first | refine bN ?_ _ | refine bD ?_ | refine bA ?_ _)); refine blk_far ?_ NB269_277.out _; (with_reducible repeat (first | refine bN ?_ _ | refine bD ?_ | refine bA ?_ _)); refine blk_far ?_ NB269_277.out _; (with_reducible repeat (first | refine bN ?_ _ | refine bD ?_ | refine bA ?_ _)); exact BK269.out) hb); have n3_ := aZ (blk_below (g := gb273) (o := .cells #[.int .i64 t271, .int .i64 t272] 26 (0, 0)) (by (with_reducible repeat (first | refine bN ?_ _ | refine bD ?_ | refine bA ?_ _)); refine blk_far ?_ NB273_277.out _; (with_reducible repeat (first | refine bN ?_ _ | refine bD ?_ | refine bA ?_ _)); refine blk_far ?_ NB273_277.out _; (with_reducible repeat (first | refine bN ?_ _ | refine bD ?_ | refine bA ?_ _)); exact BK273.out) hb); have n4_ := aZ (blk_below (g := gb276) (o := .cells #[.int .i64 t274, .int .i64 t275] 26 (0, 0)) (by (with_reducible repeat (first | refine bN ?_ _ | refine bD ?_ | refine bA ?_ _)); refine blk_far ?_ NB276_277.out _; (with_reducible repeat (first | refine bN ?_ _ | refine bD ?_ | refine bA ?_ _)); refine blk_far ?_ NB276_277.out _; (with_reducible repeat (first | refine bN ?_ _ | refine bD ?_ | refine bA ?_ _)); exact BK276.out) hb); have n5_ := aZ (blk_below (g := gb277) (o := .cells #[.int .i64 0, .int .i64 0] 26 (0, 0)) (by (with_reducible repeat (first | refine bN ?_ _ | refine bD ?_ | refine bA ?_ _)); refine blk_put (cs := #[.int .i64 0, .int .i64 x278001_87]) ?_ 1 _ rfl; (with_reducible repeat (first | refine bN ?_ _ | refine bD ?_ | refine bA ?_ _)); refine blk_put (cs := #[.int .i64 x278000_87, .int .i64 x278001_87]) ?_ 0 _ rfl; (with_reducible repeat (first | refine bN ?_ _ | refine bD ?_ | refine bA ?_ _)); exact BK277.out) hb); have n6_ := aZ (lT (by repeat (first | (with_reducible first | exact HB.out | apply lA | apply lN | apply lD | refine lS ?_ GE263.out | refine lS ?_ GE269.out | refine lS ?_ GE273.out | refine lS ?_ GE276.out | refine lS ?_ GE277.out) | exact HB.out)) hb); clear HO_11; clear BK263; clear BK269; clear BK273; clear BK276; clear BK277; clear HB; have HO_11 := n0_; have BK263 := n1_; have BK269 := n2_; have BK273 := n3_; have BK276 := n4_; have BK277 := n5_; have HB := n6_; clear n0_ n1_ n2_ n3_ n4_ n5_ n6_; (try clear hb); (try clear hb2); (try clear hk); (try clear hi); have hnb267 := NB277_263.out; have hnc267 := NB263_277.out; have hnb268 := NB277_269.out; have hnc268 := NB269_277.out; have hnb269 := NB277_273.out; have hnc269 := NB273_277.out; have hnb270 := NB277_276.out; have hnc270 := NB276_277.out; have hcz271_0 : w266.cell? ⟨gb277, 0, none⟩ = some (.int .i64 0) := (blk_cell BK277.out 0).trans rfl; have hcz271_1 : w266.cell? ⟨gb277, 1, none⟩ = some (.int .i64 0) := (blk_cell BK277.out 1).trans rfl; have hfz271_0 := blk_frozen BK277.out 0; have hfz271_1 := blk_frozen BK277.out 1))
            go_meet
            case rel => exact ⟨_, (t297), (t298), H', ⟨by have := HJ5.out; have := HJ12.out; have := HJ87.out; have := HJ111.out; first | omega | exact Nat.le_refl _⟩, ⟨by (with_reducible repeat (first | apply Kd.rA | apply Kd.rN | apply Kd.rD)); exact Kd.R_mono (Kd.R_far (p := ⟨gb277, 1, none⟩) (Kd.R_far (p := ⟨gb277, 0, none⟩) (Kd.R_types HO_11.out BK277.out (by decide)) (fun _ hk => hk.2) (.int .i64 t297)) (fun _ hk => hk.2) (.int .i64 t298)) (fun _ hk => trivial)⟩, ⟨by (with_reducible repeat (first | refine bN ?_ _ | refine bD ?_ | refine bA ?_ _)); refine blk_far ?_ NB263_277.out _; (with_reducible repeat (first | refine bN ?_ _ | refine bD ?_ | refine bA ?_ _)); refine blk_far ?_ NB263_277.out _; (with_reducible repeat (first | refine bN ?_ _ | refine bD ?_ | refine bA ?_ _)); exact BK263.out⟩, ⟨by (with_reducible repeat (first | refine bN ?_ _ | refine bD ?_ | refine bA ?_ _)); refine blk_far ?_ NB269_277.out _; (with_reducible repeat (first | refine bN ?_ _ | refine bD ?_ | refine bA ?_ _)); refine blk_far ?_ NB269_277.out _; (with_reducible repeat (first | refine bN ?_ _ | refine bD ?_ | refine bA ?_ _)); exact BK269.out⟩, ⟨by (with_reducible repeat (first | refine bN ?_ _ | refine bD ?_ | refine bA ?_ _)); refine blk_far ?_ NB273_277.out _; (with_reducible repeat (first | refine bN ?_ _ | refine bD ?_ | refine bA ?_ _)); refine blk_far ?_ NB273_277.out _; (with_reducible repeat (first | refine bN ?_ _ | refine bD ?_ | refine bA ?_ _)); exact BK273.out⟩, ⟨by (with_reducible repeat (first | refine bN ?_ _ | refine bD ?_ | refine bA ?_ _)); refine blk_far ?_ NB276_277.out _; (with_reducible repeat (first | refine bN ?_ _ | refine bD ?_ | refine bA ?_ _)); refine blk_far ?_ NB276_277.out _; (with_reducible repeat (first | refine bN ?_ _ | refine bD ?_ | refine bA ?_ _)); exact BK276.out⟩, ⟨by (with_reducible repeat (first | refine bN ?_ _ | refine bD ?_ | refine bA ?_ _)); refine blk_put (cs := #[.int .i64 t297, .int .i64 0]) ?_ 1 _ rfl; (with_reducible repeat (first | refine bN ?_ _ | refine bD ?_ | refine bA ?_ _)); refine blk_put (cs := #[.int .i64 0, .int .i64 0]) ?_ 0 _ rfl; (with_reducible repeat (first | refine bN ?_ _ | refine bD ?_ | refine bA ?_ _)); exact BK277.out⟩, ⟨by repeat (first | (with_reducible first | exact HB.out | apply lA | apply lN | apply lD | refine lS ?_ GE263.out | refine lS ?_ GE269.out | refine lS ?_ GE273.out | refine lS ?_ GE276.out | refine lS ?_ GE277.out) | exact HB.out)⟩⟩
          case rest =>
           clear HC258
           (try clear hcz263_0); (try clear hcz263_1); (try clear hfz263_0); (try clear hfz263_1)
           obtain ⟨kq, x278000_257, x278001_257, HA, HJ257, HO_11, BK263, BK269, BK273, BK276, BK277, HB⟩ := hcut
           cases kq with
           | zero => exact absurd HA.out (by simp [changeforgelaw3_MergebaseMatchesSpec.j4])
           | succ kj257 =>
            have H := HA.out
            clear HA
            simp only [changeforgelaw3_MergebaseMatchesSpec.j4] at H
            have HC272 := aZ H
            clear H
            go_upto_block 0 with (fail)
            go_cut [] (fun wc => ∃ (kq : Nat) (x278000_271 : Int) (x278001_271 : Int), Aside0 (changeforgelaw3_MergebaseMatchesSpec.j8 kq l0 l3 t264 t267 t268 x278000_271 x278001_271 = some r) ∧ Aside0 (kq ≤ kj257) ∧ Aside0 (Kd.R (Kd.int .i64) 3 wc w.heap.size (fun _ => True) v265 t264) ∧ Aside0 (wc.heap[gb263]? = some (.cells #[.int .i64 t261, .int .i64 t262] 26 (0, 0))) ∧ Aside0 (wc.heap[gb269]? = some (.cells #[.int .i64 t267, .int .i64 t268] 26 (0, 0))) ∧ Aside0 (wc.heap[gb273]? = some (.cells #[.int .i64 t271, .int .i64 t272] 26 (0, 0))) ∧ Aside0 (wc.heap[gb276]? = some (.cells #[.int .i64 t274, .int .i64 t275] 26 (0, 0))) ∧ Aside0 (wc.heap[gb277]? = some (.cells #[.int .i64 x278000_271, .int .i64 x278001_271] 26 (0, 0))) ∧ Aside0 (Below w.heap.size w wc))
            case first =>
             have H := HC272.out
             clear HC272
             have H' := aZ H
             clear H
             go_wp2
             go_loopg [17] kj257 (fun kq v17 w' => ∃ (x17_6 : Int) (x278000_6 : Int) (x278001_6 : Int), v17 = .int .i64 x17_6 ∧ Aside0 (changeforgelaw3_MergebaseMatchesSpec.l0 kq l0 l3 t264 x17_6 t267 t268 x278000_6 x278001_6 = some r) ∧ Aside0 (kq ≤ kj257) ∧ Aside0 (Kd.R (Kd.int .i64) 3 w' w.heap.size (fun _ => True) v265 t264) ∧ Aside0 (w'.heap[gb263]? = some (.cells #[.int .i64 t261, .int .i64 t262] 26 (0, 0))) ∧ Aside0 (w'.heap[gb269]? = some (.cells #[.int .i64 t267, .int .i64 t268] 26 (0, 0))) ∧ Aside0 (w'.heap[gb273]? = some (.cells #[.int .i64 t271, .int .i64 t272] 26 (0, 0))) ∧ Aside0 (w'.heap[gb276]? = some (.cells #[.int .i64 t274, .int .i64 t275] 26 (0, 0))) ∧ Aside0 (w'.heap[gb277]? = some (.cells #[.int .i64 x278000_6, .int .i64 x278001_6] 26 (0, 0))) ∧ Aside0 (Below w.heap.size w w'))
             case atStart => exact ⟨(0), (x278000_257), (x278001_257), (by first | rfl | (simp; done) | (simp [*]; done)), H', ⟨Nat.le_refl _⟩, ⟨by (with_reducible repeat (first | apply Kd.rA | apply Kd.rN | apply Kd.rD)); exact HO_11.out⟩, ⟨by (with_reducible repeat (first | refine bN ?_ _ | refine bD ?_ | refine bA ?_ _)); exact BK263.out⟩, ⟨by (with_reducible repeat (first | refine bN ?_ _ | refine bD ?_ | refine bA ?_ _)); exact BK269.out⟩, ⟨by (with_reducible repeat (first | refine bN ?_ _ | refine bD ?_ | refine bA ?_ _)); exact BK273.out⟩, ⟨by (with_reducible repeat (first | refine bN ?_ _ | refine bD ?_ | refine bA ?_ _)); exact BK276.out⟩, ⟨by (with_reducible repeat (first | refine bN ?_ _ | refine bD ?_ | refine bA ?_ _)); exact BK277.out⟩, ⟨by repeat (first | (with_reducible first | exact HB.out | apply lA | apply lN | apply lD | refine lS ?_ GE263.out | refine lS ?_ GE269.out | refine lS ?_ GE273.out | refine lS ?_ GE276.out | refine lS ?_ GE277.out) | exact HB.out)⟩⟩
             case round =>
              clear H'
              obtain ⟨x17_6, x278000_6, x278001_6, rfl, HA, HK6, HO_11, BK263, BK269, BK273, BK276, BK277, HB⟩ := hrel
              cases gk with
              | zero => exact absurd HA.out (by simp [changeforgelaw3_MergebaseMatchesSpec.l0])
              | succ k6 =>
               have H := HA.out
               clear HA
               simp only [changeforgelaw3_MergebaseMatchesSpec.l0] at H
               have HC273 := aZ H
               clear H
               go_upto_region 23 with (fail)
               go_cut [148] (fun v148 wc => ∃ (kq : Nat) (x148_272 : Bool), v148 = .bool x148_272 ∧ Aside0 (changeforgelaw3_MergebaseMatchesSpec.j6 kq l0 l3 t264 x17_6 x148_272 t267 t268 x278000_6 x278001_6 = some r) ∧ Aside0 (kq ≤ k6) ∧ Aside0 (Kd.R (Kd.int .i64) 3 wc w.heap.size (fun _ => True) v265 t264) ∧ Aside0 (wc.heap[gb263]? = some (.cells #[.int .i64 t261, .int .i64 t262] 26 (0, 0))) ∧ Aside0 (wc.heap[gb269]? = some (.cells #[.int .i64 t267, .int .i64 t268] 26 (0, 0))) ∧ Aside0 (wc.heap[gb273]? = some (.cells #[.int .i64 t271, .int .i64 t272] 26 (0, 0))) ∧ Aside0 (wc.heap[gb276]? = some (.cells #[.int .i64 t274, .int .i64 t275] 26 (0, 0))) ∧ Aside0 (wc.heap[gb277]? = some (.cells #[.int .i64 x278000_6, .int .i64 x278001_6] 26 (0, 0))) ∧ Aside0 (Below w.heap.size w wc))
               case first =>
                have H := HC273.out
                clear HC273
                by_cases c274 : x17_6 < (l3.length : Int)
                rotate_left
                · rw [if_neg c274] at H
                  have c274b0 : decide (x17_6 < (l3.length : Int)) = false := decide_eq_false c274
                  clear c274
                  (first | rw [c274b0] | (simp only [i64_w, i32_w]; rw [c274b0]) | skip)
                  as_aux_lemma =>
                   have H' := aZ H
                   clear H
                   go_wp2
                   go_meet
                   case rel => exact ⟨_, (false), (by first | rfl | (simp; done) | (simp [*]; done)), H', ⟨by have := HJ5.out; have := HJ12.out; have := HJ87.out; have := HJ111.out; have := HJ257.out; have := HK6.out; first | omega | exact Nat.le_refl _⟩, ⟨by (with_reducible repeat (first | apply Kd.rA | apply Kd.rN | apply Kd.rD)); exact HO_11.out⟩, ⟨by (with_reducible repeat (first | refine bN ?_ _ | refine bD ?_ | refine bA ?_ _)); exact BK263.out⟩, ⟨by (with_reducible repeat (first | refine bN ?_ _ | refine bD ?_ | refine bA ?_ _)); exact BK269.out⟩, ⟨by (with_reducible repeat (first | refine bN ?_ _ | refine bD ?_ | refine bA ?_ _)); exact BK273.out⟩, ⟨by (with_reducible repeat (first | refine bN ?_ _ | refine bD ?_ | refine bA ?_ _)); exact BK276.out⟩, ⟨by (with_reducible repeat (first | refine bN ?_ _ | refine bD ?_ | refine bA ?_ _)); exact BK277.out⟩, ⟨by repeat (first | (with_reducible first | exact HB.out | apply lA | apply lN | apply lD | refine lS ?_ GE263.out | refine lS ?_ GE269.out | refine lS ?_ GE273.out | refine lS ?_ GE276.out | refine lS ?_ GE277.out) | exact HB.out)⟩⟩
                rw [if_pos c274] at H
                have c274b0 : decide (x17_6 < (l3.length : Int)) = true := decide_eq_true c274
                clear c274
                (first | rw [c274b0] | (simp only [i64_w, i32_w]; rw [c274b0]) | skip)
                as_aux_lemma =>
                 have H' := aZ H
                 clear H
                 have hnb275 := NB277_263.out
                 have hnc275 := NB263_277.out
                 have hnb276 := NB277_269.out
                 have hnc276 := NB269_277.out
                 have hnb277 := NB277_273.out
                 have hnc277 := NB273_277.out
                 have hnb278 := NB277_276.out
                 have hnc278 := NB276_277.out
                 have hcz279_0 : wr.cell? ⟨gb277, 0, none⟩ = some (.int .i64 x278000_6) := (blk_cell BK277.out 0).trans rfl
                 have hcz279_1 : wr.cell? ⟨gb277, 1, none⟩ = some (.int .i64 x278001_6) := (blk_cell BK277.out 1).trans rfl
                 have hfz279_0 := blk_frozen BK277.out 0
                 have hfz279_1 := blk_frozen BK277.out 1
                 go_wp2
                 go_meet
                 case rel => exact ⟨_, ((x278000_6 == 0)), (by first | rfl | (simp; done) | (simp [*]; done)), H', ⟨by have := HJ5.out; have := HJ12.out; have := HJ87.out; have := HJ111.out; have := HJ257.out; have := HK6.out; first | omega | exact Nat.le_refl _⟩, ⟨by (with_reducible repeat (first | apply Kd.rA | apply Kd.rN | apply Kd.rD)); exact HO_11.out⟩, ⟨by (with_reducible repeat (first | refine bN ?_ _ | refine bD ?_ | refine bA ?_ _)); exact BK263.out⟩, ⟨by (with_reducible repeat (first | refine bN ?_ _ | refine bD ?_ | refine bA ?_ _)); exact BK269.out⟩, ⟨by (with_reducible repeat (first | refine bN ?_ _ | refine bD ?_ | refine bA ?_ _)); exact BK273.out⟩, ⟨by (with_reducible repeat (first | refine bN ?_ _ | refine bD ?_ | refine bA ?_ _)); exact BK276.out⟩, ⟨by (with_reducible repeat (first | refine bN ?_ _ | refine bD ?_ | refine bA ?_ _)); exact BK277.out⟩, ⟨by repeat (first | (with_reducible first | exact HB.out | apply lA | apply lN | apply lD | refine lS ?_ GE263.out | refine lS ?_ GE269.out | refine lS ?_ GE273.out | refine lS ?_ GE276.out | refine lS ?_ GE277.out) | exact HB.out)⟩⟩
               case rest =>
                clear HC273
                obtain ⟨kq, x148_272, rfl, HA, HJ272, HO_11, BK263, BK269, BK273, BK276, BK277, HB⟩ := hcut
                cases kq with
                | zero => exact absurd HA.out (by simp [changeforgelaw3_MergebaseMatchesSpec.j6])
                | succ kj272 =>
                 have H := HA.out
                 clear HA
                 simp only [changeforgelaw3_MergebaseMatchesSpec.j6] at H
                 have HC280 := aZ H
                 clear H
                 go_upto_if 148 with (fail)
                 go_cut [] (fun wc => ∃ (kq : Nat), Aside0 (changeforgelaw3_MergebaseMatchesSpec.j7 kq l0 l3 t264 x17_6 t267 t268 x278000_6 x278001_6 = some r) ∧ Aside0 (kq ≤ kj272) ∧ Aside0 (Kd.R (Kd.int .i64) 3 wc w.heap.size (fun _ => True) v265 t264) ∧ Aside0 (wc.heap[gb263]? = some (.cells #[.int .i64 t261, .int .i64 t262] 26 (0, 0))) ∧ Aside0 (wc.heap[gb269]? = some (.cells #[.int .i64 t267, .int .i64 t268] 26 (0, 0))) ∧ Aside0 (wc.heap[gb273]? = some (.cells #[.int .i64 t271, .int .i64 t272] 26 (0, 0))) ∧ Aside0 (wc.heap[gb276]? = some (.cells #[.int .i64 t274, .int .i64 t275] 26 (0, 0))) ∧ Aside0 (wc.heap[gb277]? = some (.cells #[.int .i64 x278000_6, .int .i64 x278001_6] 26 (0, 0))) ∧ Aside0 (Below w.heap.size w wc))
                 case first =>
                  have H := HC280.out
                  clear HC280
                  by_cases c281 : x148_272 = true
                  · subst c281
                    have H1 : (changeforgelaw3_MergebaseMatchesSpec.j7 kj272 l0 l3 t264 x17_6 t267 t268 x278000_6 x278001_6) = some r := by rw [if_pos rfl] at H; exact H
                    clear H
                    have H := H1
                    clear H1
                    as_aux_lemma =>
                     have H' := aZ H
                     clear H
                     go_wp2
                     go_meet
                     case rel => exact ⟨_, H', ⟨by have := HJ5.out; have := HJ12.out; have := HJ87.out; have := HJ111.out; have := HJ257.out; have := HK6.out; have := HJ272.out; first | omega | exact Nat.le_refl _⟩, ⟨by (with_reducible repeat (first | apply Kd.rA | apply Kd.rN | apply Kd.rD)); exact HO_11.out⟩, ⟨by (with_reducible repeat (first | refine bN ?_ _ | refine bD ?_ | refine bA ?_ _)); exact BK263.out⟩, ⟨by (with_reducible repeat (first | refine bN ?_ _ | refine bD ?_ | refine bA ?_ _)); exact BK269.out⟩, ⟨by (with_reducible repeat (first | refine bN ?_ _ | refine bD ?_ | refine bA ?_ _)); exact BK273.out⟩, ⟨by (with_reducible repeat (first | refine bN ?_ _ | refine bD ?_ | refine bA ?_ _)); exact BK276.out⟩, ⟨by (with_reducible repeat (first | refine bN ?_ _ | refine bD ?_ | refine bA ?_ _)); exact BK277.out⟩, ⟨by repeat (first | (with_reducible first | exact HB.out | apply lA | apply lN | apply lD | refine lS ?_ GE263.out | refine lS ?_ GE269.out | refine lS ?_ GE273.out | refine lS ?_ GE276.out | refine lS ?_ GE277.out) | exact HB.out)⟩⟩
                  replace c281 := Bool.eq_false_iff.mpr c281
                  subst c281
                  have H1 : (changeforgelaw3_MergebaseMatchesSpec.j8 kj272 l0 l3 t264 t267 t268 x278000_6 x278001_6) = some r := by rw [if_neg (show ¬ (false = true) by decide)] at H; exact H
                  clear H
                  have H := H1
                  clear H1
                  as_aux_lemma =>
                   have H' := aZ H
                   clear H
                   go_wp2
                   go_meet
                   case rel => exact ⟨_, (x278000_6), (x278001_6), H', ⟨by have := HJ5.out; have := HJ12.out; have := HJ87.out; have := HJ111.out; have := HJ257.out; have := HK6.out; have := HJ272.out; first | omega | exact Nat.le_refl _⟩, ⟨by (with_reducible repeat (first | apply Kd.rA | apply Kd.rN | apply Kd.rD)); exact HO_11.out⟩, ⟨by (with_reducible repeat (first | refine bN ?_ _ | refine bD ?_ | refine bA ?_ _)); exact BK263.out⟩, ⟨by (with_reducible repeat (first | refine bN ?_ _ | refine bD ?_ | refine bA ?_ _)); exact BK269.out⟩, ⟨by (with_reducible repeat (first | refine bN ?_ _ | refine bD ?_ | refine bA ?_ _)); exact BK273.out⟩, ⟨by (with_reducible repeat (first | refine bN ?_ _ | refine bD ?_ | refine bA ?_ _)); exact BK276.out⟩, ⟨by (with_reducible repeat (first | refine bN ?_ _ | refine bD ?_ | refine bA ?_ _)); exact BK277.out⟩, ⟨by repeat (first | (with_reducible first | exact HB.out | apply lA | apply lN | apply lD | refine lS ?_ GE263.out | refine lS ?_ GE269.out | refine lS ?_ GE273.out | refine lS ?_ GE276.out | refine lS ?_ GE277.out) | exact HB.out)⟩⟩
                 case rest =>
                  clear HC280
                  obtain ⟨kq, HA, HJ279, HO_11, BK263, BK269, BK273, BK276, BK277, HB⟩ := hcut
                  cases kq with
                  | zero => exact absurd HA.out (by simp [changeforgelaw3_MergebaseMatchesSpec.j7])
                  | succ kj279 =>
                   have H := HA.out
                   clear HA
                   simp only [changeforgelaw3_MergebaseMatchesSpec.j7] at H
                   by_cases c282 : 0 ≤ x17_6
                   rotate_left
                   · rw [if_neg c282] at H
                     exact absurd H (by simp)
                   rw [if_pos c282] at H
                   have c282b0 : decide (0 ≤ x17_6) = true := decide_eq_true c282
                   clear c282
                   by_cases c283 : x17_6 < (l3.length : Int)
                   rotate_left
                   · rw [if_neg c283] at H
                     exact absurd H (by simp)
                   rw [if_pos c283] at H
                   have c283b0 : decide (x17_6 < (l3.length : Int)) = true := decide_eq_true c283
                   clear c283
                   replace H := Option.bind_eq_some_iff.mp H
                   obtain ⟨t300, A2840, H⟩ := H
                   replace H : (if t300 = true then (changeforgelaw3_MergebaseMatchesSpec.l0 kj279 l0 l3 t264 (wrap64 (x17_6 + 1)) t267 t268 x278000_6 x278001_6) else ((changeforgeref3_Fault.f 6 x17_6).bind fun bt301 => (changeforgelaw3_MergebaseMatchesSpec.l0 kj279 l0 l3 t264 (wrap64 (x17_6 + 1)) t267 t268 bt301.1 bt301.2))) = some r := H
                   have A284 := aZ A2840
                   clear A2840
                   by_cases c285 : t300 = true
                   · subst c285
                     have H1 : (changeforgelaw3_MergebaseMatchesSpec.l0 kj279 l0 l3 t264 (wrap64 (x17_6 + 1)) t267 t268 x278000_6 x278001_6) = some r := by rw [if_pos rfl] at H; exact H
                     clear H
                     have H := H1
                     clear H1
                     as_aux_lemma =>
                      have H' := aZ H
                      clear H
                      have p299 : 0 ≤ (x17_6 : Int) := of_decide_eq_true (by first | (with_reducible assumption) | assumption)
                      have q299 : x17_6 < (l3.length : Int) := of_decide_eq_true (by first | (with_reducible assumption) | assumption)
                      obtain ⟨ad299, e299, hx299_0⟩ := Kd.at_int HR3.out x17_6 p299 q299
                      cases e299
                      replace hx299_0 := (HB.out.cell (World.block_lt_of_cell? w _ hx299_0)).trans hx299_0
                      replace p299 := eq_true p299
                      replace q299 := eq_true q299
                      go_wp2_with (first | ((with_reducible refine gate_callee (f := 18) rfl ?_); refine goesL_ (some 158) rfl rfl Try.func18 (by kernel_rfl) rfl #[.int .i64 (rd l3 x17_6), .int .i64 0, .int .i64 (wrap64 ((l0.length : Int) - 1))] rfl (by (try simp only [List.map_toArray, List.map_cons, List.map_nil]); first | done | rfl | (simp only [List.length_drop, List.length_take]; rfl)) ?_; (with_reducible refine (changeforgeref3_In.calls (rd l3 x17_6) 0 (wrap64 ((l0.length : Int) - 1)) true _ A284.out).mono ?_); rintro e w' ⟨rfl, ⟨nd, rfl⟩⟩; refine ⟨_, rfl, ?_⟩))
                      go_roundg kj279
                      case measure => have := HJ5.out; have := HJ12.out; have := HJ87.out; have := HJ111.out; have := HJ257.out; have := HK6.out; have := HJ272.out; have := HJ279.out; omega
                      case rel => exact ⟨(wrap64 (x17_6 + 1)), (x278000_6), (x278001_6), (by first | rfl | (simp; done) | (simp [*]; done)), H', ⟨by have := HJ5.out; have := HJ12.out; have := HJ87.out; have := HJ111.out; have := HJ257.out; have := HK6.out; have := HJ272.out; have := HJ279.out; omega⟩, ⟨by (with_reducible repeat (first | apply Kd.rA | apply Kd.rN | apply Kd.rD)); exact HO_11.out⟩, ⟨by (with_reducible repeat (first | refine bN ?_ _ | refine bD ?_ | refine bA ?_ _)); exact BK263.out⟩, ⟨by (with_reducible repeat (first | refine bN ?_ _ | refine bD ?_ | refine bA ?_ _)); exact BK269.out⟩, ⟨by (with_reducible repeat (first | refine bN ?_ _ | refine bD ?_ | refine bA ?_ _)); exact BK273.out⟩, ⟨by (with_reducible repeat (first | refine bN ?_ _ | refine bD ?_ | refine bA ?_ _)); exact BK276.out⟩, ⟨by (with_reducible repeat (first | refine bN ?_ _ | refine bD ?_ | refine bA ?_ _)); exact BK277.out⟩, ⟨by repeat (first | (with_reducible first | exact HB.out | apply lA | apply lN | apply lD | refine lS ?_ GE263.out | refine lS ?_ GE269.out | refine lS ?_ GE273.out | refine lS ?_ GE276.out | refine lS ?_ GE277.out) | exact HB.out)⟩⟩
                   replace c285 := Bool.eq_false_iff.mpr c285
                   subst c285
                   have H1 : ((changeforgeref3_Fault.f 6 x17_6).bind fun bt301 => (changeforgelaw3_MergebaseMatchesSpec.l0 kj279 l0 l3 t264 (wrap64 (x17_6 + 1)) t267 t268 bt301.1 bt301.2)) = some r := by rw [if_neg (show ¬ (false = true) by decide)] at H; exact H
                   clear H
                   have H := H1
                   clear H1
                   replace H := Option.bind_eq_some_iff.mp H
                   obtain ⟨⟨t301, t302⟩, A2860, H⟩ := H
                   replace H : (changeforgelaw3_MergebaseMatchesSpec.l0 kj279 l0 l3 t264 (wrap64 (x17_6 + 1)) t267 t268 t301 t302) = some r := H
                   have A286 := aZ A2860
                   clear A2860
                   as_aux_lemma =>
                    have H' := aZ H
                    clear H
                    have p299 : 0 ≤ (x17_6 : Int) := of_decide_eq_true (by first | (with_reducible assumption) | assumption)
                    have q299 : x17_6 < (l3.length : Int) := of_decide_eq_true (by first | (with_reducible assumption) | assumption)
                    obtain ⟨ad299, e299, hx299_0⟩ := Kd.at_int HR3.out x17_6 p299 q299
                    cases e299
                    replace hx299_0 := (HB.out.cell (World.block_lt_of_cell? w _ hx299_0)).trans hx299_0
                    replace p299 := eq_true p299
                    replace q299 := eq_true q299
                    go_wp2_with (first | ((with_reducible refine gate_callee (f := 18) rfl ?_); refine goesL_ (some 158) rfl rfl Try.func18 (by kernel_rfl) rfl #[.int .i64 (rd l3 x17_6), .int .i64 0, .int .i64 (wrap64 ((l0.length : Int) - 1))] rfl (by (try simp only [List.map_toArray, List.map_cons, List.map_nil]); first | done | rfl | (simp only [List.length_drop, List.length_take]; rfl)) ?_; (with_reducible refine (changeforgeref3_In.calls (rd l3 x17_6) 0 (wrap64 ((l0.length : Int) - 1)) false _ A284.out).mono ?_); rintro e w' ⟨rfl, ⟨nd, rfl⟩⟩; refine ⟨_, rfl, ?_⟩; (try (rw [drewN_self wc]; generalize hq_ : World.drewN wc _ = wc; have n0_ : Aside0 (Kd.R (Kd.int .i64) 3 wc w.heap.size (fun _ => True) v265 t264) := ⟨by rw [← hq_]; exact (by (with_reducible repeat (first | apply Kd.rA | apply Kd.rN | apply Kd.rD)); exact HO_11.out)⟩; have n1_ : Aside0 (wc.heap[gb263]? = some (.cells #[.int .i64 t261, .int .i64 t262] 26 (0, 0))) := ⟨by rw [← hq_]; exact (by (with_reducible repeat (first | refine bN ?_ _ | refine bD ?_ | refine bA ?_ _)); exact BK263.out)⟩; have n2_ : Aside0 (wc.heap[gb269]? = some (.cells #[.int .i64 t267, .int .i64 t268] 26 (0, 0))) := ⟨by rw [← hq_]; exact (by (with_reducible repeat (first | refine bN ?_ _ | refine bD ?_ | refine bA ?_ _)); exact BK269.out)⟩; have n3_ : Aside0 (wc.heap[gb273]? = some (.cells #[.int .i64 t271, .int .i64 t272] 26 (0, 0))) := ⟨by rw [← hq_]; exact (by (with_reducible repeat (first | refine bN ?_ _ | refine bD ?_ | refine bA ?_ _)); exact BK273.out)⟩; have n4_ : Aside0 (wc.heap[gb276]? = some (.cells #[.int .i64 t274, .int .i64 t275] 26 (0, 0))) := ⟨by rw [← hq_]; exact (by (with_reducible repeat (first | refine bN ?_ _ | refine bD ?_ | refine bA ?_ _)); exact BK276.out)⟩; have n5_ : Aside0 (wc.heap[gb277]? = some (.cells #[.int .i64 x278000_6, .int .i64 x278001_6] 26 (0, 0))) := ⟨by rw [← hq_]; exact (by (with_reducible repeat (first | refine bN ?_ _ | refine bD ?_ | refine bA ?_ _)); exact BK277.out)⟩; have n6_ : Aside0 (Below w.heap.size w wc) := ⟨by rw [← hq_]; exact (by repeat (first | (with_reducible first | exact HB.out | apply lA | apply lN | apply lD | refine lS ?_ GE263.out | refine lS ?_ GE269.out | refine lS ?_ GE273.out | refine lS ?_ GE276.out | refine lS ?_ GE277.out) | exact HB.out))⟩; clear HO_11 BK263 BK269 BK273 BK276 BK277 HB hq_; have HO_11 := n0_; have BK263 := n1_; have BK269 := n2_; have BK273 := n3_; have BK276 := n4_; have BK277 := n5_; have HB := n6_; clear n0_ n1_ n2_ n3_ n4_ n5_ n6_))) | ((with_reducible refine gate_callee (f := 19) rfl ?_); refine goesL_ (some 161) rfl rfl Try.func19 (by kernel_rfl) rfl #[.int .i64 6, .int .i64 x17_6] rfl (by (try simp only [List.map_toArray, List.map_cons, List.map_nil]); first | done | rfl | (simp only [List.length_drop, List.length_take]; rfl)) ?_; (with_reducible refine (changeforgeref3_Fault.calls 6 x17_6 t301 t302 _ A286.out).mono ?_); rintro e w287 ⟨rfl, hb⟩; refine ⟨_, rfl, ?_⟩; have n0_ := aZ (Kd.R_below (by (with_reducible repeat (first | apply Kd.rA | apply Kd.rN | apply Kd.rD)); exact HO_11.out) hb); have n1_ := aZ (blk_below (g := gb263) (o := .cells #[.int .i64 t261, .int .i64 t262] 26 (0, 0)) (by (with_reducible repeat (first | refine bN ?_ _ | refine bD ?_ | refine bA ?_ _)); exact BK263.out) hb); have n2_ := aZ (blk_below (g := gb269) (o := .cells #[.int .i64 t267, .int .i64 t268] 26 (0, 0)) (by (with_reducible repeat (first | refine bN ?_ _ | refine bD ?_ | refine bA ?_ _)); exact BK269.out) hb); have n3_ := aZ (blk_below (g := gb273) (o := .cells #[.int .i64 t271, .int .i64 t272] 26 (0, 0)) (by (with_reducible repeat (first | refine bN ?_ _ | refine bD ?_ | refine bA ?_ _)); exact BK273.out) hb); have n4_ := aZ (blk_below (g := gb276) (o := .cells #[.int .i64 t274, .int .i64 t275] 26 (0, 0)) (by (with_reducible repeat (first | refine bN ?_ _ | refine bD ?_ | refine bA ?_ _)); exact BK276.out) hb); have n5_ := aZ (blk_below (g := gb277) (o := .cells #[.int .i64 x278000_6, .int .i64 x278001_6] 26 (0, 0)) (by (with_reducible repeat (first | refine bN ?_ _ | refine bD ?_ | refine bA ?_ _)); exact BK277.out) hb); have n6_ := aZ (lT (by repeat (first | (with_reducible first | exact HB.out | apply lA | apply lN | apply lD | refine lS ?_ GE263.out | refine lS ?_ GE269.out | refine lS ?_ GE273.out | refine lS ?_ GE276.out | refine lS ?_ GE277.out) | exact HB.out)) hb); clear HO_11; clear BK263; clear BK269; clear BK273; clear BK276; clear BK277; clear HB; have HO_11 := n0_; have BK263 := n1_; have BK269 := n2_; have BK273 := n3_; have BK276 := n4_; have BK277 := n5_; have HB := n6_; clear n0_ n1_ n2_ n3_ n4_ n5_ n6_; (try clear hb); (try clear hb2); (try clear hk); (try clear hi); have hnb288 := NB277_263.out; have hnc288 := NB263_277.out; have hnb289 := NB277_269.out; have hnc289 := NB269_277.out; have hnb290 := NB277_273.out; have hnc290 := NB273_277.out; have hnb291 := NB277_276.out; have hnc291 := NB276_277.out; have hcz292_0 : w287.cell? ⟨gb277, 0, none⟩ = some (.int .i64 x278000_6) := (blk_cell BK277.out 0).trans rfl; have hcz292_1 : w287.cell? ⟨gb277, 1, none⟩ = some (.int .i64 x278001_6) := (blk_cell BK277.out 1).trans rfl; have hfz292_0 := blk_frozen BK277.out 0; have hfz292_1 := blk_frozen BK277.out 1))
                    go_roundg kj279
                    case measure => have := HJ5.out; have := HJ12.out; have := HJ87.out; have := HJ111.out; have := HJ257.out; have := HK6.out; have := HJ272.out; have := HJ279.out; omega
                    case rel => exact ⟨(wrap64 (x17_6 + 1)), (t301), (t302), (by first | rfl | (simp; done) | (simp [*]; done)), H', ⟨by have := HJ5.out; have := HJ12.out; have := HJ87.out; have := HJ111.out; have := HJ257.out; have := HK6.out; have := HJ272.out; have := HJ279.out; omega⟩, ⟨by (with_reducible repeat (first | apply Kd.rA | apply Kd.rN | apply Kd.rD)); exact Kd.R_mono (Kd.R_far (p := ⟨gb277, 1, none⟩) (Kd.R_far (p := ⟨gb277, 0, none⟩) (Kd.R_types HO_11.out BK277.out (by decide)) (fun _ hk => hk.2) (.int .i64 t301)) (fun _ hk => hk.2) (.int .i64 t302)) (fun _ hk => trivial)⟩, ⟨by (with_reducible repeat (first | refine bN ?_ _ | refine bD ?_ | refine bA ?_ _)); refine blk_far ?_ NB263_277.out _; (with_reducible repeat (first | refine bN ?_ _ | refine bD ?_ | refine bA ?_ _)); refine blk_far ?_ NB263_277.out _; (with_reducible repeat (first | refine bN ?_ _ | refine bD ?_ | refine bA ?_ _)); exact BK263.out⟩, ⟨by (with_reducible repeat (first | refine bN ?_ _ | refine bD ?_ | refine bA ?_ _)); refine blk_far ?_ NB269_277.out _; (with_reducible repeat (first | refine bN ?_ _ | refine bD ?_ | refine bA ?_ _)); refine blk_far ?_ NB269_277.out _; (with_reducible repeat (first | refine bN ?_ _ | refine bD ?_ | refine bA ?_ _)); exact BK269.out⟩, ⟨by (with_reducible repeat (first | refine bN ?_ _ | refine bD ?_ | refine bA ?_ _)); refine blk_far ?_ NB273_277.out _; (with_reducible repeat (first | refine bN ?_ _ | refine bD ?_ | refine bA ?_ _)); refine blk_far ?_ NB273_277.out _; (with_reducible repeat (first | refine bN ?_ _ | refine bD ?_ | refine bA ?_ _)); exact BK273.out⟩, ⟨by (with_reducible repeat (first | refine bN ?_ _ | refine bD ?_ | refine bA ?_ _)); refine blk_far ?_ NB276_277.out _; (with_reducible repeat (first | refine bN ?_ _ | refine bD ?_ | refine bA ?_ _)); refine blk_far ?_ NB276_277.out _; (with_reducible repeat (first | refine bN ?_ _ | refine bD ?_ | refine bA ?_ _)); exact BK276.out⟩, ⟨by (with_reducible repeat (first | refine bN ?_ _ | refine bD ?_ | refine bA ?_ _)); refine blk_put (cs := #[.int .i64 t301, .int .i64 x278001_6]) ?_ 1 _ rfl; (with_reducible repeat (first | refine bN ?_ _ | refine bD ?_ | refine bA ?_ _)); refine blk_put (cs := #[.int .i64 x278000_6, .int .i64 x278001_6]) ?_ 0 _ rfl; (with_reducible repeat (first | refine bN ?_ _ | refine bD ?_ | refine bA ?_ _)); exact BK277.out⟩, ⟨by repeat (first | (with_reducible first | exact HB.out | apply lA | apply lN | apply lD | refine lS ?_ GE263.out | refine lS ?_ GE269.out | refine lS ?_ GE273.out | refine lS ?_ GE276.out | refine lS ?_ GE277.out) | exact HB.out)⟩⟩
            case rest =>
             clear HC272
             obtain ⟨kq, x278000_271, x278001_271, HA, HJ271, HO_11, BK263, BK269, BK273, BK276, BK277, HB⟩ := hcut
             cases kq with
             | zero => exact absurd HA.out (by simp [changeforgelaw3_MergebaseMatchesSpec.j8])
             | succ kj271 =>
              have H := HA.out
              clear HA
              simp only [changeforgelaw3_MergebaseMatchesSpec.j8] at H
              by_cases c293 : x278000_271 = 0
              rotate_left
              · rw [if_neg c293] at H
                have c293b0 : (x278000_271 == 0) = false := beq_eq_false_iff_ne.mpr c293
                have c293b1 : (x278000_271 != 0) = true := bne_iff_ne.mpr c293
                by_cases c318 : (t267 == x278000_271 && (t268 == x278001_271)) = true
                · rw [if_pos c318] at H
                  have c318b0 : (t267 == x278000_271 && (t268 == x278001_271)) = true := c318
                  (try (have c318b1 : decide (t267 = x278000_271 && (t268 == x278001_271)) = true := by simpa using c318))
                  (try (have c318b2 : (t267 == x278000_271 && (t268 == x278001_271)) = true := by simpa using c318))
                  clear c318
                  as_aux_lemma =>
                   obtain rfl := Option.some.inj H
                   have hnb319 := NB277_263.out
                   have hnc319 := NB263_277.out
                   have hnb320 := NB277_269.out
                   have hnc320 := NB269_277.out
                   have hnb321 := NB277_273.out
                   have hnc321 := NB273_277.out
                   have hnb322 := NB277_276.out
                   have hnc322 := NB276_277.out
                   have hcz323_0 : wc.cell? ⟨gb277, 0, none⟩ = some (.int .i64 x278000_271) := (blk_cell BK277.out 0).trans rfl
                   have hcz323_1 : wc.cell? ⟨gb277, 1, none⟩ = some (.int .i64 x278001_271) := (blk_cell BK277.out 1).trans rfl
                   have hfz323_0 := blk_frozen BK277.out 0
                   have hfz323_1 := blk_frozen BK277.out 1
                   have hnb324 := NB269_263.out
                   have hnc324 := NB263_269.out
                   have hnb325 := NB269_273.out
                   have hnc325 := NB273_269.out
                   have hnb326 := NB269_276.out
                   have hnc326 := NB276_269.out
                   have hcz327_0 : wc.cell? ⟨gb269, 0, none⟩ = some (.int .i64 t267) := (blk_cell BK269.out 0).trans rfl
                   have hcz327_1 : wc.cell? ⟨gb269, 1, none⟩ = some (.int .i64 t268) := (blk_cell BK269.out 1).trans rfl
                   have hfz327_0 := blk_frozen BK269.out 0
                   have hfz327_1 := blk_frozen BK269.out 1
                   obtain ⟨Ao328, co328, eo328⟩ := Kd.R_slice HO_11.out
                   subst eo328
                   go_wp2
                   go_ret
                   exact ⟨by first | rfl | (simp [errW_none, errW_some] <;> rfl) | (simp [*, errW_none, errW_some] <;> rfl), by repeat (first | (with_reducible first | exact HB.out | apply lA | apply lN | apply lD | refine lS ?_ GE263.out | refine lS ?_ GE269.out | refine lS ?_ GE273.out | refine lS ?_ GE276.out | refine lS ?_ GE277.out) | exact HB.out)⟩
                rw [if_neg c318] at H
                have c318b0 : (t267 == x278000_271 && (t268 == x278001_271)) = false := by simpa using c318
                (try (have c318b1 : decide (t267 = x278000_271 && (t268 == x278001_271)) = false := by simpa using c318))
                (try (have c318b2 : (t267 == x278000_271 && (t268 == x278001_271)) = false := by simpa using c318))
                (try (have c318b3 : ¬ (t267 = x278000_271 && (t268 == x278001_271)) := by simpa using c318))
                clear c318
                as_aux_lemma =>
                 obtain rfl := Option.some.inj H
                 have hnb329 := NB277_263.out
                 have hnc329 := NB263_277.out
                 have hnb330 := NB277_269.out
                 have hnc330 := NB269_277.out
                 have hnb331 := NB277_273.out
                 have hnc331 := NB273_277.out
                 have hnb332 := NB277_276.out
                 have hnc332 := NB276_277.out
                 have hcz333_0 : wc.cell? ⟨gb277, 0, none⟩ = some (.int .i64 x278000_271) := (blk_cell BK277.out 0).trans rfl
                 have hcz333_1 : wc.cell? ⟨gb277, 1, none⟩ = some (.int .i64 x278001_271) := (blk_cell BK277.out 1).trans rfl
                 have hfz333_0 := blk_frozen BK277.out 0
                 have hfz333_1 := blk_frozen BK277.out 1
                 have hnb334 := NB269_263.out
                 have hnc334 := NB263_269.out
                 have hnb335 := NB269_273.out
                 have hnc335 := NB273_269.out
                 have hnb336 := NB269_276.out
                 have hnc336 := NB276_269.out
                 have hcz337_0 : wc.cell? ⟨gb269, 0, none⟩ = some (.int .i64 t267) := (blk_cell BK269.out 0).trans rfl
                 have hcz337_1 : wc.cell? ⟨gb269, 1, none⟩ = some (.int .i64 t268) := (blk_cell BK269.out 1).trans rfl
                 have hfz337_0 := blk_frozen BK269.out 0
                 have hfz337_1 := blk_frozen BK269.out 1
                 go_wp2
                 go_ret
                 exact ⟨by first | rfl | (simp [errW_none, errW_some] <;> rfl) | (simp [*, errW_none, errW_some] <;> rfl), by repeat (first | (with_reducible first | exact HB.out | apply lA | apply lN | apply lD | refine lS ?_ GE263.out | refine lS ?_ GE269.out | refine lS ?_ GE273.out | refine lS ?_ GE276.out | refine lS ?_ GE277.out) | exact HB.out)⟩

              rw [if_pos c293] at H
              have c293b0 : (x278000_271 == 0) = true := beq_iff_eq.mpr c293
              have c293b1 : (x278000_271 != 0) = false := bne_eq_false_iff_eq.mpr c293
              clear c293
              by_cases c294 : t267 = 0
              rotate_left
              · rw [if_neg c294] at H
                have c294b0 : (t267 == 0) = false := beq_eq_false_iff_ne.mpr c294
                have c294b1 : (t267 != 0) = true := bne_iff_ne.mpr c294
                as_aux_lemma =>
                 obtain rfl := Option.some.inj H
                 have hnb309 := NB277_263.out
                 have hnc309 := NB263_277.out
                 have hnb310 := NB277_269.out
                 have hnc310 := NB269_277.out
                 have hnb311 := NB277_273.out
                 have hnc311 := NB273_277.out
                 have hnb312 := NB277_276.out
                 have hnc312 := NB276_277.out
                 have hcz313_0 : wc.cell? ⟨gb277, 0, none⟩ = some (.int .i64 x278000_271) := (blk_cell BK277.out 0).trans rfl
                 have hcz313_1 : wc.cell? ⟨gb277, 1, none⟩ = some (.int .i64 x278001_271) := (blk_cell BK277.out 1).trans rfl
                 have hfz313_0 := blk_frozen BK277.out 0
                 have hfz313_1 := blk_frozen BK277.out 1
                 have hnb314 := NB269_263.out
                 have hnc314 := NB263_269.out
                 have hnb315 := NB269_273.out
                 have hnc315 := NB273_269.out
                 have hnb316 := NB269_276.out
                 have hnc316 := NB276_269.out
                 have hcz317_0 : wc.cell? ⟨gb269, 0, none⟩ = some (.int .i64 t267) := (blk_cell BK269.out 0).trans rfl
                 have hcz317_1 : wc.cell? ⟨gb269, 1, none⟩ = some (.int .i64 t268) := (blk_cell BK269.out 1).trans rfl
                 have hfz317_0 := blk_frozen BK269.out 0
                 have hfz317_1 := blk_frozen BK269.out 1
                 go_wp2
                 go_ret
                 exact ⟨by first | rfl | (simp [errW_none, errW_some] <;> rfl) | (simp [*, errW_none, errW_some] <;> rfl), by repeat (first | (with_reducible first | exact HB.out | apply lA | apply lN | apply lD | refine lS ?_ GE263.out | refine lS ?_ GE269.out | refine lS ?_ GE273.out | refine lS ?_ GE276.out | refine lS ?_ GE277.out) | exact HB.out)⟩
              rw [if_pos c294] at H
              have c294b0 : (t267 == 0) = true := beq_iff_eq.mpr c294
              have c294b1 : (t267 != 0) = false := bne_eq_false_iff_eq.mpr c294
              clear c294
              replace H := Option.bind_eq_some_iff.mp H
              obtain ⟨t303, A2950, H⟩ := H
              replace H : ((changeforgeref3_Ints.f kj271 t264 t303).bind fun t306 => (some t306)) = some r := H
              have A295 := aZ A2950
              clear A2950
              replace H := Option.bind_eq_some_iff.mp H
              obtain ⟨t306, A2960, H⟩ := H
              replace H : (some t306) = some r := H
              have A296 := aZ A2960
              clear A2960
              as_aux_lemma =>
               obtain rfl := Option.some.inj H
               have hnb297 := NB277_263.out
               have hnc297 := NB263_277.out
               have hnb298 := NB277_269.out
               have hnc298 := NB269_277.out
               have hnb299 := NB277_273.out
               have hnc299 := NB273_277.out
               have hnb300 := NB277_276.out
               have hnc300 := NB276_277.out
               have hcz301_0 : wc.cell? ⟨gb277, 0, none⟩ = some (.int .i64 x278000_271) := (blk_cell BK277.out 0).trans rfl
               have hcz301_1 : wc.cell? ⟨gb277, 1, none⟩ = some (.int .i64 x278001_271) := (blk_cell BK277.out 1).trans rfl
               have hfz301_0 := blk_frozen BK277.out 0
               have hfz301_1 := blk_frozen BK277.out 1
               have hnb302 := NB269_263.out
               have hnc302 := NB263_269.out
               have hnb303 := NB269_273.out
               have hnc303 := NB273_269.out
               have hnb304 := NB269_276.out
               have hnc304 := NB276_269.out
               have hcz305_0 : wc.cell? ⟨gb269, 0, none⟩ = some (.int .i64 t267) := (blk_cell BK269.out 0).trans rfl
               have hcz305_1 : wc.cell? ⟨gb269, 1, none⟩ = some (.int .i64 t268) := (blk_cell BK269.out 1).trans rfl
               have hfz305_0 := blk_frozen BK269.out 0
               have hfz305_1 := blk_frozen BK269.out 1
               go_wp2_with (first | (go_at_call 21; (with_reducible refine (changeforgeref3_BestOf.calls kj271 _ _ l0 _ _ l3 t303 _ ?side1 ?side2 ?side3 ?side4 A295.out).mono ?_); (case side1 => repeat (first | exact (Kd.C_below HR0.out HB.out) | (with_reducible refine Kd.C_alloc ?_ _) | (with_reducible refine Kd.C_drewN ?_ _) | (with_reducible refine Kd.C_drew ?_))); (case side2 => exact HC0.out); (case side3 => repeat (first | exact (Kd.C_below HR3.out HB.out) | (with_reducible refine Kd.C_alloc ?_ _) | (with_reducible refine Kd.C_drewN ?_ _) | (with_reducible refine Kd.C_drew ?_))); (case side4 => exact HC3.out); rintro e w306 ⟨v304, rfl, ho0, hb⟩; have n0_ := aZ (Kd.R_elder' (by (with_reducible repeat (first | apply Kd.rA | apply Kd.rN | apply Kd.rD)); exact HO_11.out) (Kd.R_base ho0) hb); have n1_ := aZ (Kd.R_lower (Kd.R_new' ho0 (Kd.R_lt (by (with_reducible repeat (first | apply Kd.rA | apply Kd.rN | apply Kd.rD)); exact HO_11.out))) (lZ (by repeat (first | (with_reducible first | exact HB.out | apply lA | apply lN | apply lD | refine lS ?_ GE263.out | refine lS ?_ GE269.out | refine lS ?_ GE273.out | refine lS ?_ GE276.out | refine lS ?_ GE277.out) | exact HB.out)))); have n2_ := aZ (blk_below (g := gb263) (o := .cells #[.int .i64 t261, .int .i64 t262] 26 (0, 0)) (by (with_reducible repeat (first | refine bN ?_ _ | refine bD ?_ | refine bA ?_ _)); exact BK263.out) hb); have n3_ := aZ (blk_below (g := gb269) (o := .cells #[.int .i64 t267, .int .i64 t268] 26 (0, 0)) (by (with_reducible repeat (first | refine bN ?_ _ | refine bD ?_ | refine bA ?_ _)); exact BK269.out) hb); have n4_ := aZ (blk_below (g := gb273) (o := .cells #[.int .i64 t271, .int .i64 t272] 26 (0, 0)) (by (with_reducible repeat (first | refine bN ?_ _ | refine bD ?_ | refine bA ?_ _)); exact BK273.out) hb); have n5_ := aZ (blk_below (g := gb276) (o := .cells #[.int .i64 t274, .int .i64 t275] 26 (0, 0)) (by (with_reducible repeat (first | refine bN ?_ _ | refine bD ?_ | refine bA ?_ _)); exact BK276.out) hb); have n6_ := aZ (blk_below (g := gb277) (o := .cells #[.int .i64 x278000_271, .int .i64 x278001_271] 26 (0, 0)) (by (with_reducible repeat (first | refine bN ?_ _ | refine bD ?_ | refine bA ?_ _)); exact BK277.out) hb); have n7_ := aZ (lT (by repeat (first | (with_reducible first | exact HB.out | apply lA | apply lN | apply lD | refine lS ?_ GE263.out | refine lS ?_ GE269.out | refine lS ?_ GE273.out | refine lS ?_ GE276.out | refine lS ?_ GE277.out) | exact HB.out)) hb); clear HO_11; clear BK263; clear BK269; clear BK273; clear BK276; clear BK277; clear HB; have HO_11 := n0_; have HO305 := n1_; have BK263 := n2_; have BK269 := n3_; have BK273 := n4_; have BK276 := n5_; have BK277 := n6_; have HB := n7_; clear n0_ n1_ n2_ n3_ n4_ n5_ n6_ n7_; (try clear hb); (try clear hb2); (try clear hk); (try clear hi); (try clear ho0); obtain ⟨Ao307, co307, eo307⟩ := Kd.R_slice HO_11.out; subst eo307; obtain ⟨Ao308, co308, eo308⟩ := Kd.R_slice HO305.out; subst eo308) | (go_at_call 20; (with_reducible refine (changeforgeref3_Ints.calls kj271 _ _ t264 _ _ t303 t306 _ ?side1 ?side2 ?side3 ?side4 A296.out).mono ?_); (case side1 => repeat (first | exact (Kd.R_reads' HO_11.out).2.2 | (with_reducible refine Kd.C_alloc ?_ _) | (with_reducible refine Kd.C_drewN ?_ _) | (with_reducible refine Kd.C_drew ?_))); (case side2 => exact (Kd.R_reads' HO_11.out).2.1); (case side3 => repeat (first | exact (Kd.R_reads' HO305.out).2.2 | (with_reducible refine Kd.C_alloc ?_ _) | (with_reducible refine Kd.C_drewN ?_ _) | (with_reducible refine Kd.C_drew ?_))); (case side4 => exact (Kd.R_reads' HO305.out).2.1); rintro e w' ⟨rfl, ⟨nd, rfl⟩⟩))
               go_ret
               exact ⟨by first | rfl | (simp [errW_none, errW_some] <;> rfl) | (simp [*, errW_none, errW_some] <;> rfl), by repeat (first | (with_reducible first | exact HB.out | apply lA | apply lN | apply lD | refine lS ?_ GE263.out | refine lS ?_ GE269.out | refine lS ?_ GE273.out | refine lS ?_ GE276.out | refine lS ?_ GE277.out) | exact HB.out)⟩
/-- THE PURE STATEMENT of changeforgelaw3_MergebaseMatchesSpec. -/
def changeforgelaw3_MergebaseMatchesSpec.Pure : Prop := ∀ (l0 : List (S49)) (a1 : Int) (a2 : Int) (l3 : List Int), (l0.length * 64 ≤ 140737488351232 ∧ ∀ x_ ∈ l0, S49.ok x_) → (Lit.int .i64 a1).wf = true → (Lit.int .i64 a2).wf = true → (l3.length * 8 ≤ 140737488351232 ∧ ∀ x_ ∈ l3, (Lit.int .i64 x_).wf = true) → ∃ k, changeforgelaw3_MergebaseMatchesSpec.f k l0 a1 a2 l3 = some true

end Go.Proofs.Ytojhnjgnpjoacaa.P
