/- What the Go functions of this seat compute, and that they do: printed by a program over the kit's print. -/
import Derived.Test.YtgmpnghgmcgghaaP0
namespace Go.Proofs.Ytgmpnghgmcgghaa.P
open Go.RowKit Go.Proofs.YtgmpnghgmcgghaaW.PrintWords Go.Proofs.YtgmpnghgmcgghaaW.PrintLast Go.Proofs.YtgmpnghgmcgghaaW.PrintMore
attribute [local go_sem] max2_int min2_int max_two min_two max_three min_three max_four min_four   -- for this text's walks alone
set_option linter.unusedVariables false
set_option linter.unusedSimpArgs false

/-! ### changeforgeref3_EncodeDelta: function 14 -/
mutual
def changeforgeref3_EncodeDelta.l0 : Nat → List Int → List Int → List Int → List Int → List Int → Int → Option ((List (S37)))
  | 0, _, _, _, _, _, _ => none
  | k + 1, x0, x1, x5, x6, x7, x8 => if x8 ≥ 0 then (if 0 ≤ (wrap64 ((x0.length : Int) + 1)) then (if (wrap64 ((x0.length : Int) + 1) : Int).toNat ≤ 35184372088832 then (changeforgeref3_EncodeDelta.l1 k x0 x1 x5 x6 x7 x8 (List.replicate (wrap64 ((x0.length : Int) + 1) : Int).toNat 0) (wrap64 ((x0.length : Int) - 1))) else (none)) else (none)) else (changeforgeref3_EncodeDelta.l2 k x1 x5 x6 ([] : List (S37)) false 0)
def changeforgeref3_EncodeDelta.l1 : Nat → List Int → List Int → List Int → List Int → List Int → Int → List Int → Int → Option ((List (S37)))
  | 0, _, _, _, _, _, _, _, _ => none
  | k + 1, x0, x1, x5, x6, x7, x8, x9, x10 => if x10 ≥ 0 then (if 0 ≤ x10 then (if x10 < (x0.length : Int) then (if 0 ≤ x8 then (if x8 < (x1.length : Int) then (if (rd x0 x10) = (rd x1 x8) then (if 0 ≤ (wrap64 (x10 + 1)) then (if (wrap64 (x10 + 1)) < (x7.length : Int) then (if x10 < (x9.length : Int) then ((some (x9.set (x10 : Int).toNat (wrap64 ((rd x7 (wrap64 (x10 + 1))) + 1)) : List Int)).bind fun y212 => (if (rd y212 x10) > 0 then (if x8 < (x5.length : Int) then (if (rd y212 x10) ≥ (rd x5 x8) then (if x8 < (x6.length : Int) then (changeforgeref3_EncodeDelta.l1 k x0 x1 (x5.set (x8 : Int).toNat (rd y212 x10)) (x6.set (x8 : Int).toNat x10) x7 x8 y212 (wrap64 (x10 - 1))) else (none)) else (changeforgeref3_EncodeDelta.l1 k x0 x1 x5 x6 x7 x8 y212 (wrap64 (x10 - 1)))) else (none)) else (changeforgeref3_EncodeDelta.l1 k x0 x1 x5 x6 x7 x8 y212 (wrap64 (x10 - 1))))) else (none)) else (none)) else (none)) else (if x10 < (x9.length : Int) then (if (rd x9 x10) > 0 then (if x8 < (x5.length : Int) then (if (rd x9 x10) ≥ (rd x5 x8) then (if x8 < (x6.length : Int) then (changeforgeref3_EncodeDelta.l1 k x0 x1 (x5.set (x8 : Int).toNat (rd x9 x10)) (x6.set (x8 : Int).toNat x10) x7 x8 x9 (wrap64 (x10 - 1))) else (none)) else (changeforgeref3_EncodeDelta.l1 k x0 x1 x5 x6 x7 x8 x9 (wrap64 (x10 - 1)))) else (none)) else (changeforgeref3_EncodeDelta.l1 k x0 x1 x5 x6 x7 x8 x9 (wrap64 (x10 - 1)))) else (none))) else (none)) else (none)) else (none)) else (none)) else (changeforgeref3_EncodeDelta.l0 k x0 x1 x5 x6 x9 (wrap64 (x8 - 1)))
def changeforgeref3_EncodeDelta.l2 : Nat → List Int → List Int → List Int → List (S37) → Bool → Int → Option ((List (S37)))
  | 0, _, _, _, _, _, _ => none
  | k + 1, x1, x5, x6, x11, x12, x13 => if x13 < (x1.length : Int) then (if 0 ≤ x13 then (if x13 < (x5.length : Int) then (if (rd x5 x13) ≥ 4 then (if x13 < (x6.length : Int) then (if x11.length < 3518437208883 then (changeforgeref3_EncodeDelta.l2 k x1 x5 x6 (x11 ++ [(⟨rd x6 x13, rd x5 x13, ([] : List Int)⟩ : S37)]) false (wrap64 (x13 + (rd x5 x13)))) else (none)) else (none)) else (if x12 = true then (if 0 ≤ (wrap64 ((x11.length : Int) - 1)) then (if (wrap64 ((x11.length : Int) - 1)) < (x11.length : Int) then (if ((rd_T37 x11 (wrap64 ((x11.length : Int) - 1))).f2).length < 140737488355328 then (changeforgeref3_EncodeDelta.l2 k x1 x5 x6 (x11.set ((wrap64 ((x11.length : Int) - 1)) : Int).toNat (⟨(rd_T37 x11 (wrap64 ((x11.length : Int) - 1))).f0, (rd_T37 x11 (wrap64 ((x11.length : Int) - 1))).f1, (((rd_T37 x11 (wrap64 ((x11.length : Int) - 1))).f2) ++ [rd x1 x13])⟩ : S37)) true (wrap64 (x13 + 1))) else (none)) else (none)) else (none)) else (if x11.length < 3518437208883 then ((some (x11 ++ [(⟨0, 0, ([] : List Int)⟩ : S37)] : List (S37))).bind fun y238 => (if 0 ≤ (wrap64 ((y238.length : Int) - 1)) then (if (wrap64 ((y238.length : Int) - 1)) < (y238.length : Int) then (if ((rd_T37 y238 (wrap64 ((y238.length : Int) - 1))).f2).length < 140737488355328 then (changeforgeref3_EncodeDelta.l2 k x1 x5 x6 (y238.set ((wrap64 ((y238.length : Int) - 1)) : Int).toNat (⟨(rd_T37 y238 (wrap64 ((y238.length : Int) - 1))).f0, (rd_T37 y238 (wrap64 ((y238.length : Int) - 1))).f1, (((rd_T37 y238 (wrap64 ((y238.length : Int) - 1))).f2) ++ [rd x1 x13])⟩ : S37)) true (wrap64 (x13 + 1))) else (none)) else (none)) else (none))) else (none)))) else (none)) else (none)) else (some x11)
end
def changeforgeref3_EncodeDelta.f (k : Nat) (l0 : List Int) (l1 : List Int) : Option ((List (S37))) := if 0 ≤ (wrap64 ((l1.length : Int) + 1)) then (if (wrap64 ((l1.length : Int) + 1) : Int).toNat ≤ 35184372088832 then (if 0 ≤ (wrap64 ((l0.length : Int) + 1)) then (if (wrap64 ((l0.length : Int) + 1) : Int).toNat ≤ 35184372088832 then (changeforgeref3_EncodeDelta.l0 k l0 l1 (List.replicate (wrap64 ((l1.length : Int) + 1) : Int).toNat 0) (List.replicate (wrap64 ((l1.length : Int) + 1) : Int).toNat 0) (List.replicate (wrap64 ((l0.length : Int) + 1) : Int).toNat 0) (wrap64 ((l1.length : Int) - 1))) else (none)) else (none)) else (none)) else (none)
theorem changeforgeref3_EncodeDelta.mono_l : ∀ k, (∀ y0 y1 y2 y3 y4 y5, LeO (changeforgeref3_EncodeDelta.l0 k y0 y1 y2 y3 y4 y5) (changeforgeref3_EncodeDelta.l0 (k + 1) y0 y1 y2 y3 y4 y5)) ∧ (∀ y0 y1 y2 y3 y4 y5 y6 y7, LeO (changeforgeref3_EncodeDelta.l1 k y0 y1 y2 y3 y4 y5 y6 y7) (changeforgeref3_EncodeDelta.l1 (k + 1) y0 y1 y2 y3 y4 y5 y6 y7)) ∧ (∀ y0 y1 y2 y3 y4 y5, LeO (changeforgeref3_EncodeDelta.l2 k y0 y1 y2 y3 y4 y5) (changeforgeref3_EncodeDelta.l2 (k + 1) y0 y1 y2 y3 y4 y5))
  | 0 => ⟨fun _ _ _ _ _ _ r h => by simp [changeforgeref3_EncodeDelta.l0] at h, fun _ _ _ _ _ _ _ _ r h => by simp [changeforgeref3_EncodeDelta.l1] at h, fun _ _ _ _ _ _ r h => by simp [changeforgeref3_EncodeDelta.l2] at h⟩
  | k + 1 => by
    obtain ⟨ih0, ih1, ih2⟩ := changeforgeref3_EncodeDelta.mono_l k
    refine ⟨?_, ?_, ?_⟩
    · intro y0 y1 y2 y3 y4 y5
      unfold changeforgeref3_EncodeDelta.l0
      repeat' first
      | (with_reducible exact ih0 _ _ _ _ _ _)
      | (with_reducible exact ih1 _ _ _ _ _ _ _ _)
      | (with_reducible exact ih2 _ _ _ _ _ _)
      | (with_reducible exact LeO.refl _)
      | (with_reducible exact LeO.none _)
      | (with_reducible refine LeO.ite ?_ ?_)
      | (with_reducible refine LeO.bind ?_ (fun _ => ?_))
      | exact ih0 _ _ _ _ _ _
      | exact ih1 _ _ _ _ _ _ _ _
      | exact ih2 _ _ _ _ _ _
      | exact LeO.none _
      | refine LeO.ite ?_ ?_
      | refine LeO.bind ?_ (fun _ => ?_)
    · intro y0 y1 y2 y3 y4 y5 y6 y7
      unfold changeforgeref3_EncodeDelta.l1
      repeat' first
      | (with_reducible exact ih0 _ _ _ _ _ _)
      | (with_reducible exact ih1 _ _ _ _ _ _ _ _)
      | (with_reducible exact ih2 _ _ _ _ _ _)
      | (with_reducible exact LeO.refl _)
      | (with_reducible exact LeO.none _)
      | (with_reducible refine LeO.ite ?_ ?_)
      | (with_reducible refine LeO.bind ?_ (fun _ => ?_))
      | exact ih0 _ _ _ _ _ _
      | exact ih1 _ _ _ _ _ _ _ _
      | exact ih2 _ _ _ _ _ _
      | exact LeO.none _
      | refine LeO.ite ?_ ?_
      | refine LeO.bind ?_ (fun _ => ?_)
    · intro y0 y1 y2 y3 y4 y5
      unfold changeforgeref3_EncodeDelta.l2
      repeat' first
      | (with_reducible exact ih0 _ _ _ _ _ _)
      | (with_reducible exact ih1 _ _ _ _ _ _ _ _)
      | (with_reducible exact ih2 _ _ _ _ _ _)
      | (with_reducible exact LeO.refl _)
      | (with_reducible exact LeO.none _)
      | (with_reducible refine LeO.ite ?_ ?_)
      | (with_reducible refine LeO.bind ?_ (fun _ => ?_))
      | exact ih0 _ _ _ _ _ _
      | exact ih1 _ _ _ _ _ _ _ _
      | exact ih2 _ _ _ _ _ _
      | exact LeO.none _
      | refine LeO.ite ?_ ?_
      | refine LeO.bind ?_ (fun _ => ?_)
theorem changeforgeref3_EncodeDelta.mono : ∀ a0 a1 k, LeO (changeforgeref3_EncodeDelta.f k a0 a1) (changeforgeref3_EncodeDelta.f (k + 1) a0 a1) := by
  intro a0 a1 k
  obtain ⟨ih0, ih1, ih2⟩ := changeforgeref3_EncodeDelta.mono_l k
  unfold changeforgeref3_EncodeDelta.f
  repeat' first
      | (with_reducible exact ih0 _ _ _ _ _ _)
      | (with_reducible exact ih1 _ _ _ _ _ _ _ _)
      | (with_reducible exact ih2 _ _ _ _ _ _)
      | (with_reducible exact LeO.refl _)
      | (with_reducible exact LeO.none _)
      | (with_reducible refine LeO.ite ?_ ?_)
      | (with_reducible refine LeO.bind ?_ (fun _ => ?_))
      | exact ih0 _ _ _ _ _ _
      | exact ih1 _ _ _ _ _ _ _ _
      | exact ih2 _ _ _ _ _ _
      | exact LeO.none _
      | refine LeO.ite ?_ ?_
      | refine LeO.bind ?_ (fun _ => ?_)
def changeforgeref3_EncodeDelta.T11 : Bool × List (List Nat × List Nat) := (true, [([], []), ([], []), ([0, 1], [0, 1]), ([2], [2]), ([], []), ([], []), ([4, 5], [4, 5]), ([6], [6]), ([3, 7], [3, 7])])
def changeforgeref3_EncodeDelta.B11 : List Nat := [0, 0, 3, 7, 0, 0, 48, 112, 255]
theorem changeforgeref3_EncodeDelta.tab11 : rtab .any (opsOf Try.f14 11) = changeforgeref3_EncodeDelta.T11 := by kernel_rfl
theorem changeforgeref3_EncodeDelta.bits11 : waitsOk changeforgeref3_EncodeDelta.T11.2 changeforgeref3_EncodeDelta.B11 = true := by kernel_rfl
def changeforgeref3_EncodeDelta.T13 : Bool × List (List Nat × List Nat) := (true, [([], []), ([], []), ([0, 1], [0, 1]), ([2], [2]), ([3], [3]), ([4], [4]), ([5], [5]), ([5], [5]), ([6, 7, 5], [5, 6, 7]), ([8, 5], [5, 8]), ([5], [5]), ([5], [5]), ([10, 11, 5], [5, 10, 11]), ([12, 5], [5, 12]), ([9, 13, 5], [5, 9, 13]), ([5, 14], [5, 14])])
def changeforgeref3_EncodeDelta.B13 : List Nat := [0, 0, 3, 7, 15, 31, 63, 63, 255, 511, 63, 63, 3135, 7231, 16383, 32767]
theorem changeforgeref3_EncodeDelta.tab13 : rtab .any (opsOf Try.f14 13) = changeforgeref3_EncodeDelta.T13 := by kernel_rfl
theorem changeforgeref3_EncodeDelta.bits13 : waitsOk changeforgeref3_EncodeDelta.T13.2 changeforgeref3_EncodeDelta.B13 = true := by kernel_rfl
def changeforgeref3_EncodeDelta.T22 : Bool × List (List Nat × List Nat) := (true, [([], []), ([], []), ([], []), ([1, 2], [1, 2]), ([3], [3]), ([], []), ([], []), ([5, 6], [5, 6]), ([7], [7]), ([4, 8], [4, 8]), ([9], [9]), ([0, 10], [0, 10]), ([11, 11, 0, 1, 2, 3, 4, 5, 6, 7, 8, 9, 10, 11], [0, 11])])
def changeforgeref3_EncodeDelta.B22 : List Nat := [0, 0, 0, 6, 14, 0, 0, 96, 224, 510, 1022, 2047, 4095]
theorem changeforgeref3_EncodeDelta.tab22 : rtab .any (opsOf Try.f14 22) = changeforgeref3_EncodeDelta.T22 := by kernel_rfl
theorem changeforgeref3_EncodeDelta.bits22 : waitsOk changeforgeref3_EncodeDelta.T22.2 changeforgeref3_EncodeDelta.B22 = true := by kernel_rfl
def changeforgeref3_EncodeDelta.T29 : Bool × List (List Nat × List Nat) := (true, [([], []), ([], []), ([], []), ([], []), ([2, 3], [2, 3]), ([4], [4]), ([5], [5]), ([], []), ([], []), ([7, 8], [7, 8]), ([9], [9]), ([10], [10]), ([6, 11], [6, 11]), ([0, 1, 0, 1, 2, 3, 4, 5, 6, 7, 8, 9, 10, 11, 12], [0, 1]), ([13, 0, 1, 2, 3, 4, 5, 6, 7, 8, 9, 10, 11, 12], [13]), ([14, 12, 12, 0, 1, 2, 3, 4, 5, 6, 7, 8, 9, 10, 11, 12], [12, 14])])
def changeforgeref3_EncodeDelta.B29 : List Nat := [0, 0, 0, 0, 12, 28, 60, 0, 0, 384, 896, 1920, 4092, 8191, 16383, 32767]
theorem changeforgeref3_EncodeDelta.tab29 : rtab .any (opsOf Try.f14 29) = changeforgeref3_EncodeDelta.T29 := by kernel_rfl
theorem changeforgeref3_EncodeDelta.bits29 : waitsOk changeforgeref3_EncodeDelta.T29.2 changeforgeref3_EncodeDelta.B29 = true := by kernel_rfl
abbrev changeforgeref3_EncodeDelta.Z1 : Array Bool := #[false, false, false, false, false, false, false, false, false, false, false, false, false, false, false, false]
abbrev changeforgeref3_EncodeDelta.Z2 : Array Bool := #[true, false, false, false, false, false, false, false, false, false, false, false, false, false, false, false]
abbrev changeforgeref3_EncodeDelta.Z3 : Array Bool := #[true, true, false, false, false, false, false, false, false, false, false, false, false, false, false, false]
abbrev changeforgeref3_EncodeDelta.Z4 : Array Bool := #[true, true, true, false, false, false, false, false, false, false, false, false, false, false, false, false]
abbrev changeforgeref3_EncodeDelta.Z5 : Array Bool := #[true, true, true, true, false, false, false, false, false, false, false, false, false, false, false, false]
abbrev changeforgeref3_EncodeDelta.Z6 : Array Bool := #[true, true, true, true, true, false, false, false, false, false, false, false, false, false, false, false]
abbrev changeforgeref3_EncodeDelta.Z7 : Array Bool := #[true, true, true, true, true, true, false, false, false, false, false, false, false, false, false, false]
abbrev changeforgeref3_EncodeDelta.Z8 : Array Bool := #[true, true, true, true, true, true, true, false, false, false, false, false, false, false, false, false]
abbrev changeforgeref3_EncodeDelta.Z9 : Array Bool := #[true, true, true, true, true, true, true, true, false, false, false, false, false, false, false, false]
abbrev changeforgeref3_EncodeDelta.Z10 : Array Bool := #[true, true, true, true, true, true, true, true, true, false, false, false, false, false, false, false]
abbrev changeforgeref3_EncodeDelta.Z11 : Array Bool := #[true, true, true, true, true, true, true, true, true, false, true, false, false, false, false, false]
abbrev changeforgeref3_EncodeDelta.Z12 : Array Bool := #[true, true, true, true, true, true, true, true, true, false, true, true, false, false, false, false]
abbrev changeforgeref3_EncodeDelta.Z13 : Array Bool := #[true, true, true, true, true, true, true, true, true, false, true, true, true, false, false, false]
abbrev changeforgeref3_EncodeDelta.Z14 : Array Bool := #[true, true, true, true, true, true, true, true, true, true, true, true, true, false, false, false]
abbrev changeforgeref3_EncodeDelta.Z15 : Array Bool := #[true, true, true, true, true, true, true, true, true, true, true, true, true, true, false, false]
abbrev changeforgeref3_EncodeDelta.Z16 : Array Bool := #[true, true, true, true, true, true, true, true, true, true, true, true, true, true, true, false]
abbrev changeforgeref3_EncodeDelta.Z17 : Array Bool := #[true, true, true, true, true, true, true, true, true, true, true, true, true, true, true, true]
abbrev changeforgeref3_EncodeDelta.Z18 : Array Bool := #[true, true, true, true, true, true, true, true, true, true, false, false, false, false, false, false]
abbrev changeforgeref3_EncodeDelta.Z19 : Array Bool := #[true, true, true, true, true, true, true, true, true, true, true, false, false, false, false, false]
abbrev changeforgeref3_EncodeDelta.Z20 : Array Bool := #[true, true, true, true, true, true, true, true, true, true, true, true, false, false, false, false]
abbrev changeforgeref3_EncodeDelta.Z21 : Array Bool := #[false, false, false, false, false, false, false, false, false, false, false, false, false]
abbrev changeforgeref3_EncodeDelta.Z22 : Array Bool := #[true, false, false, false, false, false, false, false, false, false, false, false, false]
abbrev changeforgeref3_EncodeDelta.Z23 : Array Bool := #[true, true, false, false, false, false, false, false, false, false, false, false, false]
abbrev changeforgeref3_EncodeDelta.Z24 : Array Bool := #[true, true, true, false, false, false, false, false, false, false, false, false, false]
abbrev changeforgeref3_EncodeDelta.Z25 : Array Bool := #[true, true, true, true, false, false, false, false, false, false, false, false, false]
abbrev changeforgeref3_EncodeDelta.Z26 : Array Bool := #[true, true, true, true, false, true, false, false, false, false, false, false, false]
abbrev changeforgeref3_EncodeDelta.Z27 : Array Bool := #[true, true, true, true, false, true, true, false, false, false, false, false, false]
abbrev changeforgeref3_EncodeDelta.Z28 : Array Bool := #[true, true, true, true, false, true, true, true, false, false, false, false, false]
abbrev changeforgeref3_EncodeDelta.Z29 : Array Bool := #[true, true, true, true, true, true, true, true, false, false, false, false, false]
abbrev changeforgeref3_EncodeDelta.Z30 : Array Bool := #[true, true, true, true, true, true, true, true, true, false, false, false, false]
abbrev changeforgeref3_EncodeDelta.Z31 : Array Bool := #[true, true, true, true, true, true, true, true, true, true, false, false, false]
abbrev changeforgeref3_EncodeDelta.Z32 : Array Bool := #[true, true, true, true, true, true, true, true, true, true, true, false, false]
abbrev changeforgeref3_EncodeDelta.Z33 : Array Bool := #[true, true, true, true, true, true, true, true, true, true, true, true, false]
abbrev changeforgeref3_EncodeDelta.Z34 : Array Bool := #[true, true, true, true, true, true, true, true, true, true, true, true, true]
abbrev changeforgeref3_EncodeDelta.Z35 : Array Bool := #[true, true, true, true, true, true, false, true, false, false, false, false, false, false, false, false]
abbrev changeforgeref3_EncodeDelta.Z36 : Array Bool := #[true, true, true, true, true, true, false, true, true, false, false, false, false, false, false, false]
abbrev changeforgeref3_EncodeDelta.Z37 : Array Bool := #[true, true, true, true, true, true, false, true, true, true, false, false, false, false, false, false]
set_option maxHeartbeats 8000000 in
set_option maxRecDepth 100000 in
theorem changeforgeref3_EncodeDelta.calls (k : Nat) (A0 : Option Addr) (c0 : Nat) (l0 : List Int) (A1 : Option Addr) (c1 : Nat) (l1 : List Int) (r : List (S37)) (w : World) (hr0 : Kd.C (Kd.int .u8) w A0 l0.length l0) (hc0 : l0.length ≤ c0) (hr1 : Kd.C (Kd.int .u8) w A1 l1.length l1) (hc1 : l1.length ≤ c1) (h : changeforgeref3_EncodeDelta.f k l0 l1 = some r) :
  Calls Try.prog 14 #[.slice A0 l0.length c0, .slice A1 l1.length c1] w fun e w' => ∃ v0_ : Value, e = .returned (v0_) ∧ Kd.S k37 37 w' w.heap.size (fun _ => True) v0_ r ∧ Below w.heap.size w w' := by
  have hu37 := Try.underlying37
  have HR0 := aZ hr0
  have HC0 := aZ hc0
  clear hr0 hc0
  have HR1 := aZ hr1
  have HC1 := aZ hc1
  clear hr1 hc1
  have HB := aZ (Below.refl w.heap.size w)
  have H : (if 0 ≤ (wrap64 ((l1.length : Int) + 1)) then (if (wrap64 ((l1.length : Int) + 1) : Int).toNat ≤ 35184372088832 then (if 0 ≤ (wrap64 ((l0.length : Int) + 1)) then (if (wrap64 ((l0.length : Int) + 1) : Int).toNat ≤ 35184372088832 then (changeforgeref3_EncodeDelta.l0 k l0 l1 (List.replicate (wrap64 ((l1.length : Int) + 1) : Int).toNat 0) (List.replicate (wrap64 ((l1.length : Int) + 1) : Int).toNat 0) (List.replicate (wrap64 ((l0.length : Int) + 1) : Int).toNat 0) (wrap64 ((l1.length : Int) - 1))) else (none)) else (none)) else (none)) else (none)) = some r := h
  clear h
  obtain ⟨ji3, hji3⟩ : ∃ j_ : Int, (wrap64 ((l1.length : Int) + 1)) = j_ := ⟨_, rfl⟩
  replace H : (if 0 ≤ (ji3) then (if (ji3 : Int).toNat ≤ 35184372088832 then (if 0 ≤ (wrap64 ((l0.length : Int) + 1)) then (if (wrap64 ((l0.length : Int) + 1) : Int).toNat ≤ 35184372088832 then (changeforgeref3_EncodeDelta.l0 k l0 l1 (List.replicate (ji3 : Int).toNat 0) (List.replicate (ji3 : Int).toNat 0) (List.replicate (wrap64 ((l0.length : Int) + 1) : Int).toNat 0) (wrap64 ((l1.length : Int) - 1))) else (none)) else (none)) else (none)) else (none)) = some r := by first | (rw [hji3] at H; exact H) | (simp only [hji3] at H ⊢; exact H)
  have hji3w : (IntKind.i64.wrap ((l1.length : Int) + 1)) = ji3 := (i64_w _).trans hji3
  by_cases c4 : 0 ≤ (ji3)
  rotate_left
  · rw [if_neg c4] at H
    exact absurd H (by simp)

  rw [if_pos c4] at H
  have c4b0 := eq_true c4
  have c4b1 : decide (0 ≤ (ji3)) = true := decide_eq_true c4
  clear c4
  by_cases c5 : (ji3 : Int).toNat ≤ 35184372088832
  rotate_left
  · rw [if_neg c5] at H
    exact absurd H (by simp)
  rw [if_pos c5] at H
  have c5b0 := eq_true c5
  have c5b1 : decide ((ji3 : Int).toNat ≤ 35184372088832) = true := decide_eq_true c5
  clear c5
  obtain ⟨y197, hy197⟩ : ∃ y_ : List Int, y_ = (List.replicate (ji3 : Int).toNat 0) := ⟨_, rfl⟩
  replace H : (if 0 ≤ (wrap64 ((l0.length : Int) + 1)) then (if (wrap64 ((l0.length : Int) + 1) : Int).toNat ≤ 35184372088832 then (changeforgeref3_EncodeDelta.l0 k l0 l1 y197 (List.replicate (ji3 : Int).toNat 0) (List.replicate (wrap64 ((l0.length : Int) + 1) : Int).toNat 0) (wrap64 ((l1.length : Int) - 1))) else (none)) else (none)) = some r := by first | (rw [hy197]; with_reducible exact H) | (have H2_ := (Option.bind_some _ _).symm.trans H; rw [hy197]; with_reducible exact H2_) | (have H2_ := (Option.bind_some _ _).symm.trans H; with_reducible exact H2_) | with_reducible exact H | (rw [hy197]; exact H) | exact H
  have Ny197 := aZ hy197
  clear hy197
  obtain ⟨y200, hy200⟩ : ∃ y_ : List Int, y_ = (List.replicate (ji3 : Int).toNat 0) := ⟨_, rfl⟩
  replace H : (if 0 ≤ (wrap64 ((l0.length : Int) + 1)) then (if (wrap64 ((l0.length : Int) + 1) : Int).toNat ≤ 35184372088832 then (changeforgeref3_EncodeDelta.l0 k l0 l1 y197 y200 (List.replicate (wrap64 ((l0.length : Int) + 1) : Int).toNat 0) (wrap64 ((l1.length : Int) - 1))) else (none)) else (none)) = some r := by first | (rw [hy200]; with_reducible exact H) | (have H2_ := (Option.bind_some _ _).symm.trans H; rw [hy200]; with_reducible exact H2_) | (have H2_ := (Option.bind_some _ _).symm.trans H; with_reducible exact H2_) | with_reducible exact H | (rw [hy200]; exact H) | exact H
  have Ny200 := aZ hy200
  clear hy200
  obtain ⟨ji6, hji6⟩ : ∃ j_ : Int, (wrap64 ((l0.length : Int) + 1)) = j_ := ⟨_, rfl⟩
  replace H : (if 0 ≤ (ji6) then (if (ji6 : Int).toNat ≤ 35184372088832 then (changeforgeref3_EncodeDelta.l0 k l0 l1 y197 y200 (List.replicate (ji6 : Int).toNat 0) (wrap64 ((l1.length : Int) - 1))) else (none)) else (none)) = some r := by first | (rw [hji6] at H; exact H) | (simp only [hji6] at H ⊢; exact H)
  have hji6w : (IntKind.i64.wrap ((l0.length : Int) + 1)) = ji6 := (i64_w _).trans hji6
  by_cases c7 : 0 ≤ (ji6)
  rotate_left
  · rw [if_neg c7] at H
    exact absurd H (by simp)
  rw [if_pos c7] at H
  have c7b0 := eq_true c7
  have c7b1 : decide (0 ≤ (ji6)) = true := decide_eq_true c7
  clear c7
  by_cases c8 : (ji6 : Int).toNat ≤ 35184372088832
  rotate_left
  · rw [if_neg c8] at H
    exact absurd H (by simp)
  rw [if_pos c8] at H
  have c8b0 := eq_true c8
  have c8b1 : decide ((ji6 : Int).toNat ≤ 35184372088832) = true := decide_eq_true c8
  clear c8
  obtain ⟨y203, hy203⟩ : ∃ y_ : List Int, y_ = (List.replicate (ji6 : Int).toNat 0) := ⟨_, rfl⟩
  replace H : (changeforgeref3_EncodeDelta.l0 k l0 l1 y197 y200 y203 (wrap64 ((l1.length : Int) - 1))) = some r := by first | (rw [hy203]; with_reducible exact H) | (have H2_ := (Option.bind_some _ _).symm.trans H; rw [hy203]; with_reducible exact H2_) | (have H2_ := (Option.bind_some _ _).symm.trans H; with_reducible exact H2_) | with_reducible exact H | (rw [hy203]; exact H) | exact H
  have Ny203 := aZ hy203
  clear hy203
  have H' := aZ H
  clear H
  go_enter Try.func14, Try.ntmps14
  go_wp2_with (first | ((with_reducible refine gate_dst (N := 18) rfl ?_); refine Kd.R_make (Kd.int .i64) _ 3 rfl (N := 18) rfl 48 _ _ rfl ji3 rfl rfl Try.underlying48 (.int .i64 0) 8 info3 rfl (by decide) (by omega) 0 (ok := fun _ => True) (okp := fun _ => True) rfl (fun _ hk => hk) trivial (of_decide_eq_true (by first | (with_reducible assumption) | assumption)) (Nat.le_trans (Nat.mul_le_mul_right _ (of_decide_eq_true (by first | (with_reducible assumption) | assumption) : ji3.toNat ≤ 35184372088832)) (by omega)) (Below.refl _ _) (Nat.le_refl _) ?_; intro v198 w9 ho10 hb hg_ hnew_; clear hg_ hnew_; (first | rw [← Ny197.out] at ho10 | (simp only [Int.reduceToNat] at ho10; rw [← Ny197.out] at ho10)); have n0_ := aZ (Kd.R_lower ho10 (lZ (by repeat (first | (with_reducible first | exact HB.out | apply lA | apply lN | apply lD) | exact HB.out)))); have n1_ := aZ (lT (by repeat (first | (with_reducible first | exact HB.out | apply lA | apply lN | apply lD) | exact HB.out)) hb); clear HB; have HO199 := n0_; have HB := n1_; clear n0_ n1_; clear hb ho10) | ((with_reducible refine gate_dst (N := 22) rfl ?_); refine Kd.R_make (Kd.int .i64) _ 3 rfl (N := 22) rfl 48 _ _ rfl ji3 rfl rfl Try.underlying48 (.int .i64 0) 8 info3 rfl (by decide) (by omega) 0 (ok := fun _ => True) (okp := fun _ => True) rfl (fun _ hk => hk) trivial (of_decide_eq_true (by first | (with_reducible assumption) | assumption)) (Nat.le_trans (Nat.mul_le_mul_right _ (of_decide_eq_true (by first | (with_reducible assumption) | assumption) : ji3.toNat ≤ 35184372088832)) (by omega)) (Below.refl _ _) (Nat.le_refl _) ?_; intro v201 w11 ho12 hb hg_ hnew_; clear hg_ hnew_; (first | rw [← Ny200.out] at ho12 | (simp only [Int.reduceToNat] at ho12; rw [← Ny200.out] at ho12)); have n0_ := aZ (Kd.R_elder' (by (with_reducible repeat (first | apply Kd.rA | apply Kd.rN | apply Kd.rD)); exact HO199.out) (Kd.R_base ho12) hb); have n1_ := aZ (Kd.R_lower (Kd.R_new' ho12 (Kd.R_lt (by (with_reducible repeat (first | apply Kd.rA | apply Kd.rN | apply Kd.rD)); exact HO199.out))) (lZ (by repeat (first | (with_reducible first | exact HB.out | apply lA | apply lN | apply lD) | exact HB.out)))); have n2_ := aZ (lT (by repeat (first | (with_reducible first | exact HB.out | apply lA | apply lN | apply lD) | exact HB.out)) hb); clear HO199; clear HB; have HO199 := n0_; have HO202 := n1_; have HB := n2_; clear n0_ n1_ n2_; clear hb ho12) | ((with_reducible refine gate_dst (N := 26) rfl ?_); refine Kd.R_make (Kd.int .i64) _ 3 rfl (N := 26) rfl 48 _ _ rfl ji6 rfl rfl Try.underlying48 (.int .i64 0) 8 info3 rfl (by decide) (by omega) 0 (ok := fun _ => True) (okp := fun _ => True) rfl (fun _ hk => hk) trivial (of_decide_eq_true (by first | (with_reducible assumption) | assumption)) (Nat.le_trans (Nat.mul_le_mul_right _ (of_decide_eq_true (by first | (with_reducible assumption) | assumption) : ji6.toNat ≤ 35184372088832)) (by omega)) (Below.refl _ _) (Nat.le_refl _) ?_; intro v204 w13 ho14 hb hg_ hnew_; clear hg_ hnew_; (first | rw [← Ny203.out] at ho14 | (simp only [Int.reduceToNat] at ho14; rw [← Ny203.out] at ho14)); have n0_ := aZ (Kd.R_elder' (by (with_reducible repeat (first | apply Kd.rA | apply Kd.rN | apply Kd.rD)); exact HO199.out) (Kd.R_base ho14) hb); have n1_ := aZ (Kd.R_elder' (by (with_reducible repeat (first | apply Kd.rA | apply Kd.rN | apply Kd.rD)); exact HO202.out) (Kd.R_base ho14) hb); have n2_ := aZ (Kd.R_lower (Kd.R_new' (Kd.R_new' ho14 (Kd.R_lt (by (with_reducible repeat (first | apply Kd.rA | apply Kd.rN | apply Kd.rD)); exact HO199.out))) (Kd.R_lt (by (with_reducible repeat (first | apply Kd.rA | apply Kd.rN | apply Kd.rD)); exact HO202.out))) (lZ (by repeat (first | (with_reducible first | exact HB.out | apply lA | apply lN | apply lD) | exact HB.out)))); have n3_ := aZ (lT (by repeat (first | (with_reducible first | exact HB.out | apply lA | apply lN | apply lD) | exact HB.out)) hb); clear HO199; clear HO202; clear HB; have HO199 := n0_; have HO202 := n1_; have HO205 := n2_; have HB := n3_; clear n0_ n1_ n2_ n3_; clear hb ho14))
  go_loopg [7, 8] k (fun kq v7 v8 w' => ∃ (x5_1 : List Int) (x6_1 : List Int) (x7_1 : List Int) (x8_1 : Int), v8 = .int .i64 x8_1 ∧ Aside0 (changeforgeref3_EncodeDelta.l0 kq l0 l1 x5_1 x6_1 x7_1 x8_1 = some r) ∧ Aside0 (kq ≤ k) ∧ Aside0 (Kd.R (Kd.int .i64) 3 w' w.heap.size (fun k_ => some k_ ≠ (v201 : Value).ownBlock ∧ some k_ ≠ (v7 : Value).ownBlock) v198 x5_1) ∧ Aside0 (Kd.R (Kd.int .i64) 3 w' w.heap.size (fun k_ => some k_ ≠ (v198 : Value).ownBlock ∧ some k_ ≠ (v7 : Value).ownBlock) v201 x6_1) ∧ Aside0 (Kd.R (Kd.int .i64) 3 w' w.heap.size (fun k_ => some k_ ≠ (v198 : Value).ownBlock ∧ some k_ ≠ (v201 : Value).ownBlock) v7 x7_1) ∧ Aside0 (Below w.heap.size w w'))
  case atStart => exact ⟨(y197), (y200), (y203), (wrap64 ((l1.length : Int) - 1)), (by first | rfl | (simp; done) | (simp [*]; done) | (simp [i64_w]; done)), H', ⟨Nat.le_refl _⟩, ⟨by (with_reducible repeat (first | apply Kd.rA | apply Kd.rN | apply Kd.rD)); exact Kd.R_mono HO199.out (fun _ hk => ⟨hk.1.2, hk.2⟩)⟩, ⟨by (with_reducible repeat (first | apply Kd.rA | apply Kd.rN | apply Kd.rD)); exact Kd.R_mono HO202.out (fun _ hk => ⟨hk.1.2, hk.2⟩)⟩, ⟨by (with_reducible repeat (first | apply Kd.rA | apply Kd.rN | apply Kd.rD)); exact Kd.R_mono HO205.out (fun _ hk => ⟨hk.1.2, hk.2⟩)⟩, ⟨by repeat (first | (with_reducible first | exact HB.out | apply lA | apply lN | apply lD) | exact HB.out)⟩⟩
  case round =>
   clear H'
   (try clear c1); (try clear c4); (try clear c4b0); (try clear c4b1); (try clear c5); (try clear c5b0); (try clear c5b1); (try clear c7); (try clear c7b0); (try clear c7b1); (try clear c8); (try clear c8b0); (try clear c8b1)
   obtain ⟨x5_1, x6_1, x7_1, x8_1, rfl, HA, HK1, HO_5, HO_6, HO_7, HB⟩ := hrel
   cases gk with
   | zero => exact absurd HA.out (by simp [changeforgeref3_EncodeDelta.l0])
   | succ k1 =>
    have H := HA.out
    clear HA
    simp only [changeforgeref3_EncodeDelta.l0] at H
    by_cases c15 : x8_1 ≥ 0
    rotate_left
    · rw [if_neg c15] at H
      have c15b0 : decide (0 ≤ x8_1) = false := decide_eq_false c15
      clear c15
      have H' := aZ H
      clear H
      go_wp2
      go_loopg [11, 12, 13] k1 (fun kq v11 v12 v13 w' => ∃ (x11_2 : List (S37)) (x12_2 : Bool) (x13_2 : Int), v12 = .bool x12_2 ∧ v13 = .int .i64 x13_2 ∧ Aside0 (changeforgeref3_EncodeDelta.l2 kq l1 x5_1 x6_1 x11_2 x12_2 x13_2 = some r) ∧ Aside0 (kq ≤ k1) ∧ Aside0 (Kd.R (Kd.int .i64) 3 w' w.heap.size (fun k_ => some k_ ≠ (v201 : Value).ownBlock) v198 x5_1) ∧ Aside0 (Kd.R (Kd.int .i64) 3 w' w.heap.size (fun k_ => some k_ ≠ (v198 : Value).ownBlock) v201 x6_1) ∧ Aside0 (Kd.S k37 37 w' w.heap.size (fun _ => True) v11 x11_2) ∧ Aside0 (Below w.heap.size w w'))
      case atStart => exact ⟨(([] : List (S37))), (false), (0), (by first | rfl | (simp; done) | (simp [*]; done) | (simp [i64_w]; done)), (by first | rfl | (simp; done) | (simp [*]; done) | (simp [i64_w]; done)), H', ⟨Nat.le_refl _⟩, ⟨by (with_reducible repeat (first | apply Kd.rA | apply Kd.rN | apply Kd.rD)); exact Kd.R_mono HO_5.out (fun _ hk => hk.1)⟩, ⟨by (with_reducible repeat (first | apply Kd.rA | apply Kd.rN | apply Kd.rD)); exact Kd.R_mono HO_6.out (fun _ hk => hk.1)⟩, ⟨by first | exact Kd.S_nil _ _ _ _ _ | exact Kd.N_nil _ _ _ _ _ | exact Kd.V_nil _ _ _ _ _ | exact Kd.Q_nil _ _ _ _ _ | exact Kd.R_nil _ _ _ _ _⟩, ⟨by repeat (first | (with_reducible first | exact HB.out | apply lA | apply lN | apply lD) | exact HB.out)⟩⟩
      case round =>
       clear H'
       (try clear c15); (try clear c15b0)
       obtain ⟨x11_2, x12_2, x13_2, rfl, rfl, HA, HK2, HO_5, HO_6, HO_11, HB⟩ := hrel
       cases gk with
       | zero => exact absurd HA.out (by simp [changeforgeref3_EncodeDelta.l2])
       | succ k2 =>
        have H := HA.out
        clear HA
        simp only [changeforgeref3_EncodeDelta.l2] at H
        by_cases c81 : x13_2 < (l1.length : Int)
        rotate_left
        · rw [if_neg c81] at H
          have c81b0 : decide (x13_2 < (l1.length : Int)) = false := decide_eq_false c81
          clear c81
          obtain rfl := Option.some.inj H
          go_wp2
          go_ret
          exact ⟨_, by first | rfl | (simp [errW_none, errW_some] <;> rfl) | (simp only [← hji3, ← hji6]; first | rfl | (simp [errW_none, errW_some] <;> rfl)) | (simp [*, errW_none, errW_some] <;> rfl), by (with_reducible repeat (first | apply Kd.S_alloc | apply Kd.S_drewN | apply Kd.S_drew)); exact HO_11.out, by repeat (first | (with_reducible first | exact HB.out | apply lA | apply lN | apply lD) | exact HB.out)⟩
        rw [if_pos c81] at H
        have c81b0 : decide (x13_2 < (l1.length : Int)) = true := decide_eq_true c81
        clear c81
        by_cases c82 : 0 ≤ x13_2
        rotate_left
        · rw [if_neg c82] at H
          exact absurd H (by simp)
        rw [if_pos c82] at H
        have c82b0 : decide (0 ≤ x13_2) = true := decide_eq_true c82
        clear c82
        by_cases c83 : x13_2 < (x5_1.length : Int)
        rotate_left
        · rw [if_neg c83] at H
          exact absurd H (by simp)
        rw [if_pos c83] at H
        have c83b0 : decide (x13_2 < (x5_1.length : Int)) = true := decide_eq_true c83
        clear c83
        by_cases c84 : (rd x5_1 x13_2) ≥ 4
        · rw [if_pos c84] at H
          have c84b0 : decide (4 ≤ (rd x5_1 x13_2)) = true := decide_eq_true c84
          clear c84
          by_cases c85 : x13_2 < (x6_1.length : Int)
          rotate_left
          · rw [if_neg c85] at H
            exact absurd H (by simp)
          rw [if_pos c85] at H
          have c85b0 : decide (x13_2 < (x6_1.length : Int)) = true := decide_eq_true c85
          clear c85
          by_cases c86 : x11_2.length < 3518437208883
          rotate_left
          · rw [if_neg c86] at H
            exact absurd H (by simp)
          rw [if_pos c86] at H
          have LMc86 := aZ c86
          clear c86
          obtain ⟨y228, hy228⟩ : ∃ y_ : List (S37), y_ = (x11_2 ++ [(⟨rd x6_1 x13_2, rd x5_1 x13_2, ([] : List Int)⟩ : S37)]) := ⟨_, rfl⟩
          replace H : (changeforgeref3_EncodeDelta.l2 k2 l1 x5_1 x6_1 y228 false (wrap64 (x13_2 + (rd x5_1 x13_2)))) = some r := by first | (rw [hy228]; with_reducible exact H) | (have H2_ := (Option.bind_some _ _).symm.trans H; rw [hy228]; with_reducible exact H2_) | (have H2_ := (Option.bind_some _ _).symm.trans H; with_reducible exact H2_) | with_reducible exact H | (rw [hy228]; exact H) | exact H
          have Ny228 := aZ hy228
          clear hy228
          have H' := aZ H
          clear H
          obtain ⟨Ao87, co87, eo87⟩ := Kd.R_slice HO_5.out
          subst eo87
          have p225 : 0 ≤ (x13_2 : Int) := of_decide_eq_true (by first | (with_reducible assumption) | assumption)
          have q225 : x13_2 < (x5_1.length : Int) := of_decide_eq_true (by first | (with_reducible assumption) | assumption)
          obtain ⟨ad225, e225, hx225_0⟩ := Kd.at_int (Kd.R_reads' HO_5.out).2.2 x13_2 p225 q225
          cases e225
          replace p225 := eq_true p225
          replace q225 := eq_true q225
          try go_wp2
          have n0_ := aZ (Kd.rD HO_5.out)
          have n1_ := aZ (Kd.rD HO_6.out)
          have n2_ := aZ (Kd.S_drew HO_11.out)
          have n3_ := aZ (lD HB.out)
          clear HO_5
          clear HO_6
          clear HO_11
          clear HB
          have HO_5 := n0_
          have HO_6 := n1_
          have HO_11 := n2_
          have HB := n3_
          clear n0_ n1_ n2_ n3_
          obtain ⟨Ao89, co89, eo89⟩ := Kd.R_slice HO_6.out
          (first | subst eo89 | (injection eo89 with f1_ f2_ f3_; have f4_ := f1_.symm; have f5_ := f3_.symm; clear f1_ f2_ f3_; subst f4_; subst f5_))
          have p226 : 0 ≤ (x13_2 : Int) := of_decide_eq_true (by first | (with_reducible assumption) | assumption)
          have q226 : x13_2 < (x6_1.length : Int) := of_decide_eq_true (by first | (with_reducible assumption) | assumption)
          obtain ⟨ad226, e226, hx226_0⟩ := Kd.at_int (Kd.R_reads' HO_6.out).2.2 x13_2 p226 q226
          cases e226
          replace p226 := eq_true p226
          replace q226 := eq_true q226
          have p227 : 0 ≤ (x13_2 : Int) := of_decide_eq_true (by first | (with_reducible assumption) | assumption)
          have q227 : x13_2 < (x5_1.length : Int) := of_decide_eq_true (by first | (with_reducible assumption) | assumption)
          obtain ⟨ad227, e227, hx227_0⟩ := Kd.at_int (Kd.R_reads' HO_5.out).2.2 x13_2 p227 q227
          obtain rfl : ad225 = ad227 := (by injection e227)
          replace p227 := eq_true p227
          replace q227 := eq_true q227
          refine start_ (n := 13) (S := fun w' => w'.cell? (ad226.add (x13_2).toNat) = some (.int .i64 (rd x6_1 x13_2)) ∧ w'.cell? (ad225.add (x13_2).toNat) = some (.int .i64 (rd x5_1 x13_2))) (ds := [10]) Z21 (by kernel_rfl) rfl rfl ⟨hx226_0, hx227_0⟩ (fun hHeld => ?_); refine with_tabW changeforgeref3_EncodeDelta.tab22 changeforgeref3_EncodeDelta.bits22 (fun HT_ HW_ => ?_)
          generalize wr.drew = w88 at HO_5 HO_6 HO_11 HB hx226_0 hx227_0 hHeld ⊢
          refine pu 0 100 Z22 HT_ rfl rfl (h := ?_)
          refine pu 1 101 Z23 HT_ rfl rfl (h := ?_)
          refine pu 2 102 Z24 HT_ rfl rfl (h := ?_)
          refine pu 3 103 Z25 HT_ rfl rfl (h := ?_)
          refine pu 5 105 Z26 HT_ rfl rfl (h := ?_)
          refine pu 6 106 Z27 HT_ rfl rfl (h := ?_)
          refine pu 7 107 Z28 HT_ rfl rfl (h := ?_)
          refine tk 4 104 Z29 HT_ HW_ rfl rfl hHeld (by rintro w' ⟨s0, s1⟩; go_simp; with_reducible rfl) (h := ?_)
          refine tk 8 108 Z30 HT_ HW_ rfl rfl hHeld (by rintro w' ⟨s0, s1⟩; go_simp; with_reducible rfl) (h := ?_)
          refine pu 9 109 Z31 HT_ rfl rfl (h := ?_)
          refine last_ (i := 10) (N := some 110) Z32 rfl rfl (one_of HT_.out (by kernel_rfl)) (by decide) (fun K hK => ?_)
          refine value_ (w1 := ?_) (v := ?_) (by rfl) rfl ?_ ?_
          rotate_left 2
          · go_simp
            constructor
            · rfl
            · rfl
          refine hK.out _ _ ?_
          clear hK K
          refine norm_ (a' := ?_) ?_ ?_
          rotate_left
          · show Act.put _ (some 110) _ = _
            simp only [Act.put, List.setIfInBounds_toArray, List.set_cons_zero, List.set_cons_succ, i64_w, i32_w]
            rfl
          refine one_ (i := 11) (N := some 111) Z33 rfl rfl (one_of HT_.out (by kernel_rfl)) (by decide) (fun K hK => ?_)
          refine Kd.S_append_step k37 (w0 := w) w.heap.size (by rfl) (.tmp 100) (.tmp 110) 24 37 (.agg #[(.int .i64 0), (.int .i64 0), (.slice none 0 0)]) 40 rfl Try.underlying24 info37 rfl (by decide) (by omega) u11 x11_2 (⟨rd x6_1 x13_2, rd x5_1 x13_2, ([] : List Int)⟩ : S37) [.int .i64 (rd x6_1 x13_2), .int .i64 (rd x5_1 x13_2), .slice none 0 0] (fun _ => True) (fun _ => False) rfl rfl ?aP (fun k_ hk_ => hk_.elim) ?aF ?aO ?aB ?aS ?aL ?_
          (case aP => exact k37_mkM _ _ _ (⟨rd x6_1 x13_2, rd x5_1 x13_2, ([] : List Int)⟩ : S37) (Kd.R_nil _ _ _ _ _))
          (case aB => exact (by repeat (first | (with_reducible first | exact HB.out | apply lA | apply lN | apply lD) | exact HB.out)))
          (case aF => exact (fun _ _ => trivial))
          (case aO => exact (by (with_reducible repeat (first | apply Kd.S_alloc | apply Kd.S_drewN | apply Kd.S_drew)); exact Kd.S_mono HO_11.out (fun k_ hk => ⟨trivial, fun e_ => e_⟩)))
          (case aS => exact (lZ (by repeat (first | (with_reducible first | exact HB.out | apply lA | apply lN | apply lD) | exact HB.out))))
          (case aL => have := LMc86.out; omega)
          intro v229 w90 ho hb hg hat
          rw [← Ny228.out] at ho
          have n0_ := aZ (Kd.R_over' (by (with_reducible repeat (first | apply Kd.rA | apply Kd.rN | apply Kd.rD)); exact HO_5.out) (Kd.S_typed (by (with_reducible repeat (first | apply Kd.S_alloc | apply Kd.S_drewN | apply Kd.S_drew)); exact HO_11.out)) (by decide) hg)
          have n1_ := aZ (Kd.R_over' (by (with_reducible repeat (first | apply Kd.rA | apply Kd.rN | apply Kd.rD)); exact HO_6.out) (Kd.S_typed (by (with_reducible repeat (first | apply Kd.S_alloc | apply Kd.S_drewN | apply Kd.S_drew)); exact HO_11.out)) (by decide) hg)
          have n2_ := aZ (hb)
          have n3_ := aZ (ho)
          clear HO_5
          clear HO_6
          clear HB
          clear HO_11
          have HO_5 := n0_
          have HO_6 := n1_
          have HB := n2_
          have HO230 := n3_
          clear n0_ n1_ n2_ n3_
          clear ho hb hg hat
          obtain ⟨adq_, eq_, HS0_⟩ := Kd.at_int (Kd.R_reads' HO_6.out).2.2 (x13_2) (of_eq_true p226) (of_eq_true q226); cases eq_
          obtain ⟨adq_, eq_, HS1_⟩ := Kd.at_int (Kd.R_reads' HO_5.out).2.2 (x13_2) (of_eq_true p227) (of_eq_true q227); cases eq_
          refine hK.out _ _ ⟨HS0_, HS1_⟩ (fun hHeld => ?_)
          clear hK K
          refine norm_ (a' := ?_) ?_ ?_
          rotate_left
          · show Act.put _ (some 111) _ = _
            simp only [Act.put, List.setIfInBounds_toArray, List.set_cons_zero, List.set_cons_succ, i64_w, i32_w]
            rfl
          refine pu 12 11 Z34 HT_ rfl rfl (h := ?_)
          refine done_ (done_of HT_.out (by kernel_rfl)) ?_
          have p231 : 0 ≤ (x13_2 : Int) := of_decide_eq_true (by first | (with_reducible assumption) | assumption)
          have q231 : x13_2 < (x5_1.length : Int) := of_decide_eq_true (by first | (with_reducible assumption) | assumption)
          obtain ⟨ad231, e231, hx231_0⟩ := Kd.at_int (Kd.R_reads' HO_5.out).2.2 x13_2 p231 q231
          obtain rfl : ad225 = ad231 := (by injection e231)
          replace p231 := eq_true p231
          replace q231 := eq_true q231
          try go_wp2
          go_roundg k2
          case measure => have := HK1.out; have := HK2.out; omega
          case rel => exact ⟨(y228), (false), (wrap64 (x13_2 + (rd x5_1 x13_2))), (by first | rfl | (simp; done) | (simp [*]; done) | (simp [i64_w]; done)), (by first | rfl | (simp; done) | (simp [*]; done) | (simp [i64_w]; done)), H', ⟨by have := HK1.out; have := HK2.out; omega⟩, ⟨by (with_reducible repeat (first | apply Kd.rA | apply Kd.rN | apply Kd.rD)); exact HO_5.out⟩, ⟨by (with_reducible repeat (first | apply Kd.rA | apply Kd.rN | apply Kd.rD)); exact HO_6.out⟩, ⟨by (with_reducible repeat (first | apply Kd.S_alloc | apply Kd.S_drewN | apply Kd.S_drew)); exact HO230.out⟩, ⟨by repeat (first | (with_reducible first | exact HB.out | apply lA | apply lN | apply lD) | exact HB.out)⟩⟩
        rw [if_neg c84] at H
        have c84b0 : decide (4 ≤ (rd x5_1 x13_2)) = false := decide_eq_false c84
        clear c84
        by_cases c91 : x12_2 = true
        · subst c91
          have H1 : (if 0 ≤ (wrap64 ((x11_2.length : Int) - 1)) then (if (wrap64 ((x11_2.length : Int) - 1)) < (x11_2.length : Int) then (if ((rd_T37 x11_2 (wrap64 ((x11_2.length : Int) - 1))).f2).length < 140737488355328 then (changeforgeref3_EncodeDelta.l2 k2 l1 x5_1 x6_1 (x11_2.set ((wrap64 ((x11_2.length : Int) - 1)) : Int).toNat (⟨(rd_T37 x11_2 (wrap64 ((x11_2.length : Int) - 1))).f0, (rd_T37 x11_2 (wrap64 ((x11_2.length : Int) - 1))).f1, (((rd_T37 x11_2 (wrap64 ((x11_2.length : Int) - 1))).f2) ++ [rd l1 x13_2])⟩ : S37)) true (wrap64 (x13_2 + 1))) else (none)) else (none)) else (none)) = some r := by rw [if_pos rfl] at H; exact H
          clear H
          have H := H1
          clear H1
          obtain ⟨ji92, hji92⟩ : ∃ j_ : Int, (wrap64 ((x11_2.length : Int) - 1)) = j_ := ⟨_, rfl⟩
          replace H : (if 0 ≤ (ji92) then (if (ji92) < (x11_2.length : Int) then (if ((rd_T37 x11_2 (ji92)).f2).length < 140737488355328 then (changeforgeref3_EncodeDelta.l2 k2 l1 x5_1 x6_1 (x11_2.set ((ji92) : Int).toNat (⟨(rd_T37 x11_2 (ji92)).f0, (rd_T37 x11_2 (ji92)).f1, (((rd_T37 x11_2 (ji92)).f2) ++ [rd l1 x13_2])⟩ : S37)) true (wrap64 (x13_2 + 1))) else (none)) else (none)) else (none)) = some r := by first | (rw [hji92] at H; exact H) | (simp only [hji92] at H ⊢; exact H)
          have hji92w : (IntKind.i64.wrap ((x11_2.length : Int) - 1)) = ji92 := (i64_w _).trans hji92
          by_cases c93 : 0 ≤ (ji92)
          rotate_left
          · rw [if_neg c93] at H
            exact absurd H (by simp)
          rw [if_pos c93] at H
          have c93b0 : decide (0 ≤ (ji92)) = true := decide_eq_true c93
          clear c93
          by_cases c94 : (ji92) < (x11_2.length : Int)
          rotate_left
          · rw [if_neg c94] at H
            exact absurd H (by simp)
          rw [if_pos c94] at H
          have c94b0 : decide ((ji92) < (x11_2.length : Int)) = true := decide_eq_true c94
          clear c94
          by_cases c95 : ((rd_T37 x11_2 (ji92)).f2).length < 140737488355328
          rotate_left
          · rw [if_neg c95] at H
            exact absurd H (by simp)
          rw [if_pos c95] at H
          have LMc95 := aZ c95
          clear c95
          obtain ⟨y234, hy234⟩ : ∃ y_ : List Int, y_ = (((rd_T37 x11_2 (ji92)).f2) ++ [rd l1 x13_2]) := ⟨_, rfl⟩
          replace H : (changeforgeref3_EncodeDelta.l2 k2 l1 x5_1 x6_1 (x11_2.set ((ji92) : Int).toNat (⟨(rd_T37 x11_2 (ji92)).f0, (rd_T37 x11_2 (ji92)).f1, y234⟩ : S37)) true (wrap64 (x13_2 + 1))) = some r := by first | (rw [hy234]; with_reducible exact H) | (have H2_ := (Option.bind_some _ _).symm.trans H; rw [hy234]; with_reducible exact H2_) | (have H2_ := (Option.bind_some _ _).symm.trans H; with_reducible exact H2_) | with_reducible exact H | (rw [hy234]; exact H) | exact H
          have Ny234 := aZ hy234
          clear hy234
          obtain ⟨y237, hy237⟩ : ∃ y_ : List (S37), y_ = (x11_2.set ((ji92) : Int).toNat (⟨(rd_T37 x11_2 (ji92)).f0, (rd_T37 x11_2 (ji92)).f1, y234⟩ : S37)) := ⟨_, rfl⟩
          replace H : (changeforgeref3_EncodeDelta.l2 k2 l1 x5_1 x6_1 y237 true (wrap64 (x13_2 + 1))) = some r := by first | (rw [hy237]; with_reducible exact H) | (have H2_ := (Option.bind_some _ _).symm.trans H; rw [hy237]; with_reducible exact H2_) | (have H2_ := (Option.bind_some _ _).symm.trans H; with_reducible exact H2_) | with_reducible exact H | (rw [hy237]; exact H) | exact H
          have Ny237 := aZ hy237
          clear hy237
          have H' := aZ H
          clear H
          obtain ⟨Ao97, co97, eo97⟩ := Kd.R_slice HO_5.out
          subst eo97
          have p225 : 0 ≤ (x13_2 : Int) := of_decide_eq_true (by first | (with_reducible assumption) | assumption)
          have q225 : x13_2 < (x5_1.length : Int) := of_decide_eq_true (by first | (with_reducible assumption) | assumption)
          obtain ⟨ad225, e225, hx225_0⟩ := Kd.at_int (Kd.R_reads' HO_5.out).2.2 x13_2 p225 q225
          cases e225
          replace p225 := eq_true p225
          replace q225 := eq_true q225
          obtain ⟨Ao98, co98, eo98⟩ := Kd.S_slice HO_11.out
          subst eo98
          try go_wp2
          have n0_ := aZ (Kd.rD HO_5.out)
          have n1_ := aZ (Kd.rD HO_6.out)
          have n2_ := aZ (Kd.S_drew HO_11.out)
          have n3_ := aZ (lD HB.out)
          clear HO_5
          clear HO_6
          clear HO_11
          clear HB
          have HO_5 := n0_
          have HO_6 := n1_
          have HO_11 := n2_
          have HB := n3_
          clear n0_ n1_ n2_ n3_
          have p232 : 0 ≤ ((ji92) : Int) := of_decide_eq_true (by first | (with_reducible assumption) | assumption)
          have q232 : (ji92) < (x11_2.length : Int) := of_decide_eq_true (by first | (with_reducible assumption) | assumption)
          obtain ⟨ad232, A232_2, c232_2, e232, hx232_0, hx232_1, hx232_2, hl232_2, hi232_2⟩ := at_T37 (Kd.S_reads' HO_11.out).2.2 (ji92) p232 q232
          cases e232
          obtain ⟨ce232, hce232, hMe232, hcc232⟩ := Kd.S_get HO_11.out z37 (ji92) p232 (by first | exact q232 | exact of_decide_eq_true (by first | (with_reducible assumption) | assumption) | (have e_ := (Kd.S_reads' HO_11.out).1; omega))
          obtain ⟨ve232_2, rfl, ge232_2⟩ := k37_openM hMe232
          have hv232_2 := hcc232 2 _ rfl
          rw [add_field _ _ 2 (by omega)] at hv232_2
          replace hv232_2 := Option.some.inj (hv232_2.symm.trans hx232_2)
          rw [hv232_2] at ge232_2
          have HL232_2 := aZ (show Kd.R (Kd.int .u8) 5 _ _ _ _ ((rd_T37 x11_2 (ji92)).f2) from ge232_2)
          clear hv232_2 ge232_2
          have HX232_2 := aZ hx232_2
          clear hcc232 hce232
          have HR232_2 := aZ hi232_2
          have HC232_2 := aZ hl232_2
          clear hi232_2 hl232_2
          replace p232 := eq_true p232
          replace q232 := eq_true q232
          have p233 : 0 ≤ (x13_2 : Int) := of_decide_eq_true (by first | (with_reducible assumption) | assumption)
          have q233 : x13_2 < (l1.length : Int) := of_decide_eq_true (by first | (with_reducible assumption) | assumption)
          obtain ⟨ad233, e233, hx233_0⟩ := Kd.at_int HR1.out x13_2 p233 q233
          have hw233_0 := hx233_0
          cases e233
          replace hx233_0 := (HB.out.cell (World.block_lt_of_cell? w _ hx233_0)).trans hx233_0
          replace p233 := eq_true p233
          replace q233 := eq_true q233
          obtain ⟨go100, co100, eo100, gb100, gl100, cl100, HG100⟩ := Kd.S_form HO_11.out (by have h_ : ((ji92) : Int) < ((x11_2.length : Int) : Int) := of_decide_eq_true (by first | (with_reducible assumption) | assumption); have h2_ : 0 ≤ ((ji92) : Int) := (of_decide_eq_true (by first | (with_reducible assumption) | assumption)); omega)
          (first | cases eo100 | (injection eo100 with ea_ en_ ec_; (first | subst ea_ | (injection ea_ with ea_; subst ea_)); subst ec_; clear en_))
          have GB100 := aZ gb100
          have GG100 := aZ HG100
          clear gb100 gl100 HG100
          (first | simp only [add_plain] at hx232_0 | skip)
          (first | simp only [add_plain] at hx232_1 | skip)
          (first | simp only [add_plain] at hx232_2 | skip)
          obtain ⟨oki100, ce100, hcl100, hM100, hcc100, _, _, hH100⟩ := Kd.S_elem HO_11.out z37 ((ji92) : Int) (of_decide_eq_true (by first | (with_reducible assumption) | assumption)) (by have h_ : ((ji92) : Int) < ((x11_2.length : Int) : Int) := of_decide_eq_true (by first | (with_reducible assumption) | assumption); first | exact h_ | (have e_ := (Kd.S_reads' HO_11.out).1; omega) | simpa using h_)
          obtain ⟨ve100_2, rfl, ge100_2⟩ := k37_openM hM100
          have hv100 := hcc100 2 _ rfl
          have hX100 := HX232_2.out
          (try simp only [add_plain] at hX100)
          (try simp only [Nat.add_zero] at hv100)
          replace hv100 := Option.some.inj (hv100.symm.trans hX100)
          subst hv100
          clear hX100 hcc100 hcl100
          have UU100 := aZ (show Kd.R (Kd.int .u8) 5 _ w.heap.size oki100 (.slice A232_2 ((rd_T37 x11_2 (ji92)).f2).length c232_2) ((rd_T37 x11_2 (ji92)).f2) from ge100_2)
          have HH100 := aZ hH100
          have HN100 := aZ (Kd.S_reads' HO_11.out).1
          clear hH100 ge100_2
          refine start_ (n := 16) (S := fun w' => w'.cell? ⟨go100, (((ji92)).toNat * 3), none⟩ = some (.int .i64 ((rd_T37 x11_2 (ji92)).f0)) ∧ w'.cell? ⟨go100, (((ji92)).toNat * 3) + 1, none⟩ = some (.int .i64 ((rd_T37 x11_2 (ji92)).f1)) ∧ w'.cell? ⟨go100, (((ji92)).toNat * 3) + 2, none⟩ = some (.slice A232_2 ((rd_T37 x11_2 (ji92)).f2).length c232_2) ∧ w'.cell? (ad233.add (x13_2).toNat) = some (.int .u8 (rd l1 x13_2))) (ds := [15]) Z1 (by kernel_rfl) rfl rfl ⟨hx232_0, hx232_1, hx232_2, ((HB.out.cell (World.block_lt_of_cell? w _ hw233_0)).trans hw233_0)⟩ (fun hHeld => ?_); refine with_tabW changeforgeref3_EncodeDelta.tab29 changeforgeref3_EncodeDelta.bits29 (fun HT_ HW_ => ?_)
          generalize wr.drew = w99 at HO_5 HO_6 HO_11 HB GG100 HH100 HL232_2 HR232_2 HX232_2 UU100 hx232_0 hx232_1 hx232_2 hx233_0 hHeld ⊢
          refine pu 0 127 Z2 HT_ rfl rfl (h := ?_)
          refine pu 1 128 Z3 HT_ rfl rfl (h := ?_)
          refine pu 2 129 Z4 HT_ rfl rfl (h := ?_)
          refine pu 3 130 Z5 HT_ rfl rfl (h := ?_)
          refine pu 4 131 Z6 HT_ rfl rfl (h := ?_)
          refine pu 5 132 Z7 HT_ rfl rfl (h := ?_)
          refine pu 7 134 Z35 HT_ rfl rfl (h := ?_)
          refine pu 8 135 Z36 HT_ rfl rfl (h := ?_)
          refine pu 9 136 Z37 HT_ rfl rfl (h := ?_)
          refine tk 6 133 Z18 HT_ HW_ rfl rfl hHeld (by rintro w' ⟨s0, s1, s2, s3⟩; go_simp; with_reducible rfl) (h := ?_)
          refine tk 10 137 Z19 HT_ HW_ rfl rfl hHeld (by rintro w' ⟨s0, s1, s2, s3⟩; go_simp; with_reducible rfl) (h := ?_)
          refine one_ (i := 11) (N := some 138) Z20 rfl rfl (one_of HT_.out (by kernel_rfl)) (by decide) (fun K hK => ?_)
          refine value_ (w1 := ?_) (v := ?_) (by rfl) rfl ?_ ?_
          rotate_left 2
          · go_simp
            constructor
            · rfl
            · rfl
          refine hK.out _ _ ⟨(World.cell?_alloc_lt _ _ _ (World.block_lt_of_cell? _ _ (hHeld.1))).trans (hHeld.1), (World.cell?_alloc_lt _ _ _ (World.block_lt_of_cell? _ _ (hHeld.2.1))).trans (hHeld.2.1), (World.cell?_alloc_lt _ _ _ (World.block_lt_of_cell? _ _ (hHeld.2.2.1))).trans (hHeld.2.2.1), (World.cell?_alloc_lt _ _ _ (World.block_lt_of_cell? _ _ (((HB.out.cell (World.block_lt_of_cell? w _ hw233_0)).trans hw233_0)))).trans (((HB.out.cell (World.block_lt_of_cell? w _ hw233_0)).trans hw233_0))⟩ (fun hHeld => ?_)
          clear hK K
          refine norm_ (a' := ?_) ?_ ?_
          rotate_left
          · show Act.put _ (some 138) _ = _
            simp only [Act.put, List.setIfInBounds_toArray, List.set_cons_zero, List.set_cons_succ, i64_w, i32_w]
            rfl
          refine one_ (i := 12) (N := some 139) Z14 rfl rfl (one_of HT_.out (by kernel_rfl)) (by decide) (fun K hK => ?_)
          refine Kd.R_append_step (Kd.int .u8) (w0 := w) w.heap.size (by rfl) (.tmp 133) (.tmp 138) 22 5 (.int .u8 0) 1 rfl Try.underlying22 info5 rfl (by decide) (by omega) (.slice A232_2 ((rd_T37 x11_2 (ji92)).f2).length c232_2) ((rd_T37 x11_2 (ji92)).f2) (rd l1 x13_2) [.int .u8 (rd l1 x13_2)] (fun k_ => oki100 k_ ∨ ((fun _ => True)) k_ ∧ w99.heap.size ≤ k_) (fun _ => False) rfl rfl ?aP (fun _ hk => hk.elim) ?aF ?aO ?aB ?aS ?aL ?_
          (case aP => exact rfl)
          (case aB => exact (by repeat (first | (with_reducible first | exact HB.out | apply lA | apply lN | apply lD) | exact HB.out)))
          (case aF => exact (fun k_ hk => .inr ⟨trivial, hk⟩))
          (case aO => exact (by (with_reducible repeat (first | apply Kd.rA | apply Kd.rN | apply Kd.rD)); exact Kd.R_mono UU100.out (fun _ hk => .inl hk)))
          (case aS => exact (lZ (by repeat (first | (with_reducible first | exact HB.out | apply lA | apply lN | apply lD) | exact HB.out))))
          (case aL => have := LMc95.out; omega)
          intro v235 w101 ho hb hg hat
          (first | have HS0_ := cell_grown hg (hHeld.1) (by first | (rw [add_block]; exact (fun e_ => ((HL232_2.out.1 _ e_.symm).2) rfl)) | (show some (Addr.add _ _).block ≠ _; rw [add_block]; exact (fun e_ => ((HL232_2.out.1 _ e_.symm).2) rfl)) | exact (fun e_ => ((HL232_2.out.1 _ e_.symm).2) rfl)) | have HS0_ := cell_grown hg (cell_unalloc (hHeld.1) (by first | (rw [add_block]; exact Kd.S_lt HO_11.out _ rfl) | (show (Addr.add _ _).block < _; rw [add_block]; exact Kd.S_lt HO_11.out _ rfl) | exact Kd.S_lt HO_11.out _ rfl)) (by first | (rw [add_block]; exact (fun e_ => ((HL232_2.out.1 _ e_.symm).2) rfl)) | (show some (Addr.add _ _).block ≠ _; rw [add_block]; exact (fun e_ => ((HL232_2.out.1 _ e_.symm).2) rfl)) | exact (fun e_ => ((HL232_2.out.1 _ e_.symm).2) rfl)))
          (first | have HS1_ := cell_grown hg (hHeld.2.1) (by first | (rw [add_block]; exact (fun e_ => ((HL232_2.out.1 _ e_.symm).2) rfl)) | (show some (Addr.add _ _).block ≠ _; rw [add_block]; exact (fun e_ => ((HL232_2.out.1 _ e_.symm).2) rfl)) | exact (fun e_ => ((HL232_2.out.1 _ e_.symm).2) rfl)) | have HS1_ := cell_grown hg (cell_unalloc (hHeld.2.1) (by first | (rw [add_block]; exact Kd.S_lt HO_11.out _ rfl) | (show (Addr.add _ _).block < _; rw [add_block]; exact Kd.S_lt HO_11.out _ rfl) | exact Kd.S_lt HO_11.out _ rfl)) (by first | (rw [add_block]; exact (fun e_ => ((HL232_2.out.1 _ e_.symm).2) rfl)) | (show some (Addr.add _ _).block ≠ _; rw [add_block]; exact (fun e_ => ((HL232_2.out.1 _ e_.symm).2) rfl)) | exact (fun e_ => ((HL232_2.out.1 _ e_.symm).2) rfl)))
          (first | have HS2_ := cell_grown hg (hHeld.2.2.1) (by first | (rw [add_block]; exact (fun e_ => ((HL232_2.out.1 _ e_.symm).2) rfl)) | (show some (Addr.add _ _).block ≠ _; rw [add_block]; exact (fun e_ => ((HL232_2.out.1 _ e_.symm).2) rfl)) | exact (fun e_ => ((HL232_2.out.1 _ e_.symm).2) rfl)) | have HS2_ := cell_grown hg (cell_unalloc (hHeld.2.2.1) (by first | (rw [add_block]; exact Kd.S_lt HO_11.out _ rfl) | (show (Addr.add _ _).block < _; rw [add_block]; exact Kd.S_lt HO_11.out _ rfl) | exact Kd.S_lt HO_11.out _ rfl)) (by first | (rw [add_block]; exact (fun e_ => ((HL232_2.out.1 _ e_.symm).2) rfl)) | (show some (Addr.add _ _).block ≠ _; rw [add_block]; exact (fun e_ => ((HL232_2.out.1 _ e_.symm).2) rfl)) | exact (fun e_ => ((HL232_2.out.1 _ e_.symm).2) rfl)))
          rw [← Ny234.out] at ho
          have n0_ := aZ (Kd.R_over' (v := (.slice A232_2 ((rd_T37 x11_2 (ji92)).f2).length c232_2)) (by (with_reducible repeat (first | apply Kd.rA | apply Kd.rN | apply Kd.rD)); exact HO_5.out) (Kd.R_typed HL232_2.out) (by decide) hg)
          have n1_ := aZ (Kd.R_over' (v := (.slice A232_2 ((rd_T37 x11_2 (ji92)).f2).length c232_2)) (by (with_reducible repeat (first | apply Kd.rA | apply Kd.rN | apply Kd.rD)); exact HO_6.out) (Kd.R_typed HL232_2.out) (by decide) hg)
          have n2_ := aZ (hb)
          have n3_ := aZ (Kd.H_grown (Kd.H_widen (by repeat (first | exact HH100.out | refine Kd.H_alloc ?_ _ | refine Kd.H_drewN ?_ _ | refine Kd.H_drew ?_))) hg (fun k_ e_ => .inl (UU100.out.1 k_ e_)))
          have n4_ := aZ (ho)
          clear HO_5
          clear HO_6
          clear HB
          clear HH100
          clear HO_11
          clear UU100
          clear HL232_2
          have HO_5 := n0_
          have HO_6 := n1_
          have HB := n2_
          have HH100 := n3_
          have HO236 := n4_
          clear n0_ n1_ n2_ n3_ n4_
          clear ho hb hg hat
          have p96 : 0 ≤ ((ji92) : Int) := of_decide_eq_true (by first | (with_reducible assumption) | assumption)
          have q96 : ((ji92) : Int) < ((x11_2.length : Int) : Int) := of_decide_eq_true (by first | (with_reducible assumption) | assumption)
          replace p96 := eq_true p96
          replace q96 := eq_true q96
          obtain ⟨Ao104, co104, eo104⟩ := Kd.R_slice HO236.out
          (first | subst eo104 | (injection eo104 with f1_ f2_ f3_; have f4_ := f1_.symm; have f5_ := f3_.symm; clear f1_ f2_ f3_; subst f4_; subst f5_))
          obtain ⟨_, _, hraw102, _, _, hcc102, _⟩ := Kd.H_raw HH100.out (of_decide_eq_true (by first | (with_reducible assumption) | assumption)) (by have h_ : ((ji92) : Int) < ((x11_2.length : Int) : Int) := of_decide_eq_true (by first | (with_reducible assumption) | assumption); first | exact h_ | (have e_ := (HN100.out); omega) | simpa using h_)
          obtain ⟨_, hfr102⟩ := Kd.H_at HH100.out (of_decide_eq_true (by first | (with_reducible assumption) | assumption)) (by have h_ : ((ji92) : Int) < ((x11_2.length : Int) : Int) := of_decide_eq_true (by first | (with_reducible assumption) | assumption); first | exact h_ | (have e_ := (HN100.out); omega) | simpa using h_)
          have hx102_0 := hcc102 2 _ rfl
          have hf102_0 := hfr102 2
          (try rw [show (k37).sz = 3 from rfl] at hx102_0)
          (try rw [show (k37).sz = 3 from rfl] at hf102_0)
          have HP102 := Kd.S_seg0 HH100.out (of_decide_eq_true (by first | (with_reducible assumption) | assumption)) (by have h_ : ((ji92) : Int) < ((x11_2.length : Int) : Int) := of_decide_eq_true (by first | (with_reducible assumption) | assumption); first | exact h_ | (have e_ := (HN100.out); omega) | simpa using h_) (seg := [.slice Ao104 y234.length co104]) (j := 2) (show 3 ≤ 3 from by decide) (x' := (⟨(rd_T37 x11_2 (ji92)).f0, (rd_T37 x11_2 (ji92)).f1, y234⟩ : S37)) (k37_mkM _ _ _ (⟨(rd_T37 x11_2 (ji92)).f0, (rd_T37 x11_2 (ji92)).f1, y234⟩ : S37) HO236.out) (fun _ hk => hk)
          clear hcc102 hfr102
          have HS102 := HP102.1
          rw [← Ny237.out] at HS102
          have HQ102 := aZ HS102
          obtain ⟨_, hgg102⟩ := Kd.R_typed hraw102 go100 rfl
          have GG102_ := aZ hgg102
          clear HP102 HS102 hgg102
          refine hK.out _ _ ⟨HS0_, HS1_, HS2_, ((HB.out.cell (World.block_lt_of_cell? w _ hw233_0)).trans hw233_0)⟩ (fun hHeld => ?_)
          clear hK K
          refine norm_ (a' := ?_) ?_ ?_
          rotate_left
          · show Act.put _ (some 139) _ = _
            simp only [Act.put, List.setIfInBounds_toArray, List.set_cons_zero, List.set_cons_succ, i64_w, i32_w]
            rfl
          refine pu 13 140 Z15 HT_ rfl rfl (h := ?_)
          refine pu 14 141 Z16 HT_ rfl rfl (h := ?_)
          refine last_ (i := 15) (N := none) Z17 rfl rfl (one_of HT_.out (by kernel_rfl)) (by decide) (fun K hK => ?_)
          refine skip_ (w1 := ?_) (by rfl) rfl ?_ ?_
          rotate_left
          · go_simp
            rfl
          refine hK.out _ _ ?_
          clear hK K
          refine done_ (done_of HT_.out (by kernel_rfl)) ?_
          try go_wp2
          go_roundg k2
          case measure => have := HK1.out; have := HK2.out; omega
          case rel => exact ⟨(y237), (true), (wrap64 (x13_2 + 1)), (by first | rfl | (simp; done) | (simp [*]; done) | (simp [i64_w]; done)), (by first | rfl | (simp; done) | (simp [*]; done) | (simp [i64_w]; done)), H', ⟨by have := HK1.out; have := HK2.out; omega⟩, ⟨by (with_reducible repeat (first | apply Kd.rA | apply Kd.rN | apply Kd.rD)); exact Kd.R_mono (Kd.R_far (p := ⟨go100, ((ji92) : Int).toNat * 3 + 2, none⟩) (Kd.R_types HO_5.out GG102_.out (by decide)) (fun _ hk => hk.2) (.slice Ao104 y234.length co104)) (fun _ hk => hk.1)⟩, ⟨by (with_reducible repeat (first | apply Kd.rA | apply Kd.rN | apply Kd.rD)); exact Kd.R_mono (Kd.R_far (p := ⟨go100, ((ji92) : Int).toNat * 3 + 2, none⟩) (Kd.R_types HO_6.out GG102_.out (by decide)) (fun _ hk => hk.2) (.slice Ao104 y234.length co104)) (fun _ hk => hk.1)⟩, ⟨by (with_reducible repeat (first | apply Kd.S_alloc | apply Kd.S_drewN | apply Kd.S_drew)); exact HQ102.out⟩, ⟨by repeat (first | (with_reducible first | exact HB.out | apply lA | apply lN | apply lD | refine lS ?_ GB100.out) | exact HB.out)⟩⟩
        replace c91 := Bool.eq_false_iff.mpr c91
        subst c91
        have H1 : (if x11_2.length < 3518437208883 then ((some (x11_2 ++ [(⟨0, 0, ([] : List Int)⟩ : S37)] : List (S37))).bind fun y238 => (if 0 ≤ (wrap64 ((y238.length : Int) - 1)) then (if (wrap64 ((y238.length : Int) - 1)) < (y238.length : Int) then (if ((rd_T37 y238 (wrap64 ((y238.length : Int) - 1))).f2).length < 140737488355328 then (changeforgeref3_EncodeDelta.l2 k2 l1 x5_1 x6_1 (y238.set ((wrap64 ((y238.length : Int) - 1)) : Int).toNat (⟨(rd_T37 y238 (wrap64 ((y238.length : Int) - 1))).f0, (rd_T37 y238 (wrap64 ((y238.length : Int) - 1))).f1, (((rd_T37 y238 (wrap64 ((y238.length : Int) - 1))).f2) ++ [rd l1 x13_2])⟩ : S37)) true (wrap64 (x13_2 + 1))) else (none)) else (none)) else (none))) else (none)) = some r := by rw [if_neg (show ¬ (false = true) by decide)] at H; exact H
        clear H
        have H := H1
        clear H1
        by_cases c105 : x11_2.length < 3518437208883
        rotate_left
        · rw [if_neg c105] at H
          exact absurd H (by simp)
        rw [if_pos c105] at H
        have LMc105 := aZ c105
        clear c105
        obtain ⟨y238, hy238⟩ : ∃ y_ : List (S37), y_ = (x11_2 ++ [(⟨0, 0, ([] : List Int)⟩ : S37)]) := ⟨_, rfl⟩
        replace H : (if 0 ≤ (wrap64 ((y238.length : Int) - 1)) then (if (wrap64 ((y238.length : Int) - 1)) < (y238.length : Int) then (if ((rd_T37 y238 (wrap64 ((y238.length : Int) - 1))).f2).length < 140737488355328 then (changeforgeref3_EncodeDelta.l2 k2 l1 x5_1 x6_1 (y238.set ((wrap64 ((y238.length : Int) - 1)) : Int).toNat (⟨(rd_T37 y238 (wrap64 ((y238.length : Int) - 1))).f0, (rd_T37 y238 (wrap64 ((y238.length : Int) - 1))).f1, (((rd_T37 y238 (wrap64 ((y238.length : Int) - 1))).f2) ++ [rd l1 x13_2])⟩ : S37)) true (wrap64 (x13_2 + 1))) else (none)) else (none)) else (none)) = some r := by first | (rw [hy238]; with_reducible exact H) | (have H2_ := (Option.bind_some _ _).symm.trans H; rw [hy238]; with_reducible exact H2_) | (have H2_ := (Option.bind_some _ _).symm.trans H; with_reducible exact H2_) | with_reducible exact H | (rw [hy238]; exact H) | exact H
        have Ny238 := aZ hy238
        clear hy238
        obtain ⟨ji106, hji106⟩ : ∃ j_ : Int, (wrap64 ((y238.length : Int) - 1)) = j_ := ⟨_, rfl⟩
        replace H : (if 0 ≤ (ji106) then (if (ji106) < (y238.length : Int) then (if ((rd_T37 y238 (ji106)).f2).length < 140737488355328 then (changeforgeref3_EncodeDelta.l2 k2 l1 x5_1 x6_1 (y238.set ((ji106) : Int).toNat (⟨(rd_T37 y238 (ji106)).f0, (rd_T37 y238 (ji106)).f1, (((rd_T37 y238 (ji106)).f2) ++ [rd l1 x13_2])⟩ : S37)) true (wrap64 (x13_2 + 1))) else (none)) else (none)) else (none)) = some r := by first | (rw [hji106] at H; exact H) | (simp only [hji106] at H ⊢; exact H)
        have hji106w : (IntKind.i64.wrap ((y238.length : Int) - 1)) = ji106 := (i64_w _).trans hji106
        by_cases c107 : 0 ≤ (ji106)
        rotate_left
        · rw [if_neg c107] at H
          exact absurd H (by simp)
        rw [if_pos c107] at H
        have c107b0 : decide (0 ≤ (ji106)) = true := decide_eq_true c107
        clear c107
        by_cases c108 : (ji106) < (y238.length : Int)
        rotate_left
        · rw [if_neg c108] at H
          exact absurd H (by simp)
        rw [if_pos c108] at H
        have c108b0 : decide ((ji106) < (y238.length : Int)) = true := decide_eq_true c108
        clear c108
        by_cases c109 : ((rd_T37 y238 (ji106)).f2).length < 140737488355328
        rotate_left
        · rw [if_neg c109] at H
          exact absurd H (by simp)
        rw [if_pos c109] at H
        have LMc109 := aZ c109
        clear c109
        obtain ⟨y243, hy243⟩ : ∃ y_ : List Int, y_ = (((rd_T37 y238 (ji106)).f2) ++ [rd l1 x13_2]) := ⟨_, rfl⟩
        replace H : (changeforgeref3_EncodeDelta.l2 k2 l1 x5_1 x6_1 (y238.set ((ji106) : Int).toNat (⟨(rd_T37 y238 (ji106)).f0, (rd_T37 y238 (ji106)).f1, y243⟩ : S37)) true (wrap64 (x13_2 + 1))) = some r := by first | (rw [hy243]; with_reducible exact H) | (have H2_ := (Option.bind_some _ _).symm.trans H; rw [hy243]; with_reducible exact H2_) | (have H2_ := (Option.bind_some _ _).symm.trans H; with_reducible exact H2_) | with_reducible exact H | (rw [hy243]; exact H) | exact H
        have Ny243 := aZ hy243
        clear hy243
        obtain ⟨y246, hy246⟩ : ∃ y_ : List (S37), y_ = (y238.set ((ji106) : Int).toNat (⟨(rd_T37 y238 (ji106)).f0, (rd_T37 y238 (ji106)).f1, y243⟩ : S37)) := ⟨_, rfl⟩
        replace H : (changeforgeref3_EncodeDelta.l2 k2 l1 x5_1 x6_1 y246 true (wrap64 (x13_2 + 1))) = some r := by first | (rw [hy246]; with_reducible exact H) | (have H2_ := (Option.bind_some _ _).symm.trans H; rw [hy246]; with_reducible exact H2_) | (have H2_ := (Option.bind_some _ _).symm.trans H; with_reducible exact H2_) | with_reducible exact H | (rw [hy246]; exact H) | exact H
        have Ny246 := aZ hy246
        clear hy246
        have H' := aZ H
        clear H
        obtain ⟨Ao111, co111, eo111⟩ := Kd.R_slice HO_5.out
        subst eo111
        have p225 : 0 ≤ (x13_2 : Int) := of_decide_eq_true (by first | (with_reducible assumption) | assumption)
        have q225 : x13_2 < (x5_1.length : Int) := of_decide_eq_true (by first | (with_reducible assumption) | assumption)
        obtain ⟨ad225, e225, hx225_0⟩ := Kd.at_int (Kd.R_reads' HO_5.out).2.2 x13_2 p225 q225
        cases e225
        replace p225 := eq_true p225
        replace q225 := eq_true q225
        try go_wp2_with (first | ((with_reducible refine gate_builtin (b := .append) (xs := #[.tmp 120, .tmp 122]) rfl ?_); at_builtin; refine Kd.S_append k37 (w0 := w) w.heap.size rfl (.tmp 120) (.tmp 122) 24 37 (.agg #[(.int .i64 0), (.int .i64 0), (.slice none 0 0)]) 40 rfl Try.underlying24 info37 rfl (by decide) (by omega) u11 x11_2 (⟨0, 0, ([] : List Int)⟩ : S37) [.int .i64 0, .int .i64 0, .slice none 0 0] (fun _ => True) (fun _ => False) rfl rfl ?aP (fun k_ hk_ => hk_.elim) ?aF ?aO ?aB ?aS ?aL ?_; (case aP => exact k37_mkM _ _ _ (⟨0, 0, ([] : List Int)⟩ : S37) (Kd.R_nil _ _ _ _ _)); (case aB => exact (by repeat (first | (with_reducible first | exact HB.out | apply lA | apply lN | apply lD) | exact HB.out))); (case aF => exact (fun _ _ => trivial)); (case aO => exact (by (with_reducible repeat (first | apply Kd.S_alloc | apply Kd.S_drewN | apply Kd.S_drew)); exact Kd.S_mono HO_11.out (fun k_ hk => ⟨trivial, fun e_ => e_⟩))); (case aS => exact (lZ (by repeat (first | (with_reducible first | exact HB.out | apply lA | apply lN | apply lD) | exact HB.out)))); (case aL => have := LMc105.out; omega); intro v239 w112 ho hb hg hat; rw [← Ny238.out] at ho; have n0_ := aZ (Kd.R_over' (by (with_reducible repeat (first | apply Kd.rA | apply Kd.rN | apply Kd.rD)); exact HO_5.out) (Kd.S_typed (by (with_reducible repeat (first | apply Kd.S_alloc | apply Kd.S_drewN | apply Kd.S_drew)); exact HO_11.out)) (by decide) hg); have n1_ := aZ (Kd.R_over' (by (with_reducible repeat (first | apply Kd.rA | apply Kd.rN | apply Kd.rD)); exact HO_6.out) (Kd.S_typed (by (with_reducible repeat (first | apply Kd.S_alloc | apply Kd.S_drewN | apply Kd.S_drew)); exact HO_11.out)) (by decide) hg); have n2_ := aZ (hb); have n3_ := aZ (ho); clear HO_5; clear HO_6; clear HB; clear HO_11; have HO_5 := n0_; have HO_6 := n1_; have HB := n2_; have HO240 := n3_; clear n0_ n1_ n2_ n3_; clear ho hb hg hat; obtain ⟨Ao113, co113, eo113⟩ := Kd.S_slice HO240.out; subst eo113))
        have n0_ := aZ (Kd.rD HO_5.out)
        have n1_ := aZ (Kd.rD HO_6.out)
        have n2_ := aZ (Kd.S_drew HO240.out)
        have n3_ := aZ (lD HB.out)
        clear HO_5
        clear HO_6
        clear HO240
        clear HB
        have HO_5 := n0_
        have HO_6 := n1_
        have HO240 := n2_
        have HB := n3_
        clear n0_ n1_ n2_ n3_
        have p241 : 0 ≤ ((ji106) : Int) := of_decide_eq_true (by first | (with_reducible assumption) | assumption)
        have q241 : (ji106) < (y238.length : Int) := of_decide_eq_true (by first | (with_reducible assumption) | assumption)
        obtain ⟨ad241, A241_2, c241_2, e241, hx241_0, hx241_1, hx241_2, hl241_2, hi241_2⟩ := at_T37 (Kd.S_reads' HO240.out).2.2 (ji106) p241 q241
        cases e241
        obtain ⟨ce241, hce241, hMe241, hcc241⟩ := Kd.S_get HO240.out z37 (ji106) p241 (by first | exact q241 | exact of_decide_eq_true (by first | (with_reducible assumption) | assumption) | (have e_ := (Kd.S_reads' HO240.out).1; omega))
        obtain ⟨ve241_2, rfl, ge241_2⟩ := k37_openM hMe241
        have hv241_2 := hcc241 2 _ rfl
        rw [add_field _ _ 2 (by omega)] at hv241_2
        replace hv241_2 := Option.some.inj (hv241_2.symm.trans hx241_2)
        rw [hv241_2] at ge241_2
        have HL241_2 := aZ (show Kd.R (Kd.int .u8) 5 _ _ _ _ ((rd_T37 y238 (ji106)).f2) from ge241_2)
        clear hv241_2 ge241_2
        have HX241_2 := aZ hx241_2
        clear hcc241 hce241
        have HR241_2 := aZ hi241_2
        have HC241_2 := aZ hl241_2
        clear hi241_2 hl241_2
        replace p241 := eq_true p241
        replace q241 := eq_true q241
        have p242 : 0 ≤ (x13_2 : Int) := of_decide_eq_true (by first | (with_reducible assumption) | assumption)
        have q242 : x13_2 < (l1.length : Int) := of_decide_eq_true (by first | (with_reducible assumption) | assumption)
        obtain ⟨ad242, e242, hx242_0⟩ := Kd.at_int HR1.out x13_2 p242 q242
        have hw242_0 := hx242_0
        cases e242
        replace hx242_0 := (HB.out.cell (World.block_lt_of_cell? w _ hx242_0)).trans hx242_0
        replace p242 := eq_true p242
        replace q242 := eq_true q242
        obtain ⟨go115, co115, eo115, gb115, gl115, cl115, HG115⟩ := Kd.S_form HO240.out (by have h_ : ((ji106) : Int) < ((y238.length : Int) : Int) := of_decide_eq_true (by first | (with_reducible assumption) | assumption); have h2_ : 0 ≤ ((ji106) : Int) := (of_decide_eq_true (by first | (with_reducible assumption) | assumption)); omega)
        (first | cases eo115 | (injection eo115 with ea_ en_ ec_; (first | subst ea_ | (injection ea_ with ea_; subst ea_)); subst ec_; clear en_))
        have GB115 := aZ gb115
        have GG115 := aZ HG115
        clear gb115 gl115 HG115
        (first | simp only [add_plain] at hx241_0 | skip)
        (first | simp only [add_plain] at hx241_1 | skip)
        (first | simp only [add_plain] at hx241_2 | skip)
        obtain ⟨oki115, ce115, hcl115, hM115, hcc115, _, _, hH115⟩ := Kd.S_elem HO240.out z37 ((ji106) : Int) (of_decide_eq_true (by first | (with_reducible assumption) | assumption)) (by have h_ : ((ji106) : Int) < ((y238.length : Int) : Int) := of_decide_eq_true (by first | (with_reducible assumption) | assumption); first | exact h_ | (have e_ := (Kd.S_reads' HO240.out).1; omega) | simpa using h_)
        obtain ⟨ve115_2, rfl, ge115_2⟩ := k37_openM hM115
        have hv115 := hcc115 2 _ rfl
        have hX115 := HX241_2.out
        (try simp only [add_plain] at hX115)
        (try simp only [Nat.add_zero] at hv115)
        replace hv115 := Option.some.inj (hv115.symm.trans hX115)
        subst hv115
        clear hX115 hcc115 hcl115
        have UU115 := aZ (show Kd.R (Kd.int .u8) 5 _ w.heap.size oki115 (.slice A241_2 ((rd_T37 y238 (ji106)).f2).length c241_2) ((rd_T37 y238 (ji106)).f2) from ge115_2)
        have HH115 := aZ hH115
        have HN115 := aZ (Kd.S_reads' HO240.out).1
        clear hH115 ge115_2
        refine start_ (n := 16) (S := fun w' => w'.cell? ⟨go115, (((ji106)).toNat * 3), none⟩ = some (.int .i64 ((rd_T37 y238 (ji106)).f0)) ∧ w'.cell? ⟨go115, (((ji106)).toNat * 3) + 1, none⟩ = some (.int .i64 ((rd_T37 y238 (ji106)).f1)) ∧ w'.cell? ⟨go115, (((ji106)).toNat * 3) + 2, none⟩ = some (.slice A241_2 ((rd_T37 y238 (ji106)).f2).length c241_2) ∧ w'.cell? (ad242.add (x13_2).toNat) = some (.int .u8 (rd l1 x13_2))) (ds := [15]) Z1 (by kernel_rfl) rfl rfl ⟨hx241_0, hx241_1, hx241_2, ((HB.out.cell (World.block_lt_of_cell? w _ hw242_0)).trans hw242_0)⟩ (fun hHeld => ?_); refine with_tabW changeforgeref3_EncodeDelta.tab29 changeforgeref3_EncodeDelta.bits29 (fun HT_ HW_ => ?_)
        generalize w112.drew = w114 at HO_5 HO_6 HO240 HB GG115 HH115 HL241_2 HR241_2 HX241_2 UU115 hx241_0 hx241_1 hx241_2 hx242_0 hHeld ⊢
        refine pu 0 127 Z2 HT_ rfl rfl (h := ?_)
        refine pu 1 128 Z3 HT_ rfl rfl (h := ?_)
        refine pu 2 129 Z4 HT_ rfl rfl (h := ?_)
        refine pu 3 130 Z5 HT_ rfl rfl (h := ?_)
        refine pu 4 131 Z6 HT_ rfl rfl (h := ?_)
        refine pu 5 132 Z7 HT_ rfl rfl (h := ?_)
        refine pu 7 134 Z35 HT_ rfl rfl (h := ?_)
        refine pu 8 135 Z36 HT_ rfl rfl (h := ?_)
        refine pu 9 136 Z37 HT_ rfl rfl (h := ?_)
        refine tk 6 133 Z18 HT_ HW_ rfl rfl hHeld (by rintro w' ⟨s0, s1, s2, s3⟩; go_simp; with_reducible rfl) (h := ?_)
        refine tk 10 137 Z19 HT_ HW_ rfl rfl hHeld (by rintro w' ⟨s0, s1, s2, s3⟩; go_simp; with_reducible rfl) (h := ?_)
        refine one_ (i := 11) (N := some 138) Z20 rfl rfl (one_of HT_.out (by kernel_rfl)) (by decide) (fun K hK => ?_)
        refine value_ (w1 := ?_) (v := ?_) (by rfl) rfl ?_ ?_
        rotate_left 2
        · go_simp
          constructor
          · rfl
          · rfl
        refine hK.out _ _ ⟨(World.cell?_alloc_lt _ _ _ (World.block_lt_of_cell? _ _ (hHeld.1))).trans (hHeld.1), (World.cell?_alloc_lt _ _ _ (World.block_lt_of_cell? _ _ (hHeld.2.1))).trans (hHeld.2.1), (World.cell?_alloc_lt _ _ _ (World.block_lt_of_cell? _ _ (hHeld.2.2.1))).trans (hHeld.2.2.1), (World.cell?_alloc_lt _ _ _ (World.block_lt_of_cell? _ _ (((HB.out.cell (World.block_lt_of_cell? w _ hw242_0)).trans hw242_0)))).trans (((HB.out.cell (World.block_lt_of_cell? w _ hw242_0)).trans hw242_0))⟩ (fun hHeld => ?_)
        clear hK K
        refine norm_ (a' := ?_) ?_ ?_
        rotate_left
        · show Act.put _ (some 138) _ = _
          simp only [Act.put, List.setIfInBounds_toArray, List.set_cons_zero, List.set_cons_succ, i64_w, i32_w]
          rfl
        refine one_ (i := 12) (N := some 139) Z14 rfl rfl (one_of HT_.out (by kernel_rfl)) (by decide) (fun K hK => ?_)
        refine Kd.R_append_step (Kd.int .u8) (w0 := w) w.heap.size (by rfl) (.tmp 133) (.tmp 138) 22 5 (.int .u8 0) 1 rfl Try.underlying22 info5 rfl (by decide) (by omega) (.slice A241_2 ((rd_T37 y238 (ji106)).f2).length c241_2) ((rd_T37 y238 (ji106)).f2) (rd l1 x13_2) [.int .u8 (rd l1 x13_2)] (fun k_ => oki115 k_ ∨ ((fun _ => True)) k_ ∧ w114.heap.size ≤ k_) (fun _ => False) rfl rfl ?aP (fun _ hk => hk.elim) ?aF ?aO ?aB ?aS ?aL ?_
        (case aP => exact rfl)
        (case aB => exact (by repeat (first | (with_reducible first | exact HB.out | apply lA | apply lN | apply lD) | exact HB.out)))
        (case aF => exact (fun k_ hk => .inr ⟨trivial, hk⟩))
        (case aO => exact (by (with_reducible repeat (first | apply Kd.rA | apply Kd.rN | apply Kd.rD)); exact Kd.R_mono UU115.out (fun _ hk => .inl hk)))
        (case aS => exact (lZ (by repeat (first | (with_reducible first | exact HB.out | apply lA | apply lN | apply lD) | exact HB.out))))
        (case aL => have := LMc109.out; omega)
        intro v244 w116 ho hb hg hat
        (first | have HS0_ := cell_grown hg (hHeld.1) (by first | (rw [add_block]; exact (fun e_ => ((HL241_2.out.1 _ e_.symm).2) rfl)) | (show some (Addr.add _ _).block ≠ _; rw [add_block]; exact (fun e_ => ((HL241_2.out.1 _ e_.symm).2) rfl)) | exact (fun e_ => ((HL241_2.out.1 _ e_.symm).2) rfl)) | have HS0_ := cell_grown hg (cell_unalloc (hHeld.1) (by first | (rw [add_block]; exact Kd.S_lt HO240.out _ rfl) | (show (Addr.add _ _).block < _; rw [add_block]; exact Kd.S_lt HO240.out _ rfl) | exact Kd.S_lt HO240.out _ rfl)) (by first | (rw [add_block]; exact (fun e_ => ((HL241_2.out.1 _ e_.symm).2) rfl)) | (show some (Addr.add _ _).block ≠ _; rw [add_block]; exact (fun e_ => ((HL241_2.out.1 _ e_.symm).2) rfl)) | exact (fun e_ => ((HL241_2.out.1 _ e_.symm).2) rfl)))
        (first | have HS1_ := cell_grown hg (hHeld.2.1) (by first | (rw [add_block]; exact (fun e_ => ((HL241_2.out.1 _ e_.symm).2) rfl)) | (show some (Addr.add _ _).block ≠ _; rw [add_block]; exact (fun e_ => ((HL241_2.out.1 _ e_.symm).2) rfl)) | exact (fun e_ => ((HL241_2.out.1 _ e_.symm).2) rfl)) | have HS1_ := cell_grown hg (cell_unalloc (hHeld.2.1) (by first | (rw [add_block]; exact Kd.S_lt HO240.out _ rfl) | (show (Addr.add _ _).block < _; rw [add_block]; exact Kd.S_lt HO240.out _ rfl) | exact Kd.S_lt HO240.out _ rfl)) (by first | (rw [add_block]; exact (fun e_ => ((HL241_2.out.1 _ e_.symm).2) rfl)) | (show some (Addr.add _ _).block ≠ _; rw [add_block]; exact (fun e_ => ((HL241_2.out.1 _ e_.symm).2) rfl)) | exact (fun e_ => ((HL241_2.out.1 _ e_.symm).2) rfl)))
        (first | have HS2_ := cell_grown hg (hHeld.2.2.1) (by first | (rw [add_block]; exact (fun e_ => ((HL241_2.out.1 _ e_.symm).2) rfl)) | (show some (Addr.add _ _).block ≠ _; rw [add_block]; exact (fun e_ => ((HL241_2.out.1 _ e_.symm).2) rfl)) | exact (fun e_ => ((HL241_2.out.1 _ e_.symm).2) rfl)) | have HS2_ := cell_grown hg (cell_unalloc (hHeld.2.2.1) (by first | (rw [add_block]; exact Kd.S_lt HO240.out _ rfl) | (show (Addr.add _ _).block < _; rw [add_block]; exact Kd.S_lt HO240.out _ rfl) | exact Kd.S_lt HO240.out _ rfl)) (by first | (rw [add_block]; exact (fun e_ => ((HL241_2.out.1 _ e_.symm).2) rfl)) | (show some (Addr.add _ _).block ≠ _; rw [add_block]; exact (fun e_ => ((HL241_2.out.1 _ e_.symm).2) rfl)) | exact (fun e_ => ((HL241_2.out.1 _ e_.symm).2) rfl)))
        rw [← Ny243.out] at ho
        have n0_ := aZ (Kd.R_over' (v := (.slice A241_2 ((rd_T37 y238 (ji106)).f2).length c241_2)) (by (with_reducible repeat (first | apply Kd.rA | apply Kd.rN | apply Kd.rD)); exact HO_5.out) (Kd.R_typed HL241_2.out) (by decide) hg)
        have n1_ := aZ (Kd.R_over' (v := (.slice A241_2 ((rd_T37 y238 (ji106)).f2).length c241_2)) (by (with_reducible repeat (first | apply Kd.rA | apply Kd.rN | apply Kd.rD)); exact HO_6.out) (Kd.R_typed HL241_2.out) (by decide) hg)
        have n2_ := aZ (hb)
        have n3_ := aZ (Kd.H_grown (Kd.H_widen (by repeat (first | exact HH115.out | refine Kd.H_alloc ?_ _ | refine Kd.H_drewN ?_ _ | refine Kd.H_drew ?_))) hg (fun k_ e_ => .inl (UU115.out.1 k_ e_)))
        have n4_ := aZ (ho)
        clear HO_5
        clear HO_6
        clear HB
        clear HH115
        clear HO240
        clear UU115
        clear HL241_2
        have HO_5 := n0_
        have HO_6 := n1_
        have HB := n2_
        have HH115 := n3_
        have HO245 := n4_
        clear n0_ n1_ n2_ n3_ n4_
        clear ho hb hg hat
        have p110 : 0 ≤ ((ji106) : Int) := of_decide_eq_true (by first | (with_reducible assumption) | assumption)
        have q110 : ((ji106) : Int) < ((y238.length : Int) : Int) := of_decide_eq_true (by first | (with_reducible assumption) | assumption)
        replace p110 := eq_true p110
        replace q110 := eq_true q110
        obtain ⟨Ao119, co119, eo119⟩ := Kd.R_slice HO245.out
        (first | subst eo119 | (injection eo119 with f1_ f2_ f3_; have f4_ := f1_.symm; have f5_ := f3_.symm; clear f1_ f2_ f3_; subst f4_; subst f5_))
        obtain ⟨_, _, hraw117, _, _, hcc117, _⟩ := Kd.H_raw HH115.out (of_decide_eq_true (by first | (with_reducible assumption) | assumption)) (by have h_ : ((ji106) : Int) < ((y238.length : Int) : Int) := of_decide_eq_true (by first | (with_reducible assumption) | assumption); first | exact h_ | (have e_ := (HN115.out); omega) | simpa using h_)
        obtain ⟨_, hfr117⟩ := Kd.H_at HH115.out (of_decide_eq_true (by first | (with_reducible assumption) | assumption)) (by have h_ : ((ji106) : Int) < ((y238.length : Int) : Int) := of_decide_eq_true (by first | (with_reducible assumption) | assumption); first | exact h_ | (have e_ := (HN115.out); omega) | simpa using h_)
        have hx117_0 := hcc117 2 _ rfl
        have hf117_0 := hfr117 2
        (try rw [show (k37).sz = 3 from rfl] at hx117_0)
        (try rw [show (k37).sz = 3 from rfl] at hf117_0)
        have HP117 := Kd.S_seg0 HH115.out (of_decide_eq_true (by first | (with_reducible assumption) | assumption)) (by have h_ : ((ji106) : Int) < ((y238.length : Int) : Int) := of_decide_eq_true (by first | (with_reducible assumption) | assumption); first | exact h_ | (have e_ := (HN115.out); omega) | simpa using h_) (seg := [.slice Ao119 y243.length co119]) (j := 2) (show 3 ≤ 3 from by decide) (x' := (⟨(rd_T37 y238 (ji106)).f0, (rd_T37 y238 (ji106)).f1, y243⟩ : S37)) (k37_mkM _ _ _ (⟨(rd_T37 y238 (ji106)).f0, (rd_T37 y238 (ji106)).f1, y243⟩ : S37) HO245.out) (fun _ hk => hk)
        clear hcc117 hfr117
        have HS117 := HP117.1
        rw [← Ny246.out] at HS117
        have HQ117 := aZ HS117
        obtain ⟨_, hgg117⟩ := Kd.R_typed hraw117 go115 rfl
        have GG117_ := aZ hgg117
        clear HP117 HS117 hgg117
        refine hK.out _ _ ⟨HS0_, HS1_, HS2_, ((HB.out.cell (World.block_lt_of_cell? w _ hw242_0)).trans hw242_0)⟩ (fun hHeld => ?_)
        clear hK K
        refine norm_ (a' := ?_) ?_ ?_
        rotate_left
        · show Act.put _ (some 139) _ = _
          simp only [Act.put, List.setIfInBounds_toArray, List.set_cons_zero, List.set_cons_succ, i64_w, i32_w]
          rfl
        refine pu 13 140 Z15 HT_ rfl rfl (h := ?_)
        refine pu 14 141 Z16 HT_ rfl rfl (h := ?_)
        refine last_ (i := 15) (N := none) Z17 rfl rfl (one_of HT_.out (by kernel_rfl)) (by decide) (fun K hK => ?_)
        refine skip_ (w1 := ?_) (by rfl) rfl ?_ ?_
        rotate_left
        · go_simp
          rfl
        refine hK.out _ _ ?_
        clear hK K
        refine done_ (done_of HT_.out (by kernel_rfl)) ?_
        try go_wp2
        go_roundg k2
        case measure => have := HK1.out; have := HK2.out; omega
        case rel => exact ⟨(y246), (true), (wrap64 (x13_2 + 1)), (by first | rfl | (simp; done) | (simp [*]; done) | (simp [i64_w]; done)), (by first | rfl | (simp; done) | (simp [*]; done) | (simp [i64_w]; done)), H', ⟨by have := HK1.out; have := HK2.out; omega⟩, ⟨by (with_reducible repeat (first | apply Kd.rA | apply Kd.rN | apply Kd.rD)); exact Kd.R_mono (Kd.R_far (p := ⟨go115, ((ji106) : Int).toNat * 3 + 2, none⟩) (Kd.R_types HO_5.out GG117_.out (by decide)) (fun _ hk => hk.2) (.slice Ao119 y243.length co119)) (fun _ hk => hk.1)⟩, ⟨by (with_reducible repeat (first | apply Kd.rA | apply Kd.rN | apply Kd.rD)); exact Kd.R_mono (Kd.R_far (p := ⟨go115, ((ji106) : Int).toNat * 3 + 2, none⟩) (Kd.R_types HO_6.out GG117_.out (by decide)) (fun _ hk => hk.2) (.slice Ao119 y243.length co119)) (fun _ hk => hk.1)⟩, ⟨by (with_reducible repeat (first | apply Kd.S_alloc | apply Kd.S_drewN | apply Kd.S_drew)); exact HQ117.out⟩, ⟨by repeat (first | (with_reducible first | exact HB.out | apply lA | apply lN | apply lD | refine lS ?_ GB115.out) | exact HB.out)⟩⟩
    rw [if_pos c15] at H
    have c15b0 : decide (0 ≤ x8_1) = true := decide_eq_true c15
    clear c15
    have hji16 : (wrap64 ((l0.length : Int) + 1)) = ji6 := hji6
    replace H : (if 0 ≤ (ji6) then (if (ji6 : Int).toNat ≤ 35184372088832 then (changeforgeref3_EncodeDelta.l1 k1 l0 l1 x5_1 x6_1 x7_1 x8_1 (List.replicate (ji6 : Int).toNat 0) (wrap64 ((l0.length : Int) - 1))) else (none)) else (none)) = some r := by first | (rw [hji16] at H; exact H) | (simp only [hji16] at H ⊢; exact H)
    have hji16w : (IntKind.i64.wrap ((l0.length : Int) + 1)) = ji6 := (i64_w _).trans hji16
    by_cases c17 : 0 ≤ (ji6)
    rotate_left
    · rw [if_neg c17] at H
      exact absurd H (by simp)
    rw [if_pos c17] at H
    have c17b0 := eq_true c17
    have c17b1 : decide (0 ≤ (ji6)) = true := decide_eq_true c17
    clear c17
    by_cases c18 : (ji6 : Int).toNat ≤ 35184372088832
    rotate_left
    · rw [if_neg c18] at H
      exact absurd H (by simp)
    rw [if_pos c18] at H
    have c18b0 := eq_true c18
    have c18b1 : decide ((ji6 : Int).toNat ≤ 35184372088832) = true := decide_eq_true c18
    clear c18
    obtain ⟨y206, hy206⟩ : ∃ y_ : List Int, y_ = (List.replicate (ji6 : Int).toNat 0) := ⟨_, rfl⟩
    replace H : (changeforgeref3_EncodeDelta.l1 k1 l0 l1 x5_1 x6_1 x7_1 x8_1 y206 (wrap64 ((l0.length : Int) - 1))) = some r := by first | (rw [hy206]; with_reducible exact H) | (have H2_ := (Option.bind_some _ _).symm.trans H; rw [hy206]; with_reducible exact H2_) | (have H2_ := (Option.bind_some _ _).symm.trans H; with_reducible exact H2_) | with_reducible exact H | (rw [hy206]; exact H) | exact H
    have Ny206 := aZ hy206
    clear hy206
    have H' := aZ H
    clear H
    go_wp2_with (first | ((with_reducible refine gate_dst (N := 37) rfl ?_); refine Kd.R_make (Kd.int .i64) _ 3 rfl (N := 37) rfl 48 _ _ rfl ji6 rfl rfl Try.underlying48 (.int .i64 0) 8 info3 rfl (by decide) (by omega) 0 (ok := fun _ => True) (okp := fun _ => True) rfl (fun _ hk => hk) trivial (of_decide_eq_true (by first | (with_reducible assumption) | assumption)) (Nat.le_trans (Nat.mul_le_mul_right _ (of_decide_eq_true (by first | (with_reducible assumption) | assumption) : ji6.toNat ≤ 35184372088832)) (by omega)) (Below.refl _ _) (Nat.le_refl _) ?_; intro v207 w19 ho20 hb hg_ hnew_; clear hg_ hnew_; (first | rw [← Ny206.out] at ho20 | (simp only [Int.reduceToNat] at ho20; rw [← Ny206.out] at ho20)); have n0_ := aZ (Kd.R_elder' (by (with_reducible repeat (first | apply Kd.rA | apply Kd.rN | apply Kd.rD)); exact HO_5.out) (Kd.R_base ho20) hb); have n1_ := aZ (Kd.R_elder' (by (with_reducible repeat (first | apply Kd.rA | apply Kd.rN | apply Kd.rD)); exact HO_6.out) (Kd.R_base ho20) hb); have n2_ := aZ (Kd.R_elder' (by (with_reducible repeat (first | apply Kd.rA | apply Kd.rN | apply Kd.rD)); exact HO_7.out) (Kd.R_base ho20) hb); have n3_ := aZ (Kd.R_lower (Kd.R_new' (Kd.R_new' (Kd.R_new' ho20 (Kd.R_lt (by (with_reducible repeat (first | apply Kd.rA | apply Kd.rN | apply Kd.rD)); exact HO_5.out))) (Kd.R_lt (by (with_reducible repeat (first | apply Kd.rA | apply Kd.rN | apply Kd.rD)); exact HO_6.out))) (Kd.R_lt (by (with_reducible repeat (first | apply Kd.rA | apply Kd.rN | apply Kd.rD)); exact HO_7.out))) (lZ (by repeat (first | (with_reducible first | exact HB.out | apply lA | apply lN | apply lD) | exact HB.out)))); have n4_ := aZ (lT (by repeat (first | (with_reducible first | exact HB.out | apply lA | apply lN | apply lD) | exact HB.out)) hb); clear HO_5; clear HO_6; clear HO_7; clear HB; have HO_5 := n0_; have HO_6 := n1_; have HO_7 := n2_; have HO208 := n3_; have HB := n4_; clear n0_ n1_ n2_ n3_ n4_; clear hb ho20))
    go_loopg [10] k1 (fun kq v10 w' => ∃ (x5_2 : List Int) (x6_2 : List Int) (x9_2 : List Int) (x10_2 : Int), v10 = .int .i64 x10_2 ∧ Aside0 (changeforgeref3_EncodeDelta.l1 kq l0 l1 x5_2 x6_2 x7_1 x8_1 x9_2 x10_2 = some r) ∧ Aside0 (kq ≤ k1) ∧ Aside0 (Kd.R (Kd.int .i64) 3 w' w.heap.size (fun k_ => some k_ ≠ (v201 : Value).ownBlock ∧ some k_ ≠ (u7 : Value).ownBlock ∧ some k_ ≠ (v207 : Value).ownBlock) v198 x5_2) ∧ Aside0 (Kd.R (Kd.int .i64) 3 w' w.heap.size (fun k_ => some k_ ≠ (v198 : Value).ownBlock ∧ some k_ ≠ (u7 : Value).ownBlock ∧ some k_ ≠ (v207 : Value).ownBlock) v201 x6_2) ∧ Aside0 (Kd.R (Kd.int .i64) 3 w' w.heap.size (fun k_ => some k_ ≠ (v198 : Value).ownBlock ∧ some k_ ≠ (v201 : Value).ownBlock ∧ some k_ ≠ (v207 : Value).ownBlock) u7 x7_1) ∧ Aside0 (Kd.R (Kd.int .i64) 3 w' w.heap.size (fun k_ => some k_ ≠ (v198 : Value).ownBlock ∧ some k_ ≠ (v201 : Value).ownBlock ∧ some k_ ≠ (u7 : Value).ownBlock) v207 x9_2) ∧ Aside0 (Below w.heap.size w w'))
    case atStart => exact ⟨(x5_1), (x6_1), (y206), (wrap64 ((l0.length : Int) - 1)), (by first | rfl | (simp; done) | (simp [*]; done) | (simp [i64_w]; done)), H', ⟨Nat.le_refl _⟩, ⟨by (with_reducible repeat (first | apply Kd.rA | apply Kd.rN | apply Kd.rD)); exact Kd.R_mono HO_5.out (fun _ hk => ⟨hk.1.1, ⟨hk.1.2, hk.2⟩⟩)⟩, ⟨by (with_reducible repeat (first | apply Kd.rA | apply Kd.rN | apply Kd.rD)); exact Kd.R_mono HO_6.out (fun _ hk => ⟨hk.1.1, ⟨hk.1.2, hk.2⟩⟩)⟩, ⟨by (with_reducible repeat (first | apply Kd.rA | apply Kd.rN | apply Kd.rD)); exact Kd.R_mono HO_7.out (fun _ hk => ⟨hk.1.1, ⟨hk.1.2, hk.2⟩⟩)⟩, ⟨by (with_reducible repeat (first | apply Kd.rA | apply Kd.rN | apply Kd.rD)); exact Kd.R_mono HO208.out (fun _ hk => ⟨hk.1.1.2, ⟨hk.1.2, hk.2⟩⟩)⟩, ⟨by repeat (first | (with_reducible first | exact HB.out | apply lA | apply lN | apply lD) | exact HB.out)⟩⟩
    case round =>
     clear H'
     (try clear c15); (try clear c15b0); (try clear c17); (try clear c17b0); (try clear c17b1); (try clear c18); (try clear c18b0); (try clear c18b1)
     obtain ⟨x5_2, x6_2, x9_2, x10_2, rfl, HA, HK2, HO_5, HO_6, HO_7, HO_9, HB⟩ := hrel
     cases gk with
     | zero => exact absurd HA.out (by simp [changeforgeref3_EncodeDelta.l1])
     | succ k2 =>
      have H := HA.out
      clear HA
      simp only [changeforgeref3_EncodeDelta.l1] at H
      by_cases c21 : x10_2 ≥ 0
      rotate_left
      · rw [if_neg c21] at H
        have c21b0 : decide (0 ≤ x10_2) = false := decide_eq_false c21
        clear c21
        have H' := aZ H
        clear H
        go_wp2
        go_roundg k2
        case measure => have := HK1.out; have := HK2.out; omega
        case rel => exact ⟨(x5_2), (x6_2), (x9_2), (wrap64 (x8_1 - 1)), (by first | rfl | (simp; done) | (simp [*]; done) | (simp [i64_w]; done)), H', ⟨by have := HK1.out; have := HK2.out; omega⟩, ⟨by (with_reducible repeat (first | apply Kd.rA | apply Kd.rN | apply Kd.rD)); exact Kd.R_mono HO_5.out (fun _ hk => ⟨hk.1, hk.2.2⟩)⟩, ⟨by (with_reducible repeat (first | apply Kd.rA | apply Kd.rN | apply Kd.rD)); exact Kd.R_mono HO_6.out (fun _ hk => ⟨hk.1, hk.2.2⟩)⟩, ⟨by (with_reducible repeat (first | apply Kd.rA | apply Kd.rN | apply Kd.rD)); exact Kd.R_mono HO_9.out (fun _ hk => ⟨hk.1, hk.2.1⟩)⟩, ⟨by repeat (first | (with_reducible first | exact HB.out | apply lA | apply lN | apply lD) | exact HB.out)⟩⟩
      rw [if_pos c21] at H
      have c21b0 : decide (0 ≤ x10_2) = true := decide_eq_true c21
      clear c21
      by_cases c22 : 0 ≤ x10_2
      rotate_left
      · rw [if_neg c22] at H
        exact absurd H (by simp)
      rw [if_pos c22] at H
      have c22b0 : decide (0 ≤ x10_2) = true := decide_eq_true c22
      clear c22
      by_cases c23 : x10_2 < (l0.length : Int)
      rotate_left
      · rw [if_neg c23] at H
        exact absurd H (by simp)
      rw [if_pos c23] at H
      have c23b0 : decide (x10_2 < (l0.length : Int)) = true := decide_eq_true c23
      clear c23
      by_cases c24 : 0 ≤ x8_1
      rotate_left
      · rw [if_neg c24] at H
        exact absurd H (by simp)
      rw [if_pos c24] at H
      have c24b0 : decide (0 ≤ x8_1) = true := decide_eq_true c24
      clear c24
      by_cases c25 : x8_1 < (l1.length : Int)
      rotate_left
      · rw [if_neg c25] at H
        exact absurd H (by simp)
      rw [if_pos c25] at H
      have c25b0 : decide (x8_1 < (l1.length : Int)) = true := decide_eq_true c25
      clear c25
      by_cases c26 : (rd l0 x10_2) = (rd l1 x8_1)
      rotate_left
      · rw [if_neg c26] at H
        have c26b0 : ((rd l0 x10_2) == (rd l1 x8_1)) = false := beq_eq_false_iff_ne.mpr c26
        have c26b1 : ((rd l0 x10_2) != (rd l1 x8_1)) = true := bne_iff_ne.mpr c26
        by_cases c59 : x10_2 < (x9_2.length : Int)
        rotate_left
        · rw [if_neg c59] at H
          exact absurd H (by simp)
        rw [if_pos c59] at H
        have c59b0 : decide (x10_2 < (x9_2.length : Int)) = true := decide_eq_true c59
        clear c59
        by_cases c60 : (rd x9_2 x10_2) > 0
        rotate_left
        · rw [if_neg c60] at H
          have c60b0 : decide (0 < (rd x9_2 x10_2)) = false := decide_eq_false c60
          clear c60
          have H' := aZ H
          clear H
          try go_wp2
          have n0_ := aZ (Kd.rD HO_5.out)
          have n1_ := aZ (Kd.rD HO_6.out)
          have n2_ := aZ (Kd.rD HO_7.out)
          have n3_ := aZ (Kd.rD HO_9.out)
          have n4_ := aZ (lD HB.out)
          clear HO_5
          clear HO_6
          clear HO_7
          clear HO_9
          clear HB
          have HO_5 := n0_
          have HO_6 := n1_
          have HO_7 := n2_
          have HO_9 := n3_
          have HB := n4_
          clear n0_ n1_ n2_ n3_ n4_
          have p209 : 0 ≤ (x10_2 : Int) := of_decide_eq_true (by first | (with_reducible assumption) | assumption)
          have q209 : x10_2 < (l0.length : Int) := of_decide_eq_true (by first | (with_reducible assumption) | assumption)
          obtain ⟨ad209, e209, hx209_0⟩ := Kd.at_int HR0.out x10_2 p209 q209
          have hw209_0 := hx209_0
          cases e209
          replace hx209_0 := (HB.out.cell (World.block_lt_of_cell? w _ hx209_0)).trans hx209_0
          replace p209 := eq_true p209
          replace q209 := eq_true q209
          have p210 : 0 ≤ (x8_1 : Int) := of_decide_eq_true (by first | (with_reducible assumption) | assumption)
          have q210 : x8_1 < (l1.length : Int) := of_decide_eq_true (by first | (with_reducible assumption) | assumption)
          obtain ⟨ad210, e210, hx210_0⟩ := Kd.at_int HR1.out x8_1 p210 q210
          have hw210_0 := hx210_0
          cases e210
          replace hx210_0 := (HB.out.cell (World.block_lt_of_cell? w _ hx210_0)).trans hx210_0
          replace p210 := eq_true p210
          replace q210 := eq_true q210
          refine start_ (n := 9) (S := fun w' => w'.cell? (ad209.add (x10_2).toNat) = some (.int .u8 (rd l0 x10_2)) ∧ w'.cell? (ad210.add (x8_1).toNat) = some (.int .u8 (rd l1 x8_1))) (ds := []) #[false, false, false, false, false, false, false, false, false] (by kernel_rfl) rfl rfl ⟨((HB.out.cell (World.block_lt_of_cell? w _ hw209_0)).trans hw209_0), ((HB.out.cell (World.block_lt_of_cell? w _ hw210_0)).trans hw210_0)⟩ (fun hHeld => ?_); refine with_tabW changeforgeref3_EncodeDelta.tab11 changeforgeref3_EncodeDelta.bits11 (fun HT_ HW_ => ?_)
          generalize wr.drew = w78 at HO_5 HO_6 HO_7 HO_9 HB hx209_0 hx210_0 hHeld ⊢
          refine pu 0 45 #[true, false, false, false, false, false, false, false, false] HT_ rfl rfl (h := ?_)
          refine pu 1 46 #[true, true, false, false, false, false, false, false, false] HT_ rfl rfl (h := ?_)
          refine pu 2 47 #[true, true, true, false, false, false, false, false, false] HT_ rfl rfl (h := ?_)
          refine pu 4 49 #[true, true, true, false, true, false, false, false, false] HT_ rfl rfl (h := ?_)
          refine pu 5 50 #[true, true, true, false, true, true, false, false, false] HT_ rfl rfl (h := ?_)
          refine pu 6 51 #[true, true, true, false, true, true, true, false, false] HT_ rfl rfl (h := ?_)
          refine tk 3 48 #[true, true, true, true, true, true, true, false, false] HT_ HW_ rfl rfl hHeld (by rintro w' ⟨s0, s1⟩; go_simp; with_reducible rfl) (h := ?_)
          refine tk 7 52 #[true, true, true, true, true, true, true, true, false] HT_ HW_ rfl rfl hHeld (by rintro w' ⟨s0, s1⟩; go_simp; with_reducible rfl) (h := ?_)
          refine pu 8 53 #[true, true, true, true, true, true, true, true, true] HT_ rfl rfl (h := ?_)
          refine done_ (done_of HT_.out (by kernel_rfl)) ?_
          try go_wp2
          have n0_ := aZ (Kd.rD HO_5.out)
          have n1_ := aZ (Kd.rD HO_6.out)
          have n2_ := aZ (Kd.rD HO_7.out)
          have n3_ := aZ (Kd.rD HO_9.out)
          have n4_ := aZ (lD HB.out)
          clear HO_5
          clear HO_6
          clear HO_7
          clear HO_9
          clear HB
          have HO_5 := n0_
          have HO_6 := n1_
          have HO_7 := n2_
          have HO_9 := n3_
          have HB := n4_
          clear n0_ n1_ n2_ n3_ n4_
          obtain ⟨Ao80, co80, eo80⟩ := Kd.R_slice HO_9.out
          (first | subst eo80 | (injection eo80 with f1_ f2_ f3_; have f4_ := f1_.symm; have f5_ := f3_.symm; clear f1_ f2_ f3_; subst f4_; subst f5_))
          have p219 : 0 ≤ (x10_2 : Int) := of_decide_eq_true (by first | (with_reducible assumption) | assumption)
          have q219 : x10_2 < (x9_2.length : Int) := of_decide_eq_true (by first | (with_reducible assumption) | assumption)
          obtain ⟨ad219, e219, hx219_0⟩ := Kd.at_int (Kd.R_reads' HO_9.out).2.2 x10_2 p219 q219
          cases e219
          replace p219 := eq_true p219
          replace q219 := eq_true q219
          refine start_ (n := 16) (S := fun w' => w'.cell? (ad219.add (x10_2).toNat) = some (.int .i64 (rd x9_2 x10_2))) (ds := []) Z1 (by kernel_rfl) rfl rfl (hx219_0) (fun hHeld => ?_); refine with_tabW changeforgeref3_EncodeDelta.tab13 changeforgeref3_EncodeDelta.bits13 (fun HT_ HW_ => ?_)
          generalize w78.drew = w79 at HO_5 HO_6 HO_7 HO_9 HB hx219_0 hHeld ⊢
          refine pu 0 63 Z2 HT_ rfl rfl (h := ?_)
          refine pu 1 64 Z3 HT_ rfl rfl (h := ?_)
          refine pu 2 65 Z4 HT_ rfl rfl (h := ?_)
          refine tk 3 66 Z5 HT_ HW_ rfl rfl hHeld (by intro w' s0; go_simp; with_reducible rfl) (h := ?_)
          refine pu 4 67 Z6 HT_ rfl rfl (h := ?_)
          refine pu 5 68 Z7 HT_ rfl rfl (h := ?_)
          refine pv 6 69 Z8 HT_ rfl rfl (h := ?_)
          refine pv 7 70 Z9 HT_ rfl rfl (h := ?_)
          refine pv 8 71 Z10 HT_ rfl rfl (h := ?_)
          refine pv 9 72 Z18 HT_ rfl rfl (h := ?_)
          refine pv 10 73 Z19 HT_ rfl rfl (h := ?_)
          refine pv 11 74 Z20 HT_ rfl rfl (h := ?_)
          refine pv 12 75 Z14 HT_ rfl rfl (h := ?_)
          refine pv 13 76 Z15 HT_ rfl rfl (h := ?_)
          refine pv 14 77 Z16 HT_ rfl rfl (h := ?_)
          refine pu 15 78 Z17 HT_ rfl rfl (h := ?_)
          refine done_ (done_of HT_.out (by kernel_rfl)) ?_
          try go_wp2
          go_roundg k2
          case measure => have := HK1.out; have := HK2.out; omega
          case rel => exact ⟨(x5_2), (x6_2), (x9_2), (wrap64 (x10_2 - 1)), (by first | rfl | (simp; done) | (simp [*]; done) | (simp [i64_w]; done)), H', ⟨by have := HK1.out; have := HK2.out; omega⟩, ⟨by (with_reducible repeat (first | apply Kd.rA | apply Kd.rN | apply Kd.rD)); exact HO_5.out⟩, ⟨by (with_reducible repeat (first | apply Kd.rA | apply Kd.rN | apply Kd.rD)); exact HO_6.out⟩, ⟨by (with_reducible repeat (first | apply Kd.rA | apply Kd.rN | apply Kd.rD)); exact HO_7.out⟩, ⟨by (with_reducible repeat (first | apply Kd.rA | apply Kd.rN | apply Kd.rD)); exact HO_9.out⟩, ⟨by repeat (first | (with_reducible first | exact HB.out | apply lA | apply lN | apply lD) | exact HB.out)⟩⟩
        rw [if_pos c60] at H
        have c60b0 : decide (0 < (rd x9_2 x10_2)) = true := decide_eq_true c60
        clear c60
        by_cases c61 : x8_1 < (x5_2.length : Int)
        rotate_left
        · rw [if_neg c61] at H
          exact absurd H (by simp)
        rw [if_pos c61] at H
        have c61b0 : decide (x8_1 < (x5_2.length : Int)) = true := decide_eq_true c61
        clear c61
        by_cases c62 : (rd x9_2 x10_2) ≥ (rd x5_2 x8_1)
        rotate_left
        · rw [if_neg c62] at H
          have c62b0 : decide ((rd x5_2 x8_1) ≤ (rd x9_2 x10_2)) = false := decide_eq_false c62
          clear c62
          have H' := aZ H
          clear H
          try go_wp2
          have n0_ := aZ (Kd.rD HO_5.out)
          have n1_ := aZ (Kd.rD HO_6.out)
          have n2_ := aZ (Kd.rD HO_7.out)
          have n3_ := aZ (Kd.rD HO_9.out)
          have n4_ := aZ (lD HB.out)
          clear HO_5
          clear HO_6
          clear HO_7
          clear HO_9
          clear HB
          have HO_5 := n0_
          have HO_6 := n1_
          have HO_7 := n2_
          have HO_9 := n3_
          have HB := n4_
          clear n0_ n1_ n2_ n3_ n4_
          have p209 : 0 ≤ (x10_2 : Int) := of_decide_eq_true (by first | (with_reducible assumption) | assumption)
          have q209 : x10_2 < (l0.length : Int) := of_decide_eq_true (by first | (with_reducible assumption) | assumption)
          obtain ⟨ad209, e209, hx209_0⟩ := Kd.at_int HR0.out x10_2 p209 q209
          have hw209_0 := hx209_0
          cases e209
          replace hx209_0 := (HB.out.cell (World.block_lt_of_cell? w _ hx209_0)).trans hx209_0
          replace p209 := eq_true p209
          replace q209 := eq_true q209
          have p210 : 0 ≤ (x8_1 : Int) := of_decide_eq_true (by first | (with_reducible assumption) | assumption)
          have q210 : x8_1 < (l1.length : Int) := of_decide_eq_true (by first | (with_reducible assumption) | assumption)
          obtain ⟨ad210, e210, hx210_0⟩ := Kd.at_int HR1.out x8_1 p210 q210
          have hw210_0 := hx210_0
          cases e210
          replace hx210_0 := (HB.out.cell (World.block_lt_of_cell? w _ hx210_0)).trans hx210_0
          replace p210 := eq_true p210
          replace q210 := eq_true q210
          refine start_ (n := 9) (S := fun w' => w'.cell? (ad209.add (x10_2).toNat) = some (.int .u8 (rd l0 x10_2)) ∧ w'.cell? (ad210.add (x8_1).toNat) = some (.int .u8 (rd l1 x8_1))) (ds := []) #[false, false, false, false, false, false, false, false, false] (by kernel_rfl) rfl rfl ⟨((HB.out.cell (World.block_lt_of_cell? w _ hw209_0)).trans hw209_0), ((HB.out.cell (World.block_lt_of_cell? w _ hw210_0)).trans hw210_0)⟩ (fun hHeld => ?_); refine with_tabW changeforgeref3_EncodeDelta.tab11 changeforgeref3_EncodeDelta.bits11 (fun HT_ HW_ => ?_)
          generalize wr.drew = w74 at HO_5 HO_6 HO_7 HO_9 HB hx209_0 hx210_0 hHeld ⊢
          refine pu 0 45 #[true, false, false, false, false, false, false, false, false] HT_ rfl rfl (h := ?_)
          refine pu 1 46 #[true, true, false, false, false, false, false, false, false] HT_ rfl rfl (h := ?_)
          refine pu 2 47 #[true, true, true, false, false, false, false, false, false] HT_ rfl rfl (h := ?_)
          refine pu 4 49 #[true, true, true, false, true, false, false, false, false] HT_ rfl rfl (h := ?_)
          refine pu 5 50 #[true, true, true, false, true, true, false, false, false] HT_ rfl rfl (h := ?_)
          refine pu 6 51 #[true, true, true, false, true, true, true, false, false] HT_ rfl rfl (h := ?_)
          refine tk 3 48 #[true, true, true, true, true, true, true, false, false] HT_ HW_ rfl rfl hHeld (by rintro w' ⟨s0, s1⟩; go_simp; with_reducible rfl) (h := ?_)
          refine tk 7 52 #[true, true, true, true, true, true, true, true, false] HT_ HW_ rfl rfl hHeld (by rintro w' ⟨s0, s1⟩; go_simp; with_reducible rfl) (h := ?_)
          refine pu 8 53 #[true, true, true, true, true, true, true, true, true] HT_ rfl rfl (h := ?_)
          refine done_ (done_of HT_.out (by kernel_rfl)) ?_
          try go_wp2
          have n0_ := aZ (Kd.rD HO_5.out)
          have n1_ := aZ (Kd.rD HO_6.out)
          have n2_ := aZ (Kd.rD HO_7.out)
          have n3_ := aZ (Kd.rD HO_9.out)
          have n4_ := aZ (lD HB.out)
          clear HO_5
          clear HO_6
          clear HO_7
          clear HO_9
          clear HB
          have HO_5 := n0_
          have HO_6 := n1_
          have HO_7 := n2_
          have HO_9 := n3_
          have HB := n4_
          clear n0_ n1_ n2_ n3_ n4_
          obtain ⟨Ao76, co76, eo76⟩ := Kd.R_slice HO_9.out
          (first | subst eo76 | (injection eo76 with f1_ f2_ f3_; have f4_ := f1_.symm; have f5_ := f3_.symm; clear f1_ f2_ f3_; subst f4_; subst f5_))
          have p219 : 0 ≤ (x10_2 : Int) := of_decide_eq_true (by first | (with_reducible assumption) | assumption)
          have q219 : x10_2 < (x9_2.length : Int) := of_decide_eq_true (by first | (with_reducible assumption) | assumption)
          obtain ⟨ad219, e219, hx219_0⟩ := Kd.at_int (Kd.R_reads' HO_9.out).2.2 x10_2 p219 q219
          cases e219
          replace p219 := eq_true p219
          replace q219 := eq_true q219
          have p220 : 0 ≤ (x10_2 : Int) := of_decide_eq_true (by first | (with_reducible assumption) | assumption)
          have q220 : x10_2 < (x9_2.length : Int) := of_decide_eq_true (by first | (with_reducible assumption) | assumption)
          obtain ⟨ad220, e220, hx220_0⟩ := Kd.at_int (Kd.R_reads' HO_9.out).2.2 x10_2 p220 q220
          obtain rfl : ad219 = ad220 := (by injection e220)
          replace p220 := eq_true p220
          replace q220 := eq_true q220
          obtain ⟨Ao77, co77, eo77⟩ := Kd.R_slice HO_5.out
          (first | subst eo77 | (injection eo77 with f1_ f2_ f3_; have f4_ := f1_.symm; have f5_ := f3_.symm; clear f1_ f2_ f3_; subst f4_; subst f5_))
          have p221 : 0 ≤ (x8_1 : Int) := of_decide_eq_true (by first | (with_reducible assumption) | assumption)
          have q221 : x8_1 < (x5_2.length : Int) := of_decide_eq_true (by first | (with_reducible assumption) | assumption)
          obtain ⟨ad221, e221, hx221_0⟩ := Kd.at_int (Kd.R_reads' HO_5.out).2.2 x8_1 p221 q221
          cases e221
          replace p221 := eq_true p221
          replace q221 := eq_true q221
          refine start_ (n := 16) (S := fun w' => w'.cell? (ad219.add (x10_2).toNat) = some (.int .i64 (rd x9_2 x10_2)) ∧ w'.cell? (ad219.add (x10_2).toNat) = some (.int .i64 (rd x9_2 x10_2)) ∧ w'.cell? (ad221.add (x8_1).toNat) = some (.int .i64 (rd x5_2 x8_1))) (ds := []) Z1 (by kernel_rfl) rfl rfl ⟨hx219_0, hx220_0, hx221_0⟩ (fun hHeld => ?_); refine with_tabW changeforgeref3_EncodeDelta.tab13 changeforgeref3_EncodeDelta.bits13 (fun HT_ HW_ => ?_)
          generalize w74.drew = w75 at HO_5 HO_6 HO_7 HO_9 HB hx219_0 hx220_0 hx221_0 hHeld ⊢
          refine pu 0 63 Z2 HT_ rfl rfl (h := ?_)
          refine pu 1 64 Z3 HT_ rfl rfl (h := ?_)
          refine pu 2 65 Z4 HT_ rfl rfl (h := ?_)
          refine tk 3 66 Z5 HT_ HW_ rfl rfl hHeld (by rintro w' ⟨s0, s1, s2⟩; go_simp; with_reducible rfl) (h := ?_)
          refine pu 4 67 Z6 HT_ rfl rfl (h := ?_)
          refine pu 5 68 Z7 HT_ rfl rfl (h := ?_)
          refine pu 6 69 Z8 HT_ rfl rfl (h := ?_)
          refine pu 7 70 Z9 HT_ rfl rfl (h := ?_)
          refine pu 8 71 Z10 HT_ rfl rfl (h := ?_)
          refine pu 10 73 Z11 HT_ rfl rfl (h := ?_)
          refine pu 11 74 Z12 HT_ rfl rfl (h := ?_)
          refine pu 12 75 Z13 HT_ rfl rfl (h := ?_)
          refine tk 9 72 Z14 HT_ HW_ rfl rfl hHeld (by rintro w' ⟨s0, s1, s2⟩; go_simp; with_reducible rfl) (h := ?_)
          refine tk 13 76 Z15 HT_ HW_ rfl rfl hHeld (by rintro w' ⟨s0, s1, s2⟩; go_simp; with_reducible rfl) (h := ?_)
          refine pu 14 77 Z16 HT_ rfl rfl (h := ?_)
          refine pu 15 78 Z17 HT_ rfl rfl (h := ?_)
          refine done_ (done_of HT_.out (by kernel_rfl)) ?_
          try go_wp2
          go_roundg k2
          case measure => have := HK1.out; have := HK2.out; omega
          case rel => exact ⟨(x5_2), (x6_2), (x9_2), (wrap64 (x10_2 - 1)), (by first | rfl | (simp; done) | (simp [*]; done) | (simp [i64_w]; done)), H', ⟨by have := HK1.out; have := HK2.out; omega⟩, ⟨by (with_reducible repeat (first | apply Kd.rA | apply Kd.rN | apply Kd.rD)); exact HO_5.out⟩, ⟨by (with_reducible repeat (first | apply Kd.rA | apply Kd.rN | apply Kd.rD)); exact HO_6.out⟩, ⟨by (with_reducible repeat (first | apply Kd.rA | apply Kd.rN | apply Kd.rD)); exact HO_7.out⟩, ⟨by (with_reducible repeat (first | apply Kd.rA | apply Kd.rN | apply Kd.rD)); exact HO_9.out⟩, ⟨by repeat (first | (with_reducible first | exact HB.out | apply lA | apply lN | apply lD) | exact HB.out)⟩⟩
        rw [if_pos c62] at H
        have c62b0 : decide ((rd x5_2 x8_1) ≤ (rd x9_2 x10_2)) = true := decide_eq_true c62
        clear c62
        obtain ⟨y223, hy223⟩ : ∃ y_ : List Int, y_ = (x5_2.set (x8_1 : Int).toNat (rd x9_2 x10_2)) := ⟨_, rfl⟩
        replace H : (if x8_1 < (x6_2.length : Int) then (changeforgeref3_EncodeDelta.l1 k2 l0 l1 y223 (x6_2.set (x8_1 : Int).toNat x10_2) x7_1 x8_1 x9_2 (wrap64 (x10_2 - 1))) else (none)) = some r := by first | (rw [hy223]; with_reducible exact H) | (have H2_ := (Option.bind_some _ _).symm.trans H; rw [hy223]; with_reducible exact H2_) | (have H2_ := (Option.bind_some _ _).symm.trans H; with_reducible exact H2_) | with_reducible exact H | (rw [hy223]; exact H) | exact H
        have Ny223 := aZ hy223
        clear hy223
        by_cases c64 : x8_1 < (x6_2.length : Int)
        rotate_left
        · rw [if_neg c64] at H
          exact absurd H (by simp)
        rw [if_pos c64] at H
        have c64b0 : decide (x8_1 < (x6_2.length : Int)) = true := decide_eq_true c64
        clear c64
        obtain ⟨y224, hy224⟩ : ∃ y_ : List Int, y_ = (x6_2.set (x8_1 : Int).toNat x10_2) := ⟨_, rfl⟩
        replace H : (changeforgeref3_EncodeDelta.l1 k2 l0 l1 y223 y224 x7_1 x8_1 x9_2 (wrap64 (x10_2 - 1))) = some r := by first | (rw [hy224]; with_reducible exact H) | (have H2_ := (Option.bind_some _ _).symm.trans H; rw [hy224]; with_reducible exact H2_) | (have H2_ := (Option.bind_some _ _).symm.trans H; with_reducible exact H2_) | with_reducible exact H | (rw [hy224]; exact H) | exact H
        have Ny224 := aZ hy224
        clear hy224
        have H' := aZ H
        clear H
        try go_wp2
        have n0_ := aZ (Kd.rD HO_5.out)
        have n1_ := aZ (Kd.rD HO_6.out)
        have n2_ := aZ (Kd.rD HO_7.out)
        have n3_ := aZ (Kd.rD HO_9.out)
        have n4_ := aZ (lD HB.out)
        clear HO_5
        clear HO_6
        clear HO_7
        clear HO_9
        clear HB
        have HO_5 := n0_
        have HO_6 := n1_
        have HO_7 := n2_
        have HO_9 := n3_
        have HB := n4_
        clear n0_ n1_ n2_ n3_ n4_
        have p209 : 0 ≤ (x10_2 : Int) := of_decide_eq_true (by first | (with_reducible assumption) | assumption)
        have q209 : x10_2 < (l0.length : Int) := of_decide_eq_true (by first | (with_reducible assumption) | assumption)
        obtain ⟨ad209, e209, hx209_0⟩ := Kd.at_int HR0.out x10_2 p209 q209
        have hw209_0 := hx209_0
        cases e209
        replace hx209_0 := (HB.out.cell (World.block_lt_of_cell? w _ hx209_0)).trans hx209_0
        replace p209 := eq_true p209
        replace q209 := eq_true q209
        have p210 : 0 ≤ (x8_1 : Int) := of_decide_eq_true (by first | (with_reducible assumption) | assumption)
        have q210 : x8_1 < (l1.length : Int) := of_decide_eq_true (by first | (with_reducible assumption) | assumption)
        obtain ⟨ad210, e210, hx210_0⟩ := Kd.at_int HR1.out x8_1 p210 q210
        have hw210_0 := hx210_0
        cases e210
        replace hx210_0 := (HB.out.cell (World.block_lt_of_cell? w _ hx210_0)).trans hx210_0
        replace p210 := eq_true p210
        replace q210 := eq_true q210
        refine start_ (n := 9) (S := fun w' => w'.cell? (ad209.add (x10_2).toNat) = some (.int .u8 (rd l0 x10_2)) ∧ w'.cell? (ad210.add (x8_1).toNat) = some (.int .u8 (rd l1 x8_1))) (ds := []) #[false, false, false, false, false, false, false, false, false] (by kernel_rfl) rfl rfl ⟨((HB.out.cell (World.block_lt_of_cell? w _ hw209_0)).trans hw209_0), ((HB.out.cell (World.block_lt_of_cell? w _ hw210_0)).trans hw210_0)⟩ (fun hHeld => ?_); refine with_tabW changeforgeref3_EncodeDelta.tab11 changeforgeref3_EncodeDelta.bits11 (fun HT_ HW_ => ?_)
        generalize wr.drew = w66 at HO_5 HO_6 HO_7 HO_9 HB hx209_0 hx210_0 hHeld ⊢
        refine pu 0 45 #[true, false, false, false, false, false, false, false, false] HT_ rfl rfl (h := ?_)
        refine pu 1 46 #[true, true, false, false, false, false, false, false, false] HT_ rfl rfl (h := ?_)
        refine pu 2 47 #[true, true, true, false, false, false, false, false, false] HT_ rfl rfl (h := ?_)
        refine pu 4 49 #[true, true, true, false, true, false, false, false, false] HT_ rfl rfl (h := ?_)
        refine pu 5 50 #[true, true, true, false, true, true, false, false, false] HT_ rfl rfl (h := ?_)
        refine pu 6 51 #[true, true, true, false, true, true, true, false, false] HT_ rfl rfl (h := ?_)
        refine tk 3 48 #[true, true, true, true, true, true, true, false, false] HT_ HW_ rfl rfl hHeld (by rintro w' ⟨s0, s1⟩; go_simp; with_reducible rfl) (h := ?_)
        refine tk 7 52 #[true, true, true, true, true, true, true, true, false] HT_ HW_ rfl rfl hHeld (by rintro w' ⟨s0, s1⟩; go_simp; with_reducible rfl) (h := ?_)
        refine pu 8 53 #[true, true, true, true, true, true, true, true, true] HT_ rfl rfl (h := ?_)
        refine done_ (done_of HT_.out (by kernel_rfl)) ?_
        try go_wp2
        have n0_ := aZ (Kd.rD HO_5.out)
        have n1_ := aZ (Kd.rD HO_6.out)
        have n2_ := aZ (Kd.rD HO_7.out)
        have n3_ := aZ (Kd.rD HO_9.out)
        have n4_ := aZ (lD HB.out)
        clear HO_5
        clear HO_6
        clear HO_7
        clear HO_9
        clear HB
        have HO_5 := n0_
        have HO_6 := n1_
        have HO_7 := n2_
        have HO_9 := n3_
        have HB := n4_
        clear n0_ n1_ n2_ n3_ n4_
        obtain ⟨Ao68, co68, eo68⟩ := Kd.R_slice HO_9.out
        (first | subst eo68 | (injection eo68 with f1_ f2_ f3_; have f4_ := f1_.symm; have f5_ := f3_.symm; clear f1_ f2_ f3_; subst f4_; subst f5_))
        have p219 : 0 ≤ (x10_2 : Int) := of_decide_eq_true (by first | (with_reducible assumption) | assumption)
        have q219 : x10_2 < (x9_2.length : Int) := of_decide_eq_true (by first | (with_reducible assumption) | assumption)
        obtain ⟨ad219, e219, hx219_0⟩ := Kd.at_int (Kd.R_reads' HO_9.out).2.2 x10_2 p219 q219
        cases e219
        replace p219 := eq_true p219
        replace q219 := eq_true q219
        have p220 : 0 ≤ (x10_2 : Int) := of_decide_eq_true (by first | (with_reducible assumption) | assumption)
        have q220 : x10_2 < (x9_2.length : Int) := of_decide_eq_true (by first | (with_reducible assumption) | assumption)
        obtain ⟨ad220, e220, hx220_0⟩ := Kd.at_int (Kd.R_reads' HO_9.out).2.2 x10_2 p220 q220
        obtain rfl : ad219 = ad220 := (by injection e220)
        replace p220 := eq_true p220
        replace q220 := eq_true q220
        obtain ⟨Ao69, co69, eo69⟩ := Kd.R_slice HO_5.out
        (first | subst eo69 | (injection eo69 with f1_ f2_ f3_; have f4_ := f1_.symm; have f5_ := f3_.symm; clear f1_ f2_ f3_; subst f4_; subst f5_))
        have p221 : 0 ≤ (x8_1 : Int) := of_decide_eq_true (by first | (with_reducible assumption) | assumption)
        have q221 : x8_1 < (x5_2.length : Int) := of_decide_eq_true (by first | (with_reducible assumption) | assumption)
        obtain ⟨ad221, e221, hx221_0⟩ := Kd.at_int (Kd.R_reads' HO_5.out).2.2 x8_1 p221 q221
        cases e221
        replace p221 := eq_true p221
        replace q221 := eq_true q221
        refine start_ (n := 16) (S := fun w' => w'.cell? (ad219.add (x10_2).toNat) = some (.int .i64 (rd x9_2 x10_2)) ∧ w'.cell? (ad219.add (x10_2).toNat) = some (.int .i64 (rd x9_2 x10_2)) ∧ w'.cell? (ad221.add (x8_1).toNat) = some (.int .i64 (rd x5_2 x8_1))) (ds := []) Z1 (by kernel_rfl) rfl rfl ⟨hx219_0, hx220_0, hx221_0⟩ (fun hHeld => ?_); refine with_tabW changeforgeref3_EncodeDelta.tab13 changeforgeref3_EncodeDelta.bits13 (fun HT_ HW_ => ?_)
        generalize w66.drew = w67 at HO_5 HO_6 HO_7 HO_9 HB hx219_0 hx220_0 hx221_0 hHeld ⊢
        refine pu 0 63 Z2 HT_ rfl rfl (h := ?_)
        refine pu 1 64 Z3 HT_ rfl rfl (h := ?_)
        refine pu 2 65 Z4 HT_ rfl rfl (h := ?_)
        refine tk 3 66 Z5 HT_ HW_ rfl rfl hHeld (by rintro w' ⟨s0, s1, s2⟩; go_simp; with_reducible rfl) (h := ?_)
        refine pu 4 67 Z6 HT_ rfl rfl (h := ?_)
        refine pu 5 68 Z7 HT_ rfl rfl (h := ?_)
        refine pu 6 69 Z8 HT_ rfl rfl (h := ?_)
        refine pu 7 70 Z9 HT_ rfl rfl (h := ?_)
        refine pu 8 71 Z10 HT_ rfl rfl (h := ?_)
        refine pu 10 73 Z11 HT_ rfl rfl (h := ?_)
        refine pu 11 74 Z12 HT_ rfl rfl (h := ?_)
        refine pu 12 75 Z13 HT_ rfl rfl (h := ?_)
        refine tk 9 72 Z14 HT_ HW_ rfl rfl hHeld (by rintro w' ⟨s0, s1, s2⟩; go_simp; with_reducible rfl) (h := ?_)
        refine tk 13 76 Z15 HT_ HW_ rfl rfl hHeld (by rintro w' ⟨s0, s1, s2⟩; go_simp; with_reducible rfl) (h := ?_)
        refine pu 14 77 Z16 HT_ rfl rfl (h := ?_)
        refine pu 15 78 Z17 HT_ rfl rfl (h := ?_)
        refine done_ (done_of HT_.out (by kernel_rfl)) ?_
        have p222 : 0 ≤ (x10_2 : Int) := of_decide_eq_true (by first | (with_reducible assumption) | assumption)
        have q222 : x10_2 < (x9_2.length : Int) := of_decide_eq_true (by first | (with_reducible assumption) | assumption)
        obtain ⟨ad222, e222, hx222_0⟩ := Kd.at_int (Kd.R_reads' HO_9.out).2.2 x10_2 p222 q222
        obtain rfl : ad219 = ad222 := (by injection e222)
        replace p222 := eq_true p222
        replace q222 := eq_true q222
        have p63 : 0 ≤ (x8_1 : Int) := of_decide_eq_true (by first | (with_reducible assumption) | assumption)
        have q63 : (x8_1 : Int) < ((x5_2.length : Int) : Int) := of_decide_eq_true (by first | (with_reducible assumption) | assumption)
        obtain ⟨go63, co63, eo63, gb63, gl63, cl63, HG63⟩ := Kd.R_form HO_5.out (by omega)
        (first | cases eo63 | (injection eo63 with ea_ en_ ec_; (first | subst ea_ | (injection ea_ with ea_; subst ea_)); subst ec_; clear en_))
        have GB63 := aZ gb63
        have GG63 := aZ HG63
        clear gb63 gl63 HG63
        (first | simp only [add_plain] at hx221_0 | skip)
        obtain ⟨hx63_0, hf63_0⟩ := Kd.R_celln 0 HO_5.out (x8_1 : Int) p63 q63
        replace p63 := eq_true p63
        replace q63 := eq_true q63
        obtain ⟨hy70_, hz70_⟩ := Kd.R_celln 0 HO_5.out (x8_1 : Int) (of_decide_eq_true (by first | (with_reducible assumption) | assumption)) (of_decide_eq_true (by first | (with_reducible assumption) | assumption))
        have HP70 := Kd.R_putg HO_5.out (x8_1 : Int) (rd x9_2 x10_2)
        try go_wp2_with (first | ((with_reducible refine gate_store (t := 3) (p := 85) rfl ?_); refine store_event (t := 3) (p := 85) (v := ?vo_w71) (w1 := (w67.setCell ⟨go63, (x8_1 : Int).toNat, none⟩ (.int .i64 (rd x9_2 x10_2)))) ?hg ?ho ?hn ?hr ?_; (case ho => rfl); (case hg => rfl); (case hn => rfl); (case hr => first | (go_simp; done) | (go_simp; rfl)); intro w71 hw; have hg : w67.grownBy w71 (some go63) := (by rw [hw]; exact HP70.2); have hp_ : Kd.R (Kd.int .i64) 3 w71 w.heap.size (fun k_ => some k_ ≠ (v201 : Value).ownBlock ∧ some k_ ≠ (u7 : Value).ownBlock ∧ some k_ ≠ (.slice (some ad219) x9_2.length co68 : Value).ownBlock) (.slice (some ⟨go63, 0, none⟩) x5_2.length co69) y223 := (by rw [hw, Ny223.out]; exact HP70.1); clear HP70; have n0_ := aZ (hp_); have n1_ := aZ (Kd.R_after (v := (.slice (some ⟨go63, 0, none⟩) x5_2.length co69)) (v1 := (.slice (some ⟨go63, 0, none⟩) x5_2.length co69)) (ok := (fun k_ => some k_ ≠ (u7 : Value).ownBlock ∧ some k_ ≠ (.slice (some ad219) x9_2.length co68 : Value).ownBlock)) (by (with_reducible repeat (first | apply Kd.rA | apply Kd.rN | apply Kd.rD)); exact Kd.R_mono HO_6.out (fun _ hk => ⟨⟨hk.2.1, hk.2.2⟩, hk.1⟩)) hg (.inl rfl)); have n2_ := aZ (Kd.R_after (v := (.slice (some ⟨go63, 0, none⟩) x5_2.length co69)) (v1 := (.slice (some ⟨go63, 0, none⟩) x5_2.length co69)) (ok := (fun k_ => some k_ ≠ (v201 : Value).ownBlock ∧ some k_ ≠ (.slice (some ad219) x9_2.length co68 : Value).ownBlock)) (by (with_reducible repeat (first | apply Kd.rA | apply Kd.rN | apply Kd.rD)); exact Kd.R_mono HO_7.out (fun _ hk => ⟨⟨hk.2.1, hk.2.2⟩, hk.1⟩)) hg (.inl rfl)); have n3_ := aZ (Kd.R_after (v := (.slice (some ⟨go63, 0, none⟩) x5_2.length co69)) (v1 := (.slice (some ⟨go63, 0, none⟩) x5_2.length co69)) (ok := (fun k_ => some k_ ≠ (v201 : Value).ownBlock ∧ some k_ ≠ (u7 : Value).ownBlock)) (by (with_reducible repeat (first | apply Kd.rA | apply Kd.rN | apply Kd.rD)); exact Kd.R_mono HO_9.out (fun _ hk => ⟨⟨hk.2.1, hk.2.2⟩, hk.1⟩)) hg (.inl rfl)); have n4_ := aZ ((by rw [hw]; exact lS (HB.out) GB63.out : Below w.heap.size w w71)); clear HO_5; clear HO_6; clear HO_7; clear HO_9; clear HB; have HO_5 := n0_; have HO_6 := n1_; have HO_7 := n2_; have HO_9 := n3_; have HB := n4_; clear n0_ n1_ n2_ n3_ n4_; clear hg hw hp_; have p65 : 0 ≤ (x8_1 : Int) := of_decide_eq_true (by first | (with_reducible assumption) | assumption); have q65 : (x8_1 : Int) < ((x6_2.length : Int) : Int) := of_decide_eq_true (by first | (with_reducible assumption) | assumption); obtain ⟨go65, co65, eo65, gb65, gl65, cl65, HG65⟩ := Kd.R_form HO_6.out (by omega); (first | cases eo65 | (injection eo65 with ea_ en_ ec_; (first | subst ea_ | (injection ea_ with ea_; subst ea_)); subst ec_; clear en_)); have GB65 := aZ gb65; have GG65 := aZ HG65; clear gb65 gl65 HG65; obtain ⟨hx65_0, hf65_0⟩ := Kd.R_celln 0 HO_6.out (x8_1 : Int) p65 q65; replace p65 := eq_true p65; replace q65 := eq_true q65; have n_ := aZ (Kd.R_mono (ok' := (fun k_ => some k_ ≠ (.slice (some ⟨go63, 0, none⟩) x5_2.length co69 : Value).ownBlock ∧ some k_ ≠ (u7 : Value).ownBlock ∧ some k_ ≠ (.slice (some ad219) x9_2.length co68 : Value).ownBlock)) HO_6.out (fun k_ hk => ⟨hk.2, ⟨hk.1.1, hk.1.2⟩⟩)); clear HO_6; have HO_6 := n_; clear n_; obtain ⟨hy72_, hz72_⟩ := Kd.R_celln 0 HO_6.out (x8_1 : Int) (of_decide_eq_true (by first | (with_reducible assumption) | assumption)) (of_decide_eq_true (by first | (with_reducible assumption) | assumption)); have HP72 := Kd.R_putg HO_6.out (x8_1 : Int) x10_2) | ((with_reducible refine gate_store (t := 3) (p := 89) rfl ?_); refine store_event (t := 3) (p := 89) (v := ?vo_w73) (w1 := (w71.setCell ⟨go65, (x8_1 : Int).toNat, none⟩ (.int .i64 x10_2))) ?hg ?ho ?hn ?hr ?_; (case ho => rfl); (case hg => rfl); (case hn => rfl); (case hr => first | (go_simp; done) | (go_simp; rfl)); intro w73 hw; have hg : w71.grownBy w73 (some go65) := (by rw [hw]; exact HP72.2); have hp_ : Kd.R (Kd.int .i64) 3 w73 w.heap.size (fun k_ => some k_ ≠ (.slice (some ⟨go63, 0, none⟩) x5_2.length co69 : Value).ownBlock ∧ some k_ ≠ (u7 : Value).ownBlock ∧ some k_ ≠ (.slice (some ad219) x9_2.length co68 : Value).ownBlock) (.slice (some ⟨go65, 0, none⟩) x6_2.length co65) y224 := (by rw [hw, Ny224.out]; exact HP72.1); clear HP72; have n0_ := aZ (Kd.R_after (v := (.slice (some ⟨go65, 0, none⟩) x6_2.length co65)) (v1 := (.slice (some ⟨go65, 0, none⟩) x6_2.length co65)) (ok := (fun k_ => some k_ ≠ (u7 : Value).ownBlock ∧ some k_ ≠ (.slice (some ad219) x9_2.length co68 : Value).ownBlock)) (by (with_reducible repeat (first | apply Kd.rA | apply Kd.rN | apply Kd.rD)); exact Kd.R_mono HO_5.out (fun _ hk => ⟨⟨hk.2.1, hk.2.2⟩, hk.1⟩)) hg (.inl rfl)); have n1_ := aZ (hp_); have n2_ := aZ (Kd.R_after (v := (.slice (some ⟨go65, 0, none⟩) x6_2.length co65)) (v1 := (.slice (some ⟨go65, 0, none⟩) x6_2.length co65)) (ok := (fun k_ => some k_ ≠ (.slice (some ⟨go63, 0, none⟩) x5_2.length co69 : Value).ownBlock ∧ some k_ ≠ (.slice (some ad219) x9_2.length co68 : Value).ownBlock)) (by (with_reducible repeat (first | apply Kd.rA | apply Kd.rN | apply Kd.rD)); exact Kd.R_mono HO_7.out (fun _ hk => ⟨⟨hk.2, hk.1.2⟩, hk.1.1⟩)) hg (.inl rfl)); have n3_ := aZ (Kd.R_after (v := (.slice (some ⟨go65, 0, none⟩) x6_2.length co65)) (v1 := (.slice (some ⟨go65, 0, none⟩) x6_2.length co65)) (ok := (fun k_ => some k_ ≠ (.slice (some ⟨go63, 0, none⟩) x5_2.length co69 : Value).ownBlock ∧ some k_ ≠ (u7 : Value).ownBlock)) (by (with_reducible repeat (first | apply Kd.rA | apply Kd.rN | apply Kd.rD)); exact Kd.R_mono HO_9.out (fun _ hk => ⟨⟨hk.2, hk.1.2⟩, hk.1.1⟩)) hg (.inl rfl)); have n4_ := aZ ((by rw [hw]; exact lS (HB.out) GB65.out : Below w.heap.size w w73)); clear HO_5; clear HO_6; clear HO_7; clear HO_9; clear HB; have HO_5 := n0_; have HO_6 := n1_; have HO_7 := n2_; have HO_9 := n3_; have HB := n4_; clear n0_ n1_ n2_ n3_ n4_; clear hg hw hp_))
        go_roundg k2
        case measure => have := HK1.out; have := HK2.out; omega
        case rel => exact ⟨(y223), (y224), (x9_2), (wrap64 (x10_2 - 1)), (by first | rfl | (simp; done) | (simp [*]; done) | (simp [i64_w]; done)), H', ⟨by have := HK1.out; have := HK2.out; omega⟩, ⟨by (with_reducible repeat (first | apply Kd.rA | apply Kd.rN | apply Kd.rD)); exact Kd.R_mono HO_5.out (fun _ hk => ⟨hk.2, ⟨hk.1.1, hk.1.2⟩⟩)⟩, ⟨by (with_reducible repeat (first | apply Kd.rA | apply Kd.rN | apply Kd.rD)); exact HO_6.out⟩, ⟨by (with_reducible repeat (first | apply Kd.rA | apply Kd.rN | apply Kd.rD)); exact Kd.R_mono HO_7.out (fun _ hk => ⟨hk.1.1, ⟨hk.2, hk.1.2⟩⟩)⟩, ⟨by (with_reducible repeat (first | apply Kd.rA | apply Kd.rN | apply Kd.rD)); exact Kd.R_mono HO_9.out (fun _ hk => ⟨hk.1.1, ⟨hk.2, hk.1.2⟩⟩)⟩, ⟨by repeat (first | (with_reducible first | exact HB.out | apply lA | apply lN | apply lD) | exact HB.out)⟩⟩
      rw [if_pos c26] at H
      have c26b0 : ((rd l0 x10_2) == (rd l1 x8_1)) = true := beq_iff_eq.mpr c26
      have c26b1 : ((rd l0 x10_2) != (rd l1 x8_1)) = false := bne_eq_false_iff_eq.mpr c26
      clear c26
      obtain ⟨ji27, hji27⟩ : ∃ j_ : Int, (wrap64 (x10_2 + 1)) = j_ := ⟨_, rfl⟩
      replace H : (if 0 ≤ (ji27) then (if (ji27) < (x7_1.length : Int) then (if x10_2 < (x9_2.length : Int) then ((some (x9_2.set (x10_2 : Int).toNat (wrap64 ((rd x7_1 (ji27)) + 1)) : List Int)).bind fun y212 => (if (rd y212 x10_2) > 0 then (if x8_1 < (x5_2.length : Int) then (if (rd y212 x10_2) ≥ (rd x5_2 x8_1) then (if x8_1 < (x6_2.length : Int) then (changeforgeref3_EncodeDelta.l1 k2 l0 l1 (x5_2.set (x8_1 : Int).toNat (rd y212 x10_2)) (x6_2.set (x8_1 : Int).toNat x10_2) x7_1 x8_1 y212 (wrap64 (x10_2 - 1))) else (none)) else (changeforgeref3_EncodeDelta.l1 k2 l0 l1 x5_2 x6_2 x7_1 x8_1 y212 (wrap64 (x10_2 - 1)))) else (none)) else (changeforgeref3_EncodeDelta.l1 k2 l0 l1 x5_2 x6_2 x7_1 x8_1 y212 (wrap64 (x10_2 - 1))))) else (none)) else (none)) else (none)) = some r := by first | (rw [hji27] at H; exact H) | (simp only [hji27] at H ⊢; exact H)
      have hji27w : (IntKind.i64.wrap (x10_2 + 1)) = ji27 := (i64_w _).trans hji27
      by_cases c28 : 0 ≤ (ji27)
      rotate_left
      · rw [if_neg c28] at H
        exact absurd H (by simp)
      rw [if_pos c28] at H
      have c28b0 : decide (0 ≤ (ji27)) = true := decide_eq_true c28
      clear c28
      by_cases c29 : (ji27) < (x7_1.length : Int)
      rotate_left
      · rw [if_neg c29] at H
        exact absurd H (by simp)
      rw [if_pos c29] at H
      have c29b0 : decide ((ji27) < (x7_1.length : Int)) = true := decide_eq_true c29
      clear c29
      by_cases c30 : x10_2 < (x9_2.length : Int)
      rotate_left
      · rw [if_neg c30] at H
        exact absurd H (by simp)
      rw [if_pos c30] at H
      have c30b0 : decide (x10_2 < (x9_2.length : Int)) = true := decide_eq_true c30
      clear c30
      obtain ⟨y212, hy212⟩ : ∃ y_ : List Int, y_ = (x9_2.set (x10_2 : Int).toNat (wrap64 ((rd x7_1 (ji27)) + 1))) := ⟨_, rfl⟩
      replace H : (if (rd y212 x10_2) > 0 then (if x8_1 < (x5_2.length : Int) then (if (rd y212 x10_2) ≥ (rd x5_2 x8_1) then (if x8_1 < (x6_2.length : Int) then (changeforgeref3_EncodeDelta.l1 k2 l0 l1 (x5_2.set (x8_1 : Int).toNat (rd y212 x10_2)) (x6_2.set (x8_1 : Int).toNat x10_2) x7_1 x8_1 y212 (wrap64 (x10_2 - 1))) else (none)) else (changeforgeref3_EncodeDelta.l1 k2 l0 l1 x5_2 x6_2 x7_1 x8_1 y212 (wrap64 (x10_2 - 1)))) else (none)) else (changeforgeref3_EncodeDelta.l1 k2 l0 l1 x5_2 x6_2 x7_1 x8_1 y212 (wrap64 (x10_2 - 1)))) = some r := by first | (rw [hy212]; with_reducible exact H) | (have H2_ := (Option.bind_some _ _).symm.trans H; rw [hy212]; with_reducible exact H2_) | (have H2_ := (Option.bind_some _ _).symm.trans H; with_reducible exact H2_) | with_reducible exact H | (rw [hy212]; exact H) | exact H
      have Ny212 := aZ hy212
      clear hy212
      by_cases c32 : (rd y212 x10_2) > 0
      rotate_left
      · rw [if_neg c32] at H
        have c32b0 : decide (0 < (rd y212 x10_2)) = false := decide_eq_false c32
        clear c32
        have H' := aZ H
        clear H
        try go_wp2
        have n0_ := aZ (Kd.rD HO_5.out)
        have n1_ := aZ (Kd.rD HO_6.out)
        have n2_ := aZ (Kd.rD HO_7.out)
        have n3_ := aZ (Kd.rD HO_9.out)
        have n4_ := aZ (lD HB.out)
        clear HO_5
        clear HO_6
        clear HO_7
        clear HO_9
        clear HB
        have HO_5 := n0_
        have HO_6 := n1_
        have HO_7 := n2_
        have HO_9 := n3_
        have HB := n4_
        clear n0_ n1_ n2_ n3_ n4_
        have p209 : 0 ≤ (x10_2 : Int) := of_decide_eq_true (by first | (with_reducible assumption) | assumption)
        have q209 : x10_2 < (l0.length : Int) := of_decide_eq_true (by first | (with_reducible assumption) | assumption)
        obtain ⟨ad209, e209, hx209_0⟩ := Kd.at_int HR0.out x10_2 p209 q209
        have hw209_0 := hx209_0
        cases e209
        replace hx209_0 := (HB.out.cell (World.block_lt_of_cell? w _ hx209_0)).trans hx209_0
        replace p209 := eq_true p209
        replace q209 := eq_true q209
        have p210 : 0 ≤ (x8_1 : Int) := of_decide_eq_true (by first | (with_reducible assumption) | assumption)
        have q210 : x8_1 < (l1.length : Int) := of_decide_eq_true (by first | (with_reducible assumption) | assumption)
        obtain ⟨ad210, e210, hx210_0⟩ := Kd.at_int HR1.out x8_1 p210 q210
        have hw210_0 := hx210_0
        cases e210
        replace hx210_0 := (HB.out.cell (World.block_lt_of_cell? w _ hx210_0)).trans hx210_0
        replace p210 := eq_true p210
        replace q210 := eq_true q210
        refine start_ (n := 9) (S := fun w' => w'.cell? (ad209.add (x10_2).toNat) = some (.int .u8 (rd l0 x10_2)) ∧ w'.cell? (ad210.add (x8_1).toNat) = some (.int .u8 (rd l1 x8_1))) (ds := []) #[false, false, false, false, false, false, false, false, false] (by kernel_rfl) rfl rfl ⟨((HB.out.cell (World.block_lt_of_cell? w _ hw209_0)).trans hw209_0), ((HB.out.cell (World.block_lt_of_cell? w _ hw210_0)).trans hw210_0)⟩ (fun hHeld => ?_); refine with_tabW changeforgeref3_EncodeDelta.tab11 changeforgeref3_EncodeDelta.bits11 (fun HT_ HW_ => ?_)
        generalize wr.drew = w54 at HO_5 HO_6 HO_7 HO_9 HB hx209_0 hx210_0 hHeld ⊢
        refine pu 0 45 #[true, false, false, false, false, false, false, false, false] HT_ rfl rfl (h := ?_)
        refine pu 1 46 #[true, true, false, false, false, false, false, false, false] HT_ rfl rfl (h := ?_)
        refine pu 2 47 #[true, true, true, false, false, false, false, false, false] HT_ rfl rfl (h := ?_)
        refine pu 4 49 #[true, true, true, false, true, false, false, false, false] HT_ rfl rfl (h := ?_)
        refine pu 5 50 #[true, true, true, false, true, true, false, false, false] HT_ rfl rfl (h := ?_)
        refine pu 6 51 #[true, true, true, false, true, true, true, false, false] HT_ rfl rfl (h := ?_)
        refine tk 3 48 #[true, true, true, true, true, true, true, false, false] HT_ HW_ rfl rfl hHeld (by rintro w' ⟨s0, s1⟩; go_simp; with_reducible rfl) (h := ?_)
        refine tk 7 52 #[true, true, true, true, true, true, true, true, false] HT_ HW_ rfl rfl hHeld (by rintro w' ⟨s0, s1⟩; go_simp; with_reducible rfl) (h := ?_)
        refine pu 8 53 #[true, true, true, true, true, true, true, true, true] HT_ rfl rfl (h := ?_)
        refine done_ (done_of HT_.out (by kernel_rfl)) ?_
        obtain ⟨Ao55, co55, eo55⟩ := Kd.R_slice HO_7.out
        subst eo55
        have p211 : 0 ≤ ((ji27) : Int) := of_decide_eq_true (by first | (with_reducible assumption) | assumption)
        have q211 : (ji27) < (x7_1.length : Int) := of_decide_eq_true (by first | (with_reducible assumption) | assumption)
        obtain ⟨ad211, e211, hx211_0⟩ := Kd.at_int (Kd.R_reads' HO_7.out).2.2 (ji27) p211 q211
        cases e211
        replace p211 := eq_true p211
        replace q211 := eq_true q211
        have p31 : 0 ≤ (x10_2 : Int) := of_decide_eq_true (by first | (with_reducible assumption) | assumption)
        have q31 : (x10_2 : Int) < ((x9_2.length : Int) : Int) := of_decide_eq_true (by first | (with_reducible assumption) | assumption)
        obtain ⟨go31, co31, eo31, gb31, gl31, cl31, HG31⟩ := Kd.R_form HO_9.out (by omega)
        (first | cases eo31 | (injection eo31 with ea_ en_ ec_; (first | subst ea_ | (injection ea_ with ea_; subst ea_)); subst ec_; clear en_))
        have GB31 := aZ gb31
        have GG31 := aZ HG31
        clear gb31 gl31 HG31
        obtain ⟨hx31_0, hf31_0⟩ := Kd.R_celln 0 HO_9.out (x10_2 : Int) p31 q31
        replace p31 := eq_true p31
        replace q31 := eq_true q31
        obtain ⟨hy56_, hz56_⟩ := Kd.R_celln 0 HO_9.out (x10_2 : Int) (of_decide_eq_true (by first | (with_reducible assumption) | assumption)) (of_decide_eq_true (by first | (with_reducible assumption) | assumption))
        have HP56 := Kd.R_putg HO_9.out (x10_2 : Int) (wrap64 ((rd x7_1 (ji27)) + 1))
        try go_wp2_with (first | ((with_reducible refine gate_store (t := 3) (p := 62) rfl ?_); refine store_event (t := 3) (p := 62) (v := ?vo_w57) (w1 := (w54.setCell ⟨go31, (x10_2 : Int).toNat, none⟩ (.int .i64 (wrap64 ((rd x7_1 (ji27)) + 1))))) ?hg ?ho ?hn ?hr ?_; (case ho => rfl); (case hg => rfl); (case hn => rfl); (case hr => first | (go_simp; done) | (go_simp; rfl)); intro w57 hw; have hg : w54.grownBy w57 (some go31) := (by rw [hw]; exact HP56.2); have hp_ : Kd.R (Kd.int .i64) 3 w57 w.heap.size (fun k_ => some k_ ≠ (v198 : Value).ownBlock ∧ some k_ ≠ (v201 : Value).ownBlock ∧ some k_ ≠ (.slice (some ad211) x7_1.length co55 : Value).ownBlock) (.slice (some ⟨go31, 0, none⟩) x9_2.length co31) y212 := (by rw [hw, Ny212.out]; exact HP56.1); clear HP56; have n0_ := aZ (Kd.R_after (v := (.slice (some ⟨go31, 0, none⟩) x9_2.length co31)) (v1 := (.slice (some ⟨go31, 0, none⟩) x9_2.length co31)) (ok := (fun k_ => some k_ ≠ (v201 : Value).ownBlock ∧ some k_ ≠ (.slice (some ad211) x7_1.length co55 : Value).ownBlock)) (by (with_reducible repeat (first | apply Kd.rA | apply Kd.rN | apply Kd.rD)); exact Kd.R_mono HO_5.out (fun _ hk => ⟨⟨hk.1, hk.2.1⟩, hk.2.2⟩)) hg (.inl rfl)); have n1_ := aZ (Kd.R_after (v := (.slice (some ⟨go31, 0, none⟩) x9_2.length co31)) (v1 := (.slice (some ⟨go31, 0, none⟩) x9_2.length co31)) (ok := (fun k_ => some k_ ≠ (v198 : Value).ownBlock ∧ some k_ ≠ (.slice (some ad211) x7_1.length co55 : Value).ownBlock)) (by (with_reducible repeat (first | apply Kd.rA | apply Kd.rN | apply Kd.rD)); exact Kd.R_mono HO_6.out (fun _ hk => ⟨⟨hk.1, hk.2.1⟩, hk.2.2⟩)) hg (.inl rfl)); have n2_ := aZ (Kd.R_after (v := (.slice (some ⟨go31, 0, none⟩) x9_2.length co31)) (v1 := (.slice (some ⟨go31, 0, none⟩) x9_2.length co31)) (ok := (fun k_ => some k_ ≠ (v198 : Value).ownBlock ∧ some k_ ≠ (v201 : Value).ownBlock)) (by (with_reducible repeat (first | apply Kd.rA | apply Kd.rN | apply Kd.rD)); exact Kd.R_mono HO_7.out (fun _ hk => ⟨⟨hk.1, hk.2.1⟩, hk.2.2⟩)) hg (.inl rfl)); have n3_ := aZ (hp_); have n4_ := aZ ((by rw [hw]; exact lS (HB.out) GB31.out : Below w.heap.size w w57)); clear HO_5; clear HO_6; clear HO_7; clear HO_9; clear HB; have HO_5 := n0_; have HO_6 := n1_; have HO_7 := n2_; have HO_9 := n3_; have HB := n4_; clear n0_ n1_ n2_ n3_ n4_; clear hg hw hp_))
        have n0_ := aZ (Kd.rD HO_5.out)
        have n1_ := aZ (Kd.rD HO_6.out)
        have n2_ := aZ (Kd.rD HO_7.out)
        have n3_ := aZ (Kd.rD HO_9.out)
        have n4_ := aZ (lD HB.out)
        clear HO_5
        clear HO_6
        clear HO_7
        clear HO_9
        clear HB
        have HO_5 := n0_
        have HO_6 := n1_
        have HO_7 := n2_
        have HO_9 := n3_
        have HB := n4_
        clear n0_ n1_ n2_ n3_ n4_
        have p213 : 0 ≤ (x10_2 : Int) := of_decide_eq_true (by first | (with_reducible assumption) | assumption)
        have q213 : x10_2 < (y212.length : Int) := (by have h_ : (x10_2 : Int) < ((x9_2.length : Int) : Int) := of_decide_eq_true (by first | (with_reducible assumption) | assumption); first | (have e_ := (Kd.R_reads' HO_9.out).1; omega) | simpa only [Ny212.out, List.length_set] using h_)
        have ql213 : ((x10_2 : Int) < ((x9_2.length : Int) : Int)) = True := eq_true (of_decide_eq_true (by first | (with_reducible assumption) | assumption))
        obtain ⟨ad213, e213, hx213_0⟩ := Kd.at_int (Kd.R_reads' HO_9.out).2.2 x10_2 p213 q213
        obtain rfl : (⟨go31, 0, none⟩ : Addr) = ad213 := (by injection e213)
        (first | simp only [add_plain] at hx213_0 | simp only [add_at] at hx213_0 | simp only [Addr.add, Nat.zero_add] at hx213_0 | skip)
        replace p213 := eq_true p213
        replace q213 := eq_true q213
        refine start_ (n := 16) (S := fun w' => w'.cell? ⟨go31, (x10_2).toNat, none⟩ = some (.int .i64 (rd y212 x10_2))) (ds := []) Z1 (by kernel_rfl) rfl rfl (hx213_0) (fun hHeld => ?_); refine with_tabW changeforgeref3_EncodeDelta.tab13 changeforgeref3_EncodeDelta.bits13 (fun HT_ HW_ => ?_)
        generalize w57.drew = w58 at HO_5 HO_6 HO_7 HO_9 HB hx213_0 hHeld ⊢
        refine pu 0 63 Z2 HT_ rfl rfl (h := ?_)
        refine pu 1 64 Z3 HT_ rfl rfl (h := ?_)
        refine pu 2 65 Z4 HT_ rfl rfl (h := ?_)
        refine tk 3 66 Z5 HT_ HW_ rfl rfl hHeld (by intro w' s0; go_simp; with_reducible rfl) (h := ?_)
        refine pu 4 67 Z6 HT_ rfl rfl (h := ?_)
        refine pu 5 68 Z7 HT_ rfl rfl (h := ?_)
        refine pv 6 69 Z8 HT_ rfl rfl (h := ?_)
        refine pv 7 70 Z9 HT_ rfl rfl (h := ?_)
        refine pv 8 71 Z10 HT_ rfl rfl (h := ?_)
        refine pv 9 72 Z18 HT_ rfl rfl (h := ?_)
        refine pv 10 73 Z19 HT_ rfl rfl (h := ?_)
        refine pv 11 74 Z20 HT_ rfl rfl (h := ?_)
        refine pv 12 75 Z14 HT_ rfl rfl (h := ?_)
        refine pv 13 76 Z15 HT_ rfl rfl (h := ?_)
        refine pv 14 77 Z16 HT_ rfl rfl (h := ?_)
        refine pu 15 78 Z17 HT_ rfl rfl (h := ?_)
        refine done_ (done_of HT_.out (by kernel_rfl)) ?_
        try go_wp2
        go_roundg k2
        case measure => have := HK1.out; have := HK2.out; omega
        case rel => exact ⟨(x5_2), (x6_2), (y212), (wrap64 (x10_2 - 1)), (by first | rfl | (simp; done) | (simp [*]; done) | (simp [i64_w]; done)), H', ⟨by have := HK1.out; have := HK2.out; omega⟩, ⟨by (with_reducible repeat (first | apply Kd.rA | apply Kd.rN | apply Kd.rD)); exact Kd.R_mono HO_5.out (fun _ hk => ⟨hk.1.1, ⟨hk.1.2, hk.2⟩⟩)⟩, ⟨by (with_reducible repeat (first | apply Kd.rA | apply Kd.rN | apply Kd.rD)); exact Kd.R_mono HO_6.out (fun _ hk => ⟨hk.1.1, ⟨hk.1.2, hk.2⟩⟩)⟩, ⟨by (with_reducible repeat (first | apply Kd.rA | apply Kd.rN | apply Kd.rD)); exact Kd.R_mono HO_7.out (fun _ hk => ⟨hk.1.1, ⟨hk.1.2, hk.2⟩⟩)⟩, ⟨by (with_reducible repeat (first | apply Kd.rA | apply Kd.rN | apply Kd.rD)); exact HO_9.out⟩, ⟨by repeat (first | (with_reducible first | exact HB.out | apply lA | apply lN | apply lD) | exact HB.out)⟩⟩
      rw [if_pos c32] at H
      have c32b0 : decide (0 < (rd y212 x10_2)) = true := decide_eq_true c32
      clear c32
      by_cases c33 : x8_1 < (x5_2.length : Int)
      rotate_left
      · rw [if_neg c33] at H
        exact absurd H (by simp)
      rw [if_pos c33] at H
      have c33b0 : decide (x8_1 < (x5_2.length : Int)) = true := decide_eq_true c33
      clear c33
      by_cases c34 : (rd y212 x10_2) ≥ (rd x5_2 x8_1)
      rotate_left
      · rw [if_neg c34] at H
        have c34b0 : decide ((rd x5_2 x8_1) ≤ (rd y212 x10_2)) = false := decide_eq_false c34
        clear c34
        have H' := aZ H
        clear H
        try go_wp2
        have n0_ := aZ (Kd.rD HO_5.out)
        have n1_ := aZ (Kd.rD HO_6.out)
        have n2_ := aZ (Kd.rD HO_7.out)
        have n3_ := aZ (Kd.rD HO_9.out)
        have n4_ := aZ (lD HB.out)
        clear HO_5
        clear HO_6
        clear HO_7
        clear HO_9
        clear HB
        have HO_5 := n0_
        have HO_6 := n1_
        have HO_7 := n2_
        have HO_9 := n3_
        have HB := n4_
        clear n0_ n1_ n2_ n3_ n4_
        have p209 : 0 ≤ (x10_2 : Int) := of_decide_eq_true (by first | (with_reducible assumption) | assumption)
        have q209 : x10_2 < (l0.length : Int) := of_decide_eq_true (by first | (with_reducible assumption) | assumption)
        obtain ⟨ad209, e209, hx209_0⟩ := Kd.at_int HR0.out x10_2 p209 q209
        have hw209_0 := hx209_0
        cases e209
        replace hx209_0 := (HB.out.cell (World.block_lt_of_cell? w _ hx209_0)).trans hx209_0
        replace p209 := eq_true p209
        replace q209 := eq_true q209
        have p210 : 0 ≤ (x8_1 : Int) := of_decide_eq_true (by first | (with_reducible assumption) | assumption)
        have q210 : x8_1 < (l1.length : Int) := of_decide_eq_true (by first | (with_reducible assumption) | assumption)
        obtain ⟨ad210, e210, hx210_0⟩ := Kd.at_int HR1.out x8_1 p210 q210
        have hw210_0 := hx210_0
        cases e210
        replace hx210_0 := (HB.out.cell (World.block_lt_of_cell? w _ hx210_0)).trans hx210_0
        replace p210 := eq_true p210
        replace q210 := eq_true q210
        refine start_ (n := 9) (S := fun w' => w'.cell? (ad209.add (x10_2).toNat) = some (.int .u8 (rd l0 x10_2)) ∧ w'.cell? (ad210.add (x8_1).toNat) = some (.int .u8 (rd l1 x8_1))) (ds := []) #[false, false, false, false, false, false, false, false, false] (by kernel_rfl) rfl rfl ⟨((HB.out.cell (World.block_lt_of_cell? w _ hw209_0)).trans hw209_0), ((HB.out.cell (World.block_lt_of_cell? w _ hw210_0)).trans hw210_0)⟩ (fun hHeld => ?_); refine with_tabW changeforgeref3_EncodeDelta.tab11 changeforgeref3_EncodeDelta.bits11 (fun HT_ HW_ => ?_)
        generalize wr.drew = w48 at HO_5 HO_6 HO_7 HO_9 HB hx209_0 hx210_0 hHeld ⊢
        refine pu 0 45 #[true, false, false, false, false, false, false, false, false] HT_ rfl rfl (h := ?_)
        refine pu 1 46 #[true, true, false, false, false, false, false, false, false] HT_ rfl rfl (h := ?_)
        refine pu 2 47 #[true, true, true, false, false, false, false, false, false] HT_ rfl rfl (h := ?_)
        refine pu 4 49 #[true, true, true, false, true, false, false, false, false] HT_ rfl rfl (h := ?_)
        refine pu 5 50 #[true, true, true, false, true, true, false, false, false] HT_ rfl rfl (h := ?_)
        refine pu 6 51 #[true, true, true, false, true, true, true, false, false] HT_ rfl rfl (h := ?_)
        refine tk 3 48 #[true, true, true, true, true, true, true, false, false] HT_ HW_ rfl rfl hHeld (by rintro w' ⟨s0, s1⟩; go_simp; with_reducible rfl) (h := ?_)
        refine tk 7 52 #[true, true, true, true, true, true, true, true, false] HT_ HW_ rfl rfl hHeld (by rintro w' ⟨s0, s1⟩; go_simp; with_reducible rfl) (h := ?_)
        refine pu 8 53 #[true, true, true, true, true, true, true, true, true] HT_ rfl rfl (h := ?_)
        refine done_ (done_of HT_.out (by kernel_rfl)) ?_
        obtain ⟨Ao49, co49, eo49⟩ := Kd.R_slice HO_7.out
        subst eo49
        have p211 : 0 ≤ ((ji27) : Int) := of_decide_eq_true (by first | (with_reducible assumption) | assumption)
        have q211 : (ji27) < (x7_1.length : Int) := of_decide_eq_true (by first | (with_reducible assumption) | assumption)
        obtain ⟨ad211, e211, hx211_0⟩ := Kd.at_int (Kd.R_reads' HO_7.out).2.2 (ji27) p211 q211
        cases e211
        replace p211 := eq_true p211
        replace q211 := eq_true q211
        have p31 : 0 ≤ (x10_2 : Int) := of_decide_eq_true (by first | (with_reducible assumption) | assumption)
        have q31 : (x10_2 : Int) < ((x9_2.length : Int) : Int) := of_decide_eq_true (by first | (with_reducible assumption) | assumption)
        obtain ⟨go31, co31, eo31, gb31, gl31, cl31, HG31⟩ := Kd.R_form HO_9.out (by omega)
        (first | cases eo31 | (injection eo31 with ea_ en_ ec_; (first | subst ea_ | (injection ea_ with ea_; subst ea_)); subst ec_; clear en_))
        have GB31 := aZ gb31
        have GG31 := aZ HG31
        clear gb31 gl31 HG31
        obtain ⟨hx31_0, hf31_0⟩ := Kd.R_celln 0 HO_9.out (x10_2 : Int) p31 q31
        replace p31 := eq_true p31
        replace q31 := eq_true q31
        obtain ⟨hy50_, hz50_⟩ := Kd.R_celln 0 HO_9.out (x10_2 : Int) (of_decide_eq_true (by first | (with_reducible assumption) | assumption)) (of_decide_eq_true (by first | (with_reducible assumption) | assumption))
        have HP50 := Kd.R_putg HO_9.out (x10_2 : Int) (wrap64 ((rd x7_1 (ji27)) + 1))
        try go_wp2_with (first | ((with_reducible refine gate_store (t := 3) (p := 62) rfl ?_); refine store_event (t := 3) (p := 62) (v := ?vo_w51) (w1 := (w48.setCell ⟨go31, (x10_2 : Int).toNat, none⟩ (.int .i64 (wrap64 ((rd x7_1 (ji27)) + 1))))) ?hg ?ho ?hn ?hr ?_; (case ho => rfl); (case hg => rfl); (case hn => rfl); (case hr => first | (go_simp; done) | (go_simp; rfl)); intro w51 hw; have hg : w48.grownBy w51 (some go31) := (by rw [hw]; exact HP50.2); have hp_ : Kd.R (Kd.int .i64) 3 w51 w.heap.size (fun k_ => some k_ ≠ (v198 : Value).ownBlock ∧ some k_ ≠ (v201 : Value).ownBlock ∧ some k_ ≠ (.slice (some ad211) x7_1.length co49 : Value).ownBlock) (.slice (some ⟨go31, 0, none⟩) x9_2.length co31) y212 := (by rw [hw, Ny212.out]; exact HP50.1); clear HP50; have n0_ := aZ (Kd.R_after (v := (.slice (some ⟨go31, 0, none⟩) x9_2.length co31)) (v1 := (.slice (some ⟨go31, 0, none⟩) x9_2.length co31)) (ok := (fun k_ => some k_ ≠ (v201 : Value).ownBlock ∧ some k_ ≠ (.slice (some ad211) x7_1.length co49 : Value).ownBlock)) (by (with_reducible repeat (first | apply Kd.rA | apply Kd.rN | apply Kd.rD)); exact Kd.R_mono HO_5.out (fun _ hk => ⟨⟨hk.1, hk.2.1⟩, hk.2.2⟩)) hg (.inl rfl)); have n1_ := aZ (Kd.R_after (v := (.slice (some ⟨go31, 0, none⟩) x9_2.length co31)) (v1 := (.slice (some ⟨go31, 0, none⟩) x9_2.length co31)) (ok := (fun k_ => some k_ ≠ (v198 : Value).ownBlock ∧ some k_ ≠ (.slice (some ad211) x7_1.length co49 : Value).ownBlock)) (by (with_reducible repeat (first | apply Kd.rA | apply Kd.rN | apply Kd.rD)); exact Kd.R_mono HO_6.out (fun _ hk => ⟨⟨hk.1, hk.2.1⟩, hk.2.2⟩)) hg (.inl rfl)); have n2_ := aZ (Kd.R_after (v := (.slice (some ⟨go31, 0, none⟩) x9_2.length co31)) (v1 := (.slice (some ⟨go31, 0, none⟩) x9_2.length co31)) (ok := (fun k_ => some k_ ≠ (v198 : Value).ownBlock ∧ some k_ ≠ (v201 : Value).ownBlock)) (by (with_reducible repeat (first | apply Kd.rA | apply Kd.rN | apply Kd.rD)); exact Kd.R_mono HO_7.out (fun _ hk => ⟨⟨hk.1, hk.2.1⟩, hk.2.2⟩)) hg (.inl rfl)); have n3_ := aZ (hp_); have n4_ := aZ ((by rw [hw]; exact lS (HB.out) GB31.out : Below w.heap.size w w51)); clear HO_5; clear HO_6; clear HO_7; clear HO_9; clear HB; have HO_5 := n0_; have HO_6 := n1_; have HO_7 := n2_; have HO_9 := n3_; have HB := n4_; clear n0_ n1_ n2_ n3_ n4_; clear hg hw hp_))
        have n0_ := aZ (Kd.rD HO_5.out)
        have n1_ := aZ (Kd.rD HO_6.out)
        have n2_ := aZ (Kd.rD HO_7.out)
        have n3_ := aZ (Kd.rD HO_9.out)
        have n4_ := aZ (lD HB.out)
        clear HO_5
        clear HO_6
        clear HO_7
        clear HO_9
        clear HB
        have HO_5 := n0_
        have HO_6 := n1_
        have HO_7 := n2_
        have HO_9 := n3_
        have HB := n4_
        clear n0_ n1_ n2_ n3_ n4_
        have p213 : 0 ≤ (x10_2 : Int) := of_decide_eq_true (by first | (with_reducible assumption) | assumption)
        have q213 : x10_2 < (y212.length : Int) := (by have h_ : (x10_2 : Int) < ((x9_2.length : Int) : Int) := of_decide_eq_true (by first | (with_reducible assumption) | assumption); first | (have e_ := (Kd.R_reads' HO_9.out).1; omega) | simpa only [Ny212.out, List.length_set] using h_)
        have ql213 : ((x10_2 : Int) < ((x9_2.length : Int) : Int)) = True := eq_true (of_decide_eq_true (by first | (with_reducible assumption) | assumption))
        obtain ⟨ad213, e213, hx213_0⟩ := Kd.at_int (Kd.R_reads' HO_9.out).2.2 x10_2 p213 q213
        obtain rfl : (⟨go31, 0, none⟩ : Addr) = ad213 := (by injection e213)
        (first | simp only [add_plain] at hx213_0 | simp only [add_at] at hx213_0 | simp only [Addr.add, Nat.zero_add] at hx213_0 | skip)
        replace p213 := eq_true p213
        replace q213 := eq_true q213
        have p214 : 0 ≤ (x10_2 : Int) := of_decide_eq_true (by first | (with_reducible assumption) | assumption)
        have q214 : x10_2 < (y212.length : Int) := (by have h_ : (x10_2 : Int) < ((x9_2.length : Int) : Int) := of_decide_eq_true (by first | (with_reducible assumption) | assumption); first | (have e_ := (Kd.R_reads' HO_9.out).1; omega) | simpa only [Ny212.out, List.length_set] using h_)
        have ql214 : ((x10_2 : Int) < ((x9_2.length : Int) : Int)) = True := eq_true (of_decide_eq_true (by first | (with_reducible assumption) | assumption))
        obtain ⟨ad214, e214, hx214_0⟩ := Kd.at_int (Kd.R_reads' HO_9.out).2.2 x10_2 p214 q214
        obtain rfl : (⟨go31, 0, none⟩ : Addr) = ad214 := (by injection e214)
        (first | simp only [add_plain] at hx214_0 | simp only [add_at] at hx214_0 | simp only [Addr.add, Nat.zero_add] at hx214_0 | skip)
        replace p214 := eq_true p214
        replace q214 := eq_true q214
        obtain ⟨Ao53, co53, eo53⟩ := Kd.R_slice HO_5.out
        (first | subst eo53 | (injection eo53 with f1_ f2_ f3_; have f4_ := f1_.symm; have f5_ := f3_.symm; clear f1_ f2_ f3_; subst f4_; subst f5_))
        have p215 : 0 ≤ (x8_1 : Int) := of_decide_eq_true (by first | (with_reducible assumption) | assumption)
        have q215 : x8_1 < (x5_2.length : Int) := of_decide_eq_true (by first | (with_reducible assumption) | assumption)
        obtain ⟨ad215, e215, hx215_0⟩ := Kd.at_int (Kd.R_reads' HO_5.out).2.2 x8_1 p215 q215
        cases e215
        replace p215 := eq_true p215
        replace q215 := eq_true q215
        refine start_ (n := 16) (S := fun w' => w'.cell? ⟨go31, (x10_2).toNat, none⟩ = some (.int .i64 (rd y212 x10_2)) ∧ w'.cell? ⟨go31, (x10_2).toNat, none⟩ = some (.int .i64 (rd y212 x10_2)) ∧ w'.cell? (ad215.add (x8_1).toNat) = some (.int .i64 (rd x5_2 x8_1))) (ds := []) Z1 (by kernel_rfl) rfl rfl ⟨hx213_0, hx214_0, hx215_0⟩ (fun hHeld => ?_); refine with_tabW changeforgeref3_EncodeDelta.tab13 changeforgeref3_EncodeDelta.bits13 (fun HT_ HW_ => ?_)
        generalize w51.drew = w52 at HO_5 HO_6 HO_7 HO_9 HB hx213_0 hx214_0 hx215_0 hHeld ⊢
        refine pu 0 63 Z2 HT_ rfl rfl (h := ?_)
        refine pu 1 64 Z3 HT_ rfl rfl (h := ?_)
        refine pu 2 65 Z4 HT_ rfl rfl (h := ?_)
        refine tk 3 66 Z5 HT_ HW_ rfl rfl hHeld (by rintro w' ⟨s0, s1, s2⟩; go_simp; with_reducible rfl) (h := ?_)
        refine pu 4 67 Z6 HT_ rfl rfl (h := ?_)
        refine pu 5 68 Z7 HT_ rfl rfl (h := ?_)
        refine pu 6 69 Z8 HT_ rfl rfl (h := ?_)
        refine pu 7 70 Z9 HT_ rfl rfl (h := ?_)
        refine pu 8 71 Z10 HT_ rfl rfl (h := ?_)
        refine pu 10 73 Z11 HT_ rfl rfl (h := ?_)
        refine pu 11 74 Z12 HT_ rfl rfl (h := ?_)
        refine pu 12 75 Z13 HT_ rfl rfl (h := ?_)
        refine tk 9 72 Z14 HT_ HW_ rfl rfl hHeld (by rintro w' ⟨s0, s1, s2⟩; go_simp; with_reducible rfl) (h := ?_)
        refine tk 13 76 Z15 HT_ HW_ rfl rfl hHeld (by rintro w' ⟨s0, s1, s2⟩; go_simp; with_reducible rfl) (h := ?_)
        refine pu 14 77 Z16 HT_ rfl rfl (h := ?_)
        refine pu 15 78 Z17 HT_ rfl rfl (h := ?_)
        refine done_ (done_of HT_.out (by kernel_rfl)) ?_
        try go_wp2
        go_roundg k2
        case measure => have := HK1.out; have := HK2.out; omega
        case rel => exact ⟨(x5_2), (x6_2), (y212), (wrap64 (x10_2 - 1)), (by first | rfl | (simp; done) | (simp [*]; done) | (simp [i64_w]; done)), H', ⟨by have := HK1.out; have := HK2.out; omega⟩, ⟨by (with_reducible repeat (first | apply Kd.rA | apply Kd.rN | apply Kd.rD)); exact Kd.R_mono HO_5.out (fun _ hk => ⟨hk.1.1, ⟨hk.1.2, hk.2⟩⟩)⟩, ⟨by (with_reducible repeat (first | apply Kd.rA | apply Kd.rN | apply Kd.rD)); exact Kd.R_mono HO_6.out (fun _ hk => ⟨hk.1.1, ⟨hk.1.2, hk.2⟩⟩)⟩, ⟨by (with_reducible repeat (first | apply Kd.rA | apply Kd.rN | apply Kd.rD)); exact Kd.R_mono HO_7.out (fun _ hk => ⟨hk.1.1, ⟨hk.1.2, hk.2⟩⟩)⟩, ⟨by (with_reducible repeat (first | apply Kd.rA | apply Kd.rN | apply Kd.rD)); exact HO_9.out⟩, ⟨by repeat (first | (with_reducible first | exact HB.out | apply lA | apply lN | apply lD) | exact HB.out)⟩⟩
      rw [if_pos c34] at H
      have c34b0 : decide ((rd x5_2 x8_1) ≤ (rd y212 x10_2)) = true := decide_eq_true c34
      clear c34
      obtain ⟨y217, hy217⟩ : ∃ y_ : List Int, y_ = (x5_2.set (x8_1 : Int).toNat (rd y212 x10_2)) := ⟨_, rfl⟩
      replace H : (if x8_1 < (x6_2.length : Int) then (changeforgeref3_EncodeDelta.l1 k2 l0 l1 y217 (x6_2.set (x8_1 : Int).toNat x10_2) x7_1 x8_1 y212 (wrap64 (x10_2 - 1))) else (none)) = some r := by first | (rw [hy217]; with_reducible exact H) | (have H2_ := (Option.bind_some _ _).symm.trans H; rw [hy217]; with_reducible exact H2_) | (have H2_ := (Option.bind_some _ _).symm.trans H; with_reducible exact H2_) | with_reducible exact H | (rw [hy217]; exact H) | exact H
      have Ny217 := aZ hy217
      clear hy217
      by_cases c36 : x8_1 < (x6_2.length : Int)
      rotate_left
      · rw [if_neg c36] at H
        exact absurd H (by simp)
      rw [if_pos c36] at H
      have c36b0 : decide (x8_1 < (x6_2.length : Int)) = true := decide_eq_true c36
      clear c36
      obtain ⟨y218, hy218⟩ : ∃ y_ : List Int, y_ = (x6_2.set (x8_1 : Int).toNat x10_2) := ⟨_, rfl⟩
      replace H : (changeforgeref3_EncodeDelta.l1 k2 l0 l1 y217 y218 x7_1 x8_1 y212 (wrap64 (x10_2 - 1))) = some r := by first | (rw [hy218]; with_reducible exact H) | (have H2_ := (Option.bind_some _ _).symm.trans H; rw [hy218]; with_reducible exact H2_) | (have H2_ := (Option.bind_some _ _).symm.trans H; with_reducible exact H2_) | with_reducible exact H | (rw [hy218]; exact H) | exact H
      have Ny218 := aZ hy218
      clear hy218
      have H' := aZ H
      clear H
      try go_wp2
      have n0_ := aZ (Kd.rD HO_5.out)
      have n1_ := aZ (Kd.rD HO_6.out)
      have n2_ := aZ (Kd.rD HO_7.out)
      have n3_ := aZ (Kd.rD HO_9.out)
      have n4_ := aZ (lD HB.out)
      clear HO_5
      clear HO_6
      clear HO_7
      clear HO_9
      clear HB
      have HO_5 := n0_
      have HO_6 := n1_
      have HO_7 := n2_
      have HO_9 := n3_
      have HB := n4_
      clear n0_ n1_ n2_ n3_ n4_
      have p209 : 0 ≤ (x10_2 : Int) := of_decide_eq_true (by first | (with_reducible assumption) | assumption)
      have q209 : x10_2 < (l0.length : Int) := of_decide_eq_true (by first | (with_reducible assumption) | assumption)
      obtain ⟨ad209, e209, hx209_0⟩ := Kd.at_int HR0.out x10_2 p209 q209
      have hw209_0 := hx209_0
      cases e209
      replace hx209_0 := (HB.out.cell (World.block_lt_of_cell? w _ hx209_0)).trans hx209_0
      replace p209 := eq_true p209
      replace q209 := eq_true q209
      have p210 : 0 ≤ (x8_1 : Int) := of_decide_eq_true (by first | (with_reducible assumption) | assumption)
      have q210 : x8_1 < (l1.length : Int) := of_decide_eq_true (by first | (with_reducible assumption) | assumption)
      obtain ⟨ad210, e210, hx210_0⟩ := Kd.at_int HR1.out x8_1 p210 q210
      have hw210_0 := hx210_0
      cases e210
      replace hx210_0 := (HB.out.cell (World.block_lt_of_cell? w _ hx210_0)).trans hx210_0
      replace p210 := eq_true p210
      replace q210 := eq_true q210
      refine start_ (n := 9) (S := fun w' => w'.cell? (ad209.add (x10_2).toNat) = some (.int .u8 (rd l0 x10_2)) ∧ w'.cell? (ad210.add (x8_1).toNat) = some (.int .u8 (rd l1 x8_1))) (ds := []) #[false, false, false, false, false, false, false, false, false] (by kernel_rfl) rfl rfl ⟨((HB.out.cell (World.block_lt_of_cell? w _ hw209_0)).trans hw209_0), ((HB.out.cell (World.block_lt_of_cell? w _ hw210_0)).trans hw210_0)⟩ (fun hHeld => ?_); refine with_tabW changeforgeref3_EncodeDelta.tab11 changeforgeref3_EncodeDelta.bits11 (fun HT_ HW_ => ?_)
      generalize wr.drew = w38 at HO_5 HO_6 HO_7 HO_9 HB hx209_0 hx210_0 hHeld ⊢
      refine pu 0 45 #[true, false, false, false, false, false, false, false, false] HT_ rfl rfl (h := ?_)
      refine pu 1 46 #[true, true, false, false, false, false, false, false, false] HT_ rfl rfl (h := ?_)
      refine pu 2 47 #[true, true, true, false, false, false, false, false, false] HT_ rfl rfl (h := ?_)
      refine pu 4 49 #[true, true, true, false, true, false, false, false, false] HT_ rfl rfl (h := ?_)
      refine pu 5 50 #[true, true, true, false, true, true, false, false, false] HT_ rfl rfl (h := ?_)
      refine pu 6 51 #[true, true, true, false, true, true, true, false, false] HT_ rfl rfl (h := ?_)
      refine tk 3 48 #[true, true, true, true, true, true, true, false, false] HT_ HW_ rfl rfl hHeld (by rintro w' ⟨s0, s1⟩; go_simp; with_reducible rfl) (h := ?_)
      refine tk 7 52 #[true, true, true, true, true, true, true, true, false] HT_ HW_ rfl rfl hHeld (by rintro w' ⟨s0, s1⟩; go_simp; with_reducible rfl) (h := ?_)
      refine pu 8 53 #[true, true, true, true, true, true, true, true, true] HT_ rfl rfl (h := ?_)
      refine done_ (done_of HT_.out (by kernel_rfl)) ?_
      obtain ⟨Ao39, co39, eo39⟩ := Kd.R_slice HO_7.out
      subst eo39
      have p211 : 0 ≤ ((ji27) : Int) := of_decide_eq_true (by first | (with_reducible assumption) | assumption)
      have q211 : (ji27) < (x7_1.length : Int) := of_decide_eq_true (by first | (with_reducible assumption) | assumption)
      obtain ⟨ad211, e211, hx211_0⟩ := Kd.at_int (Kd.R_reads' HO_7.out).2.2 (ji27) p211 q211
      cases e211
      replace p211 := eq_true p211
      replace q211 := eq_true q211
      have p31 : 0 ≤ (x10_2 : Int) := of_decide_eq_true (by first | (with_reducible assumption) | assumption)
      have q31 : (x10_2 : Int) < ((x9_2.length : Int) : Int) := of_decide_eq_true (by first | (with_reducible assumption) | assumption)
      obtain ⟨go31, co31, eo31, gb31, gl31, cl31, HG31⟩ := Kd.R_form HO_9.out (by omega)
      (first | cases eo31 | (injection eo31 with ea_ en_ ec_; (first | subst ea_ | (injection ea_ with ea_; subst ea_)); subst ec_; clear en_))
      have GB31 := aZ gb31
      have GG31 := aZ HG31
      clear gb31 gl31 HG31
      obtain ⟨hx31_0, hf31_0⟩ := Kd.R_celln 0 HO_9.out (x10_2 : Int) p31 q31
      replace p31 := eq_true p31
      replace q31 := eq_true q31
      obtain ⟨hy40_, hz40_⟩ := Kd.R_celln 0 HO_9.out (x10_2 : Int) (of_decide_eq_true (by first | (with_reducible assumption) | assumption)) (of_decide_eq_true (by first | (with_reducible assumption) | assumption))
      have HP40 := Kd.R_putg HO_9.out (x10_2 : Int) (wrap64 ((rd x7_1 (ji27)) + 1))
      try go_wp2_with (first | ((with_reducible refine gate_store (t := 3) (p := 62) rfl ?_); refine store_event (t := 3) (p := 62) (v := ?vo_w41) (w1 := (w38.setCell ⟨go31, (x10_2 : Int).toNat, none⟩ (.int .i64 (wrap64 ((rd x7_1 (ji27)) + 1))))) ?hg ?ho ?hn ?hr ?_; (case ho => rfl); (case hg => rfl); (case hn => rfl); (case hr => first | (go_simp; done) | (go_simp; rfl)); intro w41 hw; have hg : w38.grownBy w41 (some go31) := (by rw [hw]; exact HP40.2); have hp_ : Kd.R (Kd.int .i64) 3 w41 w.heap.size (fun k_ => some k_ ≠ (v198 : Value).ownBlock ∧ some k_ ≠ (v201 : Value).ownBlock ∧ some k_ ≠ (.slice (some ad211) x7_1.length co39 : Value).ownBlock) (.slice (some ⟨go31, 0, none⟩) x9_2.length co31) y212 := (by rw [hw, Ny212.out]; exact HP40.1); clear HP40; have n0_ := aZ (Kd.R_after (v := (.slice (some ⟨go31, 0, none⟩) x9_2.length co31)) (v1 := (.slice (some ⟨go31, 0, none⟩) x9_2.length co31)) (ok := (fun k_ => some k_ ≠ (v201 : Value).ownBlock ∧ some k_ ≠ (.slice (some ad211) x7_1.length co39 : Value).ownBlock)) (by (with_reducible repeat (first | apply Kd.rA | apply Kd.rN | apply Kd.rD)); exact Kd.R_mono HO_5.out (fun _ hk => ⟨⟨hk.1, hk.2.1⟩, hk.2.2⟩)) hg (.inl rfl)); have n1_ := aZ (Kd.R_after (v := (.slice (some ⟨go31, 0, none⟩) x9_2.length co31)) (v1 := (.slice (some ⟨go31, 0, none⟩) x9_2.length co31)) (ok := (fun k_ => some k_ ≠ (v198 : Value).ownBlock ∧ some k_ ≠ (.slice (some ad211) x7_1.length co39 : Value).ownBlock)) (by (with_reducible repeat (first | apply Kd.rA | apply Kd.rN | apply Kd.rD)); exact Kd.R_mono HO_6.out (fun _ hk => ⟨⟨hk.1, hk.2.1⟩, hk.2.2⟩)) hg (.inl rfl)); have n2_ := aZ (Kd.R_after (v := (.slice (some ⟨go31, 0, none⟩) x9_2.length co31)) (v1 := (.slice (some ⟨go31, 0, none⟩) x9_2.length co31)) (ok := (fun k_ => some k_ ≠ (v198 : Value).ownBlock ∧ some k_ ≠ (v201 : Value).ownBlock)) (by (with_reducible repeat (first | apply Kd.rA | apply Kd.rN | apply Kd.rD)); exact Kd.R_mono HO_7.out (fun _ hk => ⟨⟨hk.1, hk.2.1⟩, hk.2.2⟩)) hg (.inl rfl)); have n3_ := aZ (hp_); have n4_ := aZ ((by rw [hw]; exact lS (HB.out) GB31.out : Below w.heap.size w w41)); clear HO_5; clear HO_6; clear HO_7; clear HO_9; clear HB; have HO_5 := n0_; have HO_6 := n1_; have HO_7 := n2_; have HO_9 := n3_; have HB := n4_; clear n0_ n1_ n2_ n3_ n4_; clear hg hw hp_))
      have n0_ := aZ (Kd.rD HO_5.out)
      have n1_ := aZ (Kd.rD HO_6.out)
      have n2_ := aZ (Kd.rD HO_7.out)
      have n3_ := aZ (Kd.rD HO_9.out)
      have n4_ := aZ (lD HB.out)
      clear HO_5
      clear HO_6
      clear HO_7
      clear HO_9
      clear HB
      have HO_5 := n0_
      have HO_6 := n1_
      have HO_7 := n2_
      have HO_9 := n3_
      have HB := n4_
      clear n0_ n1_ n2_ n3_ n4_
      have p213 : 0 ≤ (x10_2 : Int) := of_decide_eq_true (by first | (with_reducible assumption) | assumption)
      have q213 : x10_2 < (y212.length : Int) := (by have h_ : (x10_2 : Int) < ((x9_2.length : Int) : Int) := of_decide_eq_true (by first | (with_reducible assumption) | assumption); first | (have e_ := (Kd.R_reads' HO_9.out).1; omega) | simpa only [Ny212.out, List.length_set] using h_)
      have ql213 : ((x10_2 : Int) < ((x9_2.length : Int) : Int)) = True := eq_true (of_decide_eq_true (by first | (with_reducible assumption) | assumption))
      obtain ⟨ad213, e213, hx213_0⟩ := Kd.at_int (Kd.R_reads' HO_9.out).2.2 x10_2 p213 q213
      obtain rfl : (⟨go31, 0, none⟩ : Addr) = ad213 := (by injection e213)
      (first | simp only [add_plain] at hx213_0 | simp only [add_at] at hx213_0 | simp only [Addr.add, Nat.zero_add] at hx213_0 | skip)
      replace p213 := eq_true p213
      replace q213 := eq_true q213
      have p214 : 0 ≤ (x10_2 : Int) := of_decide_eq_true (by first | (with_reducible assumption) | assumption)
      have q214 : x10_2 < (y212.length : Int) := (by have h_ : (x10_2 : Int) < ((x9_2.length : Int) : Int) := of_decide_eq_true (by first | (with_reducible assumption) | assumption); first | (have e_ := (Kd.R_reads' HO_9.out).1; omega) | simpa only [Ny212.out, List.length_set] using h_)
      have ql214 : ((x10_2 : Int) < ((x9_2.length : Int) : Int)) = True := eq_true (of_decide_eq_true (by first | (with_reducible assumption) | assumption))
      obtain ⟨ad214, e214, hx214_0⟩ := Kd.at_int (Kd.R_reads' HO_9.out).2.2 x10_2 p214 q214
      obtain rfl : (⟨go31, 0, none⟩ : Addr) = ad214 := (by injection e214)
      (first | simp only [add_plain] at hx214_0 | simp only [add_at] at hx214_0 | simp only [Addr.add, Nat.zero_add] at hx214_0 | skip)
      replace p214 := eq_true p214
      replace q214 := eq_true q214
      obtain ⟨Ao43, co43, eo43⟩ := Kd.R_slice HO_5.out
      (first | subst eo43 | (injection eo43 with f1_ f2_ f3_; have f4_ := f1_.symm; have f5_ := f3_.symm; clear f1_ f2_ f3_; subst f4_; subst f5_))
      have p215 : 0 ≤ (x8_1 : Int) := of_decide_eq_true (by first | (with_reducible assumption) | assumption)
      have q215 : x8_1 < (x5_2.length : Int) := of_decide_eq_true (by first | (with_reducible assumption) | assumption)
      obtain ⟨ad215, e215, hx215_0⟩ := Kd.at_int (Kd.R_reads' HO_5.out).2.2 x8_1 p215 q215
      cases e215
      replace p215 := eq_true p215
      replace q215 := eq_true q215
      refine start_ (n := 16) (S := fun w' => w'.cell? ⟨go31, (x10_2).toNat, none⟩ = some (.int .i64 (rd y212 x10_2)) ∧ w'.cell? ⟨go31, (x10_2).toNat, none⟩ = some (.int .i64 (rd y212 x10_2)) ∧ w'.cell? (ad215.add (x8_1).toNat) = some (.int .i64 (rd x5_2 x8_1))) (ds := []) Z1 (by kernel_rfl) rfl rfl ⟨hx213_0, hx214_0, hx215_0⟩ (fun hHeld => ?_); refine with_tabW changeforgeref3_EncodeDelta.tab13 changeforgeref3_EncodeDelta.bits13 (fun HT_ HW_ => ?_)
      generalize w41.drew = w42 at HO_5 HO_6 HO_7 HO_9 HB hx213_0 hx214_0 hx215_0 hHeld ⊢
      refine pu 0 63 Z2 HT_ rfl rfl (h := ?_)
      refine pu 1 64 Z3 HT_ rfl rfl (h := ?_)
      refine pu 2 65 Z4 HT_ rfl rfl (h := ?_)
      refine tk 3 66 Z5 HT_ HW_ rfl rfl hHeld (by rintro w' ⟨s0, s1, s2⟩; go_simp; with_reducible rfl) (h := ?_)
      refine pu 4 67 Z6 HT_ rfl rfl (h := ?_)
      refine pu 5 68 Z7 HT_ rfl rfl (h := ?_)
      refine pu 6 69 Z8 HT_ rfl rfl (h := ?_)
      refine pu 7 70 Z9 HT_ rfl rfl (h := ?_)
      refine pu 8 71 Z10 HT_ rfl rfl (h := ?_)
      refine pu 10 73 Z11 HT_ rfl rfl (h := ?_)
      refine pu 11 74 Z12 HT_ rfl rfl (h := ?_)
      refine pu 12 75 Z13 HT_ rfl rfl (h := ?_)
      refine tk 9 72 Z14 HT_ HW_ rfl rfl hHeld (by rintro w' ⟨s0, s1, s2⟩; go_simp; with_reducible rfl) (h := ?_)
      refine tk 13 76 Z15 HT_ HW_ rfl rfl hHeld (by rintro w' ⟨s0, s1, s2⟩; go_simp; with_reducible rfl) (h := ?_)
      refine pu 14 77 Z16 HT_ rfl rfl (h := ?_)
      refine pu 15 78 Z17 HT_ rfl rfl (h := ?_)
      refine done_ (done_of HT_.out (by kernel_rfl)) ?_
      have p216 : 0 ≤ (x10_2 : Int) := of_decide_eq_true (by first | (with_reducible assumption) | assumption)
      have q216 : x10_2 < (y212.length : Int) := (by have h_ : (x10_2 : Int) < ((x9_2.length : Int) : Int) := of_decide_eq_true (by first | (with_reducible assumption) | assumption); first | (have e_ := (Kd.R_reads' HO_9.out).1; omega) | simpa only [Ny212.out, List.length_set] using h_)
      have ql216 : ((x10_2 : Int) < ((x9_2.length : Int) : Int)) = True := eq_true (of_decide_eq_true (by first | (with_reducible assumption) | assumption))
      obtain ⟨ad216, e216, hx216_0⟩ := Kd.at_int (Kd.R_reads' HO_9.out).2.2 x10_2 p216 q216
      obtain rfl : (⟨go31, 0, none⟩ : Addr) = ad216 := (by injection e216)
      (first | simp only [add_plain] at hx216_0 | simp only [add_at] at hx216_0 | simp only [Addr.add, Nat.zero_add] at hx216_0 | skip)
      replace p216 := eq_true p216
      replace q216 := eq_true q216
      have p35 : 0 ≤ (x8_1 : Int) := of_decide_eq_true (by first | (with_reducible assumption) | assumption)
      have q35 : (x8_1 : Int) < ((x5_2.length : Int) : Int) := of_decide_eq_true (by first | (with_reducible assumption) | assumption)
      obtain ⟨go35, co35, eo35, gb35, gl35, cl35, HG35⟩ := Kd.R_form HO_5.out (by omega)
      (first | cases eo35 | (injection eo35 with ea_ en_ ec_; (first | subst ea_ | (injection ea_ with ea_; subst ea_)); subst ec_; clear en_))
      have GB35 := aZ gb35
      have GG35 := aZ HG35
      clear gb35 gl35 HG35
      (first | simp only [add_plain] at hx215_0 | skip)
      obtain ⟨hx35_0, hf35_0⟩ := Kd.R_celln 0 HO_5.out (x8_1 : Int) p35 q35
      replace p35 := eq_true p35
      replace q35 := eq_true q35
      have n_ := aZ (Kd.R_mono (ok' := (fun k_ => some k_ ≠ (v201 : Value).ownBlock ∧ some k_ ≠ (.slice (some ad211) x7_1.length co39 : Value).ownBlock ∧ some k_ ≠ (.slice (some ⟨go31, 0, none⟩) x9_2.length co31 : Value).ownBlock)) HO_5.out (fun k_ hk => ⟨hk.1.1, ⟨hk.1.2, hk.2⟩⟩))
      clear HO_5
      have HO_5 := n_
      clear n_
      obtain ⟨hy44_, hz44_⟩ := Kd.R_celln 0 HO_5.out (x8_1 : Int) (of_decide_eq_true (by first | (with_reducible assumption) | assumption)) (of_decide_eq_true (by first | (with_reducible assumption) | assumption))
      have HP44 := Kd.R_putg HO_5.out (x8_1 : Int) (rd y212 x10_2)
      try go_wp2_with (first | ((with_reducible refine gate_store (t := 3) (p := 85) rfl ?_); refine store_event (t := 3) (p := 85) (v := ?vo_w45) (w1 := (w42.setCell ⟨go35, (x8_1 : Int).toNat, none⟩ (.int .i64 (rd y212 x10_2)))) ?hg ?ho ?hn ?hr ?_; (case ho => rfl); (case hg => rfl); (case hn => rfl); (case hr => first | (go_simp; done) | (go_simp; rfl)); intro w45 hw; have hg : w42.grownBy w45 (some go35) := (by rw [hw]; exact HP44.2); have hp_ : Kd.R (Kd.int .i64) 3 w45 w.heap.size (fun k_ => some k_ ≠ (v201 : Value).ownBlock ∧ some k_ ≠ (.slice (some ad211) x7_1.length co39 : Value).ownBlock ∧ some k_ ≠ (.slice (some ⟨go31, 0, none⟩) x9_2.length co31 : Value).ownBlock) (.slice (some ⟨go35, 0, none⟩) x5_2.length co43) y217 := (by rw [hw, Ny217.out]; exact HP44.1); clear HP44; have n0_ := aZ (hp_); have n1_ := aZ (Kd.R_after (v := (.slice (some ⟨go35, 0, none⟩) x5_2.length co43)) (v1 := (.slice (some ⟨go35, 0, none⟩) x5_2.length co43)) (ok := (fun k_ => some k_ ≠ (.slice (some ad211) x7_1.length co39 : Value).ownBlock ∧ some k_ ≠ (.slice (some ⟨go31, 0, none⟩) x9_2.length co31 : Value).ownBlock)) (by (with_reducible repeat (first | apply Kd.rA | apply Kd.rN | apply Kd.rD)); exact Kd.R_mono HO_6.out (fun _ hk => ⟨⟨hk.1.2, hk.2⟩, hk.1.1⟩)) hg (.inl rfl)); have n2_ := aZ (Kd.R_after (v := (.slice (some ⟨go35, 0, none⟩) x5_2.length co43)) (v1 := (.slice (some ⟨go35, 0, none⟩) x5_2.length co43)) (ok := (fun k_ => some k_ ≠ (v201 : Value).ownBlock ∧ some k_ ≠ (.slice (some ⟨go31, 0, none⟩) x9_2.length co31 : Value).ownBlock)) (by (with_reducible repeat (first | apply Kd.rA | apply Kd.rN | apply Kd.rD)); exact Kd.R_mono HO_7.out (fun _ hk => ⟨⟨hk.1.2, hk.2⟩, hk.1.1⟩)) hg (.inl rfl)); have n3_ := aZ (Kd.R_after (v := (.slice (some ⟨go35, 0, none⟩) x5_2.length co43)) (v1 := (.slice (some ⟨go35, 0, none⟩) x5_2.length co43)) (ok := (fun k_ => some k_ ≠ (v201 : Value).ownBlock ∧ some k_ ≠ (.slice (some ad211) x7_1.length co39 : Value).ownBlock)) (by (with_reducible repeat (first | apply Kd.rA | apply Kd.rN | apply Kd.rD)); exact Kd.R_mono HO_9.out (fun _ hk => ⟨⟨hk.2.1, hk.2.2⟩, hk.1⟩)) hg (.inl rfl)); have n4_ := aZ ((by rw [hw]; exact lS (HB.out) GB35.out : Below w.heap.size w w45)); clear HO_5; clear HO_6; clear HO_7; clear HO_9; clear HB; have HO_5 := n0_; have HO_6 := n1_; have HO_7 := n2_; have HO_9 := n3_; have HB := n4_; clear n0_ n1_ n2_ n3_ n4_; clear hg hw hp_; have p37 : 0 ≤ (x8_1 : Int) := of_decide_eq_true (by first | (with_reducible assumption) | assumption); have q37 : (x8_1 : Int) < ((x6_2.length : Int) : Int) := of_decide_eq_true (by first | (with_reducible assumption) | assumption); obtain ⟨go37, co37, eo37, gb37, gl37, cl37, HG37⟩ := Kd.R_form HO_6.out (by omega); (first | cases eo37 | (injection eo37 with ea_ en_ ec_; (first | subst ea_ | (injection ea_ with ea_; subst ea_)); subst ec_; clear en_)); have GB37 := aZ gb37; have GG37 := aZ HG37; clear gb37 gl37 HG37; obtain ⟨hx37_0, hf37_0⟩ := Kd.R_celln 0 HO_6.out (x8_1 : Int) p37 q37; replace p37 := eq_true p37; replace q37 := eq_true q37; have n_ := aZ (Kd.R_mono (ok' := (fun k_ => some k_ ≠ (.slice (some ⟨go35, 0, none⟩) x5_2.length co43 : Value).ownBlock ∧ some k_ ≠ (.slice (some ad211) x7_1.length co39 : Value).ownBlock ∧ some k_ ≠ (.slice (some ⟨go31, 0, none⟩) x9_2.length co31 : Value).ownBlock)) HO_6.out (fun k_ hk => ⟨hk.2, ⟨hk.1.1, hk.1.2⟩⟩)); clear HO_6; have HO_6 := n_; clear n_; obtain ⟨hy46_, hz46_⟩ := Kd.R_celln 0 HO_6.out (x8_1 : Int) (of_decide_eq_true (by first | (with_reducible assumption) | assumption)) (of_decide_eq_true (by first | (with_reducible assumption) | assumption)); have HP46 := Kd.R_putg HO_6.out (x8_1 : Int) x10_2) | ((with_reducible refine gate_store (t := 3) (p := 89) rfl ?_); refine store_event (t := 3) (p := 89) (v := ?vo_w47) (w1 := (w45.setCell ⟨go37, (x8_1 : Int).toNat, none⟩ (.int .i64 x10_2))) ?hg ?ho ?hn ?hr ?_; (case ho => rfl); (case hg => rfl); (case hn => rfl); (case hr => first | (go_simp; done) | (go_simp; rfl)); intro w47 hw; have hg : w45.grownBy w47 (some go37) := (by rw [hw]; exact HP46.2); have hp_ : Kd.R (Kd.int .i64) 3 w47 w.heap.size (fun k_ => some k_ ≠ (.slice (some ⟨go35, 0, none⟩) x5_2.length co43 : Value).ownBlock ∧ some k_ ≠ (.slice (some ad211) x7_1.length co39 : Value).ownBlock ∧ some k_ ≠ (.slice (some ⟨go31, 0, none⟩) x9_2.length co31 : Value).ownBlock) (.slice (some ⟨go37, 0, none⟩) x6_2.length co37) y218 := (by rw [hw, Ny218.out]; exact HP46.1); clear HP46; have n0_ := aZ (Kd.R_after (v := (.slice (some ⟨go37, 0, none⟩) x6_2.length co37)) (v1 := (.slice (some ⟨go37, 0, none⟩) x6_2.length co37)) (ok := (fun k_ => some k_ ≠ (.slice (some ad211) x7_1.length co39 : Value).ownBlock ∧ some k_ ≠ (.slice (some ⟨go31, 0, none⟩) x9_2.length co31 : Value).ownBlock)) (by (with_reducible repeat (first | apply Kd.rA | apply Kd.rN | apply Kd.rD)); exact Kd.R_mono HO_5.out (fun _ hk => ⟨⟨hk.2.1, hk.2.2⟩, hk.1⟩)) hg (.inl rfl)); have n1_ := aZ (hp_); have n2_ := aZ (Kd.R_after (v := (.slice (some ⟨go37, 0, none⟩) x6_2.length co37)) (v1 := (.slice (some ⟨go37, 0, none⟩) x6_2.length co37)) (ok := (fun k_ => some k_ ≠ (.slice (some ⟨go35, 0, none⟩) x5_2.length co43 : Value).ownBlock ∧ some k_ ≠ (.slice (some ⟨go31, 0, none⟩) x9_2.length co31 : Value).ownBlock)) (by (with_reducible repeat (first | apply Kd.rA | apply Kd.rN | apply Kd.rD)); exact Kd.R_mono HO_7.out (fun _ hk => ⟨⟨hk.2, hk.1.2⟩, hk.1.1⟩)) hg (.inl rfl)); have n3_ := aZ (Kd.R_after (v := (.slice (some ⟨go37, 0, none⟩) x6_2.length co37)) (v1 := (.slice (some ⟨go37, 0, none⟩) x6_2.length co37)) (ok := (fun k_ => some k_ ≠ (.slice (some ⟨go35, 0, none⟩) x5_2.length co43 : Value).ownBlock ∧ some k_ ≠ (.slice (some ad211) x7_1.length co39 : Value).ownBlock)) (by (with_reducible repeat (first | apply Kd.rA | apply Kd.rN | apply Kd.rD)); exact Kd.R_mono HO_9.out (fun _ hk => ⟨⟨hk.2, hk.1.2⟩, hk.1.1⟩)) hg (.inl rfl)); have n4_ := aZ ((by rw [hw]; exact lS (HB.out) GB37.out : Below w.heap.size w w47)); clear HO_5; clear HO_6; clear HO_7; clear HO_9; clear HB; have HO_5 := n0_; have HO_6 := n1_; have HO_7 := n2_; have HO_9 := n3_; have HB := n4_; clear n0_ n1_ n2_ n3_ n4_; clear hg hw hp_))
      go_roundg k2
      case measure => have := HK1.out; have := HK2.out; omega
      case rel => exact ⟨(y217), (y218), (y212), (wrap64 (x10_2 - 1)), (by first | rfl | (simp; done) | (simp [*]; done) | (simp [i64_w]; done)), H', ⟨by have := HK1.out; have := HK2.out; omega⟩, ⟨by (with_reducible repeat (first | apply Kd.rA | apply Kd.rN | apply Kd.rD)); exact Kd.R_mono HO_5.out (fun _ hk => ⟨hk.2, ⟨hk.1.1, hk.1.2⟩⟩)⟩, ⟨by (with_reducible repeat (first | apply Kd.rA | apply Kd.rN | apply Kd.rD)); exact HO_6.out⟩, ⟨by (with_reducible repeat (first | apply Kd.rA | apply Kd.rN | apply Kd.rD)); exact Kd.R_mono HO_7.out (fun _ hk => ⟨hk.1.1, ⟨hk.2, hk.1.2⟩⟩)⟩, ⟨by (with_reducible repeat (first | apply Kd.rA | apply Kd.rN | apply Kd.rD)); exact Kd.R_mono HO_9.out (fun _ hk => ⟨hk.1.1, ⟨hk.2, hk.1.2⟩⟩)⟩, ⟨by repeat (first | (with_reducible first | exact HB.out | apply lA | apply lN | apply lD) | exact HB.out)⟩⟩
end Go.Proofs.Ytgmpnghgmcgghaa.P
