/- What the Go functions of this seat compute, and that they do: printed by a program over the kit's print. -/
import Derived.Test.YtojhnjgnpjoacaaP0
import Derived.Test.YtojhnjgnpjoacaaP5
import Derived.Test.YtojhnjgnpjoacaaP6
namespace Go.Proofs.Ytojhnjgnpjoacaa.P
open Go.RowKit Go.Proofs.YtojhnjgnpjoacaaW.PrintWords Go.Proofs.YtojhnjgnpjoacaaW.PrintLast Go.Proofs.YtojhnjgnpjoacaaW.PrintMore
attribute [local go_sem] max2_int min2_int max_two min_two max_three min_three max_four min_four   -- for this text's walks alone
set_option linter.unusedVariables false
set_option linter.unusedSimpArgs false

/-! ### changeforgelaw3_MergebaseCoversCommon: function 6 -/
mutual
def changeforgelaw3_MergebaseCoversCommon.j0 : Nat → List (S49) → Int → List Int → Bool → Bool → Bool → Int → Int → Option (Bool)
  | 0, _, _, _, _, _, _, _, _ => none
  | k + 1, x0, x3, x9, x11, x13, x57, x367000, x367001 => if x57 = true then (if x367000 = 0 then (some true) else (some ((x9.length : Int) == 0))) else (changeforgelaw3_MergebaseCoversCommon.l0 k x0 x3 x9 x11 x13 false 0)
def changeforgelaw3_MergebaseCoversCommon.l0 : Nat → List (S49) → Int → List Int → Bool → Bool → Bool → Int → Option (Bool)
  | 0, _, _, _, _, _, _, _ => none
  | k + 1, x0, x3, x9, x11, x13, x15, x16 => if x16 < (x9.length : Int) then (if 0 ≤ x16 then ((mergebase_IsAncestor.f k x0 x3 (rd x9 x16)).bind fun bt376 => (if bt376.2.1 = 0 then (if x15 = true then (changeforgelaw3_MergebaseCoversCommon.j2 k x0 x3 x9 x11 x13 true x16) else (changeforgelaw3_MergebaseCoversCommon.j2 k x0 x3 x9 x11 x13 bt376.1 x16)) else (some false))) else (none)) else (if x11 = true then (some (x15 == x13)) else (some (x15 == false)))
def changeforgelaw3_MergebaseCoversCommon.j2 : Nat → List (S49) → Int → List Int → Bool → Bool → Bool → Int → Option (Bool)
  | 0, _, _, _, _, _, _, _ => none
  | k + 1, x0, x3, x9, x11, x13, x15, x16 => changeforgelaw3_MergebaseCoversCommon.l1 k x0 x3 x9 x11 x13 x15 x16 0
def changeforgelaw3_MergebaseCoversCommon.l1 : Nat → List (S49) → Int → List Int → Bool → Bool → Bool → Int → Int → Option (Bool)
  | 0, _, _, _, _, _, _, _, _ => none
  | k + 1, x0, x3, x9, x11, x13, x15, x16, x19 => if x19 < (x9.length : Int) then (if 0 ≤ x16 then (if x16 < (x9.length : Int) then (if 0 ≤ x19 then ((mergebase_IsAncestor.f k x0 (rd x9 x16) (rd x9 x19)).bind fun bt382 => (if bt382.2.1 = 0 then (if (bt382.1 != (x16 == x19)) = true then (some false) else (changeforgelaw3_MergebaseCoversCommon.l1 k x0 x3 x9 x11 x13 x15 x16 (wrap64 (x19 + 1)))) else (some false))) else (none)) else (none)) else (none)) else (changeforgelaw3_MergebaseCoversCommon.l0 k x0 x3 x9 x11 x13 x15 (wrap64 (x16 + 1)))
end
def changeforgelaw3_MergebaseCoversCommon.f (k : Nat) (l0 : List (S49)) (a1 : Int) (a2 : Int) (a3 : Int) : Option (Bool) := (changeforgelaw3_mergebaseExample.f k).bind fun t360 => (if t360 = true then ((mergebase_Bases.f k l0 a1 a2).bind fun bt361 => ((mergebase_IsAncestor.f k l0 a3 a1).bind fun bt367 => ((mergebase_IsAncestor.f k l0 a3 a2).bind fun bt371 => (if bt361.2.1 = 0 then (if bt367.2.1 = 0 then (changeforgelaw3_MergebaseCoversCommon.j0 k l0 a3 bt361.1 bt367.1 bt371.1 (bt371.2.1 != 0) bt361.2.1 bt361.2.2) else (changeforgelaw3_MergebaseCoversCommon.j0 k l0 a3 bt361.1 bt367.1 bt371.1 true bt361.2.1 bt361.2.2)) else (changeforgelaw3_MergebaseCoversCommon.j0 k l0 a3 bt361.1 bt367.1 bt371.1 true bt361.2.1 bt361.2.2))))) else (some false))
theorem changeforgelaw3_MergebaseCoversCommon.mono_l : ∀ k, (∀ y0 y1 y2 y3 y4 y5 y6 y7, LeO (changeforgelaw3_MergebaseCoversCommon.j0 k y0 y1 y2 y3 y4 y5 y6 y7) (changeforgelaw3_MergebaseCoversCommon.j0 (k + 1) y0 y1 y2 y3 y4 y5 y6 y7)) ∧ (∀ y0 y1 y2 y3 y4 y5 y6, LeO (changeforgelaw3_MergebaseCoversCommon.l0 k y0 y1 y2 y3 y4 y5 y6) (changeforgelaw3_MergebaseCoversCommon.l0 (k + 1) y0 y1 y2 y3 y4 y5 y6)) ∧ (∀ y0 y1 y2 y3 y4 y5 y6, LeO (changeforgelaw3_MergebaseCoversCommon.j2 k y0 y1 y2 y3 y4 y5 y6) (changeforgelaw3_MergebaseCoversCommon.j2 (k + 1) y0 y1 y2 y3 y4 y5 y6)) ∧ (∀ y0 y1 y2 y3 y4 y5 y6 y7, LeO (changeforgelaw3_MergebaseCoversCommon.l1 k y0 y1 y2 y3 y4 y5 y6 y7) (changeforgelaw3_MergebaseCoversCommon.l1 (k + 1) y0 y1 y2 y3 y4 y5 y6 y7))
  | 0 => ⟨fun _ _ _ _ _ _ _ _ r h => by simp [changeforgelaw3_MergebaseCoversCommon.j0] at h, fun _ _ _ _ _ _ _ r h => by simp [changeforgelaw3_MergebaseCoversCommon.l0] at h, fun _ _ _ _ _ _ _ r h => by simp [changeforgelaw3_MergebaseCoversCommon.j2] at h, fun _ _ _ _ _ _ _ _ r h => by simp [changeforgelaw3_MergebaseCoversCommon.l1] at h⟩
  | k + 1 => by
    obtain ⟨ih0, ih1, ih2, ih3⟩ := changeforgelaw3_MergebaseCoversCommon.mono_l k
    refine ⟨?_, ?_, ?_, ?_⟩
    · intro y0 y1 y2 y3 y4 y5 y6 y7
      unfold changeforgelaw3_MergebaseCoversCommon.j0
      repeat' first
      | (with_reducible exact ih0 _ _ _ _ _ _ _ _)
      | (with_reducible exact ih1 _ _ _ _ _ _ _)
      | (with_reducible exact ih2 _ _ _ _ _ _ _)
      | (with_reducible exact ih3 _ _ _ _ _ _ _ _)
      | (with_reducible exact changeforgelaw3_mergebaseExample.mono _)
      | (with_reducible exact mergebase_Bases.mono _ _ _ _)
      | (with_reducible exact mergebase_IsAncestor.mono _ _ _ _)
      | (with_reducible exact LeO.refl _)
      | (with_reducible exact LeO.none _)
      | (with_reducible refine LeO.ite ?_ ?_)
      | (with_reducible refine LeO.bind ?_ (fun _ => ?_))
      | exact ih0 _ _ _ _ _ _ _ _
      | exact ih1 _ _ _ _ _ _ _
      | exact ih2 _ _ _ _ _ _ _
      | exact ih3 _ _ _ _ _ _ _ _
      | exact changeforgelaw3_mergebaseExample.mono _
      | exact mergebase_Bases.mono _ _ _ _
      | exact mergebase_IsAncestor.mono _ _ _ _
      | exact LeO.none _
      | refine LeO.ite ?_ ?_
      | refine LeO.bind ?_ (fun _ => ?_)
    · intro y0 y1 y2 y3 y4 y5 y6
      unfold changeforgelaw3_MergebaseCoversCommon.l0
      repeat' first
      | (with_reducible exact ih0 _ _ _ _ _ _ _ _)
      | (with_reducible exact ih1 _ _ _ _ _ _ _)
      | (with_reducible exact ih2 _ _ _ _ _ _ _)
      | (with_reducible exact ih3 _ _ _ _ _ _ _ _)
      | (with_reducible exact changeforgelaw3_mergebaseExample.mono _)
      | (with_reducible exact mergebase_Bases.mono _ _ _ _)
      | (with_reducible exact mergebase_IsAncestor.mono _ _ _ _)
      | (with_reducible exact LeO.refl _)
      | (with_reducible exact LeO.none _)
      | (with_reducible refine LeO.ite ?_ ?_)
      | (with_reducible refine LeO.bind ?_ (fun _ => ?_))
      | exact ih0 _ _ _ _ _ _ _ _
      | exact ih1 _ _ _ _ _ _ _
      | exact ih2 _ _ _ _ _ _ _
      | exact ih3 _ _ _ _ _ _ _ _
      | exact changeforgelaw3_mergebaseExample.mono _
      | exact mergebase_Bases.mono _ _ _ _
      | exact mergebase_IsAncestor.mono _ _ _ _
      | exact LeO.none _
      | refine LeO.ite ?_ ?_
      | refine LeO.bind ?_ (fun _ => ?_)
    · intro y0 y1 y2 y3 y4 y5 y6
      unfold changeforgelaw3_MergebaseCoversCommon.j2
      repeat' first
      | (with_reducible exact ih0 _ _ _ _ _ _ _ _)
      | (with_reducible exact ih1 _ _ _ _ _ _ _)
      | (with_reducible exact ih2 _ _ _ _ _ _ _)
      | (with_reducible exact ih3 _ _ _ _ _ _ _ _)
      | (with_reducible exact changeforgelaw3_mergebaseExample.mono _)
      | (with_reducible exact mergebase_Bases.mono _ _ _ _)
      | (with_reducible exact mergebase_IsAncestor.mono _ _ _ _)
      | (with_reducible exact LeO.refl _)
      | (with_reducible exact LeO.none _)
      | (with_reducible refine LeO.ite ?_ ?_)
      | (with_reducible refine LeO.bind ?_ (fun _ => ?_))
      | exact ih0 _ _ _ _ _ _ _ _
      | exact ih1 _ _ _ _ _ _ _
      | exact ih2 _ _ _ _ _ _ _
      | exact ih3 _ _ _ _ _ _ _ _
      | exact changeforgelaw3_mergebaseExample.mono _
      | exact mergebase_Bases.mono _ _ _ _
      | exact mergebase_IsAncestor.mono _ _ _ _
      | exact LeO.none _
      | refine LeO.ite ?_ ?_
      | refine LeO.bind ?_ (fun _ => ?_)
    · intro y0 y1 y2 y3 y4 y5 y6 y7
      unfold changeforgelaw3_MergebaseCoversCommon.l1
      repeat' first
      | (with_reducible exact ih0 _ _ _ _ _ _ _ _)
      | (with_reducible exact ih1 _ _ _ _ _ _ _)
      | (with_reducible exact ih2 _ _ _ _ _ _ _)
      | (with_reducible exact ih3 _ _ _ _ _ _ _ _)
      | (with_reducible exact changeforgelaw3_mergebaseExample.mono _)
      | (with_reducible exact mergebase_Bases.mono _ _ _ _)
      | (with_reducible exact mergebase_IsAncestor.mono _ _ _ _)
      | (with_reducible exact LeO.refl _)
      | (with_reducible exact LeO.none _)
      | (with_reducible refine LeO.ite ?_ ?_)
      | (with_reducible refine LeO.bind ?_ (fun _ => ?_))
      | exact ih0 _ _ _ _ _ _ _ _
      | exact ih1 _ _ _ _ _ _ _
      | exact ih2 _ _ _ _ _ _ _
      | exact ih3 _ _ _ _ _ _ _ _
      | exact changeforgelaw3_mergebaseExample.mono _
      | exact mergebase_Bases.mono _ _ _ _
      | exact mergebase_IsAncestor.mono _ _ _ _
      | exact LeO.none _
      | refine LeO.ite ?_ ?_
      | refine LeO.bind ?_ (fun _ => ?_)
theorem changeforgelaw3_MergebaseCoversCommon.mono : ∀ a0 a1 a2 a3 k, LeO (changeforgelaw3_MergebaseCoversCommon.f k a0 a1 a2 a3) (changeforgelaw3_MergebaseCoversCommon.f (k + 1) a0 a1 a2 a3) := by
  intro a0 a1 a2 a3 k
  obtain ⟨ih0, ih1, ih2, ih3⟩ := changeforgelaw3_MergebaseCoversCommon.mono_l k
  unfold changeforgelaw3_MergebaseCoversCommon.f
  repeat' first
      | (with_reducible exact ih0 _ _ _ _ _ _ _ _)
      | (with_reducible exact ih1 _ _ _ _ _ _ _)
      | (with_reducible exact ih2 _ _ _ _ _ _ _)
      | (with_reducible exact ih3 _ _ _ _ _ _ _ _)
      | (with_reducible exact changeforgelaw3_mergebaseExample.mono _)
      | (with_reducible exact mergebase_Bases.mono _ _ _ _)
      | (with_reducible exact mergebase_IsAncestor.mono _ _ _ _)
      | (with_reducible exact LeO.refl _)
      | (with_reducible exact LeO.none _)
      | (with_reducible refine LeO.ite ?_ ?_)
      | (with_reducible refine LeO.bind ?_ (fun _ => ?_))
      | exact ih0 _ _ _ _ _ _ _ _
      | exact ih1 _ _ _ _ _ _ _
      | exact ih2 _ _ _ _ _ _ _
      | exact ih3 _ _ _ _ _ _ _ _
      | exact changeforgelaw3_mergebaseExample.mono _
      | exact mergebase_Bases.mono _ _ _ _
      | exact mergebase_IsAncestor.mono _ _ _ _
      | exact LeO.none _
      | refine LeO.ite ?_ ?_
      | refine LeO.bind ?_ (fun _ => ?_)
def changeforgelaw3_MergebaseCoversCommon.T19 : Bool × List (List Nat × List Nat) := (true, [([], []), ([], []), ([], []), ([1, 2], [1, 2]), ([3], [3]), ([], []), ([], []), ([5, 6], [5, 6]), ([7], [7]), ([0, 4, 8], [0, 4, 8]), ([9], [9]), ([10], [10]), ([10], [10]), ([], []), ([11, 9, 0, 1, 2, 3, 4, 5, 6, 7, 8, 9, 10, 11, 13], [11]), ([13, 12, 14, 0, 1, 2, 3, 4, 5, 6, 7, 8, 9, 10, 11, 12, 13, 14], [12, 13])])
def changeforgelaw3_MergebaseCoversCommon.B19 : List Nat := [0, 0, 0, 6, 14, 0, 0, 96, 224, 511, 1023, 2047, 2047, 0, 12287, 32767]
theorem changeforgelaw3_MergebaseCoversCommon.tab19 : rtab .any (opsOf Try.f6 19) = changeforgelaw3_MergebaseCoversCommon.T19 := by kernel_rfl
theorem changeforgelaw3_MergebaseCoversCommon.bits19 : waitsOk changeforgelaw3_MergebaseCoversCommon.T19.2 changeforgelaw3_MergebaseCoversCommon.B19 = true := by kernel_rfl
set_option maxHeartbeats 8000000 in
set_option maxRecDepth 100000 in
theorem changeforgelaw3_MergebaseCoversCommon.calls (k : Nat) (A0 : Option Addr) (c0 : Nat) (l0 : List (S49)) (a1 : Int) (a2 : Int) (a3 : Int) (r : Bool) (w : World) (hr0 : Kd.C k49 w A0 l0.length l0) (hc0 : l0.length ≤ c0) (h : changeforgelaw3_MergebaseCoversCommon.f k l0 a1 a2 a3 = some r) :
    Calls Try.prog 6 #[.slice A0 l0.length c0, .int .i64 a1, .int .i64 a2, .int .i64 a3] w fun e w' => e = .returned (.bool r) ∧ Below w.heap.size w w' := by
  have hu26 := Try.underlying26
  have HR0 := aZ hr0
  have HC0 := aZ hc0
  clear hr0 hc0
  have HB := aZ (Below.refl w.heap.size w)
  have H : ((changeforgelaw3_mergebaseExample.f k).bind fun t360 => (if t360 = true then ((mergebase_Bases.f k l0 a1 a2).bind fun bt361 => ((mergebase_IsAncestor.f k l0 a3 a1).bind fun bt367 => ((mergebase_IsAncestor.f k l0 a3 a2).bind fun bt371 => (if bt361.2.1 = 0 then (if bt367.2.1 = 0 then (changeforgelaw3_MergebaseCoversCommon.j0 k l0 a3 bt361.1 bt367.1 bt371.1 (bt371.2.1 != 0) bt361.2.1 bt361.2.2) else (changeforgelaw3_MergebaseCoversCommon.j0 k l0 a3 bt361.1 bt367.1 bt371.1 true bt361.2.1 bt361.2.2)) else (changeforgelaw3_MergebaseCoversCommon.j0 k l0 a3 bt361.1 bt367.1 bt371.1 true bt361.2.1 bt361.2.2))))) else (some false))) = some r := h
  clear h
  replace H := Option.bind_eq_some_iff.mp H
  obtain ⟨t360, A50, H⟩ := H
  replace H : (if t360 = true then ((mergebase_Bases.f k l0 a1 a2).bind fun bt361 => ((mergebase_IsAncestor.f k l0 a3 a1).bind fun bt367 => ((mergebase_IsAncestor.f k l0 a3 a2).bind fun bt371 => (if bt361.2.1 = 0 then (if bt367.2.1 = 0 then (changeforgelaw3_MergebaseCoversCommon.j0 k l0 a3 bt361.1 bt367.1 bt371.1 (bt371.2.1 != 0) bt361.2.1 bt361.2.2) else (changeforgelaw3_MergebaseCoversCommon.j0 k l0 a3 bt361.1 bt367.1 bt371.1 true bt361.2.1 bt361.2.2)) else (changeforgelaw3_MergebaseCoversCommon.j0 k l0 a3 bt361.1 bt367.1 bt371.1 true bt361.2.1 bt361.2.2))))) else (some false)) = some r := H
  have A5 := aZ A50
  clear A50
  by_cases c6 : t360 = true
  rotate_left
  · replace c6 := Bool.eq_false_iff.mpr c6
    subst c6
    have H1 : (some false) = some r := by rw [if_neg (show ¬ (false = true) by decide)] at H; exact H
    clear H
    have H := H1
    clear H1
    obtain rfl := Option.some.inj H
    go_enter Try.func6, Try.ntmps6
    go_wp2_with (first | ((with_reducible refine gate_callee (f := 13) rfl ?_); refine goesL_ (some 22) rfl rfl Try.func13 (by kernel_rfl) rfl #[] rfl (by (try simp only [List.map_toArray, List.map_cons, List.map_nil]); first | done | rfl | (simp only [List.length_drop, List.length_take]; rfl)) ?_; (with_reducible refine (changeforgelaw3_mergebaseExample.calls k  false _ A5.out).mono ?_); rintro e w112 ⟨rfl, hb⟩; refine ⟨_, rfl, ?_⟩; have n0_ := aZ (lT (by repeat (first | (with_reducible first | exact HB.out | apply lA | apply lN | apply lD) | exact HB.out)) hb); clear HB; have HB := n0_; clear n0_; (try clear hb); (try clear hb2); (try clear hk); (try clear hi)))
    go_ret
    exact ⟨by first | rfl | (simp [errW_none, errW_some] <;> rfl) | (simp [*, errW_none, errW_some] <;> rfl), by repeat (first | (with_reducible first | exact HB.out | apply lA | apply lN | apply lD) | exact HB.out)⟩

  subst c6
  have H1 : ((mergebase_Bases.f k l0 a1 a2).bind fun bt361 => ((mergebase_IsAncestor.f k l0 a3 a1).bind fun bt367 => ((mergebase_IsAncestor.f k l0 a3 a2).bind fun bt371 => (if bt361.2.1 = 0 then (if bt367.2.1 = 0 then (changeforgelaw3_MergebaseCoversCommon.j0 k l0 a3 bt361.1 bt367.1 bt371.1 (bt371.2.1 != 0) bt361.2.1 bt361.2.2) else (changeforgelaw3_MergebaseCoversCommon.j0 k l0 a3 bt361.1 bt367.1 bt371.1 true bt361.2.1 bt361.2.2)) else (changeforgelaw3_MergebaseCoversCommon.j0 k l0 a3 bt361.1 bt367.1 bt371.1 true bt361.2.1 bt361.2.2))))) = some r := by rw [if_pos rfl] at H; exact H
  clear H
  have H := H1
  clear H1
  replace H := Option.bind_eq_some_iff.mp H
  obtain ⟨⟨t361, t364, t365⟩, A70, H⟩ := H
  replace H : ((mergebase_IsAncestor.f k l0 a3 a1).bind fun bt367 => ((mergebase_IsAncestor.f k l0 a3 a2).bind fun bt371 => (if t364 = 0 then (if bt367.2.1 = 0 then (changeforgelaw3_MergebaseCoversCommon.j0 k l0 a3 t361 bt367.1 bt371.1 (bt371.2.1 != 0) t364 t365) else (changeforgelaw3_MergebaseCoversCommon.j0 k l0 a3 t361 bt367.1 bt371.1 true t364 t365)) else (changeforgelaw3_MergebaseCoversCommon.j0 k l0 a3 t361 bt367.1 bt371.1 true t364 t365)))) = some r := H
  have A7 := aZ A70
  clear A70
  replace H := Option.bind_eq_some_iff.mp H
  obtain ⟨⟨t367, t368, t369⟩, A80, H⟩ := H
  replace H : ((mergebase_IsAncestor.f k l0 a3 a2).bind fun bt371 => (if t364 = 0 then (if t368 = 0 then (changeforgelaw3_MergebaseCoversCommon.j0 k l0 a3 t361 t367 bt371.1 (bt371.2.1 != 0) t364 t365) else (changeforgelaw3_MergebaseCoversCommon.j0 k l0 a3 t361 t367 bt371.1 true t364 t365)) else (changeforgelaw3_MergebaseCoversCommon.j0 k l0 a3 t361 t367 bt371.1 true t364 t365))) = some r := H
  have A8 := aZ A80
  clear A80
  replace H := Option.bind_eq_some_iff.mp H
  obtain ⟨⟨t371, t372, t373⟩, A90, H⟩ := H
  replace H : (if t364 = 0 then (if t368 = 0 then (changeforgelaw3_MergebaseCoversCommon.j0 k l0 a3 t361 t367 t371 (t372 != 0) t364 t365) else (changeforgelaw3_MergebaseCoversCommon.j0 k l0 a3 t361 t367 t371 true t364 t365)) else (changeforgelaw3_MergebaseCoversCommon.j0 k l0 a3 t361 t367 t371 true t364 t365)) = some r := H
  have A9 := aZ A90
  clear A90
  have HC10 := aZ H
  clear H
  go_enter Try.func6, Try.ntmps6
  go_upto_region 6 with (first | ((with_reducible refine gate_callee (f := 13) rfl ?_); refine goesL_ (some 22) rfl rfl Try.func13 (by kernel_rfl) rfl #[] rfl (by (try simp only [List.map_toArray, List.map_cons, List.map_nil]); first | done | rfl | (simp only [List.length_drop, List.length_take]; rfl)) ?_; (with_reducible refine (changeforgelaw3_mergebaseExample.calls k  true _ A5.out).mono ?_); rintro e w11 ⟨rfl, hb⟩; refine ⟨_, rfl, ?_⟩; have n0_ := aZ (lT (by repeat (first | (with_reducible first | exact HB.out | apply lA | apply lN | apply lD) | exact HB.out)) hb); clear HB; have HB := n0_; clear n0_; (try clear hb); (try clear hb2); (try clear hk); (try clear hi)) | ((with_reducible refine gate_callee (f := 14) rfl ?_); refine goesL_ (some 28) rfl rfl Try.func14 (by kernel_rfl) rfl #[.slice A0 l0.length c0, .int .i64 a1, .int .i64 a2] rfl (by (try simp only [List.map_toArray, List.map_cons, List.map_nil]); first | done | rfl | (simp only [List.length_drop, List.length_take]; rfl)) ?_; (with_reducible refine (mergebase_Bases.calls k _ _ l0 a1 a2 t361 t364 t365 _ ?side1 ?side2 A7.out).mono ?_); (case side1 => repeat (first | exact (Kd.C_below HR0.out HB.out) | (with_reducible refine Kd.C_alloc ?_ _) | (with_reducible refine Kd.C_drewN ?_ _) | (with_reducible refine Kd.C_drew ?_))); (case side2 => exact HC0.out); rintro e w12 ⟨v362, rfl, ho0, hb⟩; refine ⟨_, rfl, ?_⟩; have n0_ := aZ (Kd.R_lower ho0 (lZ (by repeat (first | (with_reducible first | exact HB.out | apply lA | apply lN | apply lD) | exact HB.out)))); have n1_ := aZ (lT (by repeat (first | (with_reducible first | exact HB.out | apply lA | apply lN | apply lD) | exact HB.out)) hb); clear HB; have HO363 := n0_; have HB := n1_; clear n0_ n1_; (try clear hb); (try clear hb2); (try clear hk); (try clear hi); (try clear ho0)) | ((with_reducible refine gate_dst (N := 10) rfl ?_); (try (refine gate_guard (by rfl) ?_; dsimp only)); refine box_event ?hg (N := 10) ?hd (cs := #[.int .i64 0, .int .i64 0]) (t := 26) ?hr ?_; (case hd => rfl); (case hg => rfl); (case hr => first | (go_simp; done) | (go_simp; rfl)); intro gb366 hg w13 hbox hb; have n0_ := aZ (Kd.R_below (by (with_reducible repeat (first | apply Kd.rA | apply Kd.rN | apply Kd.rD)); exact HO363.out) hb); have n1_ := aZ (lT (by repeat (first | (with_reducible first | exact HB.out | apply lA | apply lN | apply lD) | exact HB.out)) hb); have n2_ := aZ (hbox); have n3_ := aZ ((by rw [hg]; exact (lZ (by repeat (first | (with_reducible first | exact HB.out | apply lA | apply lN | apply lD) | exact HB.out))) : w.heap.size ≤ gb366)); have n4_ := aZ ((by rw [hg]; exact (lZ (by repeat (first | (with_reducible first | exact HB.out | apply lA | apply lN | apply lD) | exact HB.out))) : w.heap.size ≤ gb366)); clear HO363; clear HB; have HO363 := n0_; have HB := n1_; have BK366 := n2_; have GW366 := n3_; have GE366 := n4_; clear n0_ n1_ n2_ n3_ n4_; clear hb hbox hg; have hcz14_0 : w13.cell? ⟨gb366, 0, none⟩ = some (.int .i64 0) := (blk_cell BK366.out 0).trans rfl; have hcz14_1 : w13.cell? ⟨gb366, 1, none⟩ = some (.int .i64 0) := (blk_cell BK366.out 1).trans rfl; have hfz14_0 := blk_frozen BK366.out 0; have hfz14_1 := blk_frozen BK366.out 1) | ((with_reducible refine gate_callee (f := 16) rfl ?_); refine goesL_ (some 35) rfl rfl Try.func16 (by kernel_rfl) rfl #[.slice A0 l0.length c0, .int .i64 a3, .int .i64 a1] rfl (by (try simp only [List.map_toArray, List.map_cons, List.map_nil]); first | done | rfl | (simp only [List.length_drop, List.length_take]; rfl)) ?_; (with_reducible refine (mergebase_IsAncestor.calls k _ _ l0 a3 a1 t367 t368 t369 _ ?side1 ?side2 A8.out).mono ?_); (case side1 => exact Kd.C_below HR0.out (by repeat (first | (with_reducible first | exact HB.out | apply lA | apply lN | apply lD | refine lS ?_ GE366.out) | exact HB.out))); (case side2 => exact HC0.out); rintro e w15 ⟨rfl, hb⟩; refine ⟨_, rfl, ?_⟩; have n0_ := aZ (Kd.R_below (by (with_reducible repeat (first | apply Kd.rA | apply Kd.rN | apply Kd.rD)); exact (Kd.R_mono (Kd.R_far (p := ⟨gb366, 1, none⟩) (Kd.R_far (p := ⟨gb366, 0, none⟩) (Kd.R_types HO363.out BK366.out (by decide)) (fun _ hk => hk.2) (.int .i64 t364)) (fun _ hk => hk.2) (.int .i64 t365)) (fun _ h_ => h_.1))) hb); have n1_ := aZ (blk_below (g := gb366) (o := .cells #[.int .i64 t364, .int .i64 t365] 26 (0, 0)) (by (with_reducible repeat (first | refine bN ?_ _ | refine bD ?_ | refine bA ?_ _)); refine blk_put (cs := #[.int .i64 t364, .int .i64 0]) ?_ 1 _ rfl; (with_reducible repeat (first | refine bN ?_ _ | refine bD ?_ | refine bA ?_ _)); refine blk_put (cs := #[.int .i64 0, .int .i64 0]) ?_ 0 _ rfl; (with_reducible repeat (first | refine bN ?_ _ | refine bD ?_ | refine bA ?_ _)); exact BK366.out) hb); have n2_ := aZ (lT (by repeat (first | (with_reducible first | exact HB.out | apply lA | apply lN | apply lD | refine lS ?_ GE366.out) | exact HB.out)) hb); clear HO363; clear BK366; clear HB; have HO363 := n0_; have BK366 := n1_; have HB := n2_; clear n0_ n1_ n2_; (try clear hb); (try clear hb2); (try clear hk); (try clear hi)) | ((with_reducible refine gate_dst (N := 12) rfl ?_); (try (refine gate_guard (by rfl) ?_; dsimp only)); refine box_event ?hg (N := 12) ?hd (cs := #[.int .i64 0, .int .i64 0]) (t := 26) ?hr ?_; (case hd => rfl); (case hg => rfl); (case hr => first | (go_simp; done) | (go_simp; rfl)); intro gb370 hg w16 hbox hb; have n0_ := aZ (Kd.R_below (by (with_reducible repeat (first | apply Kd.rA | apply Kd.rN | apply Kd.rD)); exact HO363.out) hb); have n1_ := aZ (blk_below (g := gb366) (o := .cells #[.int .i64 t364, .int .i64 t365] 26 (0, 0)) (by (with_reducible repeat (first | refine bN ?_ _ | refine bD ?_ | refine bA ?_ _)); exact BK366.out) hb); have n2_ := aZ (lT (by repeat (first | (with_reducible first | exact HB.out | apply lA | apply lN | apply lD | refine lS ?_ GE366.out) | exact HB.out)) hb); have n3_ := aZ (hbox); have n4_ := aZ ((by rw [hg]; exact (lZ (by repeat (first | (with_reducible first | exact HB.out | apply lA | apply lN | apply lD | refine lS ?_ GE366.out) | exact HB.out))) : w.heap.size ≤ gb370)); have n5_ := aZ ((by rw [hg]; exact (lZ (by repeat (first | (with_reducible first | exact HB.out | apply lA | apply lN | apply lD | refine lS ?_ GE366.out) | exact HB.out))) : w.heap.size ≤ gb370)); have n6_ := aZ ((by rw [hg]; exact Nat.ne_of_lt (blk_lt (g := gb366) (o := .cells #[.int .i64 t364, .int .i64 t365] 26 (0, 0)) (by (with_reducible repeat (first | refine bN ?_ _ | refine bD ?_ | refine bA ?_ _)); exact BK366.out)) : gb366 ≠ gb370)); have n7_ := aZ ((by rw [hg]; exact Nat.ne_of_gt (blk_lt (g := gb366) (o := .cells #[.int .i64 t364, .int .i64 t365] 26 (0, 0)) (by (with_reducible repeat (first | refine bN ?_ _ | refine bD ?_ | refine bA ?_ _)); exact BK366.out)) : gb370 ≠ gb366)); clear HO363; clear BK366; clear HB; have HO363 := n0_; have BK366 := n1_; have HB := n2_; have BK370 := n3_; have GW370 := n4_; have GE370 := n5_; have NB366_370 := n6_; have NB370_366 := n7_; clear n0_ n1_ n2_ n3_ n4_ n5_ n6_ n7_; clear hb hbox hg; have hnb17 := NB370_366.out; have hnc17 := NB366_370.out; have hcz18_0 : w16.cell? ⟨gb370, 0, none⟩ = some (.int .i64 0) := (blk_cell BK370.out 0).trans rfl; have hcz18_1 : w16.cell? ⟨gb370, 1, none⟩ = some (.int .i64 0) := (blk_cell BK370.out 1).trans rfl; have hfz18_0 := blk_frozen BK370.out 0; have hfz18_1 := blk_frozen BK370.out 1) | ((with_reducible refine gate_callee (f := 16) rfl ?_); refine goesL_ (some 42) rfl rfl Try.func16 (by kernel_rfl) rfl #[.slice A0 l0.length c0, .int .i64 a3, .int .i64 a2] rfl (by (try simp only [List.map_toArray, List.map_cons, List.map_nil]); first | done | rfl | (simp only [List.length_drop, List.length_take]; rfl)) ?_; (with_reducible refine (mergebase_IsAncestor.calls k _ _ l0 a3 a2 t371 t372 t373 _ ?side1 ?side2 A9.out).mono ?_); (case side1 => exact Kd.C_below HR0.out (by repeat (first | (with_reducible first | exact HB.out | apply lA | apply lN | apply lD | refine lS ?_ GE366.out | refine lS ?_ GE370.out) | exact HB.out))); (case side2 => exact HC0.out); rintro e w19 ⟨rfl, hb⟩; refine ⟨_, rfl, ?_⟩; have n0_ := aZ (Kd.R_below (by (with_reducible repeat (first | apply Kd.rA | apply Kd.rN | apply Kd.rD)); exact (Kd.R_mono (Kd.R_far (p := ⟨gb370, 1, none⟩) (Kd.R_far (p := ⟨gb370, 0, none⟩) (Kd.R_types HO363.out BK370.out (by decide)) (fun _ hk => hk.2) (.int .i64 t368)) (fun _ hk => hk.2) (.int .i64 t369)) (fun _ h_ => h_.1))) hb); have n1_ := aZ (blk_below (g := gb366) (o := .cells #[.int .i64 t364, .int .i64 t365] 26 (0, 0)) (by (with_reducible repeat (first | refine bN ?_ _ | refine bD ?_ | refine bA ?_ _)); refine blk_far ?_ NB366_370.out _; (with_reducible repeat (first | refine bN ?_ _ | refine bD ?_ | refine bA ?_ _)); refine blk_far ?_ NB366_370.out _; (with_reducible repeat (first | refine bN ?_ _ | refine bD ?_ | refine bA ?_ _)); exact BK366.out) hb); have n2_ := aZ (blk_below (g := gb370) (o := .cells #[.int .i64 t368, .int .i64 t369] 26 (0, 0)) (by (with_reducible repeat (first | refine bN ?_ _ | refine bD ?_ | refine bA ?_ _)); refine blk_put (cs := #[.int .i64 t368, .int .i64 0]) ?_ 1 _ rfl; (with_reducible repeat (first | refine bN ?_ _ | refine bD ?_ | refine bA ?_ _)); refine blk_put (cs := #[.int .i64 0, .int .i64 0]) ?_ 0 _ rfl; (with_reducible repeat (first | refine bN ?_ _ | refine bD ?_ | refine bA ?_ _)); exact BK370.out) hb); have n3_ := aZ (lT (by repeat (first | (with_reducible first | exact HB.out | apply lA | apply lN | apply lD | refine lS ?_ GE366.out | refine lS ?_ GE370.out) | exact HB.out)) hb); clear HO363; clear BK366; clear BK370; clear HB; have HO363 := n0_; have BK366 := n1_; have BK370 := n2_; have HB := n3_; clear n0_ n1_ n2_ n3_; (try clear hb); (try clear hb2); (try clear hk); (try clear hi)) | ((with_reducible refine gate_dst (N := 14) rfl ?_); (try (refine gate_guard (by rfl) ?_; dsimp only)); refine box_event ?hg (N := 14) ?hd (cs := #[.int .i64 0, .int .i64 0]) (t := 26) ?hr ?_; (case hd => rfl); (case hg => rfl); (case hr => first | (go_simp; done) | (go_simp; rfl)); intro gb374 hg w20 hbox hb; have n0_ := aZ (Kd.R_below (by (with_reducible repeat (first | apply Kd.rA | apply Kd.rN | apply Kd.rD)); exact HO363.out) hb); have n1_ := aZ (blk_below (g := gb366) (o := .cells #[.int .i64 t364, .int .i64 t365] 26 (0, 0)) (by (with_reducible repeat (first | refine bN ?_ _ | refine bD ?_ | refine bA ?_ _)); exact BK366.out) hb); have n2_ := aZ (blk_below (g := gb370) (o := .cells #[.int .i64 t368, .int .i64 t369] 26 (0, 0)) (by (with_reducible repeat (first | refine bN ?_ _ | refine bD ?_ | refine bA ?_ _)); exact BK370.out) hb); have n3_ := aZ (lT (by repeat (first | (with_reducible first | exact HB.out | apply lA | apply lN | apply lD | refine lS ?_ GE366.out | refine lS ?_ GE370.out) | exact HB.out)) hb); have n4_ := aZ (hbox); have n5_ := aZ ((by rw [hg]; exact (lZ (by repeat (first | (with_reducible first | exact HB.out | apply lA | apply lN | apply lD | refine lS ?_ GE366.out | refine lS ?_ GE370.out) | exact HB.out))) : w.heap.size ≤ gb374)); have n6_ := aZ ((by rw [hg]; exact (lZ (by repeat (first | (with_reducible first | exact HB.out | apply lA | apply lN | apply lD | refine lS ?_ GE366.out | refine lS ?_ GE370.out) | exact HB.out))) : w.heap.size ≤ gb374)); have n7_ := aZ ((by rw [hg]; exact Nat.ne_of_lt (blk_lt (g := gb366) (o := .cells #[.int .i64 t364, .int .i64 t365] 26 (0, 0)) (by (with_reducible repeat (first | refine bN ?_ _ | refine bD ?_ | refine bA ?_ _)); exact BK366.out)) : gb366 ≠ gb374)); have n8_ := aZ ((by rw [hg]; exact Nat.ne_of_gt (blk_lt (g := gb366) (o := .cells #[.int .i64 t364, .int .i64 t365] 26 (0, 0)) (by (with_reducible repeat (first | refine bN ?_ _ | refine bD ?_ | refine bA ?_ _)); exact BK366.out)) : gb374 ≠ gb366)); have n9_ := aZ ((by rw [hg]; exact Nat.ne_of_lt (blk_lt (g := gb370) (o := .cells #[.int .i64 t368, .int .i64 t369] 26 (0, 0)) (by (with_reducible repeat (first | refine bN ?_ _ | refine bD ?_ | refine bA ?_ _)); exact BK370.out)) : gb370 ≠ gb374)); have n10_ := aZ ((by rw [hg]; exact Nat.ne_of_gt (blk_lt (g := gb370) (o := .cells #[.int .i64 t368, .int .i64 t369] 26 (0, 0)) (by (with_reducible repeat (first | refine bN ?_ _ | refine bD ?_ | refine bA ?_ _)); exact BK370.out)) : gb374 ≠ gb370)); clear HO363; clear BK366; clear BK370; clear HB; have HO363 := n0_; have BK366 := n1_; have BK370 := n2_; have HB := n3_; have BK374 := n4_; have GW374 := n5_; have GE374 := n6_; have NB366_374 := n7_; have NB374_366 := n8_; have NB370_374 := n9_; have NB374_370 := n10_; clear n0_ n1_ n2_ n3_ n4_ n5_ n6_ n7_ n8_ n9_ n10_; clear hb hbox hg; have hnb21 := NB374_366.out; have hnc21 := NB366_374.out; have hnb22 := NB374_370.out; have hnc22 := NB370_374.out; have hcz23_0 : w20.cell? ⟨gb374, 0, none⟩ = some (.int .i64 0) := (blk_cell BK374.out 0).trans rfl; have hcz23_1 : w20.cell? ⟨gb374, 1, none⟩ = some (.int .i64 0) := (blk_cell BK374.out 1).trans rfl; have hfz23_0 := blk_frozen BK374.out 0; have hfz23_1 := blk_frozen BK374.out 1))
  (try simp only [Act.put, List.setIfInBounds_toArray, List.set_cons_zero, List.set_cons_succ])
  go_cut [57] (fun v57 wc => ∃ (kq : Nat) (x57_9 : Bool), v57 = .bool x57_9 ∧ Aside0 (changeforgelaw3_MergebaseCoversCommon.j0 kq l0 a3 t361 t367 t371 x57_9 t364 t365 = some r) ∧ Aside0 (kq ≤ k) ∧ Aside0 (Kd.R (Kd.int .i64) 3 wc w.heap.size (fun _ => True) v362 t361) ∧ Aside0 (wc.heap[gb366]? = some (.cells #[.int .i64 t364, .int .i64 t365] 26 (0, 0))) ∧ Aside0 (wc.heap[gb370]? = some (.cells #[.int .i64 t368, .int .i64 t369] 26 (0, 0))) ∧ Aside0 (wc.heap[gb374]? = some (.cells #[.int .i64 t372, .int .i64 t373] 26 (0, 0))) ∧ Aside0 (Below w.heap.size w wc))
  case first =>
    have H := HC10.out
    clear HC10
    by_cases c24 : t364 = 0
    rotate_left
    · rw [if_neg c24] at H
      have c24b0 : (t364 == 0) = false := beq_eq_false_iff_ne.mpr c24
      have c24b1 : (t364 != 0) = true := bne_iff_ne.mpr c24
      (first | rw [c24b0] | (simp only [i64_w, i32_w]; rw [c24b0]) | skip)
      have H' := aZ H
      clear H
      have hnb37 := NB366_370.out
      have hnc37 := NB370_366.out
      have hnb38 := NB366_374.out
      have hnc38 := NB374_366.out
      have hcz39_0 : w20.cell? ⟨gb366, 0, none⟩ = some (.int .i64 t364) := (blk_cell BK366.out 0).trans rfl
      have hcz39_1 : w20.cell? ⟨gb366, 1, none⟩ = some (.int .i64 t365) := (blk_cell BK366.out 1).trans rfl
      have hfz39_0 := blk_frozen BK366.out 0
      have hfz39_1 := blk_frozen BK366.out 1
      go_wp2
      go_meet
      case rel => exact ⟨_, (true), (by first | rfl | (simp; done) | (simp [*]; done)), H', ⟨by first | omega | exact Nat.le_refl _⟩, ⟨by (with_reducible repeat (first | apply Kd.rA | apply Kd.rN | apply Kd.rD)); exact Kd.R_mono (Kd.R_far (p := ⟨gb374, 1, none⟩) (Kd.R_far (p := ⟨gb374, 0, none⟩) (Kd.R_types HO363.out BK374.out (by decide)) (fun _ hk => hk.2) (.int .i64 t372)) (fun _ hk => hk.2) (.int .i64 t373)) (fun _ hk => trivial)⟩, ⟨by (with_reducible repeat (first | refine bN ?_ _ | refine bD ?_ | refine bA ?_ _)); refine blk_far ?_ NB366_374.out _; (with_reducible repeat (first | refine bN ?_ _ | refine bD ?_ | refine bA ?_ _)); refine blk_far ?_ NB366_374.out _; (with_reducible repeat (first | refine bN ?_ _ | refine bD ?_ | refine bA ?_ _)); exact BK366.out⟩, ⟨by (with_reducible repeat (first | refine bN ?_ _ | refine bD ?_ | refine bA ?_ _)); refine blk_far ?_ NB370_374.out _; (with_reducible repeat (first | refine bN ?_ _ | refine bD ?_ | refine bA ?_ _)); refine blk_far ?_ NB370_374.out _; (with_reducible repeat (first | refine bN ?_ _ | refine bD ?_ | refine bA ?_ _)); exact BK370.out⟩, ⟨by (with_reducible repeat (first | refine bN ?_ _ | refine bD ?_ | refine bA ?_ _)); refine blk_put (cs := #[.int .i64 t372, .int .i64 0]) ?_ 1 _ rfl; (with_reducible repeat (first | refine bN ?_ _ | refine bD ?_ | refine bA ?_ _)); refine blk_put (cs := #[.int .i64 0, .int .i64 0]) ?_ 0 _ rfl; (with_reducible repeat (first | refine bN ?_ _ | refine bD ?_ | refine bA ?_ _)); exact BK374.out⟩, ⟨by repeat (first | (with_reducible first | exact HB.out | apply lA | apply lN | apply lD | refine lS ?_ GE366.out | refine lS ?_ GE370.out | refine lS ?_ GE374.out) | exact HB.out)⟩⟩
    rw [if_pos c24] at H
    have c24b0 : (t364 == 0) = true := beq_iff_eq.mpr c24
    have c24b1 : (t364 != 0) = false := bne_eq_false_iff_eq.mpr c24
    clear c24
    (first | rw [c24b0] | (simp only [i64_w, i32_w]; rw [c24b0]) | skip)
    by_cases c25 : t368 = 0
    rotate_left
    · rw [if_neg c25] at H
      have c25b0 : (t368 == 0) = false := beq_eq_false_iff_ne.mpr c25
      have c25b1 : (t368 != 0) = true := bne_iff_ne.mpr c25
      have H' := aZ H
      clear H
      have hnb32 := NB366_370.out
      have hnc32 := NB370_366.out
      have hnb33 := NB366_374.out
      have hnc33 := NB374_366.out
      have hcz34_0 : w20.cell? ⟨gb366, 0, none⟩ = some (.int .i64 t364) := (blk_cell BK366.out 0).trans rfl
      have hcz34_1 : w20.cell? ⟨gb366, 1, none⟩ = some (.int .i64 t365) := (blk_cell BK366.out 1).trans rfl
      have hfz34_0 := blk_frozen BK366.out 0
      have hfz34_1 := blk_frozen BK366.out 1
      have hnb35 := NB370_374.out
      have hnc35 := NB374_370.out
      have hcz36_0 : w20.cell? ⟨gb370, 0, none⟩ = some (.int .i64 t368) := (blk_cell BK370.out 0).trans rfl
      have hcz36_1 : w20.cell? ⟨gb370, 1, none⟩ = some (.int .i64 t369) := (blk_cell BK370.out 1).trans rfl
      have hfz36_0 := blk_frozen BK370.out 0
      have hfz36_1 := blk_frozen BK370.out 1
      go_wp2
      go_meet
      case rel => exact ⟨_, (true), (by first | rfl | (simp; done) | (simp [*]; done)), H', ⟨by first | omega | exact Nat.le_refl _⟩, ⟨by (with_reducible repeat (first | apply Kd.rA | apply Kd.rN | apply Kd.rD)); exact Kd.R_mono (Kd.R_far (p := ⟨gb374, 1, none⟩) (Kd.R_far (p := ⟨gb374, 0, none⟩) (Kd.R_types HO363.out BK374.out (by decide)) (fun _ hk => hk.2) (.int .i64 t372)) (fun _ hk => hk.2) (.int .i64 t373)) (fun _ hk => trivial)⟩, ⟨by (with_reducible repeat (first | refine bN ?_ _ | refine bD ?_ | refine bA ?_ _)); refine blk_far ?_ NB366_374.out _; (with_reducible repeat (first | refine bN ?_ _ | refine bD ?_ | refine bA ?_ _)); refine blk_far ?_ NB366_374.out _; (with_reducible repeat (first | refine bN ?_ _ | refine bD ?_ | refine bA ?_ _)); exact BK366.out⟩, ⟨by (with_reducible repeat (first | refine bN ?_ _ | refine bD ?_ | refine bA ?_ _)); refine blk_far ?_ NB370_374.out _; (with_reducible repeat (first | refine bN ?_ _ | refine bD ?_ | refine bA ?_ _)); refine blk_far ?_ NB370_374.out _; (with_reducible repeat (first | refine bN ?_ _ | refine bD ?_ | refine bA ?_ _)); exact BK370.out⟩, ⟨by (with_reducible repeat (first | refine bN ?_ _ | refine bD ?_ | refine bA ?_ _)); refine blk_put (cs := #[.int .i64 t372, .int .i64 0]) ?_ 1 _ rfl; (with_reducible repeat (first | refine bN ?_ _ | refine bD ?_ | refine bA ?_ _)); refine blk_put (cs := #[.int .i64 0, .int .i64 0]) ?_ 0 _ rfl; (with_reducible repeat (first | refine bN ?_ _ | refine bD ?_ | refine bA ?_ _)); exact BK374.out⟩, ⟨by repeat (first | (with_reducible first | exact HB.out | apply lA | apply lN | apply lD | refine lS ?_ GE366.out | refine lS ?_ GE370.out | refine lS ?_ GE374.out) | exact HB.out)⟩⟩
    rw [if_pos c25] at H
    have c25b0 : (t368 == 0) = true := beq_iff_eq.mpr c25
    have c25b1 : (t368 != 0) = false := bne_eq_false_iff_eq.mpr c25
    clear c25
    have H' := aZ H
    clear H
    have hnb26 := NB366_370.out
    have hnc26 := NB370_366.out
    have hnb27 := NB366_374.out
    have hnc27 := NB374_366.out
    have hcz28_0 : w20.cell? ⟨gb366, 0, none⟩ = some (.int .i64 t364) := (blk_cell BK366.out 0).trans rfl
    have hcz28_1 : w20.cell? ⟨gb366, 1, none⟩ = some (.int .i64 t365) := (blk_cell BK366.out 1).trans rfl
    have hfz28_0 := blk_frozen BK366.out 0
    have hfz28_1 := blk_frozen BK366.out 1
    have hnb29 := NB370_374.out
    have hnc29 := NB374_370.out
    have hcz30_0 : w20.cell? ⟨gb370, 0, none⟩ = some (.int .i64 t368) := (blk_cell BK370.out 0).trans rfl
    have hcz30_1 : w20.cell? ⟨gb370, 1, none⟩ = some (.int .i64 t369) := (blk_cell BK370.out 1).trans rfl
    have hfz30_0 := blk_frozen BK370.out 0
    have hfz30_1 := blk_frozen BK370.out 1
    have hcz31_0 : w20.cell? ⟨gb374, 0, none⟩ = some (.int .i64 0) := (blk_cell BK374.out 0).trans rfl
    have hcz31_1 : w20.cell? ⟨gb374, 1, none⟩ = some (.int .i64 0) := (blk_cell BK374.out 1).trans rfl
    have hfz31_0 := blk_frozen BK374.out 0
    have hfz31_1 := blk_frozen BK374.out 1
    go_wp2
    go_meet
    case rel => exact ⟨_, ((t372 != 0)), (by first | rfl | (simp; done) | (simp [*]; done)), H', ⟨by first | omega | exact Nat.le_refl _⟩, ⟨by (with_reducible repeat (first | apply Kd.rA | apply Kd.rN | apply Kd.rD)); exact Kd.R_mono (Kd.R_far (p := ⟨gb374, 1, none⟩) (Kd.R_far (p := ⟨gb374, 0, none⟩) (Kd.R_types HO363.out BK374.out (by decide)) (fun _ hk => hk.2) (.int .i64 t372)) (fun _ hk => hk.2) (.int .i64 t373)) (fun _ hk => trivial)⟩, ⟨by (with_reducible repeat (first | refine bN ?_ _ | refine bD ?_ | refine bA ?_ _)); refine blk_far ?_ NB366_374.out _; (with_reducible repeat (first | refine bN ?_ _ | refine bD ?_ | refine bA ?_ _)); refine blk_far ?_ NB366_374.out _; (with_reducible repeat (first | refine bN ?_ _ | refine bD ?_ | refine bA ?_ _)); exact BK366.out⟩, ⟨by (with_reducible repeat (first | refine bN ?_ _ | refine bD ?_ | refine bA ?_ _)); refine blk_far ?_ NB370_374.out _; (with_reducible repeat (first | refine bN ?_ _ | refine bD ?_ | refine bA ?_ _)); refine blk_far ?_ NB370_374.out _; (with_reducible repeat (first | refine bN ?_ _ | refine bD ?_ | refine bA ?_ _)); exact BK370.out⟩, ⟨by (with_reducible repeat (first | refine bN ?_ _ | refine bD ?_ | refine bA ?_ _)); refine blk_put (cs := #[.int .i64 t372, .int .i64 0]) ?_ 1 _ rfl; (with_reducible repeat (first | refine bN ?_ _ | refine bD ?_ | refine bA ?_ _)); refine blk_put (cs := #[.int .i64 0, .int .i64 0]) ?_ 0 _ rfl; (with_reducible repeat (first | refine bN ?_ _ | refine bD ?_ | refine bA ?_ _)); exact BK374.out⟩, ⟨by repeat (first | (with_reducible first | exact HB.out | apply lA | apply lN | apply lD | refine lS ?_ GE366.out | refine lS ?_ GE370.out | refine lS ?_ GE374.out) | exact HB.out)⟩⟩
  case rest =>
    clear HC10
    (try clear c6); (try clear c24); (try clear c24b0); (try clear c24b1); (try clear c25); (try clear c25b0); (try clear c25b1); (try clear hcz14_0); (try clear hcz14_1); (try clear hcz18_0); (try clear hcz18_1); (try clear hcz23_0); (try clear hcz23_1); (try clear hcz28_0); (try clear hcz28_1); (try clear hcz30_0); (try clear hcz30_1); (try clear hcz31_0); (try clear hcz31_1); (try clear hcz34_0); (try clear hcz34_1); (try clear hcz36_0); (try clear hcz36_1); (try clear hcz39_0); (try clear hcz39_1); (try clear hfz14_0); (try clear hfz14_1); (try clear hfz18_0); (try clear hfz18_1); (try clear hfz23_0); (try clear hfz23_1); (try clear hfz28_0); (try clear hfz28_1); (try clear hfz30_0); (try clear hfz30_1); (try clear hfz31_0); (try clear hfz31_1); (try clear hfz34_0); (try clear hfz34_1); (try clear hfz36_0); (try clear hfz36_1); (try clear hfz39_0); (try clear hfz39_1)
    obtain ⟨kq, x57_9, rfl, HA, HJ9, HO_9, BK366, BK370, BK374, HB⟩ := hcut
    cases kq with
    | zero => exact absurd HA.out (by simp [changeforgelaw3_MergebaseCoversCommon.j0])
    | succ kj9 =>
      have H := HA.out
      clear HA
      simp only [changeforgelaw3_MergebaseCoversCommon.j0] at H
      by_cases c40 : x57_9 = true
      · subst c40
        have H1 : (if t364 = 0 then (some true) else (some ((t361.length : Int) == 0))) = some r := by rw [if_pos rfl] at H; exact H
        clear H
        have H := H1
        clear H1
        by_cases c41 : t364 = 0
        · rw [if_pos c41] at H
          have c41b0 : (t364 == 0) = true := beq_iff_eq.mpr c41
          have c41b1 : (t364 != 0) = false := bne_eq_false_iff_eq.mpr c41
          clear c41
          obtain rfl := Option.some.inj H
          have hnb42 := NB366_370.out
          have hnc42 := NB370_366.out
          have hnb43 := NB366_374.out
          have hnc43 := NB374_366.out
          have hcz44_0 : wc.cell? ⟨gb366, 0, none⟩ = some (.int .i64 t364) := (blk_cell BK366.out 0).trans rfl
          have hcz44_1 : wc.cell? ⟨gb366, 1, none⟩ = some (.int .i64 t365) := (blk_cell BK366.out 1).trans rfl
          have hfz44_0 := blk_frozen BK366.out 0
          have hfz44_1 := blk_frozen BK366.out 1
          go_wp2
          go_ret
          exact ⟨by first | rfl | (simp [errW_none, errW_some] <;> rfl) | (simp [*, errW_none, errW_some] <;> rfl), by repeat (first | (with_reducible first | exact HB.out | apply lA | apply lN | apply lD | refine lS ?_ GE366.out | refine lS ?_ GE370.out | refine lS ?_ GE374.out) | exact HB.out)⟩
        rw [if_neg c41] at H
        have c41b0 : (t364 == 0) = false := beq_eq_false_iff_ne.mpr c41
        have c41b1 : (t364 != 0) = true := bne_iff_ne.mpr c41
        obtain rfl := Option.some.inj H
        have hnb45 := NB366_370.out
        have hnc45 := NB370_366.out
        have hnb46 := NB366_374.out
        have hnc46 := NB374_366.out
        have hcz47_0 : wc.cell? ⟨gb366, 0, none⟩ = some (.int .i64 t364) := (blk_cell BK366.out 0).trans rfl
        have hcz47_1 : wc.cell? ⟨gb366, 1, none⟩ = some (.int .i64 t365) := (blk_cell BK366.out 1).trans rfl
        have hfz47_0 := blk_frozen BK366.out 0
        have hfz47_1 := blk_frozen BK366.out 1
        obtain ⟨Ao48, co48, eo48⟩ := Kd.R_slice HO_9.out
        subst eo48
        go_wp2
        go_ret
        exact ⟨by first | rfl | (simp [errW_none, errW_some] <;> rfl) | (simp [*, errW_none, errW_some] <;> rfl), by repeat (first | (with_reducible first | exact HB.out | apply lA | apply lN | apply lD | refine lS ?_ GE366.out | refine lS ?_ GE370.out | refine lS ?_ GE374.out) | exact HB.out)⟩
      replace c40 := Bool.eq_false_iff.mpr c40
      subst c40
      have H1 : (changeforgelaw3_MergebaseCoversCommon.l0 kj9 l0 a3 t361 t367 t371 false 0) = some r := by rw [if_neg (show ¬ (false = true) by decide)] at H; exact H
      clear H
      have H := H1
      clear H1
      have H' := aZ H
      clear H
      go_wp2
      go_loopg [15, 16] kj9 (fun kq v15 v16 w' => ∃ (x15_2 : Bool) (x16_2 : Int), v15 = .bool x15_2 ∧ v16 = .int .i64 x16_2 ∧ Aside0 (changeforgelaw3_MergebaseCoversCommon.l0 kq l0 a3 t361 t367 t371 x15_2 x16_2 = some r) ∧ Aside0 (kq ≤ kj9) ∧ Aside0 (Kd.R (Kd.int .i64) 3 w' w.heap.size (fun _ => True) v362 t361) ∧ Aside0 (w'.heap[gb366]? = some (.cells #[.int .i64 t364, .int .i64 t365] 26 (0, 0))) ∧ Aside0 (w'.heap[gb370]? = some (.cells #[.int .i64 t368, .int .i64 t369] 26 (0, 0))) ∧ Aside0 (w'.heap[gb374]? = some (.cells #[.int .i64 t372, .int .i64 t373] 26 (0, 0))) ∧ Aside0 (Below w.heap.size w w'))
      case atStart => exact ⟨(false), (0), (by first | rfl | (simp; done) | (simp [*]; done)), (by first | rfl | (simp; done) | (simp [*]; done)), H', ⟨Nat.le_refl _⟩, ⟨by (with_reducible repeat (first | apply Kd.rA | apply Kd.rN | apply Kd.rD)); exact HO_9.out⟩, ⟨by (with_reducible repeat (first | refine bN ?_ _ | refine bD ?_ | refine bA ?_ _)); exact BK366.out⟩, ⟨by (with_reducible repeat (first | refine bN ?_ _ | refine bD ?_ | refine bA ?_ _)); exact BK370.out⟩, ⟨by (with_reducible repeat (first | refine bN ?_ _ | refine bD ?_ | refine bA ?_ _)); exact BK374.out⟩, ⟨by repeat (first | (with_reducible first | exact HB.out | apply lA | apply lN | apply lD | refine lS ?_ GE366.out | refine lS ?_ GE370.out | refine lS ?_ GE374.out) | exact HB.out)⟩⟩
      case round =>
        clear H'
        (try clear c6); (try clear c24); (try clear c24b0); (try clear c24b1); (try clear c25); (try clear c25b0); (try clear c25b1); (try clear c40); (try clear c41); (try clear c41b0); (try clear c41b1); (try clear hcz14_0); (try clear hcz14_1); (try clear hcz18_0); (try clear hcz18_1); (try clear hcz23_0); (try clear hcz23_1); (try clear hcz28_0); (try clear hcz28_1); (try clear hcz30_0); (try clear hcz30_1); (try clear hcz31_0); (try clear hcz31_1); (try clear hcz34_0); (try clear hcz34_1); (try clear hcz36_0); (try clear hcz36_1); (try clear hcz39_0); (try clear hcz39_1); (try clear hcz44_0); (try clear hcz44_1); (try clear hcz47_0); (try clear hcz47_1); (try clear hfz14_0); (try clear hfz14_1); (try clear hfz18_0); (try clear hfz18_1); (try clear hfz23_0); (try clear hfz23_1); (try clear hfz28_0); (try clear hfz28_1); (try clear hfz30_0); (try clear hfz30_1); (try clear hfz31_0); (try clear hfz31_1); (try clear hfz34_0); (try clear hfz34_1); (try clear hfz36_0); (try clear hfz36_1); (try clear hfz39_0); (try clear hfz39_1); (try clear hfz44_0); (try clear hfz44_1); (try clear hfz47_0); (try clear hfz47_1)
        obtain ⟨x15_2, x16_2, rfl, rfl, HA, HK2, HO_9, BK366, BK370, BK374, HB⟩ := hrel
        cases gk with
        | zero => exact absurd HA.out (by simp [changeforgelaw3_MergebaseCoversCommon.l0])
        | succ k2 =>
          have H := HA.out
          clear HA
          simp only [changeforgelaw3_MergebaseCoversCommon.l0] at H
          by_cases c49 : x16_2 < (t361.length : Int)
          rotate_left
          · rw [if_neg c49] at H
            have c49b0 : decide (x16_2 < (t361.length : Int)) = false := decide_eq_false c49
            clear c49
            by_cases c109 : t367 = true
            · subst c109
              have H1 : (some (x15_2 == t371)) = some r := by rw [if_pos rfl] at H; exact H
              clear H
              have H := H1
              clear H1
              obtain rfl := Option.some.inj H
              obtain ⟨Ao110, co110, eo110⟩ := Kd.R_slice HO_9.out
              subst eo110
              go_wp2
              go_ret
              exact ⟨by first | rfl | (simp [errW_none, errW_some] <;> rfl) | (simp [*, errW_none, errW_some] <;> rfl), by repeat (first | (with_reducible first | exact HB.out | apply lA | apply lN | apply lD | refine lS ?_ GE366.out | refine lS ?_ GE370.out | refine lS ?_ GE374.out) | exact HB.out)⟩
            replace c109 := Bool.eq_false_iff.mpr c109
            subst c109
            have H1 : (some (x15_2 == false)) = some r := by rw [if_neg (show ¬ (false = true) by decide)] at H; exact H
            clear H
            have H := H1
            clear H1
            obtain rfl := Option.some.inj H
            obtain ⟨Ao111, co111, eo111⟩ := Kd.R_slice HO_9.out
            subst eo111
            go_wp2
            go_ret
            exact ⟨by first | rfl | (simp [errW_none, errW_some] <;> rfl) | (simp [*, errW_none, errW_some] <;> rfl), by repeat (first | (with_reducible first | exact HB.out | apply lA | apply lN | apply lD | refine lS ?_ GE366.out | refine lS ?_ GE370.out | refine lS ?_ GE374.out) | exact HB.out)⟩
          rw [if_pos c49] at H
          have c49b0 : decide (x16_2 < (t361.length : Int)) = true := decide_eq_true c49
          clear c49
          by_cases c50 : 0 ≤ x16_2
          rotate_left
          · rw [if_neg c50] at H
            exact absurd H (by simp)
          rw [if_pos c50] at H
          have c50b0 : decide (0 ≤ x16_2) = true := decide_eq_true c50
          clear c50
          replace H := Option.bind_eq_some_iff.mp H
          obtain ⟨⟨t376, t377, t378⟩, A510, H⟩ := H
          replace H : (if t377 = 0 then (if x15_2 = true then (changeforgelaw3_MergebaseCoversCommon.j2 k2 l0 a3 t361 t367 t371 true x16_2) else (changeforgelaw3_MergebaseCoversCommon.j2 k2 l0 a3 t361 t367 t371 t376 x16_2)) else (some false)) = some r := H
          have A51 := aZ A510
          clear A510
          by_cases c52 : t377 = 0
          rotate_left
          · rw [if_neg c52] at H
            have c52b0 : (t377 == 0) = false := beq_eq_false_iff_ne.mpr c52
            have c52b1 : (t377 != 0) = true := bne_iff_ne.mpr c52
            obtain rfl := Option.some.inj H
            obtain ⟨Ao102, co102, eo102⟩ := Kd.R_slice HO_9.out
            subst eo102
            have p375 : 0 ≤ (x16_2 : Int) := of_decide_eq_true (by first | (with_reducible assumption) | assumption)
            have q375 : x16_2 < (t361.length : Int) := of_decide_eq_true (by first | (with_reducible assumption) | assumption)
            obtain ⟨ad375, e375, hx375_0⟩ := Kd.at_int (Kd.R_reads' HO_9.out).2.2 x16_2 p375 q375
            cases e375
            replace p375 := eq_true p375
            replace q375 := eq_true q375
            go_wp2_with (first | ((with_reducible refine gate_callee (f := 16) rfl ?_); refine goesL_ (some 79) rfl rfl Try.func16 (by kernel_rfl) rfl #[.slice A0 l0.length c0, .int .i64 a3, .int .i64 (rd t361 x16_2)] rfl (by (try simp only [List.map_toArray, List.map_cons, List.map_nil]); first | done | rfl | (simp only [List.length_drop, List.length_take]; rfl)) ?_; (with_reducible refine (mergebase_IsAncestor.calls k2 _ _ l0 a3 (rd t361 x16_2) t376 t377 t378 _ ?side1 ?side2 A51.out).mono ?_); (case side1 => repeat (first | exact (Kd.C_below HR0.out HB.out) | (with_reducible refine Kd.C_alloc ?_ _) | (with_reducible refine Kd.C_drewN ?_ _) | (with_reducible refine Kd.C_drew ?_))); (case side2 => exact HC0.out); rintro e w103 ⟨rfl, hb⟩; refine ⟨_, rfl, ?_⟩; have n0_ := aZ (Kd.R_below (by (with_reducible repeat (first | apply Kd.rA | apply Kd.rN | apply Kd.rD)); exact HO_9.out) hb); have n1_ := aZ (blk_below (g := gb366) (o := .cells #[.int .i64 t364, .int .i64 t365] 26 (0, 0)) (by (with_reducible repeat (first | refine bN ?_ _ | refine bD ?_ | refine bA ?_ _)); exact BK366.out) hb); have n2_ := aZ (blk_below (g := gb370) (o := .cells #[.int .i64 t368, .int .i64 t369] 26 (0, 0)) (by (with_reducible repeat (first | refine bN ?_ _ | refine bD ?_ | refine bA ?_ _)); exact BK370.out) hb); have n3_ := aZ (blk_below (g := gb374) (o := .cells #[.int .i64 t372, .int .i64 t373] 26 (0, 0)) (by (with_reducible repeat (first | refine bN ?_ _ | refine bD ?_ | refine bA ?_ _)); exact BK374.out) hb); have n4_ := aZ (lT (by repeat (first | (with_reducible first | exact HB.out | apply lA | apply lN | apply lD | refine lS ?_ GE366.out | refine lS ?_ GE370.out | refine lS ?_ GE374.out) | exact HB.out)) hb); clear HO_9; clear BK366; clear BK370; clear BK374; clear HB; have HO_9 := n0_; have BK366 := n1_; have BK370 := n2_; have BK374 := n3_; have HB := n4_; clear n0_ n1_ n2_ n3_ n4_; (try clear hb); (try clear hb2); (try clear hk); (try clear hi)) | ((with_reducible refine gate_dst (N := 18) rfl ?_); (try (refine gate_guard (by rfl) ?_; dsimp only)); refine box_event ?hg (N := 18) ?hd (cs := #[.int .i64 0, .int .i64 0]) (t := 26) ?hr ?_; (case hd => rfl); (case hg => rfl); (case hr => first | (go_simp; done) | (go_simp; rfl)); intro gb379 hg w104 hbox hb; have n0_ := aZ (Kd.R_below (by (with_reducible repeat (first | apply Kd.rA | apply Kd.rN | apply Kd.rD)); exact HO_9.out) hb); have n1_ := aZ (blk_below (g := gb366) (o := .cells #[.int .i64 t364, .int .i64 t365] 26 (0, 0)) (by (with_reducible repeat (first | refine bN ?_ _ | refine bD ?_ | refine bA ?_ _)); exact BK366.out) hb); have n2_ := aZ (blk_below (g := gb370) (o := .cells #[.int .i64 t368, .int .i64 t369] 26 (0, 0)) (by (with_reducible repeat (first | refine bN ?_ _ | refine bD ?_ | refine bA ?_ _)); exact BK370.out) hb); have n3_ := aZ (blk_below (g := gb374) (o := .cells #[.int .i64 t372, .int .i64 t373] 26 (0, 0)) (by (with_reducible repeat (first | refine bN ?_ _ | refine bD ?_ | refine bA ?_ _)); exact BK374.out) hb); have n4_ := aZ (lT (by repeat (first | (with_reducible first | exact HB.out | apply lA | apply lN | apply lD | refine lS ?_ GE366.out | refine lS ?_ GE370.out | refine lS ?_ GE374.out) | exact HB.out)) hb); have n5_ := aZ (hbox); have n6_ := aZ ((by rw [hg]; exact (lZ (by repeat (first | (with_reducible first | exact HB.out | apply lA | apply lN | apply lD | refine lS ?_ GE366.out | refine lS ?_ GE370.out | refine lS ?_ GE374.out) | exact HB.out))) : w.heap.size ≤ gb379)); have n7_ := aZ ((by rw [hg]; exact (lZ (by repeat (first | (with_reducible first | exact HB.out | apply lA | apply lN | apply lD | refine lS ?_ GE366.out | refine lS ?_ GE370.out | refine lS ?_ GE374.out) | exact HB.out))) : w.heap.size ≤ gb379)); have n8_ := aZ ((by rw [hg]; exact Nat.ne_of_lt (blk_lt (g := gb366) (o := .cells #[.int .i64 t364, .int .i64 t365] 26 (0, 0)) (by (with_reducible repeat (first | refine bN ?_ _ | refine bD ?_ | refine bA ?_ _)); exact BK366.out)) : gb366 ≠ gb379)); have n9_ := aZ ((by rw [hg]; exact Nat.ne_of_gt (blk_lt (g := gb366) (o := .cells #[.int .i64 t364, .int .i64 t365] 26 (0, 0)) (by (with_reducible repeat (first | refine bN ?_ _ | refine bD ?_ | refine bA ?_ _)); exact BK366.out)) : gb379 ≠ gb366)); have n10_ := aZ ((by rw [hg]; exact Nat.ne_of_lt (blk_lt (g := gb370) (o := .cells #[.int .i64 t368, .int .i64 t369] 26 (0, 0)) (by (with_reducible repeat (first | refine bN ?_ _ | refine bD ?_ | refine bA ?_ _)); exact BK370.out)) : gb370 ≠ gb379)); have n11_ := aZ ((by rw [hg]; exact Nat.ne_of_gt (blk_lt (g := gb370) (o := .cells #[.int .i64 t368, .int .i64 t369] 26 (0, 0)) (by (with_reducible repeat (first | refine bN ?_ _ | refine bD ?_ | refine bA ?_ _)); exact BK370.out)) : gb379 ≠ gb370)); have n12_ := aZ ((by rw [hg]; exact Nat.ne_of_lt (blk_lt (g := gb374) (o := .cells #[.int .i64 t372, .int .i64 t373] 26 (0, 0)) (by (with_reducible repeat (first | refine bN ?_ _ | refine bD ?_ | refine bA ?_ _)); exact BK374.out)) : gb374 ≠ gb379)); have n13_ := aZ ((by rw [hg]; exact Nat.ne_of_gt (blk_lt (g := gb374) (o := .cells #[.int .i64 t372, .int .i64 t373] 26 (0, 0)) (by (with_reducible repeat (first | refine bN ?_ _ | refine bD ?_ | refine bA ?_ _)); exact BK374.out)) : gb379 ≠ gb374)); clear HO_9; clear BK366; clear BK370; clear BK374; clear HB; have HO_9 := n0_; have BK366 := n1_; have BK370 := n2_; have BK374 := n3_; have HB := n4_; have BK379 := n5_; have GW379 := n6_; have GE379 := n7_; have NB366_379 := n8_; have NB379_366 := n9_; have NB370_379 := n10_; have NB379_370 := n11_; have NB374_379 := n12_; have NB379_374 := n13_; clear n0_ n1_ n2_ n3_ n4_ n5_ n6_ n7_ n8_ n9_ n10_ n11_ n12_ n13_; clear hb hbox hg; have hnb105 := NB379_366.out; have hnc105 := NB366_379.out; have hnb106 := NB379_370.out; have hnc106 := NB370_379.out; have hnb107 := NB379_374.out; have hnc107 := NB374_379.out; have hcz108_0 : w104.cell? ⟨gb379, 0, none⟩ = some (.int .i64 0) := (blk_cell BK379.out 0).trans rfl; have hcz108_1 : w104.cell? ⟨gb379, 1, none⟩ = some (.int .i64 0) := (blk_cell BK379.out 1).trans rfl; have hfz108_0 := blk_frozen BK379.out 0; have hfz108_1 := blk_frozen BK379.out 1))
            go_ret
            exact ⟨by first | rfl | (simp [errW_none, errW_some] <;> rfl) | (simp [*, errW_none, errW_some] <;> rfl), by repeat (first | (with_reducible first | exact HB.out | apply lA | apply lN | apply lD | refine lS ?_ GE366.out | refine lS ?_ GE370.out | refine lS ?_ GE374.out | refine lS ?_ GE379.out) | exact HB.out)⟩
          rw [if_pos c52] at H
          have c52b0 : (t377 == 0) = true := beq_iff_eq.mpr c52
          have c52b1 : (t377 != 0) = false := bne_eq_false_iff_eq.mpr c52
          clear c52
          have HC53 := aZ H
          clear H
          obtain ⟨Ao54, co54, eo54⟩ := Kd.R_slice HO_9.out
          subst eo54
          have p375 : 0 ≤ (x16_2 : Int) := of_decide_eq_true (by first | (with_reducible assumption) | assumption)
          have q375 : x16_2 < (t361.length : Int) := of_decide_eq_true (by first | (with_reducible assumption) | assumption)
          obtain ⟨ad375, e375, hx375_0⟩ := Kd.at_int (Kd.R_reads' HO_9.out).2.2 x16_2 p375 q375
          cases e375
          replace p375 := eq_true p375
          replace q375 := eq_true q375
          go_upto_region 15 with (first | ((with_reducible refine gate_callee (f := 16) rfl ?_); refine goesL_ (some 79) rfl rfl Try.func16 (by kernel_rfl) rfl #[.slice A0 l0.length c0, .int .i64 a3, .int .i64 (rd t361 x16_2)] rfl (by (try simp only [List.map_toArray, List.map_cons, List.map_nil]); first | done | rfl | (simp only [List.length_drop, List.length_take]; rfl)) ?_; (with_reducible refine (mergebase_IsAncestor.calls k2 _ _ l0 a3 (rd t361 x16_2) t376 t377 t378 _ ?side1 ?side2 A51.out).mono ?_); (case side1 => repeat (first | exact (Kd.C_below HR0.out HB.out) | (with_reducible refine Kd.C_alloc ?_ _) | (with_reducible refine Kd.C_drewN ?_ _) | (with_reducible refine Kd.C_drew ?_))); (case side2 => exact HC0.out); rintro e w55 ⟨rfl, hb⟩; refine ⟨_, rfl, ?_⟩; have n0_ := aZ (Kd.R_below (by (with_reducible repeat (first | apply Kd.rA | apply Kd.rN | apply Kd.rD)); exact HO_9.out) hb); have n1_ := aZ (blk_below (g := gb366) (o := .cells #[.int .i64 t364, .int .i64 t365] 26 (0, 0)) (by (with_reducible repeat (first | refine bN ?_ _ | refine bD ?_ | refine bA ?_ _)); exact BK366.out) hb); have n2_ := aZ (blk_below (g := gb370) (o := .cells #[.int .i64 t368, .int .i64 t369] 26 (0, 0)) (by (with_reducible repeat (first | refine bN ?_ _ | refine bD ?_ | refine bA ?_ _)); exact BK370.out) hb); have n3_ := aZ (blk_below (g := gb374) (o := .cells #[.int .i64 t372, .int .i64 t373] 26 (0, 0)) (by (with_reducible repeat (first | refine bN ?_ _ | refine bD ?_ | refine bA ?_ _)); exact BK374.out) hb); have n4_ := aZ (lT (by repeat (first | (with_reducible first | exact HB.out | apply lA | apply lN | apply lD | refine lS ?_ GE366.out | refine lS ?_ GE370.out | refine lS ?_ GE374.out) | exact HB.out)) hb); clear HO_9; clear BK366; clear BK370; clear BK374; clear HB; have HO_9 := n0_; have BK366 := n1_; have BK370 := n2_; have BK374 := n3_; have HB := n4_; clear n0_ n1_ n2_ n3_ n4_; (try clear hb); (try clear hb2); (try clear hk); (try clear hi)) | ((with_reducible refine gate_dst (N := 18) rfl ?_); (try (refine gate_guard (by rfl) ?_; dsimp only)); refine box_event ?hg (N := 18) ?hd (cs := #[.int .i64 0, .int .i64 0]) (t := 26) ?hr ?_; (case hd => rfl); (case hg => rfl); (case hr => first | (go_simp; done) | (go_simp; rfl)); intro gb379 hg w56 hbox hb; have n0_ := aZ (Kd.R_below (by (with_reducible repeat (first | apply Kd.rA | apply Kd.rN | apply Kd.rD)); exact HO_9.out) hb); have n1_ := aZ (blk_below (g := gb366) (o := .cells #[.int .i64 t364, .int .i64 t365] 26 (0, 0)) (by (with_reducible repeat (first | refine bN ?_ _ | refine bD ?_ | refine bA ?_ _)); exact BK366.out) hb); have n2_ := aZ (blk_below (g := gb370) (o := .cells #[.int .i64 t368, .int .i64 t369] 26 (0, 0)) (by (with_reducible repeat (first | refine bN ?_ _ | refine bD ?_ | refine bA ?_ _)); exact BK370.out) hb); have n3_ := aZ (blk_below (g := gb374) (o := .cells #[.int .i64 t372, .int .i64 t373] 26 (0, 0)) (by (with_reducible repeat (first | refine bN ?_ _ | refine bD ?_ | refine bA ?_ _)); exact BK374.out) hb); have n4_ := aZ (lT (by repeat (first | (with_reducible first | exact HB.out | apply lA | apply lN | apply lD | refine lS ?_ GE366.out | refine lS ?_ GE370.out | refine lS ?_ GE374.out) | exact HB.out)) hb); have n5_ := aZ (hbox); have n6_ := aZ ((by rw [hg]; exact (lZ (by repeat (first | (with_reducible first | exact HB.out | apply lA | apply lN | apply lD | refine lS ?_ GE366.out | refine lS ?_ GE370.out | refine lS ?_ GE374.out) | exact HB.out))) : w.heap.size ≤ gb379)); have n7_ := aZ ((by rw [hg]; exact (lZ (by repeat (first | (with_reducible first | exact HB.out | apply lA | apply lN | apply lD | refine lS ?_ GE366.out | refine lS ?_ GE370.out | refine lS ?_ GE374.out) | exact HB.out))) : w.heap.size ≤ gb379)); have n8_ := aZ ((by rw [hg]; exact Nat.ne_of_lt (blk_lt (g := gb366) (o := .cells #[.int .i64 t364, .int .i64 t365] 26 (0, 0)) (by (with_reducible repeat (first | refine bN ?_ _ | refine bD ?_ | refine bA ?_ _)); exact BK366.out)) : gb366 ≠ gb379)); have n9_ := aZ ((by rw [hg]; exact Nat.ne_of_gt (blk_lt (g := gb366) (o := .cells #[.int .i64 t364, .int .i64 t365] 26 (0, 0)) (by (with_reducible repeat (first | refine bN ?_ _ | refine bD ?_ | refine bA ?_ _)); exact BK366.out)) : gb379 ≠ gb366)); have n10_ := aZ ((by rw [hg]; exact Nat.ne_of_lt (blk_lt (g := gb370) (o := .cells #[.int .i64 t368, .int .i64 t369] 26 (0, 0)) (by (with_reducible repeat (first | refine bN ?_ _ | refine bD ?_ | refine bA ?_ _)); exact BK370.out)) : gb370 ≠ gb379)); have n11_ := aZ ((by rw [hg]; exact Nat.ne_of_gt (blk_lt (g := gb370) (o := .cells #[.int .i64 t368, .int .i64 t369] 26 (0, 0)) (by (with_reducible repeat (first | refine bN ?_ _ | refine bD ?_ | refine bA ?_ _)); exact BK370.out)) : gb379 ≠ gb370)); have n12_ := aZ ((by rw [hg]; exact Nat.ne_of_lt (blk_lt (g := gb374) (o := .cells #[.int .i64 t372, .int .i64 t373] 26 (0, 0)) (by (with_reducible repeat (first | refine bN ?_ _ | refine bD ?_ | refine bA ?_ _)); exact BK374.out)) : gb374 ≠ gb379)); have n13_ := aZ ((by rw [hg]; exact Nat.ne_of_gt (blk_lt (g := gb374) (o := .cells #[.int .i64 t372, .int .i64 t373] 26 (0, 0)) (by (with_reducible repeat (first | refine bN ?_ _ | refine bD ?_ | refine bA ?_ _)); exact BK374.out)) : gb379 ≠ gb374)); clear HO_9; clear BK366; clear BK370; clear BK374; clear HB; have HO_9 := n0_; have BK366 := n1_; have BK370 := n2_; have BK374 := n3_; have HB := n4_; have BK379 := n5_; have GW379 := n6_; have GE379 := n7_; have NB366_379 := n8_; have NB379_366 := n9_; have NB370_379 := n10_; have NB379_370 := n11_; have NB374_379 := n12_; have NB379_374 := n13_; clear n0_ n1_ n2_ n3_ n4_ n5_ n6_ n7_ n8_ n9_ n10_ n11_ n12_ n13_; clear hb hbox hg; have hnb57 := NB379_366.out; have hnc57 := NB366_379.out; have hnb58 := NB379_370.out; have hnc58 := NB370_379.out; have hnb59 := NB379_374.out; have hnc59 := NB374_379.out; have hcz60_0 : w56.cell? ⟨gb379, 0, none⟩ = some (.int .i64 0) := (blk_cell BK379.out 0).trans rfl; have hcz60_1 : w56.cell? ⟨gb379, 1, none⟩ = some (.int .i64 0) := (blk_cell BK379.out 1).trans rfl; have hfz60_0 := blk_frozen BK379.out 0; have hfz60_1 := blk_frozen BK379.out 1))
          (try simp only [Act.put, List.setIfInBounds_toArray, List.set_cons_zero, List.set_cons_succ])
          go_cut [15] (fun v15 wc => ∃ (kq : Nat) (x15_52 : Bool), v15 = .bool x15_52 ∧ Aside0 (changeforgelaw3_MergebaseCoversCommon.j2 kq l0 a3 t361 t367 t371 x15_52 x16_2 = some r) ∧ Aside0 (kq ≤ k2) ∧ Aside0 (Kd.R (Kd.int .i64) 3 wc w.heap.size (fun _ => True) (.slice (some ad375) t361.length co54) t361) ∧ Aside0 (wc.heap[gb366]? = some (.cells #[.int .i64 t364, .int .i64 t365] 26 (0, 0))) ∧ Aside0 (wc.heap[gb370]? = some (.cells #[.int .i64 t368, .int .i64 t369] 26 (0, 0))) ∧ Aside0 (wc.heap[gb374]? = some (.cells #[.int .i64 t372, .int .i64 t373] 26 (0, 0))) ∧ Aside0 (wc.heap[gb379]? = some (.cells #[.int .i64 t377, .int .i64 t378] 26 (0, 0))) ∧ Aside0 (Below w.heap.size w wc))
          case first =>
            have H := HC53.out
            clear HC53
            by_cases c61 : x15_2 = true
            · subst c61
              have H1 : (changeforgelaw3_MergebaseCoversCommon.j2 k2 l0 a3 t361 t367 t371 true x16_2) = some r := by rw [if_pos rfl] at H; exact H
              clear H
              have H := H1
              clear H1
              have H' := aZ H
              clear H
              go_wp2
              go_meet
              case rel => exact ⟨_, (true), (by first | rfl | (simp; done) | (simp [*]; done)), H', ⟨by have := HJ9.out; have := HK2.out; first | omega | exact Nat.le_refl _⟩, ⟨by (with_reducible repeat (first | apply Kd.rA | apply Kd.rN | apply Kd.rD)); exact Kd.R_mono (Kd.R_far (p := ⟨gb379, 1, none⟩) (Kd.R_far (p := ⟨gb379, 0, none⟩) (Kd.R_types HO_9.out BK379.out (by decide)) (fun _ hk => hk.2) (.int .i64 t377)) (fun _ hk => hk.2) (.int .i64 t378)) (fun _ hk => trivial)⟩, ⟨by (with_reducible repeat (first | refine bN ?_ _ | refine bD ?_ | refine bA ?_ _)); refine blk_far ?_ NB366_379.out _; (with_reducible repeat (first | refine bN ?_ _ | refine bD ?_ | refine bA ?_ _)); refine blk_far ?_ NB366_379.out _; (with_reducible repeat (first | refine bN ?_ _ | refine bD ?_ | refine bA ?_ _)); exact BK366.out⟩, ⟨by (with_reducible repeat (first | refine bN ?_ _ | refine bD ?_ | refine bA ?_ _)); refine blk_far ?_ NB370_379.out _; (with_reducible repeat (first | refine bN ?_ _ | refine bD ?_ | refine bA ?_ _)); refine blk_far ?_ NB370_379.out _; (with_reducible repeat (first | refine bN ?_ _ | refine bD ?_ | refine bA ?_ _)); exact BK370.out⟩, ⟨by (with_reducible repeat (first | refine bN ?_ _ | refine bD ?_ | refine bA ?_ _)); refine blk_far ?_ NB374_379.out _; (with_reducible repeat (first | refine bN ?_ _ | refine bD ?_ | refine bA ?_ _)); refine blk_far ?_ NB374_379.out _; (with_reducible repeat (first | refine bN ?_ _ | refine bD ?_ | refine bA ?_ _)); exact BK374.out⟩, ⟨by (with_reducible repeat (first | refine bN ?_ _ | refine bD ?_ | refine bA ?_ _)); refine blk_put (cs := #[.int .i64 t377, .int .i64 0]) ?_ 1 _ rfl; (with_reducible repeat (first | refine bN ?_ _ | refine bD ?_ | refine bA ?_ _)); refine blk_put (cs := #[.int .i64 0, .int .i64 0]) ?_ 0 _ rfl; (with_reducible repeat (first | refine bN ?_ _ | refine bD ?_ | refine bA ?_ _)); exact BK379.out⟩, ⟨by repeat (first | (with_reducible first | exact HB.out | apply lA | apply lN | apply lD | refine lS ?_ GE366.out | refine lS ?_ GE370.out | refine lS ?_ GE374.out | refine lS ?_ GE379.out) | exact HB.out)⟩⟩
            replace c61 := Bool.eq_false_iff.mpr c61
            subst c61
            have H1 : (changeforgelaw3_MergebaseCoversCommon.j2 k2 l0 a3 t361 t367 t371 t376 x16_2) = some r := by rw [if_neg (show ¬ (false = true) by decide)] at H; exact H
            clear H
            have H := H1
            clear H1
            have H' := aZ H
            clear H
            go_wp2
            go_meet
            case rel => exact ⟨_, (t376), (by first | rfl | (simp; done) | (simp [*]; done)), H', ⟨by have := HJ9.out; have := HK2.out; first | omega | exact Nat.le_refl _⟩, ⟨by (with_reducible repeat (first | apply Kd.rA | apply Kd.rN | apply Kd.rD)); exact Kd.R_mono (Kd.R_far (p := ⟨gb379, 1, none⟩) (Kd.R_far (p := ⟨gb379, 0, none⟩) (Kd.R_types HO_9.out BK379.out (by decide)) (fun _ hk => hk.2) (.int .i64 t377)) (fun _ hk => hk.2) (.int .i64 t378)) (fun _ hk => trivial)⟩, ⟨by (with_reducible repeat (first | refine bN ?_ _ | refine bD ?_ | refine bA ?_ _)); refine blk_far ?_ NB366_379.out _; (with_reducible repeat (first | refine bN ?_ _ | refine bD ?_ | refine bA ?_ _)); refine blk_far ?_ NB366_379.out _; (with_reducible repeat (first | refine bN ?_ _ | refine bD ?_ | refine bA ?_ _)); exact BK366.out⟩, ⟨by (with_reducible repeat (first | refine bN ?_ _ | refine bD ?_ | refine bA ?_ _)); refine blk_far ?_ NB370_379.out _; (with_reducible repeat (first | refine bN ?_ _ | refine bD ?_ | refine bA ?_ _)); refine blk_far ?_ NB370_379.out _; (with_reducible repeat (first | refine bN ?_ _ | refine bD ?_ | refine bA ?_ _)); exact BK370.out⟩, ⟨by (with_reducible repeat (first | refine bN ?_ _ | refine bD ?_ | refine bA ?_ _)); refine blk_far ?_ NB374_379.out _; (with_reducible repeat (first | refine bN ?_ _ | refine bD ?_ | refine bA ?_ _)); refine blk_far ?_ NB374_379.out _; (with_reducible repeat (first | refine bN ?_ _ | refine bD ?_ | refine bA ?_ _)); exact BK374.out⟩, ⟨by (with_reducible repeat (first | refine bN ?_ _ | refine bD ?_ | refine bA ?_ _)); refine blk_put (cs := #[.int .i64 t377, .int .i64 0]) ?_ 1 _ rfl; (with_reducible repeat (first | refine bN ?_ _ | refine bD ?_ | refine bA ?_ _)); refine blk_put (cs := #[.int .i64 0, .int .i64 0]) ?_ 0 _ rfl; (with_reducible repeat (first | refine bN ?_ _ | refine bD ?_ | refine bA ?_ _)); exact BK379.out⟩, ⟨by repeat (first | (with_reducible first | exact HB.out | apply lA | apply lN | apply lD | refine lS ?_ GE366.out | refine lS ?_ GE370.out | refine lS ?_ GE374.out | refine lS ?_ GE379.out) | exact HB.out)⟩⟩
          case rest =>
            clear HC53
            (try clear c6); (try clear c24); (try clear c24b0); (try clear c24b1); (try clear c25); (try clear c25b0); (try clear c25b1); (try clear c40); (try clear c41); (try clear c41b0); (try clear c41b1); (try clear c49); (try clear c49b0); (try clear c50); (try clear c50b0); (try clear c52); (try clear c52b0); (try clear c52b1); (try clear c61); (try clear hcz14_0); (try clear hcz14_1); (try clear hcz18_0); (try clear hcz18_1); (try clear hcz23_0); (try clear hcz23_1); (try clear hcz28_0); (try clear hcz28_1); (try clear hcz30_0); (try clear hcz30_1); (try clear hcz31_0); (try clear hcz31_1); (try clear hcz34_0); (try clear hcz34_1); (try clear hcz36_0); (try clear hcz36_1); (try clear hcz39_0); (try clear hcz39_1); (try clear hcz44_0); (try clear hcz44_1); (try clear hcz47_0); (try clear hcz47_1); (try clear hcz60_0); (try clear hcz60_1); (try clear hfz14_0); (try clear hfz14_1); (try clear hfz18_0); (try clear hfz18_1); (try clear hfz23_0); (try clear hfz23_1); (try clear hfz28_0); (try clear hfz28_1); (try clear hfz30_0); (try clear hfz30_1); (try clear hfz31_0); (try clear hfz31_1); (try clear hfz34_0); (try clear hfz34_1); (try clear hfz36_0); (try clear hfz36_1); (try clear hfz39_0); (try clear hfz39_1); (try clear hfz44_0); (try clear hfz44_1); (try clear hfz47_0); (try clear hfz47_1); (try clear hfz60_0); (try clear hfz60_1); (try clear hx375_0); (try clear p375); (try clear q375)
            obtain ⟨kq, x15_52, rfl, HA, HJ52, HO_9, BK366, BK370, BK374, BK379, HB⟩ := hcut
            cases kq with
            | zero => exact absurd HA.out (by simp [changeforgelaw3_MergebaseCoversCommon.j2])
            | succ kj52 =>
              have H := HA.out
              clear HA
              simp only [changeforgelaw3_MergebaseCoversCommon.j2] at H
              have H' := aZ H
              clear H
              go_wp2
              go_loopg [19] kj52 (fun kq v19 w' => ∃ (x19_4 : Int), v19 = .int .i64 x19_4 ∧ Aside0 (changeforgelaw3_MergebaseCoversCommon.l1 kq l0 a3 t361 t367 t371 x15_52 x16_2 x19_4 = some r) ∧ Aside0 (kq ≤ kj52) ∧ Aside0 (Kd.R (Kd.int .i64) 3 w' w.heap.size (fun _ => True) (.slice (some ad375) t361.length co54) t361) ∧ Aside0 (w'.heap[gb366]? = some (.cells #[.int .i64 t364, .int .i64 t365] 26 (0, 0))) ∧ Aside0 (w'.heap[gb370]? = some (.cells #[.int .i64 t368, .int .i64 t369] 26 (0, 0))) ∧ Aside0 (w'.heap[gb374]? = some (.cells #[.int .i64 t372, .int .i64 t373] 26 (0, 0))) ∧ Aside0 (w'.heap[gb379]? = some (.cells #[.int .i64 t377, .int .i64 t378] 26 (0, 0))) ∧ Aside0 (Below w.heap.size w w'))
              case atStart => exact ⟨(0), (by first | rfl | (simp; done) | (simp [*]; done)), H', ⟨Nat.le_refl _⟩, ⟨by (with_reducible repeat (first | apply Kd.rA | apply Kd.rN | apply Kd.rD)); exact HO_9.out⟩, ⟨by (with_reducible repeat (first | refine bN ?_ _ | refine bD ?_ | refine bA ?_ _)); exact BK366.out⟩, ⟨by (with_reducible repeat (first | refine bN ?_ _ | refine bD ?_ | refine bA ?_ _)); exact BK370.out⟩, ⟨by (with_reducible repeat (first | refine bN ?_ _ | refine bD ?_ | refine bA ?_ _)); exact BK374.out⟩, ⟨by (with_reducible repeat (first | refine bN ?_ _ | refine bD ?_ | refine bA ?_ _)); exact BK379.out⟩, ⟨by repeat (first | (with_reducible first | exact HB.out | apply lA | apply lN | apply lD | refine lS ?_ GE366.out | refine lS ?_ GE370.out | refine lS ?_ GE374.out | refine lS ?_ GE379.out) | exact HB.out)⟩⟩
              case round =>
                clear H'
                (try clear c6); (try clear c24); (try clear c24b0); (try clear c24b1); (try clear c25); (try clear c25b0); (try clear c25b1); (try clear c40); (try clear c41); (try clear c41b0); (try clear c41b1); (try clear c49); (try clear c49b0); (try clear c50); (try clear c50b0); (try clear c52); (try clear c52b0); (try clear c52b1); (try clear c61); (try clear hcz14_0); (try clear hcz14_1); (try clear hcz18_0); (try clear hcz18_1); (try clear hcz23_0); (try clear hcz23_1); (try clear hcz28_0); (try clear hcz28_1); (try clear hcz30_0); (try clear hcz30_1); (try clear hcz31_0); (try clear hcz31_1); (try clear hcz34_0); (try clear hcz34_1); (try clear hcz36_0); (try clear hcz36_1); (try clear hcz39_0); (try clear hcz39_1); (try clear hcz44_0); (try clear hcz44_1); (try clear hcz47_0); (try clear hcz47_1); (try clear hcz60_0); (try clear hcz60_1); (try clear hfz14_0); (try clear hfz14_1); (try clear hfz18_0); (try clear hfz18_1); (try clear hfz23_0); (try clear hfz23_1); (try clear hfz28_0); (try clear hfz28_1); (try clear hfz30_0); (try clear hfz30_1); (try clear hfz31_0); (try clear hfz31_1); (try clear hfz34_0); (try clear hfz34_1); (try clear hfz36_0); (try clear hfz36_1); (try clear hfz39_0); (try clear hfz39_1); (try clear hfz44_0); (try clear hfz44_1); (try clear hfz47_0); (try clear hfz47_1); (try clear hfz60_0); (try clear hfz60_1); (try clear hx375_0); (try clear p375); (try clear q375)
                obtain ⟨x19_4, rfl, HA, HK4, HO_9, BK366, BK370, BK374, BK379, HB⟩ := hrel
                cases gk with
                | zero => exact absurd HA.out (by simp [changeforgelaw3_MergebaseCoversCommon.l1])
                | succ k4 =>
                  have H := HA.out
                  clear HA
                  simp only [changeforgelaw3_MergebaseCoversCommon.l1] at H
                  by_cases c62 : x19_4 < (t361.length : Int)
                  rotate_left
                  · rw [if_neg c62] at H
                    have c62b0 : decide (x19_4 < (t361.length : Int)) = false := decide_eq_false c62
                    clear c62
                    have H' := aZ H
                    clear H
                    go_wp2
                    go_roundg k4
                    case measure => have := HJ9.out; have := HK2.out; have := HJ52.out; have := HK4.out; omega
                    case rel => exact ⟨(x15_52), (wrap64 (x16_2 + 1)), (by first | rfl | (simp; done) | (simp [*]; done)), (by first | rfl | (simp; done) | (simp [*]; done)), H', ⟨by have := HJ9.out; have := HK2.out; have := HJ52.out; have := HK4.out; omega⟩, ⟨by (with_reducible repeat (first | apply Kd.rA | apply Kd.rN | apply Kd.rD)); exact HO_9.out⟩, ⟨by (with_reducible repeat (first | refine bN ?_ _ | refine bD ?_ | refine bA ?_ _)); exact BK366.out⟩, ⟨by (with_reducible repeat (first | refine bN ?_ _ | refine bD ?_ | refine bA ?_ _)); exact BK370.out⟩, ⟨by (with_reducible repeat (first | refine bN ?_ _ | refine bD ?_ | refine bA ?_ _)); exact BK374.out⟩, ⟨by repeat (first | (with_reducible first | exact HB.out | apply lA | apply lN | apply lD | refine lS ?_ GE366.out | refine lS ?_ GE370.out | refine lS ?_ GE374.out | refine lS ?_ GE379.out) | exact HB.out)⟩⟩
                  rw [if_pos c62] at H
                  have c62b0 : decide (x19_4 < (t361.length : Int)) = true := decide_eq_true c62
                  clear c62
                  by_cases c63 : 0 ≤ x16_2
                  rotate_left
                  · rw [if_neg c63] at H
                    exact absurd H (by simp)
                  rw [if_pos c63] at H
                  have c63b0 : decide (0 ≤ x16_2) = true := decide_eq_true c63
                  clear c63
                  by_cases c64 : x16_2 < (t361.length : Int)
                  rotate_left
                  · rw [if_neg c64] at H
                    exact absurd H (by simp)
                  rw [if_pos c64] at H
                  have c64b0 : decide (x16_2 < (t361.length : Int)) = true := decide_eq_true c64
                  clear c64
                  by_cases c65 : 0 ≤ x19_4
                  rotate_left
                  · rw [if_neg c65] at H
                    exact absurd H (by simp)
                  rw [if_pos c65] at H
                  have c65b0 : decide (0 ≤ x19_4) = true := decide_eq_true c65
                  clear c65
                  replace H := Option.bind_eq_some_iff.mp H
                  obtain ⟨⟨t382, t383, t384⟩, A660, H⟩ := H
                  replace H : (if t383 = 0 then (if (t382 != (x16_2 == x19_4)) = true then (some false) else (changeforgelaw3_MergebaseCoversCommon.l1 k4 l0 a3 t361 t367 t371 x15_52 x16_2 (wrap64 (x19_4 + 1)))) else (some false)) = some r := H
                  have A66 := aZ A660
                  clear A660
                  by_cases c67 : t383 = 0
                  rotate_left
                  · rw [if_neg c67] at H
                    have c67b0 : (t383 == 0) = false := beq_eq_false_iff_ne.mpr c67
                    have c67b1 : (t383 != 0) = true := bne_iff_ne.mpr c67
                    obtain rfl := Option.some.inj H
                    try go_wp2
                    have n0_ := aZ (Kd.rD HO_9.out)
                    have n1_ := aZ (bD BK366.out)
                    have n2_ := aZ (bD BK370.out)
                    have n3_ := aZ (bD BK374.out)
                    have n4_ := aZ (bD BK379.out)
                    have n5_ := aZ (lD HB.out)
                    clear HO_9
                    clear BK366
                    clear BK370
                    clear BK374
                    clear BK379
                    clear HB
                    have HO_9 := n0_
                    have BK366 := n1_
                    have BK370 := n2_
                    have BK374 := n3_
                    have BK379 := n4_
                    have HB := n5_
                    clear n0_ n1_ n2_ n3_ n4_ n5_
                    have p380 : 0 ≤ (x16_2 : Int) := of_decide_eq_true (by first | (with_reducible assumption) | assumption)
                    have q380 : x16_2 < (t361.length : Int) := of_decide_eq_true (by first | (with_reducible assumption) | assumption)
                    obtain ⟨ad380, e380, hx380_0⟩ := Kd.at_int (Kd.R_reads' HO_9.out).2.2 x16_2 p380 q380
                    obtain rfl : ad375 = ad380 := (by injection e380)
                    replace p380 := eq_true p380
                    replace q380 := eq_true q380
                    have p381 : 0 ≤ (x19_4 : Int) := of_decide_eq_true (by first | (with_reducible assumption) | assumption)
                    have q381 : x19_4 < (t361.length : Int) := of_decide_eq_true (by first | (with_reducible assumption) | assumption)
                    obtain ⟨ad381, e381, hx381_0⟩ := Kd.at_int (Kd.R_reads' HO_9.out).2.2 x19_4 p381 q381
                    obtain rfl : ad375 = ad381 := (by injection e381)
                    replace p381 := eq_true p381
                    replace q381 := eq_true q381
                    refine start_ (n := 16) (S := fun w' => w'.cell? (ad375.add (x16_2).toNat) = some (.int .i64 (rd t361 x16_2)) ∧ w'.cell? (ad375.add (x19_4).toNat) = some (.int .i64 (rd t361 x19_4))) (ds := []) #[false, false, false, false, false, false, false, false, false, false, false, false, false, false, false, false] (by kernel_rfl) rfl rfl ⟨hx380_0, hx381_0⟩ (fun hHeld => ?_); refine with_tabW changeforgelaw3_MergebaseCoversCommon.tab19 changeforgelaw3_MergebaseCoversCommon.bits19 (fun HT_ HW_ => ?_)
                    generalize wr.drew = w91 at HO_9 BK366 BK370 BK374 BK379 HB hx380_0 hx381_0 hHeld ⊢
                    refine pure_ (i := 0) (N := some 96) (v := ?_) (a' := ?_) #[true, false, false, false, false, false, false, false, false, false, false, false, false, false, false, false] rfl rfl (any_of HT_.out (by kernel_rfl)) (fun _ _ _ h => h) (Or.inl ⟨by rfl, ?_⟩) ?_ ?_
                    rotate_left
                    · intro w'
                      go_simp
                      with_reducible rfl
                    rotate_left
                    · simp only [Act.put, List.setIfInBounds_toArray, List.set_cons_zero, List.set_cons_succ, i64_w, i32_w]
                      rfl
                    refine pure_ (i := 1) (N := some 97) (v := ?_) (a' := ?_) #[true, true, false, false, false, false, false, false, false, false, false, false, false, false, false, false] rfl rfl (any_of HT_.out (by kernel_rfl)) (fun _ _ _ h => h) (Or.inl ⟨by rfl, ?_⟩) ?_ ?_
                    rotate_left
                    · intro w'
                      go_simp
                      with_reducible rfl
                    rotate_left
                    · simp only [Act.put, List.setIfInBounds_toArray, List.set_cons_zero, List.set_cons_succ, i64_w, i32_w]
                      rfl
                    refine pure_ (i := 2) (N := some 98) (v := ?_) (a' := ?_) #[true, true, true, false, false, false, false, false, false, false, false, false, false, false, false, false] rfl rfl (any_of HT_.out (by kernel_rfl)) (fun _ _ _ h => h) (Or.inl ⟨by rfl, ?_⟩) ?_ ?_
                    rotate_left
                    · intro w'
                      go_simp
                      with_reducible rfl
                    rotate_left
                    · simp only [Act.put, List.setIfInBounds_toArray, List.set_cons_zero, List.set_cons_succ, i64_w, i32_w]
                      rfl
                    refine pure_ (i := 3) (N := some 99) (v := ?_) (a' := ?_) #[true, true, true, true, false, false, false, false, false, false, false, false, false, false, false, false] rfl rfl (any_of HT_.out (by kernel_rfl)) (fun _ _ _ h => h) (Or.inl ⟨by rfl, ?_⟩) ?_ ?_
                    rotate_left
                    · intro w'
                      go_simp
                      with_reducible rfl
                    rotate_left
                    · simp only [Act.put, List.setIfInBounds_toArray, List.set_cons_zero, List.set_cons_succ, i64_w, i32_w]
                      rfl
                    refine pure_ (i := 5) (N := some 101) (v := ?_) (a' := ?_) #[true, true, true, true, false, true, false, false, false, false, false, false, false, false, false, false] rfl rfl (any_of HT_.out (by kernel_rfl)) (fun _ _ _ h => h) (Or.inl ⟨by rfl, ?_⟩) ?_ ?_
                    rotate_left
                    · intro w'
                      go_simp
                      with_reducible rfl
                    rotate_left
                    · simp only [Act.put, List.setIfInBounds_toArray, List.set_cons_zero, List.set_cons_succ, i64_w, i32_w]
                      rfl
                    refine pure_ (i := 6) (N := some 102) (v := ?_) (a' := ?_) #[true, true, true, true, false, true, true, false, false, false, false, false, false, false, false, false] rfl rfl (any_of HT_.out (by kernel_rfl)) (fun _ _ _ h => h) (Or.inl ⟨by rfl, ?_⟩) ?_ ?_
                    rotate_left
                    · intro w'
                      go_simp
                      with_reducible rfl
                    rotate_left
                    · simp only [Act.put, List.setIfInBounds_toArray, List.set_cons_zero, List.set_cons_succ, i64_w, i32_w]
                      rfl
                    refine pure_ (i := 7) (N := some 103) (v := ?_) (a' := ?_) #[true, true, true, true, false, true, true, true, false, false, false, false, false, false, false, false] rfl rfl (any_of HT_.out (by kernel_rfl)) (fun _ _ _ h => h) (Or.inl ⟨by rfl, ?_⟩) ?_ ?_
                    rotate_left
                    · intro w'
                      go_simp
                      with_reducible rfl
                    rotate_left
                    · simp only [Act.put, List.setIfInBounds_toArray, List.set_cons_zero, List.set_cons_succ, i64_w, i32_w]
                      rfl
                    refine take_ (i := 4) (N := some 100) (v := ?_) (a' := ?_) #[true, true, true, true, true, true, true, true, false, false, false, false, false, false, false, false] rfl rfl (take_ofW HT_.out HW_.out (by kernel_rfl)) (fun _ _ _ h => h) (Or.inl ⟨by rfl, ?_⟩) hHeld ?_ ?_
                    rotate_left
                    · rintro w' ⟨s0, s1⟩
                      go_simp
                      with_reducible rfl
                    rotate_left
                    · simp only [Act.put, List.setIfInBounds_toArray, List.set_cons_zero, List.set_cons_succ, i64_w, i32_w]
                      rfl
                    refine take_ (i := 8) (N := some 104) (v := ?_) (a' := ?_) #[true, true, true, true, true, true, true, true, true, false, false, false, false, false, false, false] rfl rfl (take_ofW HT_.out HW_.out (by kernel_rfl)) (fun _ _ _ h => h) (Or.inl ⟨by rfl, ?_⟩) hHeld ?_ ?_
                    rotate_left
                    · rintro w' ⟨s0, s1⟩
                      go_simp
                      with_reducible rfl
                    rotate_left
                    · simp only [Act.put, List.setIfInBounds_toArray, List.set_cons_zero, List.set_cons_succ, i64_w, i32_w]
                      rfl
                    refine join_ (σ := Nat) 2 #[true, true, true, true, true, true, true, true, true, true, true, true, true, true, false, false] (fun s_ => [(105, .tuple #[.bool t382, .agg #[.int .i64 t383, .int .i64 t384]]), (21, .pointer (some ⟨s_, 0, none⟩)), (95, .tuple #[.bool t382, .agg #[.int .i64 t383, .int .i64 t384]]), (106, .bool t382), (107, .agg #[.int .i64 t383, .int .i64 t384])]) (fun s_ w' => (w'.cell? (ad375.add (x16_2).toNat) = some (.int .i64 (rd t361 x16_2)) ∧ w'.cell? (ad375.add (x19_4).toNat) = some (.int .i64 (rd t361 x19_4))) ∧ (Kd.R (Kd.int .i64) 3 w' w.heap.size (fun _ => True) (.slice (some ad375) t361.length co54) t361) ∧ (w'.heap[gb366]? = some (.cells #[.int .i64 t364, .int .i64 t365] 26 (0, 0))) ∧ (w'.heap[gb370]? = some (.cells #[.int .i64 t368, .int .i64 t369] 26 (0, 0))) ∧ (w'.heap[gb374]? = some (.cells #[.int .i64 t372, .int .i64 t373] 26 (0, 0))) ∧ (w'.heap[gb379]? = some (.cells #[.int .i64 t377, .int .i64 t378] 26 (0, 0))) ∧ (w'.heap[s_]? = some (.cells #[.int .i64 0, .int .i64 0] 26 (0, 0))) ∧ (w.heap.size ≤ s_) ∧ (w.heap.size ≤ s_) ∧ (gb366 ≠ s_) ∧ (s_ ≠ gb366) ∧ (gb370 ≠ s_) ∧ (s_ ≠ gb370) ∧ (gb374 ≠ s_) ∧ (s_ ≠ gb374) ∧ (gb379 ≠ s_) ∧ (s_ ≠ gb379) ∧ (Below w.heap.size w w')) ?_ ?_
                    rotate_left
                    · intro hCont
                      refine two_ (i := 9) (j := 13) (Ni := some 105) (Nj := some 21) #[true, true, true, true, true, true, true, true, true, true, false, false, false, false, false, false] #[true, true, true, true, true, true, true, true, true, false, false, false, false, true, false, false] rfl rfl rfl rfl (two_of HT_.out (by kernel_rfl)) (by decide) (by decide) (fun K hK => ?_) (fun K hK => ?_)
                      · skip
                        refine goes_ Try.func16 (by kernel_rfl) rfl #[.slice A0 l0.length c0, .int .i64 (rd t361 x16_2), .int .i64 (rd t361 x19_4)] (by rfl) rfl rfl (by (try simp only [List.map_toArray, List.map_cons, List.map_nil]); first | done | rfl | (simp only [List.length_drop, List.length_take]; rfl)) ?_
                        with_reducible refine (mergebase_IsAncestor.calls k4 _ _ l0 (rd t361 x16_2) (rd t361 x19_4) t382 t383 t384 _ ?side1 ?side2 A66.out).mono ?_
                        (case side1 => repeat (first | exact (Kd.C_below HR0.out HB.out) | (with_reducible refine Kd.C_alloc ?_ _) | (with_reducible refine Kd.C_drewN ?_ _) | (with_reducible refine Kd.C_drew ?_)))
                        (case side2 => exact HC0.out)
                        rintro e w92 ⟨rfl, hb⟩
                        have HS0_ := (hb.cell (World.block_lt_of_cell? _ _ (hHeld.1))).trans (hHeld.1)
                        have HS1_ := (hb.cell (World.block_lt_of_cell? _ _ (hHeld.2))).trans (hHeld.2)
                        refine ⟨_, rfl, ?_⟩
                        have n0_ := aZ (Kd.R_below (by (with_reducible repeat (first | apply Kd.rA | apply Kd.rN | apply Kd.rD)); exact HO_9.out) hb)
                        have n1_ := aZ (blk_below (g := gb366) (o := .cells #[.int .i64 t364, .int .i64 t365] 26 (0, 0)) (by (with_reducible repeat (first | refine bN ?_ _ | refine bD ?_ | refine bA ?_ _)); exact BK366.out) hb)
                        have n2_ := aZ (blk_below (g := gb370) (o := .cells #[.int .i64 t368, .int .i64 t369] 26 (0, 0)) (by (with_reducible repeat (first | refine bN ?_ _ | refine bD ?_ | refine bA ?_ _)); exact BK370.out) hb)
                        have n3_ := aZ (blk_below (g := gb374) (o := .cells #[.int .i64 t372, .int .i64 t373] 26 (0, 0)) (by (with_reducible repeat (first | refine bN ?_ _ | refine bD ?_ | refine bA ?_ _)); exact BK374.out) hb)
                        have n4_ := aZ (blk_below (g := gb379) (o := .cells #[.int .i64 t377, .int .i64 t378] 26 (0, 0)) (by (with_reducible repeat (first | refine bN ?_ _ | refine bD ?_ | refine bA ?_ _)); exact BK379.out) hb)
                        have n5_ := aZ (lT (by repeat (first | (with_reducible first | exact HB.out | apply lA | apply lN | apply lD | refine lS ?_ GE366.out | refine lS ?_ GE370.out | refine lS ?_ GE374.out | refine lS ?_ GE379.out) | exact HB.out)) hb)
                        clear HO_9
                        clear BK366
                        clear BK370
                        clear BK374
                        clear BK379
                        clear HB
                        have HO_9 := n0_
                        have BK366 := n1_
                        have BK370 := n2_
                        have BK374 := n3_
                        have BK379 := n4_
                        have HB := n5_
                        clear n0_ n1_ n2_ n3_ n4_ n5_
                        (try clear hb)
                        (try clear hb2)
                        (try clear hk)
                        (try clear hi)
                        refine hK.out _ _ ⟨HS0_, HS1_⟩ (fun hHeld => ?_)
                        clear hK K
                        refine norm_ (a' := ?_) ?_ ?_
                        rotate_left
                        · show Act.put _ (some 105) _ = _
                          simp only [Act.put, List.setIfInBounds_toArray, List.set_cons_zero, List.set_cons_succ, i64_w, i32_w]
                          rfl
                        refine pure_ (i := 10) (N := some 95) (v := ?_) (a' := ?_) #[true, true, true, true, true, true, true, true, true, true, true, false, false, false, false, false] rfl rfl (any_of HT_.out (by kernel_rfl)) (fun _ _ _ h => h) (Or.inl ⟨by rfl, ?_⟩) ?_ ?_
                        rotate_left
                        · intro w'
                          go_simp
                          with_reducible rfl
                        rotate_left
                        · simp only [Act.put, List.setIfInBounds_toArray, List.set_cons_zero, List.set_cons_succ, i64_w, i32_w]
                          rfl
                        refine pure_ (i := 11) (N := some 106) (v := ?_) (a' := ?_) #[true, true, true, true, true, true, true, true, true, true, true, true, false, false, false, false] rfl rfl (any_of HT_.out (by kernel_rfl)) (fun _ _ _ h => h) (Or.inl ⟨by rfl, ?_⟩) ?_ ?_
                        rotate_left
                        · intro w'
                          go_simp
                          with_reducible rfl
                        rotate_left
                        · simp only [Act.put, List.setIfInBounds_toArray, List.set_cons_zero, List.set_cons_succ, i64_w, i32_w]
                          rfl
                        refine pure_ (i := 12) (N := some 107) (v := ?_) (a' := ?_) #[true, true, true, true, true, true, true, true, true, true, true, true, true, false, false, false] rfl rfl (any_of HT_.out (by kernel_rfl)) (fun _ _ _ h => h) (Or.inl ⟨by rfl, ?_⟩) ?_ ?_
                        rotate_left
                        · intro w'
                          go_simp
                          with_reducible rfl
                        rotate_left
                        · simp only [Act.put, List.setIfInBounds_toArray, List.set_cons_zero, List.set_cons_succ, i64_w, i32_w]
                          rfl
                        refine one_ (i := 13) (N := some 21) #[true, true, true, true, true, true, true, true, true, true, true, true, true, true, false, false] rfl rfl (one_of HT_.out (by kernel_rfl)) (by decide) (fun K hK => ?_)
                        refine box_step ?hg (N := 21) ?hd (cs := #[.int .i64 0, .int .i64 0]) (t := 26) ?hr ?_; (case hd => rfl); (case hg => rfl); (case hr => first | (go_simp; done) | (go_simp; rfl))
                        intro gb385 hg w93 hbox hb
                        have HS0_ := (hb.cell (World.block_lt_of_cell? _ _ (hHeld.1))).trans (hHeld.1)
                        have HS1_ := (hb.cell (World.block_lt_of_cell? _ _ (hHeld.2))).trans (hHeld.2)
                        have n0_ := aZ (Kd.R_below (by (with_reducible repeat (first | apply Kd.rA | apply Kd.rN | apply Kd.rD)); exact HO_9.out) hb)
                        have n1_ := aZ (blk_below (g := gb366) (o := .cells #[.int .i64 t364, .int .i64 t365] 26 (0, 0)) (by (with_reducible repeat (first | refine bN ?_ _ | refine bD ?_ | refine bA ?_ _)); exact BK366.out) hb)
                        have n2_ := aZ (blk_below (g := gb370) (o := .cells #[.int .i64 t368, .int .i64 t369] 26 (0, 0)) (by (with_reducible repeat (first | refine bN ?_ _ | refine bD ?_ | refine bA ?_ _)); exact BK370.out) hb)
                        have n3_ := aZ (blk_below (g := gb374) (o := .cells #[.int .i64 t372, .int .i64 t373] 26 (0, 0)) (by (with_reducible repeat (first | refine bN ?_ _ | refine bD ?_ | refine bA ?_ _)); exact BK374.out) hb)
                        have n4_ := aZ (blk_below (g := gb379) (o := .cells #[.int .i64 t377, .int .i64 t378] 26 (0, 0)) (by (with_reducible repeat (first | refine bN ?_ _ | refine bD ?_ | refine bA ?_ _)); exact BK379.out) hb)
                        have n5_ := aZ (lT (by repeat (first | (with_reducible first | exact HB.out | apply lA | apply lN | apply lD | refine lS ?_ GE366.out | refine lS ?_ GE370.out | refine lS ?_ GE374.out | refine lS ?_ GE379.out) | exact HB.out)) hb)
                        have n6_ := aZ (hbox)
                        have n7_ := aZ ((by rw [hg]; exact (lZ (by repeat (first | (with_reducible first | exact HB.out | apply lA | apply lN | apply lD | refine lS ?_ GE366.out | refine lS ?_ GE370.out | refine lS ?_ GE374.out | refine lS ?_ GE379.out) | exact HB.out))) : w.heap.size ≤ gb385))
                        have n8_ := aZ ((by rw [hg]; exact (lZ (by repeat (first | (with_reducible first | exact HB.out | apply lA | apply lN | apply lD | refine lS ?_ GE366.out | refine lS ?_ GE370.out | refine lS ?_ GE374.out | refine lS ?_ GE379.out) | exact HB.out))) : w.heap.size ≤ gb385))
                        have n9_ := aZ ((by rw [hg]; exact Nat.ne_of_lt (blk_lt (g := gb366) (o := .cells #[.int .i64 t364, .int .i64 t365] 26 (0, 0)) (by (with_reducible repeat (first | refine bN ?_ _ | refine bD ?_ | refine bA ?_ _)); exact BK366.out)) : gb366 ≠ gb385))
                        have n10_ := aZ ((by rw [hg]; exact Nat.ne_of_gt (blk_lt (g := gb366) (o := .cells #[.int .i64 t364, .int .i64 t365] 26 (0, 0)) (by (with_reducible repeat (first | refine bN ?_ _ | refine bD ?_ | refine bA ?_ _)); exact BK366.out)) : gb385 ≠ gb366))
                        have n11_ := aZ ((by rw [hg]; exact Nat.ne_of_lt (blk_lt (g := gb370) (o := .cells #[.int .i64 t368, .int .i64 t369] 26 (0, 0)) (by (with_reducible repeat (first | refine bN ?_ _ | refine bD ?_ | refine bA ?_ _)); exact BK370.out)) : gb370 ≠ gb385))
                        have n12_ := aZ ((by rw [hg]; exact Nat.ne_of_gt (blk_lt (g := gb370) (o := .cells #[.int .i64 t368, .int .i64 t369] 26 (0, 0)) (by (with_reducible repeat (first | refine bN ?_ _ | refine bD ?_ | refine bA ?_ _)); exact BK370.out)) : gb385 ≠ gb370))
                        have n13_ := aZ ((by rw [hg]; exact Nat.ne_of_lt (blk_lt (g := gb374) (o := .cells #[.int .i64 t372, .int .i64 t373] 26 (0, 0)) (by (with_reducible repeat (first | refine bN ?_ _ | refine bD ?_ | refine bA ?_ _)); exact BK374.out)) : gb374 ≠ gb385))
                        have n14_ := aZ ((by rw [hg]; exact Nat.ne_of_gt (blk_lt (g := gb374) (o := .cells #[.int .i64 t372, .int .i64 t373] 26 (0, 0)) (by (with_reducible repeat (first | refine bN ?_ _ | refine bD ?_ | refine bA ?_ _)); exact BK374.out)) : gb385 ≠ gb374))
                        have n15_ := aZ ((by rw [hg]; exact Nat.ne_of_lt (blk_lt (g := gb379) (o := .cells #[.int .i64 t377, .int .i64 t378] 26 (0, 0)) (by (with_reducible repeat (first | refine bN ?_ _ | refine bD ?_ | refine bA ?_ _)); exact BK379.out)) : gb379 ≠ gb385))
                        have n16_ := aZ ((by rw [hg]; exact Nat.ne_of_gt (blk_lt (g := gb379) (o := .cells #[.int .i64 t377, .int .i64 t378] 26 (0, 0)) (by (with_reducible repeat (first | refine bN ?_ _ | refine bD ?_ | refine bA ?_ _)); exact BK379.out)) : gb385 ≠ gb379))
                        clear HO_9
                        clear BK366
                        clear BK370
                        clear BK374
                        clear BK379
                        clear HB
                        have HO_9 := n0_
                        have BK366 := n1_
                        have BK370 := n2_
                        have BK374 := n3_
                        have BK379 := n4_
                        have HB := n5_
                        have BK385 := n6_
                        have GW385 := n7_
                        have GE385 := n8_
                        have NB366_385 := n9_
                        have NB385_366 := n10_
                        have NB370_385 := n11_
                        have NB385_370 := n12_
                        have NB374_385 := n13_
                        have NB385_374 := n14_
                        have NB379_385 := n15_
                        have NB385_379 := n16_
                        clear n0_ n1_ n2_ n3_ n4_ n5_ n6_ n7_ n8_ n9_ n10_ n11_ n12_ n13_ n14_ n15_ n16_
                        clear hb hbox hg
                        refine hK.out _ _ ⟨HS0_, HS1_⟩ (fun hHeld => ?_)
                        clear hK K
                        refine norm_ (a' := ?_) ?_ ?_
                        rotate_left
                        · show Act.put _ (some 21) _ = _
                          simp only [Act.put, List.setIfInBounds_toArray, List.set_cons_zero, List.set_cons_succ, i64_w, i32_w]
                          rfl
                        exact norm_ (by simp only [putAll, Act.put, List.setIfInBounds_toArray, List.set_cons_zero, List.set_cons_succ]) (hCont (gb385) _ ⟨hHeld, (by (with_reducible repeat (first | apply Kd.rA | apply Kd.rN | apply Kd.rD)); exact HO_9.out), (by (with_reducible repeat (first | refine bN ?_ _ | refine bD ?_ | refine bA ?_ _)); exact BK366.out), (by (with_reducible repeat (first | refine bN ?_ _ | refine bD ?_ | refine bA ?_ _)); exact BK370.out), (by (with_reducible repeat (first | refine bN ?_ _ | refine bD ?_ | refine bA ?_ _)); exact BK374.out), (by (with_reducible repeat (first | refine bN ?_ _ | refine bD ?_ | refine bA ?_ _)); exact BK379.out), (by (with_reducible repeat (first | refine bN ?_ _ | refine bD ?_ | refine bA ?_ _)); exact BK385.out), GW385.out, GE385.out, NB366_385.out, NB385_366.out, NB370_385.out, NB385_370.out, NB374_385.out, NB385_374.out, NB379_385.out, NB385_379.out, (by repeat (first | (with_reducible first | exact HB.out | apply lA | apply lN | apply lD | refine lS ?_ GE366.out | refine lS ?_ GE370.out | refine lS ?_ GE374.out | refine lS ?_ GE379.out | refine lS ?_ GE385.out) | exact HB.out))⟩)
                      · skip
                        refine box_step ?hg (N := 21) ?hd (cs := #[.int .i64 0, .int .i64 0]) (t := 26) ?hr ?_; (case hd => rfl); (case hg => rfl); (case hr => first | (go_simp; done) | (go_simp; rfl))
                        intro gb385 hg w92 hbox hb
                        have HS0_ := (hb.cell (World.block_lt_of_cell? _ _ (hHeld.1))).trans (hHeld.1)
                        have HS1_ := (hb.cell (World.block_lt_of_cell? _ _ (hHeld.2))).trans (hHeld.2)
                        have n0_ := aZ (Kd.R_below (by (with_reducible repeat (first | apply Kd.rA | apply Kd.rN | apply Kd.rD)); exact HO_9.out) hb)
                        have n1_ := aZ (blk_below (g := gb366) (o := .cells #[.int .i64 t364, .int .i64 t365] 26 (0, 0)) (by (with_reducible repeat (first | refine bN ?_ _ | refine bD ?_ | refine bA ?_ _)); exact BK366.out) hb)
                        have n2_ := aZ (blk_below (g := gb370) (o := .cells #[.int .i64 t368, .int .i64 t369] 26 (0, 0)) (by (with_reducible repeat (first | refine bN ?_ _ | refine bD ?_ | refine bA ?_ _)); exact BK370.out) hb)
                        have n3_ := aZ (blk_below (g := gb374) (o := .cells #[.int .i64 t372, .int .i64 t373] 26 (0, 0)) (by (with_reducible repeat (first | refine bN ?_ _ | refine bD ?_ | refine bA ?_ _)); exact BK374.out) hb)
                        have n4_ := aZ (blk_below (g := gb379) (o := .cells #[.int .i64 t377, .int .i64 t378] 26 (0, 0)) (by (with_reducible repeat (first | refine bN ?_ _ | refine bD ?_ | refine bA ?_ _)); exact BK379.out) hb)
                        have n5_ := aZ (lT (by repeat (first | (with_reducible first | exact HB.out | apply lA | apply lN | apply lD | refine lS ?_ GE366.out | refine lS ?_ GE370.out | refine lS ?_ GE374.out | refine lS ?_ GE379.out) | exact HB.out)) hb)
                        have n6_ := aZ (hbox)
                        have n7_ := aZ ((by rw [hg]; exact (lZ (by repeat (first | (with_reducible first | exact HB.out | apply lA | apply lN | apply lD | refine lS ?_ GE366.out | refine lS ?_ GE370.out | refine lS ?_ GE374.out | refine lS ?_ GE379.out) | exact HB.out))) : w.heap.size ≤ gb385))
                        have n8_ := aZ ((by rw [hg]; exact (lZ (by repeat (first | (with_reducible first | exact HB.out | apply lA | apply lN | apply lD | refine lS ?_ GE366.out | refine lS ?_ GE370.out | refine lS ?_ GE374.out | refine lS ?_ GE379.out) | exact HB.out))) : w.heap.size ≤ gb385))
                        have n9_ := aZ ((by rw [hg]; exact Nat.ne_of_lt (blk_lt (g := gb366) (o := .cells #[.int .i64 t364, .int .i64 t365] 26 (0, 0)) (by (with_reducible repeat (first | refine bN ?_ _ | refine bD ?_ | refine bA ?_ _)); exact BK366.out)) : gb366 ≠ gb385))
                        have n10_ := aZ ((by rw [hg]; exact Nat.ne_of_gt (blk_lt (g := gb366) (o := .cells #[.int .i64 t364, .int .i64 t365] 26 (0, 0)) (by (with_reducible repeat (first | refine bN ?_ _ | refine bD ?_ | refine bA ?_ _)); exact BK366.out)) : gb385 ≠ gb366))
                        have n11_ := aZ ((by rw [hg]; exact Nat.ne_of_lt (blk_lt (g := gb370) (o := .cells #[.int .i64 t368, .int .i64 t369] 26 (0, 0)) (by (with_reducible repeat (first | refine bN ?_ _ | refine bD ?_ | refine bA ?_ _)); exact BK370.out)) : gb370 ≠ gb385))
                        have n12_ := aZ ((by rw [hg]; exact Nat.ne_of_gt (blk_lt (g := gb370) (o := .cells #[.int .i64 t368, .int .i64 t369] 26 (0, 0)) (by (with_reducible repeat (first | refine bN ?_ _ | refine bD ?_ | refine bA ?_ _)); exact BK370.out)) : gb385 ≠ gb370))
                        have n13_ := aZ ((by rw [hg]; exact Nat.ne_of_lt (blk_lt (g := gb374) (o := .cells #[.int .i64 t372, .int .i64 t373] 26 (0, 0)) (by (with_reducible repeat (first | refine bN ?_ _ | refine bD ?_ | refine bA ?_ _)); exact BK374.out)) : gb374 ≠ gb385))
                        have n14_ := aZ ((by rw [hg]; exact Nat.ne_of_gt (blk_lt (g := gb374) (o := .cells #[.int .i64 t372, .int .i64 t373] 26 (0, 0)) (by (with_reducible repeat (first | refine bN ?_ _ | refine bD ?_ | refine bA ?_ _)); exact BK374.out)) : gb385 ≠ gb374))
                        have n15_ := aZ ((by rw [hg]; exact Nat.ne_of_lt (blk_lt (g := gb379) (o := .cells #[.int .i64 t377, .int .i64 t378] 26 (0, 0)) (by (with_reducible repeat (first | refine bN ?_ _ | refine bD ?_ | refine bA ?_ _)); exact BK379.out)) : gb379 ≠ gb385))
                        have n16_ := aZ ((by rw [hg]; exact Nat.ne_of_gt (blk_lt (g := gb379) (o := .cells #[.int .i64 t377, .int .i64 t378] 26 (0, 0)) (by (with_reducible repeat (first | refine bN ?_ _ | refine bD ?_ | refine bA ?_ _)); exact BK379.out)) : gb385 ≠ gb379))
                        clear HO_9
                        clear BK366
                        clear BK370
                        clear BK374
                        clear BK379
                        clear HB
                        have HO_9 := n0_
                        have BK366 := n1_
                        have BK370 := n2_
                        have BK374 := n3_
                        have BK379 := n4_
                        have HB := n5_
                        have BK385 := n6_
                        have GW385 := n7_
                        have GE385 := n8_
                        have NB366_385 := n9_
                        have NB385_366 := n10_
                        have NB370_385 := n11_
                        have NB385_370 := n12_
                        have NB374_385 := n13_
                        have NB385_374 := n14_
                        have NB379_385 := n15_
                        have NB385_379 := n16_
                        clear n0_ n1_ n2_ n3_ n4_ n5_ n6_ n7_ n8_ n9_ n10_ n11_ n12_ n13_ n14_ n15_ n16_
                        clear hb hbox hg
                        refine hK.out _ _ ⟨HS0_, HS1_⟩ (fun hHeld => ?_)
                        clear hK K
                        refine norm_ (a' := ?_) ?_ ?_
                        rotate_left
                        · show Act.put _ (some 21) _ = _
                          simp only [Act.put, List.setIfInBounds_toArray, List.set_cons_zero, List.set_cons_succ, i64_w, i32_w]
                          rfl
                        refine one_ (i := 9) (N := some 105) #[true, true, true, true, true, true, true, true, true, true, false, false, false, true, false, false] rfl rfl (one_of HT_.out (by kernel_rfl)) (by decide) (fun K hK => ?_)
                        refine goes_ Try.func16 (by kernel_rfl) rfl #[.slice A0 l0.length c0, .int .i64 (rd t361 x16_2), .int .i64 (rd t361 x19_4)] (by rfl) rfl rfl (by (try simp only [List.map_toArray, List.map_cons, List.map_nil]); first | done | rfl | (simp only [List.length_drop, List.length_take]; rfl)) ?_
                        with_reducible refine (mergebase_IsAncestor.calls k4 _ _ l0 (rd t361 x16_2) (rd t361 x19_4) t382 t383 t384 _ ?side1 ?side2 A66.out).mono ?_
                        (case side1 => repeat (first | exact (Kd.C_below HR0.out HB.out) | (with_reducible refine Kd.C_alloc ?_ _) | (with_reducible refine Kd.C_drewN ?_ _) | (with_reducible refine Kd.C_drew ?_)))
                        (case side2 => exact HC0.out)
                        rintro e w93 ⟨rfl, hb⟩
                        have HS0_ := (hb.cell (World.block_lt_of_cell? _ _ (hHeld.1))).trans (hHeld.1)
                        have HS1_ := (hb.cell (World.block_lt_of_cell? _ _ (hHeld.2))).trans (hHeld.2)
                        refine ⟨_, rfl, ?_⟩
                        have n0_ := aZ (Kd.R_below (by (with_reducible repeat (first | apply Kd.rA | apply Kd.rN | apply Kd.rD)); exact HO_9.out) hb)
                        have n1_ := aZ (blk_below (g := gb366) (o := .cells #[.int .i64 t364, .int .i64 t365] 26 (0, 0)) (by (with_reducible repeat (first | refine bN ?_ _ | refine bD ?_ | refine bA ?_ _)); exact BK366.out) hb)
                        have n2_ := aZ (blk_below (g := gb370) (o := .cells #[.int .i64 t368, .int .i64 t369] 26 (0, 0)) (by (with_reducible repeat (first | refine bN ?_ _ | refine bD ?_ | refine bA ?_ _)); exact BK370.out) hb)
                        have n3_ := aZ (blk_below (g := gb374) (o := .cells #[.int .i64 t372, .int .i64 t373] 26 (0, 0)) (by (with_reducible repeat (first | refine bN ?_ _ | refine bD ?_ | refine bA ?_ _)); exact BK374.out) hb)
                        have n4_ := aZ (blk_below (g := gb379) (o := .cells #[.int .i64 t377, .int .i64 t378] 26 (0, 0)) (by (with_reducible repeat (first | refine bN ?_ _ | refine bD ?_ | refine bA ?_ _)); exact BK379.out) hb)
                        have n5_ := aZ (blk_below (g := gb385) (o := .cells #[.int .i64 0, .int .i64 0] 26 (0, 0)) (by (with_reducible repeat (first | refine bN ?_ _ | refine bD ?_ | refine bA ?_ _)); exact BK385.out) hb)
                        have n6_ := aZ (lT (by repeat (first | (with_reducible first | exact HB.out | apply lA | apply lN | apply lD | refine lS ?_ GE366.out | refine lS ?_ GE370.out | refine lS ?_ GE374.out | refine lS ?_ GE379.out | refine lS ?_ GE385.out) | exact HB.out)) hb)
                        clear HO_9
                        clear BK366
                        clear BK370
                        clear BK374
                        clear BK379
                        clear BK385
                        clear HB
                        have HO_9 := n0_
                        have BK366 := n1_
                        have BK370 := n2_
                        have BK374 := n3_
                        have BK379 := n4_
                        have BK385 := n5_
                        have HB := n6_
                        clear n0_ n1_ n2_ n3_ n4_ n5_ n6_
                        (try clear hb)
                        (try clear hb2)
                        (try clear hk)
                        (try clear hi)
                        refine hK.out _ _ ⟨HS0_, HS1_⟩ (fun hHeld => ?_)
                        clear hK K
                        refine norm_ (a' := ?_) ?_ ?_
                        rotate_left
                        · show Act.put _ (some 105) _ = _
                          simp only [Act.put, List.setIfInBounds_toArray, List.set_cons_zero, List.set_cons_succ, i64_w, i32_w]
                          rfl
                        refine pure_ (i := 10) (N := some 95) (v := ?_) (a' := ?_) #[true, true, true, true, true, true, true, true, true, true, true, false, false, true, false, false] rfl rfl (any_of HT_.out (by kernel_rfl)) (fun _ _ _ h => h) (Or.inl ⟨by rfl, ?_⟩) ?_ ?_
                        rotate_left
                        · intro w'
                          go_simp
                          with_reducible rfl
                        rotate_left
                        · simp only [Act.put, List.setIfInBounds_toArray, List.set_cons_zero, List.set_cons_succ, i64_w, i32_w]
                          rfl
                        refine pure_ (i := 11) (N := some 106) (v := ?_) (a' := ?_) #[true, true, true, true, true, true, true, true, true, true, true, true, false, true, false, false] rfl rfl (any_of HT_.out (by kernel_rfl)) (fun _ _ _ h => h) (Or.inl ⟨by rfl, ?_⟩) ?_ ?_
                        rotate_left
                        · intro w'
                          go_simp
                          with_reducible rfl
                        rotate_left
                        · simp only [Act.put, List.setIfInBounds_toArray, List.set_cons_zero, List.set_cons_succ, i64_w, i32_w]
                          rfl
                        refine pure_ (i := 12) (N := some 107) (v := ?_) (a' := ?_) #[true, true, true, true, true, true, true, true, true, true, true, true, true, true, false, false] rfl rfl (any_of HT_.out (by kernel_rfl)) (fun _ _ _ h => h) (Or.inl ⟨by rfl, ?_⟩) ?_ ?_
                        rotate_left
                        · intro w'
                          go_simp
                          with_reducible rfl
                        rotate_left
                        · simp only [Act.put, List.setIfInBounds_toArray, List.set_cons_zero, List.set_cons_succ, i64_w, i32_w]
                          rfl
                        exact norm_ (by simp only [putAll, Act.put, List.setIfInBounds_toArray, List.set_cons_zero, List.set_cons_succ]) (hCont (gb385) _ ⟨hHeld, (by (with_reducible repeat (first | apply Kd.rA | apply Kd.rN | apply Kd.rD)); exact HO_9.out), (by (with_reducible repeat (first | refine bN ?_ _ | refine bD ?_ | refine bA ?_ _)); exact BK366.out), (by (with_reducible repeat (first | refine bN ?_ _ | refine bD ?_ | refine bA ?_ _)); exact BK370.out), (by (with_reducible repeat (first | refine bN ?_ _ | refine bD ?_ | refine bA ?_ _)); exact BK374.out), (by (with_reducible repeat (first | refine bN ?_ _ | refine bD ?_ | refine bA ?_ _)); exact BK379.out), (by (with_reducible repeat (first | refine bN ?_ _ | refine bD ?_ | refine bA ?_ _)); exact BK385.out), GW385.out, GE385.out, NB366_385.out, NB385_366.out, NB370_385.out, NB385_370.out, NB374_385.out, NB385_374.out, NB379_385.out, NB385_379.out, (by repeat (first | (with_reducible first | exact HB.out | apply lA | apply lN | apply lD | refine lS ?_ GE366.out | refine lS ?_ GE370.out | refine lS ?_ GE374.out | refine lS ?_ GE379.out | refine lS ?_ GE385.out) | exact HB.out))⟩)
                    rintro gb385 w94 ⟨hS_, h0_, h1_, h2_, h3_, h4_, h5_, h6_, h7_, h8_, h9_, h10_, h11_, h12_, h13_, h14_, h15_, h16_⟩
                    have n0_ : Aside0 (Kd.R (Kd.int .i64) 3 w94 w.heap.size (fun _ => True) (.slice (some ad375) t361.length co54) t361) := ⟨h0_⟩
                    have n1_ : Aside0 (w94.heap[gb366]? = some (.cells #[.int .i64 t364, .int .i64 t365] 26 (0, 0))) := ⟨h1_⟩
                    have n2_ : Aside0 (w94.heap[gb370]? = some (.cells #[.int .i64 t368, .int .i64 t369] 26 (0, 0))) := ⟨h2_⟩
                    have n3_ : Aside0 (w94.heap[gb374]? = some (.cells #[.int .i64 t372, .int .i64 t373] 26 (0, 0))) := ⟨h3_⟩
                    have n4_ : Aside0 (w94.heap[gb379]? = some (.cells #[.int .i64 t377, .int .i64 t378] 26 (0, 0))) := ⟨h4_⟩
                    have n5_ : Aside0 (w94.heap[gb385]? = some (.cells #[.int .i64 0, .int .i64 0] 26 (0, 0))) := ⟨h5_⟩
                    have n6_ : Aside0 (w.heap.size ≤ gb385) := ⟨h6_⟩
                    have n7_ : Aside0 (w.heap.size ≤ gb385) := ⟨h7_⟩
                    have n8_ : Aside0 (gb366 ≠ gb385) := ⟨h8_⟩
                    have n9_ : Aside0 (gb385 ≠ gb366) := ⟨h9_⟩
                    have n10_ : Aside0 (gb370 ≠ gb385) := ⟨h10_⟩
                    have n11_ : Aside0 (gb385 ≠ gb370) := ⟨h11_⟩
                    have n12_ : Aside0 (gb374 ≠ gb385) := ⟨h12_⟩
                    have n13_ : Aside0 (gb385 ≠ gb374) := ⟨h13_⟩
                    have n14_ : Aside0 (gb379 ≠ gb385) := ⟨h14_⟩
                    have n15_ : Aside0 (gb385 ≠ gb379) := ⟨h15_⟩
                    have n16_ : Aside0 (Below w.heap.size w w94) := ⟨h16_⟩
                    clear HO_9
                    clear BK366
                    clear BK370
                    clear BK374
                    clear BK379
                    clear HB
                    clear h0_ h1_ h2_ h3_ h4_ h5_ h6_ h7_ h8_ h9_ h10_ h11_ h12_ h13_ h14_ h15_ h16_
                    have HO_9 := n0_
                    have BK366 := n1_
                    have BK370 := n2_
                    have BK374 := n3_
                    have BK379 := n4_
                    have BK385 := n5_
                    have GW385 := n6_
                    have GE385 := n7_
                    have NB366_385 := n8_
                    have NB385_366 := n9_
                    have NB370_385 := n10_
                    have NB385_370 := n11_
                    have NB374_385 := n12_
                    have NB385_374 := n13_
                    have NB379_385 := n14_
                    have NB385_379 := n15_
                    have HB := n16_
                    clear n0_ n1_ n2_ n3_ n4_ n5_ n6_ n7_ n8_ n9_ n10_ n11_ n12_ n13_ n14_ n15_ n16_
                    have hHeld : w94.cell? (ad375.add (x16_2).toNat) = some (.int .i64 (rd t361 x16_2)) ∧ w94.cell? (ad375.add (x19_4).toNat) = some (.int .i64 (rd t361 x19_4)) := hS_
                    refine norm_ (a' := ?_) ?_ ?_
                    rotate_left
                    · simp only [putAll, Act.put, List.setIfInBounds_toArray, List.set_cons_zero, List.set_cons_succ]
                      rfl
                    refine pure_ (i := 14) (N := some 20) (v := ?_) (a' := ?_) #[true, true, true, true, true, true, true, true, true, true, true, true, true, true, true, false] rfl rfl (any_of HT_.out (by kernel_rfl)) (fun _ _ _ h => h) (Or.inl ⟨by rfl, ?_⟩) ?_ ?_
                    rotate_left
                    · intro w'
                      go_simp
                      with_reducible rfl
                    rotate_left
                    · simp only [Act.put, List.setIfInBounds_toArray, List.set_cons_zero, List.set_cons_succ, i64_w, i32_w]
                      rfl
                    refine one_ (i := 15) (N := none) #[true, true, true, true, true, true, true, true, true, true, true, true, true, true, true, true] rfl rfl (one_of HT_.out (by kernel_rfl)) (by decide) (fun K hK => ?_)
                    have hs95 : w94.cell? ⟨gb385, 0, none⟩ = some (.int .i64 0) := (blk_cell BK385.out 0).trans rfl
                    have hfs95 := blk_frozen BK385.out 0
                    have hns95_0 := NB366_385.out
                    have hns95_1 := NB370_385.out
                    have hns95_2 := NB374_385.out
                    have hns95_3 := NB379_385.out
                    have hms95_0 := NB385_366.out
                    have hms95_1 := NB385_370.out
                    have hms95_2 := NB385_374.out
                    have hms95_3 := NB385_379.out
                    have hs96 : w94.cell? ⟨gb385, 1, none⟩ = some (.int .i64 0) := (blk_cell BK385.out 1).trans rfl
                    have hfs96 := blk_frozen BK385.out 1
                    have hns96_0 := NB366_385.out
                    have hns96_1 := NB370_385.out
                    have hns96_2 := NB374_385.out
                    have hns96_3 := NB379_385.out
                    have hms96_0 := NB385_366.out
                    have hms96_1 := NB385_370.out
                    have hms96_2 := NB385_374.out
                    have hms96_3 := NB385_379.out
                    refine skip_ (w1 := ?_) (by rfl) rfl ?_ ?_
                    rotate_left
                    · go_simp
                      rfl
                    refine hK.out _ _ ⟨((cell_far (p := ⟨gb385, _, none⟩) (by first | exact Kd.own_blk (Kd.R_ne HO_9.out BK385.out (by decide)) | (rw [add_block]; exact Kd.own_blk (Kd.R_ne HO_9.out BK385.out (by decide))) | (show (Addr.add _ _).block ≠ _; rw [add_block]; exact Kd.own_blk (Kd.R_ne HO_9.out BK385.out (by decide))) | (dsimp only; exact Kd.own_blk (Kd.R_ne HO_9.out BK385.out (by decide)))) _).trans (((cell_far (p := ⟨gb385, _, none⟩) (by first | exact Kd.own_blk (Kd.R_ne HO_9.out BK385.out (by decide)) | (rw [add_block]; exact Kd.own_blk (Kd.R_ne HO_9.out BK385.out (by decide))) | (show (Addr.add _ _).block ≠ _; rw [add_block]; exact Kd.own_blk (Kd.R_ne HO_9.out BK385.out (by decide))) | (dsimp only; exact Kd.own_blk (Kd.R_ne HO_9.out BK385.out (by decide)))) _).trans (hHeld.1)))), ((cell_far (p := ⟨gb385, _, none⟩) (by first | exact Kd.own_blk (Kd.R_ne HO_9.out BK385.out (by decide)) | (rw [add_block]; exact Kd.own_blk (Kd.R_ne HO_9.out BK385.out (by decide))) | (show (Addr.add _ _).block ≠ _; rw [add_block]; exact Kd.own_blk (Kd.R_ne HO_9.out BK385.out (by decide))) | (dsimp only; exact Kd.own_blk (Kd.R_ne HO_9.out BK385.out (by decide)))) _).trans (((cell_far (p := ⟨gb385, _, none⟩) (by first | exact Kd.own_blk (Kd.R_ne HO_9.out BK385.out (by decide)) | (rw [add_block]; exact Kd.own_blk (Kd.R_ne HO_9.out BK385.out (by decide))) | (show (Addr.add _ _).block ≠ _; rw [add_block]; exact Kd.own_blk (Kd.R_ne HO_9.out BK385.out (by decide))) | (dsimp only; exact Kd.own_blk (Kd.R_ne HO_9.out BK385.out (by decide)))) _).trans (hHeld.2))))⟩ (fun hHeld => ?_)
                    clear hK K
                    refine done_ (done_of HT_.out (by kernel_rfl)) ?_
                    have hnb97 := NB385_366.out
                    have hnc97 := NB366_385.out
                    have hnb98 := NB385_370.out
                    have hnc98 := NB370_385.out
                    have hnb99 := NB385_374.out
                    have hnc99 := NB374_385.out
                    have hnb100 := NB385_379.out
                    have hnc100 := NB379_385.out
                    have hcz101_0 : w94.cell? ⟨gb385, 0, none⟩ = some (.int .i64 0) := (blk_cell BK385.out 0).trans rfl
                    have hcz101_1 : w94.cell? ⟨gb385, 1, none⟩ = some (.int .i64 0) := (blk_cell BK385.out 1).trans rfl
                    have hfz101_0 := blk_frozen BK385.out 0
                    have hfz101_1 := blk_frozen BK385.out 1
                    try go_wp2
                    go_ret
                    exact ⟨by first | rfl | (simp [errW_none, errW_some] <;> rfl) | (simp [*, errW_none, errW_some] <;> rfl), by repeat (first | (with_reducible first | exact HB.out | apply lA | apply lN | apply lD | refine lS ?_ GE366.out | refine lS ?_ GE370.out | refine lS ?_ GE374.out | refine lS ?_ GE379.out | refine lS ?_ GE385.out) | exact HB.out)⟩
                  rw [if_pos c67] at H
                  have c67b0 : (t383 == 0) = true := beq_iff_eq.mpr c67
                  have c67b1 : (t383 != 0) = false := bne_eq_false_iff_eq.mpr c67
                  clear c67
                  by_cases c68 : (t382 != (x16_2 == x19_4)) = true
                  · rw [if_pos c68] at H
                    have c68b0 : (t382 != (x16_2 == x19_4)) = true := c68
                    (try (have c68b1 : decide (t382 = (x16_2 == x19_4)) = false := by simpa using c68))
                    (try (have c68b2 : (t382 == (x16_2 == x19_4)) = false := by simpa using c68))
                    (try (have c68b3 : ¬ (t382 = (x16_2 == x19_4)) := by simpa using c68))
                    clear c68
                    obtain rfl := Option.some.inj H
                    try go_wp2
                    have n0_ := aZ (Kd.rD HO_9.out)
                    have n1_ := aZ (bD BK366.out)
                    have n2_ := aZ (bD BK370.out)
                    have n3_ := aZ (bD BK374.out)
                    have n4_ := aZ (bD BK379.out)
                    have n5_ := aZ (lD HB.out)
                    clear HO_9
                    clear BK366
                    clear BK370
                    clear BK374
                    clear BK379
                    clear HB
                    have HO_9 := n0_
                    have BK366 := n1_
                    have BK370 := n2_
                    have BK374 := n3_
                    have BK379 := n4_
                    have HB := n5_
                    clear n0_ n1_ n2_ n3_ n4_ n5_
                    have p380 : 0 ≤ (x16_2 : Int) := of_decide_eq_true (by first | (with_reducible assumption) | assumption)
                    have q380 : x16_2 < (t361.length : Int) := of_decide_eq_true (by first | (with_reducible assumption) | assumption)
                    obtain ⟨ad380, e380, hx380_0⟩ := Kd.at_int (Kd.R_reads' HO_9.out).2.2 x16_2 p380 q380
                    obtain rfl : ad375 = ad380 := (by injection e380)
                    replace p380 := eq_true p380
                    replace q380 := eq_true q380
                    have p381 : 0 ≤ (x19_4 : Int) := of_decide_eq_true (by first | (with_reducible assumption) | assumption)
                    have q381 : x19_4 < (t361.length : Int) := of_decide_eq_true (by first | (with_reducible assumption) | assumption)
                    obtain ⟨ad381, e381, hx381_0⟩ := Kd.at_int (Kd.R_reads' HO_9.out).2.2 x19_4 p381 q381
                    obtain rfl : ad375 = ad381 := (by injection e381)
                    replace p381 := eq_true p381
                    replace q381 := eq_true q381
                    refine start_ (n := 16) (S := fun w' => w'.cell? (ad375.add (x16_2).toNat) = some (.int .i64 (rd t361 x16_2)) ∧ w'.cell? (ad375.add (x19_4).toNat) = some (.int .i64 (rd t361 x19_4))) (ds := []) #[false, false, false, false, false, false, false, false, false, false, false, false, false, false, false, false] (by kernel_rfl) rfl rfl ⟨hx380_0, hx381_0⟩ (fun hHeld => ?_); refine with_tabW changeforgelaw3_MergebaseCoversCommon.tab19 changeforgelaw3_MergebaseCoversCommon.bits19 (fun HT_ HW_ => ?_)
                    generalize wr.drew = w69 at HO_9 BK366 BK370 BK374 BK379 HB hx380_0 hx381_0 hHeld ⊢
                    refine pure_ (i := 0) (N := some 96) (v := ?_) (a' := ?_) #[true, false, false, false, false, false, false, false, false, false, false, false, false, false, false, false] rfl rfl (any_of HT_.out (by kernel_rfl)) (fun _ _ _ h => h) (Or.inl ⟨by rfl, ?_⟩) ?_ ?_
                    rotate_left
                    · intro w'
                      go_simp
                      with_reducible rfl
                    rotate_left
                    · simp only [Act.put, List.setIfInBounds_toArray, List.set_cons_zero, List.set_cons_succ, i64_w, i32_w]
                      rfl
                    refine pure_ (i := 1) (N := some 97) (v := ?_) (a' := ?_) #[true, true, false, false, false, false, false, false, false, false, false, false, false, false, false, false] rfl rfl (any_of HT_.out (by kernel_rfl)) (fun _ _ _ h => h) (Or.inl ⟨by rfl, ?_⟩) ?_ ?_
                    rotate_left
                    · intro w'
                      go_simp
                      with_reducible rfl
                    rotate_left
                    · simp only [Act.put, List.setIfInBounds_toArray, List.set_cons_zero, List.set_cons_succ, i64_w, i32_w]
                      rfl
                    refine pure_ (i := 2) (N := some 98) (v := ?_) (a' := ?_) #[true, true, true, false, false, false, false, false, false, false, false, false, false, false, false, false] rfl rfl (any_of HT_.out (by kernel_rfl)) (fun _ _ _ h => h) (Or.inl ⟨by rfl, ?_⟩) ?_ ?_
                    rotate_left
                    · intro w'
                      go_simp
                      with_reducible rfl
                    rotate_left
                    · simp only [Act.put, List.setIfInBounds_toArray, List.set_cons_zero, List.set_cons_succ, i64_w, i32_w]
                      rfl
                    refine pure_ (i := 3) (N := some 99) (v := ?_) (a' := ?_) #[true, true, true, true, false, false, false, false, false, false, false, false, false, false, false, false] rfl rfl (any_of HT_.out (by kernel_rfl)) (fun _ _ _ h => h) (Or.inl ⟨by rfl, ?_⟩) ?_ ?_
                    rotate_left
                    · intro w'
                      go_simp
                      with_reducible rfl
                    rotate_left
                    · simp only [Act.put, List.setIfInBounds_toArray, List.set_cons_zero, List.set_cons_succ, i64_w, i32_w]
                      rfl
                    refine pure_ (i := 5) (N := some 101) (v := ?_) (a' := ?_) #[true, true, true, true, false, true, false, false, false, false, false, false, false, false, false, false] rfl rfl (any_of HT_.out (by kernel_rfl)) (fun _ _ _ h => h) (Or.inl ⟨by rfl, ?_⟩) ?_ ?_
                    rotate_left
                    · intro w'
                      go_simp
                      with_reducible rfl
                    rotate_left
                    · simp only [Act.put, List.setIfInBounds_toArray, List.set_cons_zero, List.set_cons_succ, i64_w, i32_w]
                      rfl
                    refine pure_ (i := 6) (N := some 102) (v := ?_) (a' := ?_) #[true, true, true, true, false, true, true, false, false, false, false, false, false, false, false, false] rfl rfl (any_of HT_.out (by kernel_rfl)) (fun _ _ _ h => h) (Or.inl ⟨by rfl, ?_⟩) ?_ ?_
                    rotate_left
                    · intro w'
                      go_simp
                      with_reducible rfl
                    rotate_left
                    · simp only [Act.put, List.setIfInBounds_toArray, List.set_cons_zero, List.set_cons_succ, i64_w, i32_w]
                      rfl
                    refine pure_ (i := 7) (N := some 103) (v := ?_) (a' := ?_) #[true, true, true, true, false, true, true, true, false, false, false, false, false, false, false, false] rfl rfl (any_of HT_.out (by kernel_rfl)) (fun _ _ _ h => h) (Or.inl ⟨by rfl, ?_⟩) ?_ ?_
                    rotate_left
                    · intro w'
                      go_simp
                      with_reducible rfl
                    rotate_left
                    · simp only [Act.put, List.setIfInBounds_toArray, List.set_cons_zero, List.set_cons_succ, i64_w, i32_w]
                      rfl
                    refine take_ (i := 4) (N := some 100) (v := ?_) (a' := ?_) #[true, true, true, true, true, true, true, true, false, false, false, false, false, false, false, false] rfl rfl (take_ofW HT_.out HW_.out (by kernel_rfl)) (fun _ _ _ h => h) (Or.inl ⟨by rfl, ?_⟩) hHeld ?_ ?_
                    rotate_left
                    · rintro w' ⟨s0, s1⟩
                      go_simp
                      with_reducible rfl
                    rotate_left
                    · simp only [Act.put, List.setIfInBounds_toArray, List.set_cons_zero, List.set_cons_succ, i64_w, i32_w]
                      rfl
                    refine take_ (i := 8) (N := some 104) (v := ?_) (a' := ?_) #[true, true, true, true, true, true, true, true, true, false, false, false, false, false, false, false] rfl rfl (take_ofW HT_.out HW_.out (by kernel_rfl)) (fun _ _ _ h => h) (Or.inl ⟨by rfl, ?_⟩) hHeld ?_ ?_
                    rotate_left
                    · rintro w' ⟨s0, s1⟩
                      go_simp
                      with_reducible rfl
                    rotate_left
                    · simp only [Act.put, List.setIfInBounds_toArray, List.set_cons_zero, List.set_cons_succ, i64_w, i32_w]
                      rfl
                    refine join_ (σ := Nat) 2 #[true, true, true, true, true, true, true, true, true, true, true, true, true, true, false, false] (fun s_ => [(105, .tuple #[.bool t382, .agg #[.int .i64 t383, .int .i64 t384]]), (21, .pointer (some ⟨s_, 0, none⟩)), (95, .tuple #[.bool t382, .agg #[.int .i64 t383, .int .i64 t384]]), (106, .bool t382), (107, .agg #[.int .i64 t383, .int .i64 t384])]) (fun s_ w' => (w'.cell? (ad375.add (x16_2).toNat) = some (.int .i64 (rd t361 x16_2)) ∧ w'.cell? (ad375.add (x19_4).toNat) = some (.int .i64 (rd t361 x19_4))) ∧ (Kd.R (Kd.int .i64) 3 w' w.heap.size (fun _ => True) (.slice (some ad375) t361.length co54) t361) ∧ (w'.heap[gb366]? = some (.cells #[.int .i64 t364, .int .i64 t365] 26 (0, 0))) ∧ (w'.heap[gb370]? = some (.cells #[.int .i64 t368, .int .i64 t369] 26 (0, 0))) ∧ (w'.heap[gb374]? = some (.cells #[.int .i64 t372, .int .i64 t373] 26 (0, 0))) ∧ (w'.heap[gb379]? = some (.cells #[.int .i64 t377, .int .i64 t378] 26 (0, 0))) ∧ (w'.heap[s_]? = some (.cells #[.int .i64 0, .int .i64 0] 26 (0, 0))) ∧ (w.heap.size ≤ s_) ∧ (w.heap.size ≤ s_) ∧ (gb366 ≠ s_) ∧ (s_ ≠ gb366) ∧ (gb370 ≠ s_) ∧ (s_ ≠ gb370) ∧ (gb374 ≠ s_) ∧ (s_ ≠ gb374) ∧ (gb379 ≠ s_) ∧ (s_ ≠ gb379) ∧ (Below w.heap.size w w')) ?_ ?_
                    rotate_left
                    · intro hCont
                      refine two_ (i := 9) (j := 13) (Ni := some 105) (Nj := some 21) #[true, true, true, true, true, true, true, true, true, true, false, false, false, false, false, false] #[true, true, true, true, true, true, true, true, true, false, false, false, false, true, false, false] rfl rfl rfl rfl (two_of HT_.out (by kernel_rfl)) (by decide) (by decide) (fun K hK => ?_) (fun K hK => ?_)
                      · skip
                        refine goes_ Try.func16 (by kernel_rfl) rfl #[.slice A0 l0.length c0, .int .i64 (rd t361 x16_2), .int .i64 (rd t361 x19_4)] (by rfl) rfl rfl (by (try simp only [List.map_toArray, List.map_cons, List.map_nil]); first | done | rfl | (simp only [List.length_drop, List.length_take]; rfl)) ?_
                        with_reducible refine (mergebase_IsAncestor.calls k4 _ _ l0 (rd t361 x16_2) (rd t361 x19_4) t382 t383 t384 _ ?side1 ?side2 A66.out).mono ?_
                        (case side1 => repeat (first | exact (Kd.C_below HR0.out HB.out) | (with_reducible refine Kd.C_alloc ?_ _) | (with_reducible refine Kd.C_drewN ?_ _) | (with_reducible refine Kd.C_drew ?_)))
                        (case side2 => exact HC0.out)
                        rintro e w70 ⟨rfl, hb⟩
                        have HS0_ := (hb.cell (World.block_lt_of_cell? _ _ (hHeld.1))).trans (hHeld.1)
                        have HS1_ := (hb.cell (World.block_lt_of_cell? _ _ (hHeld.2))).trans (hHeld.2)
                        refine ⟨_, rfl, ?_⟩
                        have n0_ := aZ (Kd.R_below (by (with_reducible repeat (first | apply Kd.rA | apply Kd.rN | apply Kd.rD)); exact HO_9.out) hb)
                        have n1_ := aZ (blk_below (g := gb366) (o := .cells #[.int .i64 t364, .int .i64 t365] 26 (0, 0)) (by (with_reducible repeat (first | refine bN ?_ _ | refine bD ?_ | refine bA ?_ _)); exact BK366.out) hb)
                        have n2_ := aZ (blk_below (g := gb370) (o := .cells #[.int .i64 t368, .int .i64 t369] 26 (0, 0)) (by (with_reducible repeat (first | refine bN ?_ _ | refine bD ?_ | refine bA ?_ _)); exact BK370.out) hb)
                        have n3_ := aZ (blk_below (g := gb374) (o := .cells #[.int .i64 t372, .int .i64 t373] 26 (0, 0)) (by (with_reducible repeat (first | refine bN ?_ _ | refine bD ?_ | refine bA ?_ _)); exact BK374.out) hb)
                        have n4_ := aZ (blk_below (g := gb379) (o := .cells #[.int .i64 t377, .int .i64 t378] 26 (0, 0)) (by (with_reducible repeat (first | refine bN ?_ _ | refine bD ?_ | refine bA ?_ _)); exact BK379.out) hb)
                        have n5_ := aZ (lT (by repeat (first | (with_reducible first | exact HB.out | apply lA | apply lN | apply lD | refine lS ?_ GE366.out | refine lS ?_ GE370.out | refine lS ?_ GE374.out | refine lS ?_ GE379.out) | exact HB.out)) hb)
                        clear HO_9
                        clear BK366
                        clear BK370
                        clear BK374
                        clear BK379
                        clear HB
                        have HO_9 := n0_
                        have BK366 := n1_
                        have BK370 := n2_
                        have BK374 := n3_
                        have BK379 := n4_
                        have HB := n5_
                        clear n0_ n1_ n2_ n3_ n4_ n5_
                        (try clear hb)
                        (try clear hb2)
                        (try clear hk)
                        (try clear hi)
                        refine hK.out _ _ ⟨HS0_, HS1_⟩ (fun hHeld => ?_)
                        clear hK K
                        refine norm_ (a' := ?_) ?_ ?_
                        rotate_left
                        · show Act.put _ (some 105) _ = _
                          simp only [Act.put, List.setIfInBounds_toArray, List.set_cons_zero, List.set_cons_succ, i64_w, i32_w]
                          rfl
                        refine pure_ (i := 10) (N := some 95) (v := ?_) (a' := ?_) #[true, true, true, true, true, true, true, true, true, true, true, false, false, false, false, false] rfl rfl (any_of HT_.out (by kernel_rfl)) (fun _ _ _ h => h) (Or.inl ⟨by rfl, ?_⟩) ?_ ?_
                        rotate_left
                        · intro w'
                          go_simp
                          with_reducible rfl
                        rotate_left
                        · simp only [Act.put, List.setIfInBounds_toArray, List.set_cons_zero, List.set_cons_succ, i64_w, i32_w]
                          rfl
                        refine pure_ (i := 11) (N := some 106) (v := ?_) (a' := ?_) #[true, true, true, true, true, true, true, true, true, true, true, true, false, false, false, false] rfl rfl (any_of HT_.out (by kernel_rfl)) (fun _ _ _ h => h) (Or.inl ⟨by rfl, ?_⟩) ?_ ?_
                        rotate_left
                        · intro w'
                          go_simp
                          with_reducible rfl
                        rotate_left
                        · simp only [Act.put, List.setIfInBounds_toArray, List.set_cons_zero, List.set_cons_succ, i64_w, i32_w]
                          rfl
                        refine pure_ (i := 12) (N := some 107) (v := ?_) (a' := ?_) #[true, true, true, true, true, true, true, true, true, true, true, true, true, false, false, false] rfl rfl (any_of HT_.out (by kernel_rfl)) (fun _ _ _ h => h) (Or.inl ⟨by rfl, ?_⟩) ?_ ?_
                        rotate_left
                        · intro w'
                          go_simp
                          with_reducible rfl
                        rotate_left
                        · simp only [Act.put, List.setIfInBounds_toArray, List.set_cons_zero, List.set_cons_succ, i64_w, i32_w]
                          rfl
                        refine one_ (i := 13) (N := some 21) #[true, true, true, true, true, true, true, true, true, true, true, true, true, true, false, false] rfl rfl (one_of HT_.out (by kernel_rfl)) (by decide) (fun K hK => ?_)
                        refine box_step ?hg (N := 21) ?hd (cs := #[.int .i64 0, .int .i64 0]) (t := 26) ?hr ?_; (case hd => rfl); (case hg => rfl); (case hr => first | (go_simp; done) | (go_simp; rfl))
                        intro gb385 hg w71 hbox hb
                        have HS0_ := (hb.cell (World.block_lt_of_cell? _ _ (hHeld.1))).trans (hHeld.1)
                        have HS1_ := (hb.cell (World.block_lt_of_cell? _ _ (hHeld.2))).trans (hHeld.2)
                        have n0_ := aZ (Kd.R_below (by (with_reducible repeat (first | apply Kd.rA | apply Kd.rN | apply Kd.rD)); exact HO_9.out) hb)
                        have n1_ := aZ (blk_below (g := gb366) (o := .cells #[.int .i64 t364, .int .i64 t365] 26 (0, 0)) (by (with_reducible repeat (first | refine bN ?_ _ | refine bD ?_ | refine bA ?_ _)); exact BK366.out) hb)
                        have n2_ := aZ (blk_below (g := gb370) (o := .cells #[.int .i64 t368, .int .i64 t369] 26 (0, 0)) (by (with_reducible repeat (first | refine bN ?_ _ | refine bD ?_ | refine bA ?_ _)); exact BK370.out) hb)
                        have n3_ := aZ (blk_below (g := gb374) (o := .cells #[.int .i64 t372, .int .i64 t373] 26 (0, 0)) (by (with_reducible repeat (first | refine bN ?_ _ | refine bD ?_ | refine bA ?_ _)); exact BK374.out) hb)
                        have n4_ := aZ (blk_below (g := gb379) (o := .cells #[.int .i64 t377, .int .i64 t378] 26 (0, 0)) (by (with_reducible repeat (first | refine bN ?_ _ | refine bD ?_ | refine bA ?_ _)); exact BK379.out) hb)
                        have n5_ := aZ (lT (by repeat (first | (with_reducible first | exact HB.out | apply lA | apply lN | apply lD | refine lS ?_ GE366.out | refine lS ?_ GE370.out | refine lS ?_ GE374.out | refine lS ?_ GE379.out) | exact HB.out)) hb)
                        have n6_ := aZ (hbox)
                        have n7_ := aZ ((by rw [hg]; exact (lZ (by repeat (first | (with_reducible first | exact HB.out | apply lA | apply lN | apply lD | refine lS ?_ GE366.out | refine lS ?_ GE370.out | refine lS ?_ GE374.out | refine lS ?_ GE379.out) | exact HB.out))) : w.heap.size ≤ gb385))
                        have n8_ := aZ ((by rw [hg]; exact (lZ (by repeat (first | (with_reducible first | exact HB.out | apply lA | apply lN | apply lD | refine lS ?_ GE366.out | refine lS ?_ GE370.out | refine lS ?_ GE374.out | refine lS ?_ GE379.out) | exact HB.out))) : w.heap.size ≤ gb385))
                        have n9_ := aZ ((by rw [hg]; exact Nat.ne_of_lt (blk_lt (g := gb366) (o := .cells #[.int .i64 t364, .int .i64 t365] 26 (0, 0)) (by (with_reducible repeat (first | refine bN ?_ _ | refine bD ?_ | refine bA ?_ _)); exact BK366.out)) : gb366 ≠ gb385))
                        have n10_ := aZ ((by rw [hg]; exact Nat.ne_of_gt (blk_lt (g := gb366) (o := .cells #[.int .i64 t364, .int .i64 t365] 26 (0, 0)) (by (with_reducible repeat (first | refine bN ?_ _ | refine bD ?_ | refine bA ?_ _)); exact BK366.out)) : gb385 ≠ gb366))
                        have n11_ := aZ ((by rw [hg]; exact Nat.ne_of_lt (blk_lt (g := gb370) (o := .cells #[.int .i64 t368, .int .i64 t369] 26 (0, 0)) (by (with_reducible repeat (first | refine bN ?_ _ | refine bD ?_ | refine bA ?_ _)); exact BK370.out)) : gb370 ≠ gb385))
                        have n12_ := aZ ((by rw [hg]; exact Nat.ne_of_gt (blk_lt (g := gb370) (o := .cells #[.int .i64 t368, .int .i64 t369] 26 (0, 0)) (by (with_reducible repeat (first | refine bN ?_ _ | refine bD ?_ | refine bA ?_ _)); exact BK370.out)) : gb385 ≠ gb370))
                        have n13_ := aZ ((by rw [hg]; exact Nat.ne_of_lt (blk_lt (g := gb374) (o := .cells #[.int .i64 t372, .int .i64 t373] 26 (0, 0)) (by (with_reducible repeat (first | refine bN ?_ _ | refine bD ?_ | refine bA ?_ _)); exact BK374.out)) : gb374 ≠ gb385))
                        have n14_ := aZ ((by rw [hg]; exact Nat.ne_of_gt (blk_lt (g := gb374) (o := .cells #[.int .i64 t372, .int .i64 t373] 26 (0, 0)) (by (with_reducible repeat (first | refine bN ?_ _ | refine bD ?_ | refine bA ?_ _)); exact BK374.out)) : gb385 ≠ gb374))
                        have n15_ := aZ ((by rw [hg]; exact Nat.ne_of_lt (blk_lt (g := gb379) (o := .cells #[.int .i64 t377, .int .i64 t378] 26 (0, 0)) (by (with_reducible repeat (first | refine bN ?_ _ | refine bD ?_ | refine bA ?_ _)); exact BK379.out)) : gb379 ≠ gb385))
                        have n16_ := aZ ((by rw [hg]; exact Nat.ne_of_gt (blk_lt (g := gb379) (o := .cells #[.int .i64 t377, .int .i64 t378] 26 (0, 0)) (by (with_reducible repeat (first | refine bN ?_ _ | refine bD ?_ | refine bA ?_ _)); exact BK379.out)) : gb385 ≠ gb379))
                        clear HO_9
                        clear BK366
                        clear BK370
                        clear BK374
                        clear BK379
                        clear HB
                        have HO_9 := n0_
                        have BK366 := n1_
                        have BK370 := n2_
                        have BK374 := n3_
                        have BK379 := n4_
                        have HB := n5_
                        have BK385 := n6_
                        have GW385 := n7_
                        have GE385 := n8_
                        have NB366_385 := n9_
                        have NB385_366 := n10_
                        have NB370_385 := n11_
                        have NB385_370 := n12_
                        have NB374_385 := n13_
                        have NB385_374 := n14_
                        have NB379_385 := n15_
                        have NB385_379 := n16_
                        clear n0_ n1_ n2_ n3_ n4_ n5_ n6_ n7_ n8_ n9_ n10_ n11_ n12_ n13_ n14_ n15_ n16_
                        clear hb hbox hg
                        refine hK.out _ _ ⟨HS0_, HS1_⟩ (fun hHeld => ?_)
                        clear hK K
                        refine norm_ (a' := ?_) ?_ ?_
                        rotate_left
                        · show Act.put _ (some 21) _ = _
                          simp only [Act.put, List.setIfInBounds_toArray, List.set_cons_zero, List.set_cons_succ, i64_w, i32_w]
                          rfl
                        exact norm_ (by simp only [putAll, Act.put, List.setIfInBounds_toArray, List.set_cons_zero, List.set_cons_succ]) (hCont (gb385) _ ⟨hHeld, (by (with_reducible repeat (first | apply Kd.rA | apply Kd.rN | apply Kd.rD)); exact HO_9.out), (by (with_reducible repeat (first | refine bN ?_ _ | refine bD ?_ | refine bA ?_ _)); exact BK366.out), (by (with_reducible repeat (first | refine bN ?_ _ | refine bD ?_ | refine bA ?_ _)); exact BK370.out), (by (with_reducible repeat (first | refine bN ?_ _ | refine bD ?_ | refine bA ?_ _)); exact BK374.out), (by (with_reducible repeat (first | refine bN ?_ _ | refine bD ?_ | refine bA ?_ _)); exact BK379.out), (by (with_reducible repeat (first | refine bN ?_ _ | refine bD ?_ | refine bA ?_ _)); exact BK385.out), GW385.out, GE385.out, NB366_385.out, NB385_366.out, NB370_385.out, NB385_370.out, NB374_385.out, NB385_374.out, NB379_385.out, NB385_379.out, (by repeat (first | (with_reducible first | exact HB.out | apply lA | apply lN | apply lD | refine lS ?_ GE366.out | refine lS ?_ GE370.out | refine lS ?_ GE374.out | refine lS ?_ GE379.out | refine lS ?_ GE385.out) | exact HB.out))⟩)
                      · skip
                        refine box_step ?hg (N := 21) ?hd (cs := #[.int .i64 0, .int .i64 0]) (t := 26) ?hr ?_; (case hd => rfl); (case hg => rfl); (case hr => first | (go_simp; done) | (go_simp; rfl))
                        intro gb385 hg w70 hbox hb
                        have HS0_ := (hb.cell (World.block_lt_of_cell? _ _ (hHeld.1))).trans (hHeld.1)
                        have HS1_ := (hb.cell (World.block_lt_of_cell? _ _ (hHeld.2))).trans (hHeld.2)
                        have n0_ := aZ (Kd.R_below (by (with_reducible repeat (first | apply Kd.rA | apply Kd.rN | apply Kd.rD)); exact HO_9.out) hb)
                        have n1_ := aZ (blk_below (g := gb366) (o := .cells #[.int .i64 t364, .int .i64 t365] 26 (0, 0)) (by (with_reducible repeat (first | refine bN ?_ _ | refine bD ?_ | refine bA ?_ _)); exact BK366.out) hb)
                        have n2_ := aZ (blk_below (g := gb370) (o := .cells #[.int .i64 t368, .int .i64 t369] 26 (0, 0)) (by (with_reducible repeat (first | refine bN ?_ _ | refine bD ?_ | refine bA ?_ _)); exact BK370.out) hb)
                        have n3_ := aZ (blk_below (g := gb374) (o := .cells #[.int .i64 t372, .int .i64 t373] 26 (0, 0)) (by (with_reducible repeat (first | refine bN ?_ _ | refine bD ?_ | refine bA ?_ _)); exact BK374.out) hb)
                        have n4_ := aZ (blk_below (g := gb379) (o := .cells #[.int .i64 t377, .int .i64 t378] 26 (0, 0)) (by (with_reducible repeat (first | refine bN ?_ _ | refine bD ?_ | refine bA ?_ _)); exact BK379.out) hb)
                        have n5_ := aZ (lT (by repeat (first | (with_reducible first | exact HB.out | apply lA | apply lN | apply lD | refine lS ?_ GE366.out | refine lS ?_ GE370.out | refine lS ?_ GE374.out | refine lS ?_ GE379.out) | exact HB.out)) hb)
                        have n6_ := aZ (hbox)
                        have n7_ := aZ ((by rw [hg]; exact (lZ (by repeat (first | (with_reducible first | exact HB.out | apply lA | apply lN | apply lD | refine lS ?_ GE366.out | refine lS ?_ GE370.out | refine lS ?_ GE374.out | refine lS ?_ GE379.out) | exact HB.out))) : w.heap.size ≤ gb385))
                        have n8_ := aZ ((by rw [hg]; exact (lZ (by repeat (first | (with_reducible first | exact HB.out | apply lA | apply lN | apply lD | refine lS ?_ GE366.out | refine lS ?_ GE370.out | refine lS ?_ GE374.out | refine lS ?_ GE379.out) | exact HB.out))) : w.heap.size ≤ gb385))
                        have n9_ := aZ ((by rw [hg]; exact Nat.ne_of_lt (blk_lt (g := gb366) (o := .cells #[.int .i64 t364, .int .i64 t365] 26 (0, 0)) (by (with_reducible repeat (first | refine bN ?_ _ | refine bD ?_ | refine bA ?_ _)); exact BK366.out)) : gb366 ≠ gb385))
                        have n10_ := aZ ((by rw [hg]; exact Nat.ne_of_gt (blk_lt (g := gb366) (o := .cells #[.int .i64 t364, .int .i64 t365] 26 (0, 0)) (by (with_reducible repeat (first | refine bN ?_ _ | refine bD ?_ | refine bA ?_ _)); exact BK366.out)) : gb385 ≠ gb366))
                        have n11_ := aZ ((by rw [hg]; exact Nat.ne_of_lt (blk_lt (g := gb370) (o := .cells #[.int .i64 t368, .int .i64 t369] 26 (0, 0)) (by (with_reducible repeat (first | refine bN ?_ _ | refine bD ?_ | refine bA ?_ _)); exact BK370.out)) : gb370 ≠ gb385))
                        have n12_ := aZ ((by rw [hg]; exact Nat.ne_of_gt (blk_lt (g := gb370) (o := .cells #[.int .i64 t368, .int .i64 t369] 26 (0, 0)) (by (with_reducible repeat (first | refine bN ?_ _ | refine bD ?_ | refine bA ?_ _)); exact BK370.out)) : gb385 ≠ gb370))
                        have n13_ := aZ ((by rw [hg]; exact Nat.ne_of_lt (blk_lt (g := gb374) (o := .cells #[.int .i64 t372, .int .i64 t373] 26 (0, 0)) (by (with_reducible repeat (first | refine bN ?_ _ | refine bD ?_ | refine bA ?_ _)); exact BK374.out)) : gb374 ≠ gb385))
                        have n14_ := aZ ((by rw [hg]; exact Nat.ne_of_gt (blk_lt (g := gb374) (o := .cells #[.int .i64 t372, .int .i64 t373] 26 (0, 0)) (by (with_reducible repeat (first | refine bN ?_ _ | refine bD ?_ | refine bA ?_ _)); exact BK374.out)) : gb385 ≠ gb374))
                        have n15_ := aZ ((by rw [hg]; exact Nat.ne_of_lt (blk_lt (g := gb379) (o := .cells #[.int .i64 t377, .int .i64 t378] 26 (0, 0)) (by (with_reducible repeat (first | refine bN ?_ _ | refine bD ?_ | refine bA ?_ _)); exact BK379.out)) : gb379 ≠ gb385))
                        have n16_ := aZ ((by rw [hg]; exact Nat.ne_of_gt (blk_lt (g := gb379) (o := .cells #[.int .i64 t377, .int .i64 t378] 26 (0, 0)) (by (with_reducible repeat (first | refine bN ?_ _ | refine bD ?_ | refine bA ?_ _)); exact BK379.out)) : gb385 ≠ gb379))
                        clear HO_9
                        clear BK366
                        clear BK370
                        clear BK374
                        clear BK379
                        clear HB
                        have HO_9 := n0_
                        have BK366 := n1_
                        have BK370 := n2_
                        have BK374 := n3_
                        have BK379 := n4_
                        have HB := n5_
                        have BK385 := n6_
                        have GW385 := n7_
                        have GE385 := n8_
                        have NB366_385 := n9_
                        have NB385_366 := n10_
                        have NB370_385 := n11_
                        have NB385_370 := n12_
                        have NB374_385 := n13_
                        have NB385_374 := n14_
                        have NB379_385 := n15_
                        have NB385_379 := n16_
                        clear n0_ n1_ n2_ n3_ n4_ n5_ n6_ n7_ n8_ n9_ n10_ n11_ n12_ n13_ n14_ n15_ n16_
                        clear hb hbox hg
                        refine hK.out _ _ ⟨HS0_, HS1_⟩ (fun hHeld => ?_)
                        clear hK K
                        refine norm_ (a' := ?_) ?_ ?_
                        rotate_left
                        · show Act.put _ (some 21) _ = _
                          simp only [Act.put, List.setIfInBounds_toArray, List.set_cons_zero, List.set_cons_succ, i64_w, i32_w]
                          rfl
                        refine one_ (i := 9) (N := some 105) #[true, true, true, true, true, true, true, true, true, true, false, false, false, true, false, false] rfl rfl (one_of HT_.out (by kernel_rfl)) (by decide) (fun K hK => ?_)
                        refine goes_ Try.func16 (by kernel_rfl) rfl #[.slice A0 l0.length c0, .int .i64 (rd t361 x16_2), .int .i64 (rd t361 x19_4)] (by rfl) rfl rfl (by (try simp only [List.map_toArray, List.map_cons, List.map_nil]); first | done | rfl | (simp only [List.length_drop, List.length_take]; rfl)) ?_
                        with_reducible refine (mergebase_IsAncestor.calls k4 _ _ l0 (rd t361 x16_2) (rd t361 x19_4) t382 t383 t384 _ ?side1 ?side2 A66.out).mono ?_
                        (case side1 => repeat (first | exact (Kd.C_below HR0.out HB.out) | (with_reducible refine Kd.C_alloc ?_ _) | (with_reducible refine Kd.C_drewN ?_ _) | (with_reducible refine Kd.C_drew ?_)))
                        (case side2 => exact HC0.out)
                        rintro e w71 ⟨rfl, hb⟩
                        have HS0_ := (hb.cell (World.block_lt_of_cell? _ _ (hHeld.1))).trans (hHeld.1)
                        have HS1_ := (hb.cell (World.block_lt_of_cell? _ _ (hHeld.2))).trans (hHeld.2)
                        refine ⟨_, rfl, ?_⟩
                        have n0_ := aZ (Kd.R_below (by (with_reducible repeat (first | apply Kd.rA | apply Kd.rN | apply Kd.rD)); exact HO_9.out) hb)
                        have n1_ := aZ (blk_below (g := gb366) (o := .cells #[.int .i64 t364, .int .i64 t365] 26 (0, 0)) (by (with_reducible repeat (first | refine bN ?_ _ | refine bD ?_ | refine bA ?_ _)); exact BK366.out) hb)
                        have n2_ := aZ (blk_below (g := gb370) (o := .cells #[.int .i64 t368, .int .i64 t369] 26 (0, 0)) (by (with_reducible repeat (first | refine bN ?_ _ | refine bD ?_ | refine bA ?_ _)); exact BK370.out) hb)
                        have n3_ := aZ (blk_below (g := gb374) (o := .cells #[.int .i64 t372, .int .i64 t373] 26 (0, 0)) (by (with_reducible repeat (first | refine bN ?_ _ | refine bD ?_ | refine bA ?_ _)); exact BK374.out) hb)
                        have n4_ := aZ (blk_below (g := gb379) (o := .cells #[.int .i64 t377, .int .i64 t378] 26 (0, 0)) (by (with_reducible repeat (first | refine bN ?_ _ | refine bD ?_ | refine bA ?_ _)); exact BK379.out) hb)
                        have n5_ := aZ (blk_below (g := gb385) (o := .cells #[.int .i64 0, .int .i64 0] 26 (0, 0)) (by (with_reducible repeat (first | refine bN ?_ _ | refine bD ?_ | refine bA ?_ _)); exact BK385.out) hb)
                        have n6_ := aZ (lT (by repeat (first | (with_reducible first | exact HB.out | apply lA | apply lN | apply lD | refine lS ?_ GE366.out | refine lS ?_ GE370.out | refine lS ?_ GE374.out | refine lS ?_ GE379.out | refine lS ?_ GE385.out) | exact HB.out)) hb)
                        clear HO_9
                        clear BK366
                        clear BK370
                        clear BK374
                        clear BK379
                        clear BK385
                        clear HB
                        have HO_9 := n0_
                        have BK366 := n1_
                        have BK370 := n2_
                        have BK374 := n3_
                        have BK379 := n4_
                        have BK385 := n5_
                        have HB := n6_
                        clear n0_ n1_ n2_ n3_ n4_ n5_ n6_
                        (try clear hb)
                        (try clear hb2)
                        (try clear hk)
                        (try clear hi)
                        refine hK.out _ _ ⟨HS0_, HS1_⟩ (fun hHeld => ?_)
                        clear hK K
                        refine norm_ (a' := ?_) ?_ ?_
                        rotate_left
                        · show Act.put _ (some 105) _ = _
                          simp only [Act.put, List.setIfInBounds_toArray, List.set_cons_zero, List.set_cons_succ, i64_w, i32_w]
                          rfl
                        refine pure_ (i := 10) (N := some 95) (v := ?_) (a' := ?_) #[true, true, true, true, true, true, true, true, true, true, true, false, false, true, false, false] rfl rfl (any_of HT_.out (by kernel_rfl)) (fun _ _ _ h => h) (Or.inl ⟨by rfl, ?_⟩) ?_ ?_
                        rotate_left
                        · intro w'
                          go_simp
                          with_reducible rfl
                        rotate_left
                        · simp only [Act.put, List.setIfInBounds_toArray, List.set_cons_zero, List.set_cons_succ, i64_w, i32_w]
                          rfl
                        refine pure_ (i := 11) (N := some 106) (v := ?_) (a' := ?_) #[true, true, true, true, true, true, true, true, true, true, true, true, false, true, false, false] rfl rfl (any_of HT_.out (by kernel_rfl)) (fun _ _ _ h => h) (Or.inl ⟨by rfl, ?_⟩) ?_ ?_
                        rotate_left
                        · intro w'
                          go_simp
                          with_reducible rfl
                        rotate_left
                        · simp only [Act.put, List.setIfInBounds_toArray, List.set_cons_zero, List.set_cons_succ, i64_w, i32_w]
                          rfl
                        refine pure_ (i := 12) (N := some 107) (v := ?_) (a' := ?_) #[true, true, true, true, true, true, true, true, true, true, true, true, true, true, false, false] rfl rfl (any_of HT_.out (by kernel_rfl)) (fun _ _ _ h => h) (Or.inl ⟨by rfl, ?_⟩) ?_ ?_
                        rotate_left
                        · intro w'
                          go_simp
                          with_reducible rfl
                        rotate_left
                        · simp only [Act.put, List.setIfInBounds_toArray, List.set_cons_zero, List.set_cons_succ, i64_w, i32_w]
                          rfl
                        exact norm_ (by simp only [putAll, Act.put, List.setIfInBounds_toArray, List.set_cons_zero, List.set_cons_succ]) (hCont (gb385) _ ⟨hHeld, (by (with_reducible repeat (first | apply Kd.rA | apply Kd.rN | apply Kd.rD)); exact HO_9.out), (by (with_reducible repeat (first | refine bN ?_ _ | refine bD ?_ | refine bA ?_ _)); exact BK366.out), (by (with_reducible repeat (first | refine bN ?_ _ | refine bD ?_ | refine bA ?_ _)); exact BK370.out), (by (with_reducible repeat (first | refine bN ?_ _ | refine bD ?_ | refine bA ?_ _)); exact BK374.out), (by (with_reducible repeat (first | refine bN ?_ _ | refine bD ?_ | refine bA ?_ _)); exact BK379.out), (by (with_reducible repeat (first | refine bN ?_ _ | refine bD ?_ | refine bA ?_ _)); exact BK385.out), GW385.out, GE385.out, NB366_385.out, NB385_366.out, NB370_385.out, NB385_370.out, NB374_385.out, NB385_374.out, NB379_385.out, NB385_379.out, (by repeat (first | (with_reducible first | exact HB.out | apply lA | apply lN | apply lD | refine lS ?_ GE366.out | refine lS ?_ GE370.out | refine lS ?_ GE374.out | refine lS ?_ GE379.out | refine lS ?_ GE385.out) | exact HB.out))⟩)
                    rintro gb385 w72 ⟨hS_, h0_, h1_, h2_, h3_, h4_, h5_, h6_, h7_, h8_, h9_, h10_, h11_, h12_, h13_, h14_, h15_, h16_⟩
                    have n0_ : Aside0 (Kd.R (Kd.int .i64) 3 w72 w.heap.size (fun _ => True) (.slice (some ad375) t361.length co54) t361) := ⟨h0_⟩
                    have n1_ : Aside0 (w72.heap[gb366]? = some (.cells #[.int .i64 t364, .int .i64 t365] 26 (0, 0))) := ⟨h1_⟩
                    have n2_ : Aside0 (w72.heap[gb370]? = some (.cells #[.int .i64 t368, .int .i64 t369] 26 (0, 0))) := ⟨h2_⟩
                    have n3_ : Aside0 (w72.heap[gb374]? = some (.cells #[.int .i64 t372, .int .i64 t373] 26 (0, 0))) := ⟨h3_⟩
                    have n4_ : Aside0 (w72.heap[gb379]? = some (.cells #[.int .i64 t377, .int .i64 t378] 26 (0, 0))) := ⟨h4_⟩
                    have n5_ : Aside0 (w72.heap[gb385]? = some (.cells #[.int .i64 0, .int .i64 0] 26 (0, 0))) := ⟨h5_⟩
                    have n6_ : Aside0 (w.heap.size ≤ gb385) := ⟨h6_⟩
                    have n7_ : Aside0 (w.heap.size ≤ gb385) := ⟨h7_⟩
                    have n8_ : Aside0 (gb366 ≠ gb385) := ⟨h8_⟩
                    have n9_ : Aside0 (gb385 ≠ gb366) := ⟨h9_⟩
                    have n10_ : Aside0 (gb370 ≠ gb385) := ⟨h10_⟩
                    have n11_ : Aside0 (gb385 ≠ gb370) := ⟨h11_⟩
                    have n12_ : Aside0 (gb374 ≠ gb385) := ⟨h12_⟩
                    have n13_ : Aside0 (gb385 ≠ gb374) := ⟨h13_⟩
                    have n14_ : Aside0 (gb379 ≠ gb385) := ⟨h14_⟩
                    have n15_ : Aside0 (gb385 ≠ gb379) := ⟨h15_⟩
                    have n16_ : Aside0 (Below w.heap.size w w72) := ⟨h16_⟩
                    clear HO_9
                    clear BK366
                    clear BK370
                    clear BK374
                    clear BK379
                    clear HB
                    clear h0_ h1_ h2_ h3_ h4_ h5_ h6_ h7_ h8_ h9_ h10_ h11_ h12_ h13_ h14_ h15_ h16_
                    have HO_9 := n0_
                    have BK366 := n1_
                    have BK370 := n2_
                    have BK374 := n3_
                    have BK379 := n4_
                    have BK385 := n5_
                    have GW385 := n6_
                    have GE385 := n7_
                    have NB366_385 := n8_
                    have NB385_366 := n9_
                    have NB370_385 := n10_
                    have NB385_370 := n11_
                    have NB374_385 := n12_
                    have NB385_374 := n13_
                    have NB379_385 := n14_
                    have NB385_379 := n15_
                    have HB := n16_
                    clear n0_ n1_ n2_ n3_ n4_ n5_ n6_ n7_ n8_ n9_ n10_ n11_ n12_ n13_ n14_ n15_ n16_
                    have hHeld : w72.cell? (ad375.add (x16_2).toNat) = some (.int .i64 (rd t361 x16_2)) ∧ w72.cell? (ad375.add (x19_4).toNat) = some (.int .i64 (rd t361 x19_4)) := hS_
                    refine norm_ (a' := ?_) ?_ ?_
                    rotate_left
                    · simp only [putAll, Act.put, List.setIfInBounds_toArray, List.set_cons_zero, List.set_cons_succ]
                      rfl
                    refine pure_ (i := 14) (N := some 20) (v := ?_) (a' := ?_) #[true, true, true, true, true, true, true, true, true, true, true, true, true, true, true, false] rfl rfl (any_of HT_.out (by kernel_rfl)) (fun _ _ _ h => h) (Or.inl ⟨by rfl, ?_⟩) ?_ ?_
                    rotate_left
                    · intro w'
                      go_simp
                      with_reducible rfl
                    rotate_left
                    · simp only [Act.put, List.setIfInBounds_toArray, List.set_cons_zero, List.set_cons_succ, i64_w, i32_w]
                      rfl
                    refine one_ (i := 15) (N := none) #[true, true, true, true, true, true, true, true, true, true, true, true, true, true, true, true] rfl rfl (one_of HT_.out (by kernel_rfl)) (by decide) (fun K hK => ?_)
                    have hs73 : w72.cell? ⟨gb385, 0, none⟩ = some (.int .i64 0) := (blk_cell BK385.out 0).trans rfl
                    have hfs73 := blk_frozen BK385.out 0
                    have hns73_0 := NB366_385.out
                    have hns73_1 := NB370_385.out
                    have hns73_2 := NB374_385.out
                    have hns73_3 := NB379_385.out
                    have hms73_0 := NB385_366.out
                    have hms73_1 := NB385_370.out
                    have hms73_2 := NB385_374.out
                    have hms73_3 := NB385_379.out
                    have hs74 : w72.cell? ⟨gb385, 1, none⟩ = some (.int .i64 0) := (blk_cell BK385.out 1).trans rfl
                    have hfs74 := blk_frozen BK385.out 1
                    have hns74_0 := NB366_385.out
                    have hns74_1 := NB370_385.out
                    have hns74_2 := NB374_385.out
                    have hns74_3 := NB379_385.out
                    have hms74_0 := NB385_366.out
                    have hms74_1 := NB385_370.out
                    have hms74_2 := NB385_374.out
                    have hms74_3 := NB385_379.out
                    refine skip_ (w1 := ?_) (by rfl) rfl ?_ ?_
                    rotate_left
                    · go_simp
                      rfl
                    refine hK.out _ _ ⟨((cell_far (p := ⟨gb385, _, none⟩) (by first | exact Kd.own_blk (Kd.R_ne HO_9.out BK385.out (by decide)) | (rw [add_block]; exact Kd.own_blk (Kd.R_ne HO_9.out BK385.out (by decide))) | (show (Addr.add _ _).block ≠ _; rw [add_block]; exact Kd.own_blk (Kd.R_ne HO_9.out BK385.out (by decide))) | (dsimp only; exact Kd.own_blk (Kd.R_ne HO_9.out BK385.out (by decide)))) _).trans (((cell_far (p := ⟨gb385, _, none⟩) (by first | exact Kd.own_blk (Kd.R_ne HO_9.out BK385.out (by decide)) | (rw [add_block]; exact Kd.own_blk (Kd.R_ne HO_9.out BK385.out (by decide))) | (show (Addr.add _ _).block ≠ _; rw [add_block]; exact Kd.own_blk (Kd.R_ne HO_9.out BK385.out (by decide))) | (dsimp only; exact Kd.own_blk (Kd.R_ne HO_9.out BK385.out (by decide)))) _).trans (hHeld.1)))), ((cell_far (p := ⟨gb385, _, none⟩) (by first | exact Kd.own_blk (Kd.R_ne HO_9.out BK385.out (by decide)) | (rw [add_block]; exact Kd.own_blk (Kd.R_ne HO_9.out BK385.out (by decide))) | (show (Addr.add _ _).block ≠ _; rw [add_block]; exact Kd.own_blk (Kd.R_ne HO_9.out BK385.out (by decide))) | (dsimp only; exact Kd.own_blk (Kd.R_ne HO_9.out BK385.out (by decide)))) _).trans (((cell_far (p := ⟨gb385, _, none⟩) (by first | exact Kd.own_blk (Kd.R_ne HO_9.out BK385.out (by decide)) | (rw [add_block]; exact Kd.own_blk (Kd.R_ne HO_9.out BK385.out (by decide))) | (show (Addr.add _ _).block ≠ _; rw [add_block]; exact Kd.own_blk (Kd.R_ne HO_9.out BK385.out (by decide))) | (dsimp only; exact Kd.own_blk (Kd.R_ne HO_9.out BK385.out (by decide)))) _).trans (hHeld.2))))⟩ (fun hHeld => ?_)
                    clear hK K
                    refine done_ (done_of HT_.out (by kernel_rfl)) ?_
                    have hnb75 := NB385_366.out
                    have hnc75 := NB366_385.out
                    have hnb76 := NB385_370.out
                    have hnc76 := NB370_385.out
                    have hnb77 := NB385_374.out
                    have hnc77 := NB374_385.out
                    have hnb78 := NB385_379.out
                    have hnc78 := NB379_385.out
                    have hcz79_0 : w72.cell? ⟨gb385, 0, none⟩ = some (.int .i64 0) := (blk_cell BK385.out 0).trans rfl
                    have hcz79_1 : w72.cell? ⟨gb385, 1, none⟩ = some (.int .i64 0) := (blk_cell BK385.out 1).trans rfl
                    have hfz79_0 := blk_frozen BK385.out 0
                    have hfz79_1 := blk_frozen BK385.out 1
                    try go_wp2
                    go_ret
                    exact ⟨by first | rfl | (simp [errW_none, errW_some] <;> rfl) | (simp [*, errW_none, errW_some] <;> rfl), by repeat (first | (with_reducible first | exact HB.out | apply lA | apply lN | apply lD | refine lS ?_ GE366.out | refine lS ?_ GE370.out | refine lS ?_ GE374.out | refine lS ?_ GE379.out | refine lS ?_ GE385.out) | exact HB.out)⟩
                  rw [if_neg c68] at H
                  have c68b0 : (t382 != (x16_2 == x19_4)) = false := by simpa using c68
                  (try (have c68b1 : decide (t382 = (x16_2 == x19_4)) = true := by simpa using c68))
                  (try (have c68b2 : (t382 == (x16_2 == x19_4)) = true := by simpa using c68))
                  clear c68
                  have H' := aZ H
                  clear H
                  try go_wp2
                  have n0_ := aZ (Kd.rD HO_9.out)
                  have n1_ := aZ (bD BK366.out)
                  have n2_ := aZ (bD BK370.out)
                  have n3_ := aZ (bD BK374.out)
                  have n4_ := aZ (bD BK379.out)
                  have n5_ := aZ (lD HB.out)
                  clear HO_9
                  clear BK366
                  clear BK370
                  clear BK374
                  clear BK379
                  clear HB
                  have HO_9 := n0_
                  have BK366 := n1_
                  have BK370 := n2_
                  have BK374 := n3_
                  have BK379 := n4_
                  have HB := n5_
                  clear n0_ n1_ n2_ n3_ n4_ n5_
                  have p380 : 0 ≤ (x16_2 : Int) := of_decide_eq_true (by first | (with_reducible assumption) | assumption)
                  have q380 : x16_2 < (t361.length : Int) := of_decide_eq_true (by first | (with_reducible assumption) | assumption)
                  obtain ⟨ad380, e380, hx380_0⟩ := Kd.at_int (Kd.R_reads' HO_9.out).2.2 x16_2 p380 q380
                  obtain rfl : ad375 = ad380 := (by injection e380)
                  replace p380 := eq_true p380
                  replace q380 := eq_true q380
                  have p381 : 0 ≤ (x19_4 : Int) := of_decide_eq_true (by first | (with_reducible assumption) | assumption)
                  have q381 : x19_4 < (t361.length : Int) := of_decide_eq_true (by first | (with_reducible assumption) | assumption)
                  obtain ⟨ad381, e381, hx381_0⟩ := Kd.at_int (Kd.R_reads' HO_9.out).2.2 x19_4 p381 q381
                  obtain rfl : ad375 = ad381 := (by injection e381)
                  replace p381 := eq_true p381
                  replace q381 := eq_true q381
                  refine start_ (n := 16) (S := fun w' => w'.cell? (ad375.add (x16_2).toNat) = some (.int .i64 (rd t361 x16_2)) ∧ w'.cell? (ad375.add (x19_4).toNat) = some (.int .i64 (rd t361 x19_4))) (ds := []) #[false, false, false, false, false, false, false, false, false, false, false, false, false, false, false, false] (by kernel_rfl) rfl rfl ⟨hx380_0, hx381_0⟩ (fun hHeld => ?_); refine with_tabW changeforgelaw3_MergebaseCoversCommon.tab19 changeforgelaw3_MergebaseCoversCommon.bits19 (fun HT_ HW_ => ?_)
                  generalize wr.drew = w80 at HO_9 BK366 BK370 BK374 BK379 HB hx380_0 hx381_0 hHeld ⊢
                  refine pure_ (i := 0) (N := some 96) (v := ?_) (a' := ?_) #[true, false, false, false, false, false, false, false, false, false, false, false, false, false, false, false] rfl rfl (any_of HT_.out (by kernel_rfl)) (fun _ _ _ h => h) (Or.inl ⟨by rfl, ?_⟩) ?_ ?_
                  rotate_left
                  · intro w'
                    go_simp
                    with_reducible rfl
                  rotate_left
                  · simp only [Act.put, List.setIfInBounds_toArray, List.set_cons_zero, List.set_cons_succ, i64_w, i32_w]
                    rfl
                  refine pure_ (i := 1) (N := some 97) (v := ?_) (a' := ?_) #[true, true, false, false, false, false, false, false, false, false, false, false, false, false, false, false] rfl rfl (any_of HT_.out (by kernel_rfl)) (fun _ _ _ h => h) (Or.inl ⟨by rfl, ?_⟩) ?_ ?_
                  rotate_left
                  · intro w'
                    go_simp
                    with_reducible rfl
                  rotate_left
                  · simp only [Act.put, List.setIfInBounds_toArray, List.set_cons_zero, List.set_cons_succ, i64_w, i32_w]
                    rfl
                  refine pure_ (i := 2) (N := some 98) (v := ?_) (a' := ?_) #[true, true, true, false, false, false, false, false, false, false, false, false, false, false, false, false] rfl rfl (any_of HT_.out (by kernel_rfl)) (fun _ _ _ h => h) (Or.inl ⟨by rfl, ?_⟩) ?_ ?_
                  rotate_left
                  · intro w'
                    go_simp
                    with_reducible rfl
                  rotate_left
                  · simp only [Act.put, List.setIfInBounds_toArray, List.set_cons_zero, List.set_cons_succ, i64_w, i32_w]
                    rfl
                  refine pure_ (i := 3) (N := some 99) (v := ?_) (a' := ?_) #[true, true, true, true, false, false, false, false, false, false, false, false, false, false, false, false] rfl rfl (any_of HT_.out (by kernel_rfl)) (fun _ _ _ h => h) (Or.inl ⟨by rfl, ?_⟩) ?_ ?_
                  rotate_left
                  · intro w'
                    go_simp
                    with_reducible rfl
                  rotate_left
                  · simp only [Act.put, List.setIfInBounds_toArray, List.set_cons_zero, List.set_cons_succ, i64_w, i32_w]
                    rfl
                  refine pure_ (i := 5) (N := some 101) (v := ?_) (a' := ?_) #[true, true, true, true, false, true, false, false, false, false, false, false, false, false, false, false] rfl rfl (any_of HT_.out (by kernel_rfl)) (fun _ _ _ h => h) (Or.inl ⟨by rfl, ?_⟩) ?_ ?_
                  rotate_left
                  · intro w'
                    go_simp
                    with_reducible rfl
                  rotate_left
                  · simp only [Act.put, List.setIfInBounds_toArray, List.set_cons_zero, List.set_cons_succ, i64_w, i32_w]
                    rfl
                  refine pure_ (i := 6) (N := some 102) (v := ?_) (a' := ?_) #[true, true, true, true, false, true, true, false, false, false, false, false, false, false, false, false] rfl rfl (any_of HT_.out (by kernel_rfl)) (fun _ _ _ h => h) (Or.inl ⟨by rfl, ?_⟩) ?_ ?_
                  rotate_left
                  · intro w'
                    go_simp
                    with_reducible rfl
                  rotate_left
                  · simp only [Act.put, List.setIfInBounds_toArray, List.set_cons_zero, List.set_cons_succ, i64_w, i32_w]
                    rfl
                  refine pure_ (i := 7) (N := some 103) (v := ?_) (a' := ?_) #[true, true, true, true, false, true, true, true, false, false, false, false, false, false, false, false] rfl rfl (any_of HT_.out (by kernel_rfl)) (fun _ _ _ h => h) (Or.inl ⟨by rfl, ?_⟩) ?_ ?_
                  rotate_left
                  · intro w'
                    go_simp
                    with_reducible rfl
                  rotate_left
                  · simp only [Act.put, List.setIfInBounds_toArray, List.set_cons_zero, List.set_cons_succ, i64_w, i32_w]
                    rfl
                  refine take_ (i := 4) (N := some 100) (v := ?_) (a' := ?_) #[true, true, true, true, true, true, true, true, false, false, false, false, false, false, false, false] rfl rfl (take_ofW HT_.out HW_.out (by kernel_rfl)) (fun _ _ _ h => h) (Or.inl ⟨by rfl, ?_⟩) hHeld ?_ ?_
                  rotate_left
                  · rintro w' ⟨s0, s1⟩
                    go_simp
                    with_reducible rfl
                  rotate_left
                  · simp only [Act.put, List.setIfInBounds_toArray, List.set_cons_zero, List.set_cons_succ, i64_w, i32_w]
                    rfl
                  refine take_ (i := 8) (N := some 104) (v := ?_) (a' := ?_) #[true, true, true, true, true, true, true, true, true, false, false, false, false, false, false, false] rfl rfl (take_ofW HT_.out HW_.out (by kernel_rfl)) (fun _ _ _ h => h) (Or.inl ⟨by rfl, ?_⟩) hHeld ?_ ?_
                  rotate_left
                  · rintro w' ⟨s0, s1⟩
                    go_simp
                    with_reducible rfl
                  rotate_left
                  · simp only [Act.put, List.setIfInBounds_toArray, List.set_cons_zero, List.set_cons_succ, i64_w, i32_w]
                    rfl
                  refine join_ (σ := Nat) 2 #[true, true, true, true, true, true, true, true, true, true, true, true, true, true, false, false] (fun s_ => [(105, .tuple #[.bool t382, .agg #[.int .i64 t383, .int .i64 t384]]), (21, .pointer (some ⟨s_, 0, none⟩)), (95, .tuple #[.bool t382, .agg #[.int .i64 t383, .int .i64 t384]]), (106, .bool t382), (107, .agg #[.int .i64 t383, .int .i64 t384])]) (fun s_ w' => (w'.cell? (ad375.add (x16_2).toNat) = some (.int .i64 (rd t361 x16_2)) ∧ w'.cell? (ad375.add (x19_4).toNat) = some (.int .i64 (rd t361 x19_4))) ∧ (Kd.R (Kd.int .i64) 3 w' w.heap.size (fun _ => True) (.slice (some ad375) t361.length co54) t361) ∧ (w'.heap[gb366]? = some (.cells #[.int .i64 t364, .int .i64 t365] 26 (0, 0))) ∧ (w'.heap[gb370]? = some (.cells #[.int .i64 t368, .int .i64 t369] 26 (0, 0))) ∧ (w'.heap[gb374]? = some (.cells #[.int .i64 t372, .int .i64 t373] 26 (0, 0))) ∧ (w'.heap[gb379]? = some (.cells #[.int .i64 t377, .int .i64 t378] 26 (0, 0))) ∧ (w'.heap[s_]? = some (.cells #[.int .i64 0, .int .i64 0] 26 (0, 0))) ∧ (w.heap.size ≤ s_) ∧ (w.heap.size ≤ s_) ∧ (gb366 ≠ s_) ∧ (s_ ≠ gb366) ∧ (gb370 ≠ s_) ∧ (s_ ≠ gb370) ∧ (gb374 ≠ s_) ∧ (s_ ≠ gb374) ∧ (gb379 ≠ s_) ∧ (s_ ≠ gb379) ∧ (Below w.heap.size w w')) ?_ ?_
                  rotate_left
                  · intro hCont
                    refine two_ (i := 9) (j := 13) (Ni := some 105) (Nj := some 21) #[true, true, true, true, true, true, true, true, true, true, false, false, false, false, false, false] #[true, true, true, true, true, true, true, true, true, false, false, false, false, true, false, false] rfl rfl rfl rfl (two_of HT_.out (by kernel_rfl)) (by decide) (by decide) (fun K hK => ?_) (fun K hK => ?_)
                    · skip
                      refine goes_ Try.func16 (by kernel_rfl) rfl #[.slice A0 l0.length c0, .int .i64 (rd t361 x16_2), .int .i64 (rd t361 x19_4)] (by rfl) rfl rfl (by (try simp only [List.map_toArray, List.map_cons, List.map_nil]); first | done | rfl | (simp only [List.length_drop, List.length_take]; rfl)) ?_
                      with_reducible refine (mergebase_IsAncestor.calls k4 _ _ l0 (rd t361 x16_2) (rd t361 x19_4) t382 t383 t384 _ ?side1 ?side2 A66.out).mono ?_
                      (case side1 => repeat (first | exact (Kd.C_below HR0.out HB.out) | (with_reducible refine Kd.C_alloc ?_ _) | (with_reducible refine Kd.C_drewN ?_ _) | (with_reducible refine Kd.C_drew ?_)))
                      (case side2 => exact HC0.out)
                      rintro e w81 ⟨rfl, hb⟩
                      have HS0_ := (hb.cell (World.block_lt_of_cell? _ _ (hHeld.1))).trans (hHeld.1)
                      have HS1_ := (hb.cell (World.block_lt_of_cell? _ _ (hHeld.2))).trans (hHeld.2)
                      refine ⟨_, rfl, ?_⟩
                      have n0_ := aZ (Kd.R_below (by (with_reducible repeat (first | apply Kd.rA | apply Kd.rN | apply Kd.rD)); exact HO_9.out) hb)
                      have n1_ := aZ (blk_below (g := gb366) (o := .cells #[.int .i64 t364, .int .i64 t365] 26 (0, 0)) (by (with_reducible repeat (first | refine bN ?_ _ | refine bD ?_ | refine bA ?_ _)); exact BK366.out) hb)
                      have n2_ := aZ (blk_below (g := gb370) (o := .cells #[.int .i64 t368, .int .i64 t369] 26 (0, 0)) (by (with_reducible repeat (first | refine bN ?_ _ | refine bD ?_ | refine bA ?_ _)); exact BK370.out) hb)
                      have n3_ := aZ (blk_below (g := gb374) (o := .cells #[.int .i64 t372, .int .i64 t373] 26 (0, 0)) (by (with_reducible repeat (first | refine bN ?_ _ | refine bD ?_ | refine bA ?_ _)); exact BK374.out) hb)
                      have n4_ := aZ (blk_below (g := gb379) (o := .cells #[.int .i64 t377, .int .i64 t378] 26 (0, 0)) (by (with_reducible repeat (first | refine bN ?_ _ | refine bD ?_ | refine bA ?_ _)); exact BK379.out) hb)
                      have n5_ := aZ (lT (by repeat (first | (with_reducible first | exact HB.out | apply lA | apply lN | apply lD | refine lS ?_ GE366.out | refine lS ?_ GE370.out | refine lS ?_ GE374.out | refine lS ?_ GE379.out) | exact HB.out)) hb)
                      clear HO_9
                      clear BK366
                      clear BK370
                      clear BK374
                      clear BK379
                      clear HB
                      have HO_9 := n0_
                      have BK366 := n1_
                      have BK370 := n2_
                      have BK374 := n3_
                      have BK379 := n4_
                      have HB := n5_
                      clear n0_ n1_ n2_ n3_ n4_ n5_
                      (try clear hb)
                      (try clear hb2)
                      (try clear hk)
                      (try clear hi)
                      refine hK.out _ _ ⟨HS0_, HS1_⟩ (fun hHeld => ?_)
                      clear hK K
                      refine norm_ (a' := ?_) ?_ ?_
                      rotate_left
                      · show Act.put _ (some 105) _ = _
                        simp only [Act.put, List.setIfInBounds_toArray, List.set_cons_zero, List.set_cons_succ, i64_w, i32_w]
                        rfl
                      refine pure_ (i := 10) (N := some 95) (v := ?_) (a' := ?_) #[true, true, true, true, true, true, true, true, true, true, true, false, false, false, false, false] rfl rfl (any_of HT_.out (by kernel_rfl)) (fun _ _ _ h => h) (Or.inl ⟨by rfl, ?_⟩) ?_ ?_
                      rotate_left
                      · intro w'
                        go_simp
                        with_reducible rfl
                      rotate_left
                      · simp only [Act.put, List.setIfInBounds_toArray, List.set_cons_zero, List.set_cons_succ, i64_w, i32_w]
                        rfl
                      refine pure_ (i := 11) (N := some 106) (v := ?_) (a' := ?_) #[true, true, true, true, true, true, true, true, true, true, true, true, false, false, false, false] rfl rfl (any_of HT_.out (by kernel_rfl)) (fun _ _ _ h => h) (Or.inl ⟨by rfl, ?_⟩) ?_ ?_
                      rotate_left
                      · intro w'
                        go_simp
                        with_reducible rfl
                      rotate_left
                      · simp only [Act.put, List.setIfInBounds_toArray, List.set_cons_zero, List.set_cons_succ, i64_w, i32_w]
                        rfl
                      refine pure_ (i := 12) (N := some 107) (v := ?_) (a' := ?_) #[true, true, true, true, true, true, true, true, true, true, true, true, true, false, false, false] rfl rfl (any_of HT_.out (by kernel_rfl)) (fun _ _ _ h => h) (Or.inl ⟨by rfl, ?_⟩) ?_ ?_
                      rotate_left
                      · intro w'
                        go_simp
                        with_reducible rfl
                      rotate_left
                      · simp only [Act.put, List.setIfInBounds_toArray, List.set_cons_zero, List.set_cons_succ, i64_w, i32_w]
                        rfl
                      refine one_ (i := 13) (N := some 21) #[true, true, true, true, true, true, true, true, true, true, true, true, true, true, false, false] rfl rfl (one_of HT_.out (by kernel_rfl)) (by decide) (fun K hK => ?_)
                      refine box_step ?hg (N := 21) ?hd (cs := #[.int .i64 0, .int .i64 0]) (t := 26) ?hr ?_; (case hd => rfl); (case hg => rfl); (case hr => first | (go_simp; done) | (go_simp; rfl))
                      intro gb385 hg w82 hbox hb
                      have HS0_ := (hb.cell (World.block_lt_of_cell? _ _ (hHeld.1))).trans (hHeld.1)
                      have HS1_ := (hb.cell (World.block_lt_of_cell? _ _ (hHeld.2))).trans (hHeld.2)
                      have n0_ := aZ (Kd.R_below (by (with_reducible repeat (first | apply Kd.rA | apply Kd.rN | apply Kd.rD)); exact HO_9.out) hb)
                      have n1_ := aZ (blk_below (g := gb366) (o := .cells #[.int .i64 t364, .int .i64 t365] 26 (0, 0)) (by (with_reducible repeat (first | refine bN ?_ _ | refine bD ?_ | refine bA ?_ _)); exact BK366.out) hb)
                      have n2_ := aZ (blk_below (g := gb370) (o := .cells #[.int .i64 t368, .int .i64 t369] 26 (0, 0)) (by (with_reducible repeat (first | refine bN ?_ _ | refine bD ?_ | refine bA ?_ _)); exact BK370.out) hb)
                      have n3_ := aZ (blk_below (g := gb374) (o := .cells #[.int .i64 t372, .int .i64 t373] 26 (0, 0)) (by (with_reducible repeat (first | refine bN ?_ _ | refine bD ?_ | refine bA ?_ _)); exact BK374.out) hb)
                      have n4_ := aZ (blk_below (g := gb379) (o := .cells #[.int .i64 t377, .int .i64 t378] 26 (0, 0)) (by (with_reducible repeat (first | refine bN ?_ _ | refine bD ?_ | refine bA ?_ _)); exact BK379.out) hb)
                      have n5_ := aZ (lT (by repeat (first | (with_reducible first | exact HB.out | apply lA | apply lN | apply lD | refine lS ?_ GE366.out | refine lS ?_ GE370.out | refine lS ?_ GE374.out | refine lS ?_ GE379.out) | exact HB.out)) hb)
                      have n6_ := aZ (hbox)
                      have n7_ := aZ ((by rw [hg]; exact (lZ (by repeat (first | (with_reducible first | exact HB.out | apply lA | apply lN | apply lD | refine lS ?_ GE366.out | refine lS ?_ GE370.out | refine lS ?_ GE374.out | refine lS ?_ GE379.out) | exact HB.out))) : w.heap.size ≤ gb385))
                      have n8_ := aZ ((by rw [hg]; exact (lZ (by repeat (first | (with_reducible first | exact HB.out | apply lA | apply lN | apply lD | refine lS ?_ GE366.out | refine lS ?_ GE370.out | refine lS ?_ GE374.out | refine lS ?_ GE379.out) | exact HB.out))) : w.heap.size ≤ gb385))
                      have n9_ := aZ ((by rw [hg]; exact Nat.ne_of_lt (blk_lt (g := gb366) (o := .cells #[.int .i64 t364, .int .i64 t365] 26 (0, 0)) (by (with_reducible repeat (first | refine bN ?_ _ | refine bD ?_ | refine bA ?_ _)); exact BK366.out)) : gb366 ≠ gb385))
                      have n10_ := aZ ((by rw [hg]; exact Nat.ne_of_gt (blk_lt (g := gb366) (o := .cells #[.int .i64 t364, .int .i64 t365] 26 (0, 0)) (by (with_reducible repeat (first | refine bN ?_ _ | refine bD ?_ | refine bA ?_ _)); exact BK366.out)) : gb385 ≠ gb366))
                      have n11_ := aZ ((by rw [hg]; exact Nat.ne_of_lt (blk_lt (g := gb370) (o := .cells #[.int .i64 t368, .int .i64 t369] 26 (0, 0)) (by (with_reducible repeat (first | refine bN ?_ _ | refine bD ?_ | refine bA ?_ _)); exact BK370.out)) : gb370 ≠ gb385))
                      have n12_ := aZ ((by rw [hg]; exact Nat.ne_of_gt (blk_lt (g := gb370) (o := .cells #[.int .i64 t368, .int .i64 t369] 26 (0, 0)) (by (with_reducible repeat (first | refine bN ?_ _ | refine bD ?_ | refine bA ?_ _)); exact BK370.out)) : gb385 ≠ gb370))
                      have n13_ := aZ ((by rw [hg]; exact Nat.ne_of_lt (blk_lt (g := gb374) (o := .cells #[.int .i64 t372, .int .i64 t373] 26 (0, 0)) (by (with_reducible repeat (first | refine bN ?_ _ | refine bD ?_ | refine bA ?_ _)); exact BK374.out)) : gb374 ≠ gb385))
                      have n14_ := aZ ((by rw [hg]; exact Nat.ne_of_gt (blk_lt (g := gb374) (o := .cells #[.int .i64 t372, .int .i64 t373] 26 (0, 0)) (by (with_reducible repeat (first | refine bN ?_ _ | refine bD ?_ | refine bA ?_ _)); exact BK374.out)) : gb385 ≠ gb374))
                      have n15_ := aZ ((by rw [hg]; exact Nat.ne_of_lt (blk_lt (g := gb379) (o := .cells #[.int .i64 t377, .int .i64 t378] 26 (0, 0)) (by (with_reducible repeat (first | refine bN ?_ _ | refine bD ?_ | refine bA ?_ _)); exact BK379.out)) : gb379 ≠ gb385))
                      have n16_ := aZ ((by rw [hg]; exact Nat.ne_of_gt (blk_lt (g := gb379) (o := .cells #[.int .i64 t377, .int .i64 t378] 26 (0, 0)) (by (with_reducible repeat (first | refine bN ?_ _ | refine bD ?_ | refine bA ?_ _)); exact BK379.out)) : gb385 ≠ gb379))
                      clear HO_9
                      clear BK366
                      clear BK370
                      clear BK374
                      clear BK379
                      clear HB
                      have HO_9 := n0_
                      have BK366 := n1_
                      have BK370 := n2_
                      have BK374 := n3_
                      have BK379 := n4_
                      have HB := n5_
                      have BK385 := n6_
                      have GW385 := n7_
                      have GE385 := n8_
                      have NB366_385 := n9_
                      have NB385_366 := n10_
                      have NB370_385 := n11_
                      have NB385_370 := n12_
                      have NB374_385 := n13_
                      have NB385_374 := n14_
                      have NB379_385 := n15_
                      have NB385_379 := n16_
                      clear n0_ n1_ n2_ n3_ n4_ n5_ n6_ n7_ n8_ n9_ n10_ n11_ n12_ n13_ n14_ n15_ n16_
                      clear hb hbox hg
                      refine hK.out _ _ ⟨HS0_, HS1_⟩ (fun hHeld => ?_)
                      clear hK K
                      refine norm_ (a' := ?_) ?_ ?_
                      rotate_left
                      · show Act.put _ (some 21) _ = _
                        simp only [Act.put, List.setIfInBounds_toArray, List.set_cons_zero, List.set_cons_succ, i64_w, i32_w]
                        rfl
                      exact norm_ (by simp only [putAll, Act.put, List.setIfInBounds_toArray, List.set_cons_zero, List.set_cons_succ]) (hCont (gb385) _ ⟨hHeld, (by (with_reducible repeat (first | apply Kd.rA | apply Kd.rN | apply Kd.rD)); exact HO_9.out), (by (with_reducible repeat (first | refine bN ?_ _ | refine bD ?_ | refine bA ?_ _)); exact BK366.out), (by (with_reducible repeat (first | refine bN ?_ _ | refine bD ?_ | refine bA ?_ _)); exact BK370.out), (by (with_reducible repeat (first | refine bN ?_ _ | refine bD ?_ | refine bA ?_ _)); exact BK374.out), (by (with_reducible repeat (first | refine bN ?_ _ | refine bD ?_ | refine bA ?_ _)); exact BK379.out), (by (with_reducible repeat (first | refine bN ?_ _ | refine bD ?_ | refine bA ?_ _)); exact BK385.out), GW385.out, GE385.out, NB366_385.out, NB385_366.out, NB370_385.out, NB385_370.out, NB374_385.out, NB385_374.out, NB379_385.out, NB385_379.out, (by repeat (first | (with_reducible first | exact HB.out | apply lA | apply lN | apply lD | refine lS ?_ GE366.out | refine lS ?_ GE370.out | refine lS ?_ GE374.out | refine lS ?_ GE379.out | refine lS ?_ GE385.out) | exact HB.out))⟩)
                    · skip
                      refine box_step ?hg (N := 21) ?hd (cs := #[.int .i64 0, .int .i64 0]) (t := 26) ?hr ?_; (case hd => rfl); (case hg => rfl); (case hr => first | (go_simp; done) | (go_simp; rfl))
                      intro gb385 hg w81 hbox hb
                      have HS0_ := (hb.cell (World.block_lt_of_cell? _ _ (hHeld.1))).trans (hHeld.1)
                      have HS1_ := (hb.cell (World.block_lt_of_cell? _ _ (hHeld.2))).trans (hHeld.2)
                      have n0_ := aZ (Kd.R_below (by (with_reducible repeat (first | apply Kd.rA | apply Kd.rN | apply Kd.rD)); exact HO_9.out) hb)
                      have n1_ := aZ (blk_below (g := gb366) (o := .cells #[.int .i64 t364, .int .i64 t365] 26 (0, 0)) (by (with_reducible repeat (first | refine bN ?_ _ | refine bD ?_ | refine bA ?_ _)); exact BK366.out) hb)
                      have n2_ := aZ (blk_below (g := gb370) (o := .cells #[.int .i64 t368, .int .i64 t369] 26 (0, 0)) (by (with_reducible repeat (first | refine bN ?_ _ | refine bD ?_ | refine bA ?_ _)); exact BK370.out) hb)
                      have n3_ := aZ (blk_below (g := gb374) (o := .cells #[.int .i64 t372, .int .i64 t373] 26 (0, 0)) (by (with_reducible repeat (first | refine bN ?_ _ | refine bD ?_ | refine bA ?_ _)); exact BK374.out) hb)
                      have n4_ := aZ (blk_below (g := gb379) (o := .cells #[.int .i64 t377, .int .i64 t378] 26 (0, 0)) (by (with_reducible repeat (first | refine bN ?_ _ | refine bD ?_ | refine bA ?_ _)); exact BK379.out) hb)
                      have n5_ := aZ (lT (by repeat (first | (with_reducible first | exact HB.out | apply lA | apply lN | apply lD | refine lS ?_ GE366.out | refine lS ?_ GE370.out | refine lS ?_ GE374.out | refine lS ?_ GE379.out) | exact HB.out)) hb)
                      have n6_ := aZ (hbox)
                      have n7_ := aZ ((by rw [hg]; exact (lZ (by repeat (first | (with_reducible first | exact HB.out | apply lA | apply lN | apply lD | refine lS ?_ GE366.out | refine lS ?_ GE370.out | refine lS ?_ GE374.out | refine lS ?_ GE379.out) | exact HB.out))) : w.heap.size ≤ gb385))
                      have n8_ := aZ ((by rw [hg]; exact (lZ (by repeat (first | (with_reducible first | exact HB.out | apply lA | apply lN | apply lD | refine lS ?_ GE366.out | refine lS ?_ GE370.out | refine lS ?_ GE374.out | refine lS ?_ GE379.out) | exact HB.out))) : w.heap.size ≤ gb385))
                      have n9_ := aZ ((by rw [hg]; exact Nat.ne_of_lt (blk_lt (g := gb366) (o := .cells #[.int .i64 t364, .int .i64 t365] 26 (0, 0)) (by (with_reducible repeat (first | refine bN ?_ _ | refine bD ?_ | refine bA ?_ _)); exact BK366.out)) : gb366 ≠ gb385))
                      have n10_ := aZ ((by rw [hg]; exact Nat.ne_of_gt (blk_lt (g := gb366) (o := .cells #[.int .i64 t364, .int .i64 t365] 26 (0, 0)) (by (with_reducible repeat (first | refine bN ?_ _ | refine bD ?_ | refine bA ?_ _)); exact BK366.out)) : gb385 ≠ gb366))
                      have n11_ := aZ ((by rw [hg]; exact Nat.ne_of_lt (blk_lt (g := gb370) (o := .cells #[.int .i64 t368, .int .i64 t369] 26 (0, 0)) (by (with_reducible repeat (first | refine bN ?_ _ | refine bD ?_ | refine bA ?_ _)); exact BK370.out)) : gb370 ≠ gb385))
                      have n12_ := aZ ((by rw [hg]; exact Nat.ne_of_gt (blk_lt (g := gb370) (o := .cells #[.int .i64 t368, .int .i64 t369] 26 (0, 0)) (by (with_reducible repeat (first | refine bN ?_ _ | refine bD ?_ | refine bA ?_ _)); exact BK370.out)) : gb385 ≠ gb370))
                      have n13_ := aZ ((by rw [hg]; exact Nat.ne_of_lt (blk_lt (g := gb374) (o := .cells #[.int .i64 t372, .int .i64 t373] 26 (0, 0)) (by (with_reducible repeat (first | refine bN ?_ _ | refine bD ?_ | refine bA ?_ _)); exact BK374.out)) : gb374 ≠ gb385))
                      have n14_ := aZ ((by rw [hg]; exact Nat.ne_of_gt (blk_lt (g := gb374) (o := .cells #[.int .i64 t372, .int .i64 t373] 26 (0, 0)) (by (with_reducible repeat (first | refine bN ?_ _ | refine bD ?_ | refine bA ?_ _)); exact BK374.out)) : gb385 ≠ gb374))
                      have n15_ := aZ ((by rw [hg]; exact Nat.ne_of_lt (blk_lt (g := gb379) (o := .cells #[.int .i64 t377, .int .i64 t378] 26 (0, 0)) (by (with_reducible repeat (first | refine bN ?_ _ | refine bD ?_ | refine bA ?_ _)); exact BK379.out)) : gb379 ≠ gb385))
                      have n16_ := aZ ((by rw [hg]; exact Nat.ne_of_gt (blk_lt (g := gb379) (o := .cells #[.int .i64 t377, .int .i64 t378] 26 (0, 0)) (by (with_reducible repeat (first | refine bN ?_ _ | refine bD ?_ | refine bA ?_ _)); exact BK379.out)) : gb385 ≠ gb379))
                      clear HO_9
                      clear BK366
                      clear BK370
                      clear BK374
                      clear BK379
                      clear HB
                      have HO_9 := n0_
                      have BK366 := n1_
                      have BK370 := n2_
                      have BK374 := n3_
                      have BK379 := n4_
                      have HB := n5_
                      have BK385 := n6_
                      have GW385 := n7_
                      have GE385 := n8_
                      have NB366_385 := n9_
                      have NB385_366 := n10_
                      have NB370_385 := n11_
                      have NB385_370 := n12_
                      have NB374_385 := n13_
                      have NB385_374 := n14_
                      have NB379_385 := n15_
                      have NB385_379 := n16_
                      clear n0_ n1_ n2_ n3_ n4_ n5_ n6_ n7_ n8_ n9_ n10_ n11_ n12_ n13_ n14_ n15_ n16_
                      clear hb hbox hg
                      refine hK.out _ _ ⟨HS0_, HS1_⟩ (fun hHeld => ?_)
                      clear hK K
                      refine norm_ (a' := ?_) ?_ ?_
                      rotate_left
                      · show Act.put _ (some 21) _ = _
                        simp only [Act.put, List.setIfInBounds_toArray, List.set_cons_zero, List.set_cons_succ, i64_w, i32_w]
                        rfl
                      refine one_ (i := 9) (N := some 105) #[true, true, true, true, true, true, true, true, true, true, false, false, false, true, false, false] rfl rfl (one_of HT_.out (by kernel_rfl)) (by decide) (fun K hK => ?_)
                      refine goes_ Try.func16 (by kernel_rfl) rfl #[.slice A0 l0.length c0, .int .i64 (rd t361 x16_2), .int .i64 (rd t361 x19_4)] (by rfl) rfl rfl (by (try simp only [List.map_toArray, List.map_cons, List.map_nil]); first | done | rfl | (simp only [List.length_drop, List.length_take]; rfl)) ?_
                      with_reducible refine (mergebase_IsAncestor.calls k4 _ _ l0 (rd t361 x16_2) (rd t361 x19_4) t382 t383 t384 _ ?side1 ?side2 A66.out).mono ?_
                      (case side1 => repeat (first | exact (Kd.C_below HR0.out HB.out) | (with_reducible refine Kd.C_alloc ?_ _) | (with_reducible refine Kd.C_drewN ?_ _) | (with_reducible refine Kd.C_drew ?_)))
                      (case side2 => exact HC0.out)
                      rintro e w82 ⟨rfl, hb⟩
                      have HS0_ := (hb.cell (World.block_lt_of_cell? _ _ (hHeld.1))).trans (hHeld.1)
                      have HS1_ := (hb.cell (World.block_lt_of_cell? _ _ (hHeld.2))).trans (hHeld.2)
                      refine ⟨_, rfl, ?_⟩
                      have n0_ := aZ (Kd.R_below (by (with_reducible repeat (first | apply Kd.rA | apply Kd.rN | apply Kd.rD)); exact HO_9.out) hb)
                      have n1_ := aZ (blk_below (g := gb366) (o := .cells #[.int .i64 t364, .int .i64 t365] 26 (0, 0)) (by (with_reducible repeat (first | refine bN ?_ _ | refine bD ?_ | refine bA ?_ _)); exact BK366.out) hb)
                      have n2_ := aZ (blk_below (g := gb370) (o := .cells #[.int .i64 t368, .int .i64 t369] 26 (0, 0)) (by (with_reducible repeat (first | refine bN ?_ _ | refine bD ?_ | refine bA ?_ _)); exact BK370.out) hb)
                      have n3_ := aZ (blk_below (g := gb374) (o := .cells #[.int .i64 t372, .int .i64 t373] 26 (0, 0)) (by (with_reducible repeat (first | refine bN ?_ _ | refine bD ?_ | refine bA ?_ _)); exact BK374.out) hb)
                      have n4_ := aZ (blk_below (g := gb379) (o := .cells #[.int .i64 t377, .int .i64 t378] 26 (0, 0)) (by (with_reducible repeat (first | refine bN ?_ _ | refine bD ?_ | refine bA ?_ _)); exact BK379.out) hb)
                      have n5_ := aZ (blk_below (g := gb385) (o := .cells #[.int .i64 0, .int .i64 0] 26 (0, 0)) (by (with_reducible repeat (first | refine bN ?_ _ | refine bD ?_ | refine bA ?_ _)); exact BK385.out) hb)
                      have n6_ := aZ (lT (by repeat (first | (with_reducible first | exact HB.out | apply lA | apply lN | apply lD | refine lS ?_ GE366.out | refine lS ?_ GE370.out | refine lS ?_ GE374.out | refine lS ?_ GE379.out | refine lS ?_ GE385.out) | exact HB.out)) hb)
                      clear HO_9
                      clear BK366
                      clear BK370
                      clear BK374
                      clear BK379
                      clear BK385
                      clear HB
                      have HO_9 := n0_
                      have BK366 := n1_
                      have BK370 := n2_
                      have BK374 := n3_
                      have BK379 := n4_
                      have BK385 := n5_
                      have HB := n6_
                      clear n0_ n1_ n2_ n3_ n4_ n5_ n6_
                      (try clear hb)
                      (try clear hb2)
                      (try clear hk)
                      (try clear hi)
                      refine hK.out _ _ ⟨HS0_, HS1_⟩ (fun hHeld => ?_)
                      clear hK K
                      refine norm_ (a' := ?_) ?_ ?_
                      rotate_left
                      · show Act.put _ (some 105) _ = _
                        simp only [Act.put, List.setIfInBounds_toArray, List.set_cons_zero, List.set_cons_succ, i64_w, i32_w]
                        rfl
                      refine pure_ (i := 10) (N := some 95) (v := ?_) (a' := ?_) #[true, true, true, true, true, true, true, true, true, true, true, false, false, true, false, false] rfl rfl (any_of HT_.out (by kernel_rfl)) (fun _ _ _ h => h) (Or.inl ⟨by rfl, ?_⟩) ?_ ?_
                      rotate_left
                      · intro w'
                        go_simp
                        with_reducible rfl
                      rotate_left
                      · simp only [Act.put, List.setIfInBounds_toArray, List.set_cons_zero, List.set_cons_succ, i64_w, i32_w]
                        rfl
                      refine pure_ (i := 11) (N := some 106) (v := ?_) (a' := ?_) #[true, true, true, true, true, true, true, true, true, true, true, true, false, true, false, false] rfl rfl (any_of HT_.out (by kernel_rfl)) (fun _ _ _ h => h) (Or.inl ⟨by rfl, ?_⟩) ?_ ?_
                      rotate_left
                      · intro w'
                        go_simp
                        with_reducible rfl
                      rotate_left
                      · simp only [Act.put, List.setIfInBounds_toArray, List.set_cons_zero, List.set_cons_succ, i64_w, i32_w]
                        rfl
                      refine pure_ (i := 12) (N := some 107) (v := ?_) (a' := ?_) #[true, true, true, true, true, true, true, true, true, true, true, true, true, true, false, false] rfl rfl (any_of HT_.out (by kernel_rfl)) (fun _ _ _ h => h) (Or.inl ⟨by rfl, ?_⟩) ?_ ?_
                      rotate_left
                      · intro w'
                        go_simp
                        with_reducible rfl
                      rotate_left
                      · simp only [Act.put, List.setIfInBounds_toArray, List.set_cons_zero, List.set_cons_succ, i64_w, i32_w]
                        rfl
                      exact norm_ (by simp only [putAll, Act.put, List.setIfInBounds_toArray, List.set_cons_zero, List.set_cons_succ]) (hCont (gb385) _ ⟨hHeld, (by (with_reducible repeat (first | apply Kd.rA | apply Kd.rN | apply Kd.rD)); exact HO_9.out), (by (with_reducible repeat (first | refine bN ?_ _ | refine bD ?_ | refine bA ?_ _)); exact BK366.out), (by (with_reducible repeat (first | refine bN ?_ _ | refine bD ?_ | refine bA ?_ _)); exact BK370.out), (by (with_reducible repeat (first | refine bN ?_ _ | refine bD ?_ | refine bA ?_ _)); exact BK374.out), (by (with_reducible repeat (first | refine bN ?_ _ | refine bD ?_ | refine bA ?_ _)); exact BK379.out), (by (with_reducible repeat (first | refine bN ?_ _ | refine bD ?_ | refine bA ?_ _)); exact BK385.out), GW385.out, GE385.out, NB366_385.out, NB385_366.out, NB370_385.out, NB385_370.out, NB374_385.out, NB385_374.out, NB379_385.out, NB385_379.out, (by repeat (first | (with_reducible first | exact HB.out | apply lA | apply lN | apply lD | refine lS ?_ GE366.out | refine lS ?_ GE370.out | refine lS ?_ GE374.out | refine lS ?_ GE379.out | refine lS ?_ GE385.out) | exact HB.out))⟩)
                  rintro gb385 w83 ⟨hS_, h0_, h1_, h2_, h3_, h4_, h5_, h6_, h7_, h8_, h9_, h10_, h11_, h12_, h13_, h14_, h15_, h16_⟩
                  have n0_ : Aside0 (Kd.R (Kd.int .i64) 3 w83 w.heap.size (fun _ => True) (.slice (some ad375) t361.length co54) t361) := ⟨h0_⟩
                  have n1_ : Aside0 (w83.heap[gb366]? = some (.cells #[.int .i64 t364, .int .i64 t365] 26 (0, 0))) := ⟨h1_⟩
                  have n2_ : Aside0 (w83.heap[gb370]? = some (.cells #[.int .i64 t368, .int .i64 t369] 26 (0, 0))) := ⟨h2_⟩
                  have n3_ : Aside0 (w83.heap[gb374]? = some (.cells #[.int .i64 t372, .int .i64 t373] 26 (0, 0))) := ⟨h3_⟩
                  have n4_ : Aside0 (w83.heap[gb379]? = some (.cells #[.int .i64 t377, .int .i64 t378] 26 (0, 0))) := ⟨h4_⟩
                  have n5_ : Aside0 (w83.heap[gb385]? = some (.cells #[.int .i64 0, .int .i64 0] 26 (0, 0))) := ⟨h5_⟩
                  have n6_ : Aside0 (w.heap.size ≤ gb385) := ⟨h6_⟩
                  have n7_ : Aside0 (w.heap.size ≤ gb385) := ⟨h7_⟩
                  have n8_ : Aside0 (gb366 ≠ gb385) := ⟨h8_⟩
                  have n9_ : Aside0 (gb385 ≠ gb366) := ⟨h9_⟩
                  have n10_ : Aside0 (gb370 ≠ gb385) := ⟨h10_⟩
                  have n11_ : Aside0 (gb385 ≠ gb370) := ⟨h11_⟩
                  have n12_ : Aside0 (gb374 ≠ gb385) := ⟨h12_⟩
                  have n13_ : Aside0 (gb385 ≠ gb374) := ⟨h13_⟩
                  have n14_ : Aside0 (gb379 ≠ gb385) := ⟨h14_⟩
                  have n15_ : Aside0 (gb385 ≠ gb379) := ⟨h15_⟩
                  have n16_ : Aside0 (Below w.heap.size w w83) := ⟨h16_⟩
                  clear HO_9
                  clear BK366
                  clear BK370
                  clear BK374
                  clear BK379
                  clear HB
                  clear h0_ h1_ h2_ h3_ h4_ h5_ h6_ h7_ h8_ h9_ h10_ h11_ h12_ h13_ h14_ h15_ h16_
                  have HO_9 := n0_
                  have BK366 := n1_
                  have BK370 := n2_
                  have BK374 := n3_
                  have BK379 := n4_
                  have BK385 := n5_
                  have GW385 := n6_
                  have GE385 := n7_
                  have NB366_385 := n8_
                  have NB385_366 := n9_
                  have NB370_385 := n10_
                  have NB385_370 := n11_
                  have NB374_385 := n12_
                  have NB385_374 := n13_
                  have NB379_385 := n14_
                  have NB385_379 := n15_
                  have HB := n16_
                  clear n0_ n1_ n2_ n3_ n4_ n5_ n6_ n7_ n8_ n9_ n10_ n11_ n12_ n13_ n14_ n15_ n16_
                  have hHeld : w83.cell? (ad375.add (x16_2).toNat) = some (.int .i64 (rd t361 x16_2)) ∧ w83.cell? (ad375.add (x19_4).toNat) = some (.int .i64 (rd t361 x19_4)) := hS_
                  refine norm_ (a' := ?_) ?_ ?_
                  rotate_left
                  · simp only [putAll, Act.put, List.setIfInBounds_toArray, List.set_cons_zero, List.set_cons_succ]
                    rfl
                  refine pure_ (i := 14) (N := some 20) (v := ?_) (a' := ?_) #[true, true, true, true, true, true, true, true, true, true, true, true, true, true, true, false] rfl rfl (any_of HT_.out (by kernel_rfl)) (fun _ _ _ h => h) (Or.inl ⟨by rfl, ?_⟩) ?_ ?_
                  rotate_left
                  · intro w'
                    go_simp
                    with_reducible rfl
                  rotate_left
                  · simp only [Act.put, List.setIfInBounds_toArray, List.set_cons_zero, List.set_cons_succ, i64_w, i32_w]
                    rfl
                  refine one_ (i := 15) (N := none) #[true, true, true, true, true, true, true, true, true, true, true, true, true, true, true, true] rfl rfl (one_of HT_.out (by kernel_rfl)) (by decide) (fun K hK => ?_)
                  have hs84 : w83.cell? ⟨gb385, 0, none⟩ = some (.int .i64 0) := (blk_cell BK385.out 0).trans rfl
                  have hfs84 := blk_frozen BK385.out 0
                  have hns84_0 := NB366_385.out
                  have hns84_1 := NB370_385.out
                  have hns84_2 := NB374_385.out
                  have hns84_3 := NB379_385.out
                  have hms84_0 := NB385_366.out
                  have hms84_1 := NB385_370.out
                  have hms84_2 := NB385_374.out
                  have hms84_3 := NB385_379.out
                  have hs85 : w83.cell? ⟨gb385, 1, none⟩ = some (.int .i64 0) := (blk_cell BK385.out 1).trans rfl
                  have hfs85 := blk_frozen BK385.out 1
                  have hns85_0 := NB366_385.out
                  have hns85_1 := NB370_385.out
                  have hns85_2 := NB374_385.out
                  have hns85_3 := NB379_385.out
                  have hms85_0 := NB385_366.out
                  have hms85_1 := NB385_370.out
                  have hms85_2 := NB385_374.out
                  have hms85_3 := NB385_379.out
                  refine skip_ (w1 := ?_) (by rfl) rfl ?_ ?_
                  rotate_left
                  · go_simp
                    rfl
                  refine hK.out _ _ ⟨((cell_far (p := ⟨gb385, _, none⟩) (by first | exact Kd.own_blk (Kd.R_ne HO_9.out BK385.out (by decide)) | (rw [add_block]; exact Kd.own_blk (Kd.R_ne HO_9.out BK385.out (by decide))) | (show (Addr.add _ _).block ≠ _; rw [add_block]; exact Kd.own_blk (Kd.R_ne HO_9.out BK385.out (by decide))) | (dsimp only; exact Kd.own_blk (Kd.R_ne HO_9.out BK385.out (by decide)))) _).trans (((cell_far (p := ⟨gb385, _, none⟩) (by first | exact Kd.own_blk (Kd.R_ne HO_9.out BK385.out (by decide)) | (rw [add_block]; exact Kd.own_blk (Kd.R_ne HO_9.out BK385.out (by decide))) | (show (Addr.add _ _).block ≠ _; rw [add_block]; exact Kd.own_blk (Kd.R_ne HO_9.out BK385.out (by decide))) | (dsimp only; exact Kd.own_blk (Kd.R_ne HO_9.out BK385.out (by decide)))) _).trans (hHeld.1)))), ((cell_far (p := ⟨gb385, _, none⟩) (by first | exact Kd.own_blk (Kd.R_ne HO_9.out BK385.out (by decide)) | (rw [add_block]; exact Kd.own_blk (Kd.R_ne HO_9.out BK385.out (by decide))) | (show (Addr.add _ _).block ≠ _; rw [add_block]; exact Kd.own_blk (Kd.R_ne HO_9.out BK385.out (by decide))) | (dsimp only; exact Kd.own_blk (Kd.R_ne HO_9.out BK385.out (by decide)))) _).trans (((cell_far (p := ⟨gb385, _, none⟩) (by first | exact Kd.own_blk (Kd.R_ne HO_9.out BK385.out (by decide)) | (rw [add_block]; exact Kd.own_blk (Kd.R_ne HO_9.out BK385.out (by decide))) | (show (Addr.add _ _).block ≠ _; rw [add_block]; exact Kd.own_blk (Kd.R_ne HO_9.out BK385.out (by decide))) | (dsimp only; exact Kd.own_blk (Kd.R_ne HO_9.out BK385.out (by decide)))) _).trans (hHeld.2))))⟩ (fun hHeld => ?_)
                  clear hK K
                  refine done_ (done_of HT_.out (by kernel_rfl)) ?_
                  have hnb86 := NB385_366.out
                  have hnc86 := NB366_385.out
                  have hnb87 := NB385_370.out
                  have hnc87 := NB370_385.out
                  have hnb88 := NB385_374.out
                  have hnc88 := NB374_385.out
                  have hnb89 := NB385_379.out
                  have hnc89 := NB379_385.out
                  have hcz90_0 : w83.cell? ⟨gb385, 0, none⟩ = some (.int .i64 0) := (blk_cell BK385.out 0).trans rfl
                  have hcz90_1 : w83.cell? ⟨gb385, 1, none⟩ = some (.int .i64 0) := (blk_cell BK385.out 1).trans rfl
                  have hfz90_0 := blk_frozen BK385.out 0
                  have hfz90_1 := blk_frozen BK385.out 1
                  try go_wp2
                  go_roundg k4
                  case measure => have := HJ9.out; have := HK2.out; have := HJ52.out; have := HK4.out; omega
                  case rel => exact ⟨(wrap64 (x19_4 + 1)), (by first | rfl | (simp; done) | (simp [*]; done)), H', ⟨by have := HJ9.out; have := HK2.out; have := HJ52.out; have := HK4.out; omega⟩, ⟨by (with_reducible repeat (first | apply Kd.rA | apply Kd.rN | apply Kd.rD)); exact Kd.R_mono (Kd.R_far (p := ⟨gb385, 1, none⟩) (Kd.R_far (p := ⟨gb385, 0, none⟩) (Kd.R_types HO_9.out BK385.out (by decide)) (fun _ hk => hk.2) (.int .i64 t383)) (fun _ hk => hk.2) (.int .i64 t384)) (fun _ hk => trivial)⟩, ⟨by (with_reducible repeat (first | refine bN ?_ _ | refine bD ?_ | refine bA ?_ _)); refine blk_far ?_ NB366_385.out _; (with_reducible repeat (first | refine bN ?_ _ | refine bD ?_ | refine bA ?_ _)); refine blk_far ?_ NB366_385.out _; (with_reducible repeat (first | refine bN ?_ _ | refine bD ?_ | refine bA ?_ _)); exact BK366.out⟩, ⟨by (with_reducible repeat (first | refine bN ?_ _ | refine bD ?_ | refine bA ?_ _)); refine blk_far ?_ NB370_385.out _; (with_reducible repeat (first | refine bN ?_ _ | refine bD ?_ | refine bA ?_ _)); refine blk_far ?_ NB370_385.out _; (with_reducible repeat (first | refine bN ?_ _ | refine bD ?_ | refine bA ?_ _)); exact BK370.out⟩, ⟨by (with_reducible repeat (first | refine bN ?_ _ | refine bD ?_ | refine bA ?_ _)); refine blk_far ?_ NB374_385.out _; (with_reducible repeat (first | refine bN ?_ _ | refine bD ?_ | refine bA ?_ _)); refine blk_far ?_ NB374_385.out _; (with_reducible repeat (first | refine bN ?_ _ | refine bD ?_ | refine bA ?_ _)); exact BK374.out⟩, ⟨by (with_reducible repeat (first | refine bN ?_ _ | refine bD ?_ | refine bA ?_ _)); refine blk_far ?_ NB379_385.out _; (with_reducible repeat (first | refine bN ?_ _ | refine bD ?_ | refine bA ?_ _)); refine blk_far ?_ NB379_385.out _; (with_reducible repeat (first | refine bN ?_ _ | refine bD ?_ | refine bA ?_ _)); exact BK379.out⟩, ⟨by repeat (first | (with_reducible first | exact HB.out | apply lA | apply lN | apply lD | refine lS ?_ GE366.out | refine lS ?_ GE370.out | refine lS ?_ GE374.out | refine lS ?_ GE379.out | refine lS ?_ GE385.out) | exact HB.out)⟩⟩
/-- THE PURE STATEMENT of changeforgelaw3_MergebaseCoversCommon. -/
def changeforgelaw3_MergebaseCoversCommon.Pure : Prop := ∀ (l0 : List (S49)) (a1 : Int) (a2 : Int) (a3 : Int), (l0.length * 64 ≤ 140737488351232 ∧ ∀ x_ ∈ l0, S49.ok x_) → (Lit.int .i64 a1).wf = true → (Lit.int .i64 a2).wf = true → (Lit.int .i64 a3).wf = true → ∃ k, changeforgelaw3_MergebaseCoversCommon.f k l0 a1 a2 a3 = some true

end Go.Proofs.Ytojhnjgnpjoacaa.P
