/- What the Go functions of this seat compute, and that they do: printed by a program over the kit's print. -/
import Derived.Test.YtnmkmamobhkcbaaP0
import Derived.Test.YtnmkmamobhkcbaaP1
import Derived.Test.YtnmkmamobhkcbaaP13
import Derived.Test.YtnmkmamobhkcbaaP14
import Derived.Test.YtnmkmamobhkcbaaP15
import Derived.Test.YtnmkmamobhkcbaaP22
import Derived.Test.YtnmkmamobhkcbaaP23
namespace Go.Proofs.Ytnmkmamobhkcbaa.P
open Go.RowKit Go.Proofs.YtnmkmamobhkcbaaW.PrintWords Go.Proofs.YtnmkmamobhkcbaaW.PrintLast Go.Proofs.YtnmkmamobhkcbaaW.PrintMore
attribute [local go_sem] max2_int min2_int max_two min_two max_three min_three max_four min_four   -- for this text's walks alone
set_option linter.unusedVariables false
set_option linter.unusedSimpArgs false

attribute [local go_sem high] eqA28
/-! ### changeforgelaw3_PackBuildMatchesSpec: function 3 -/
def changeforgelaw3_PackBuildMatchesSpec.j0 : Nat → List Int → Bool → List (S46) → Int → Int → Int → Int → Option (Bool)
  | 0, _, _, _, _, _, _, _ => none
  | k + 1, x3, x23, x260000, x267000, x267001, x270000, x270001 => if x23 = true then ((changeforgeref3_Fault.f 10 (-1)).bind fun bt273 => (if bt273.1 = 0 then (if x267000 = 0 then ((changeforgeref3_PackBytes.f k x260000).bind fun t275 => (some ((strOfNums x3).toList == (strOfNums t275).toList))) else (some false)) else (if (x267000 == bt273.1 && (x267001 == bt273.2)) = true then (some ((x3.length : Int) == 0)) else (some false)))) else (if x270000 = 0 then (if x267000 = 0 then ((changeforgeref3_PackBytes.f k x260000).bind fun t278 => (some ((strOfNums x3).toList == (strOfNums t278).toList))) else (some false)) else (if (x267000 == x270000 && (x267001 == x270001)) = true then (some ((x3.length : Int) == 0)) else (some false)))
def changeforgelaw3_PackBuildMatchesSpec.f (k : Nat) (l0_0 : List (S46)) : Option (Bool) := (changeforgelaw3_packExample.f k).bind fun t260 => (if t260 = true then ((pack_Build.f k l0_0).bind fun bt261 => ((changeforgeref3_StoreFault.f k l0_0).bind fun bt267 => (if bt267.1 = 0 then ((changeforgeref3_PackBytes.f k l0_0).bind fun t270 => (changeforgelaw3_PackBuildMatchesSpec.j0 k bt261.1 (decide ((t270.length : Int) > 4096)) l0_0 bt261.2.1 bt261.2.2 bt267.1 bt267.2)) else (changeforgelaw3_PackBuildMatchesSpec.j0 k bt261.1 false l0_0 bt261.2.1 bt261.2.2 bt267.1 bt267.2)))) else (some false))
theorem changeforgelaw3_PackBuildMatchesSpec.mono_l : ∀ k, (∀ y0 y1 y2 y3 y4 y5 y6, LeO (changeforgelaw3_PackBuildMatchesSpec.j0 k y0 y1 y2 y3 y4 y5 y6) (changeforgelaw3_PackBuildMatchesSpec.j0 (k + 1) y0 y1 y2 y3 y4 y5 y6))
  | 0 => fun _ _ _ _ _ _ _ r h => by simp [changeforgelaw3_PackBuildMatchesSpec.j0] at h
  | k + 1 => by
    have ih0 := changeforgelaw3_PackBuildMatchesSpec.mono_l k
    · intro y0 y1 y2 y3 y4 y5 y6
      unfold changeforgelaw3_PackBuildMatchesSpec.j0
      repeat' first
      | (with_reducible exact ih0 _ _ _ _ _ _ _)
      | (with_reducible exact changeforgelaw3_packExample.mono _)
      | (with_reducible exact changeforgeref3_PackBytes.mono _ _)
      | (with_reducible exact changeforgeref3_StoreFault.mono _ _)
      | (with_reducible exact pack_Build.mono _ _)
      | (with_reducible exact LeO.refl _)
      | (with_reducible exact LeO.none _)
      | (with_reducible refine LeO.ite ?_ ?_)
      | (with_reducible refine LeO.bind ?_ (fun _ => ?_))
      | exact ih0 _ _ _ _ _ _ _
      | exact changeforgelaw3_packExample.mono _
      | exact changeforgeref3_PackBytes.mono _ _
      | exact changeforgeref3_StoreFault.mono _ _
      | exact pack_Build.mono _ _
      | exact LeO.none _
      | refine LeO.ite ?_ ?_
      | refine LeO.bind ?_ (fun _ => ?_)
theorem changeforgelaw3_PackBuildMatchesSpec.mono : ∀ a0 k, LeO (changeforgelaw3_PackBuildMatchesSpec.f k a0) (changeforgelaw3_PackBuildMatchesSpec.f (k + 1) a0) := by
  intro a0 k
  have ih0 := changeforgelaw3_PackBuildMatchesSpec.mono_l k
  unfold changeforgelaw3_PackBuildMatchesSpec.f
  repeat' first
      | (with_reducible exact ih0 _ _ _ _ _ _ _)
      | (with_reducible exact changeforgelaw3_packExample.mono _)
      | (with_reducible exact changeforgeref3_PackBytes.mono _ _)
      | (with_reducible exact changeforgeref3_StoreFault.mono _ _)
      | (with_reducible exact pack_Build.mono _ _)
      | (with_reducible exact LeO.refl _)
      | (with_reducible exact LeO.none _)
      | (with_reducible refine LeO.ite ?_ ?_)
      | (with_reducible refine LeO.bind ?_ (fun _ => ?_))
      | exact ih0 _ _ _ _ _ _ _
      | exact changeforgelaw3_packExample.mono _
      | exact changeforgeref3_PackBytes.mono _ _
      | exact changeforgeref3_StoreFault.mono _ _
      | exact pack_Build.mono _ _
      | exact LeO.none _
      | refine LeO.ite ?_ ?_
      | refine LeO.bind ?_ (fun _ => ?_)
def changeforgelaw3_PackBuildMatchesSpec.T9 : Bool × List (List Nat × List Nat) := (true, [([], []), ([0], [0]), ([1], [1]), ([2], [2]), ([3], [3]), ([4, 3], [3, 4]), ([3], [3]), ([6, 3, 3], [3, 6]), ([7, 3], [3, 7]), ([5, 8, 3], [3, 5, 8]), ([3, 9], [3, 9]), ([10, 7, 0, 1, 2, 3, 4, 5, 6, 7, 8, 9, 10], [10])])
def changeforgelaw3_PackBuildMatchesSpec.B9 : List Nat := [0, 1, 3, 7, 15, 31, 15, 79, 207, 511, 1023, 2047]
theorem changeforgelaw3_PackBuildMatchesSpec.tab9 : rtab .any (opsOf Try.f3 9) = changeforgelaw3_PackBuildMatchesSpec.T9 := by kernel_rfl
theorem changeforgelaw3_PackBuildMatchesSpec.bits9 : waitsOk changeforgelaw3_PackBuildMatchesSpec.T9.2 changeforgelaw3_PackBuildMatchesSpec.B9 = true := by kernel_rfl
abbrev changeforgelaw3_PackBuildMatchesSpec.Z1 : Array Bool := #[false, false, false, false, false, false, false, false, false, false, false, false]
abbrev changeforgelaw3_PackBuildMatchesSpec.Z2 : Array Bool := #[true, false, false, false, false, false, false, false, false, false, false, false]
abbrev changeforgelaw3_PackBuildMatchesSpec.Z3 : Array Bool := #[true, true, false, false, false, false, false, false, false, false, false, false]
abbrev changeforgelaw3_PackBuildMatchesSpec.Z4 : Array Bool := #[true, true, true, false, false, false, false, false, false, false, false, false]
abbrev changeforgelaw3_PackBuildMatchesSpec.Z5 : Array Bool := #[true, true, true, true, false, false, false, false, false, false, false, false]
abbrev changeforgelaw3_PackBuildMatchesSpec.Z6 : Array Bool := #[true, true, true, true, true, false, false, false, false, false, false, false]
abbrev changeforgelaw3_PackBuildMatchesSpec.Z7 : Array Bool := #[true, true, true, true, true, true, false, false, false, false, false, false]
abbrev changeforgelaw3_PackBuildMatchesSpec.Z8 : Array Bool := #[true, true, true, true, true, true, true, false, false, false, false, false]
abbrev changeforgelaw3_PackBuildMatchesSpec.Z9 : Array Bool := #[true, true, true, true, true, true, true, true, false, false, false, false]
abbrev changeforgelaw3_PackBuildMatchesSpec.Z10 : Array Bool := #[true, true, true, true, true, true, true, true, true, false, false, false]
abbrev changeforgelaw3_PackBuildMatchesSpec.Z11 : Array Bool := #[true, true, true, true, true, true, true, true, true, true, false, false]
abbrev changeforgelaw3_PackBuildMatchesSpec.Z12 : Array Bool := #[true, true, true, true, true, true, true, true, true, true, true, false]
abbrev changeforgelaw3_PackBuildMatchesSpec.Z13 : Array Bool := #[true, true, true, true, true, true, true, true, true, true, true, true]
set_option maxHeartbeats 8000000 in
set_option maxRecDepth 100000 in
theorem changeforgelaw3_PackBuildMatchesSpec.calls (k : Nat) (A0_0 : Option Addr) (c0_0 : Nat) (l0_0 : List (S46)) (r : Bool) (w : World) (hr0_0 : Kd.C k46 w A0_0 l0_0.length l0_0) (hc0_0 : l0_0.length ≤ c0_0) (h : changeforgelaw3_PackBuildMatchesSpec.f k l0_0 = some r) :
  Calls Try.prog 3 #[.agg #[.slice A0_0 l0_0.length c0_0]] w fun e w' => e = .returned (.bool r) ∧ Below w.heap.size w w' := by
  have hu24 := Try.underlying24
  have hu28 := Try.underlying28
  have HR0_0 := aZ hr0_0
  have HC0_0 := aZ hc0_0
  clear hr0_0 hc0_0
  have HB := aZ (Below.refl w.heap.size w)
  have H : ((changeforgelaw3_packExample.f k).bind fun t260 => (if t260 = true then ((pack_Build.f k l0_0).bind fun bt261 => ((changeforgeref3_StoreFault.f k l0_0).bind fun bt267 => (if bt267.1 = 0 then ((changeforgeref3_PackBytes.f k l0_0).bind fun t270 => (changeforgelaw3_PackBuildMatchesSpec.j0 k bt261.1 (decide ((t270.length : Int) > 4096)) l0_0 bt261.2.1 bt261.2.2 bt267.1 bt267.2)) else (changeforgelaw3_PackBuildMatchesSpec.j0 k bt261.1 false l0_0 bt261.2.1 bt261.2.2 bt267.1 bt267.2)))) else (some false))) = some r := h
  clear h
  replace H := Option.bind_eq_some_iff.mp H
  obtain ⟨t260, A20, H⟩ := H
  replace H : (if t260 = true then ((pack_Build.f k l0_0).bind fun bt261 => ((changeforgeref3_StoreFault.f k l0_0).bind fun bt267 => (if bt267.1 = 0 then ((changeforgeref3_PackBytes.f k l0_0).bind fun t270 => (changeforgelaw3_PackBuildMatchesSpec.j0 k bt261.1 (decide ((t270.length : Int) > 4096)) l0_0 bt261.2.1 bt261.2.2 bt267.1 bt267.2)) else (changeforgelaw3_PackBuildMatchesSpec.j0 k bt261.1 false l0_0 bt261.2.1 bt261.2.2 bt267.1 bt267.2)))) else (some false)) = some r := H
  have A2 := aZ A20
  clear A20
  by_cases c3 : t260 = true
  rotate_left
  · replace c3 := Bool.eq_false_iff.mpr c3
    subst c3
    have H1 : (some false) = some r := by rw [if_neg (show ¬ (false = true) by decide)] at H; exact H
    clear H
    have H := H1
    clear H1
    obtain rfl := Option.some.inj H
    go_enter Try.func3, Try.ntmps3
    go_wp2_with (first | ((with_reducible refine gate_dst (N := 1) rfl ?_); (try (refine gate_guard (by rfl) ?_; dsimp only)); refine box_event ?hg (N := 1) ?hd (cs := #[.slice A0_0 l0_0.length c0_0]) (t := 24) ?hr ?_; (case hd => rfl); (case hg => rfl); (case hr => first | (go_simp; done) | (go_simp; rfl)); intro gb259 hg w92 hbox hb; have n0_ := aZ (lT (by repeat (first | (with_reducible first | exact HB.out | apply lA | apply lN | apply lD) | exact HB.out)) hb); have n1_ := aZ (hbox); have n2_ := aZ ((by rw [hg]; exact (lZ (by repeat (first | (with_reducible first | exact HB.out | apply lA | apply lN | apply lD) | exact HB.out))) : w.heap.size ≤ gb259)); have n3_ := aZ ((by rw [hg]; exact (lZ (by repeat (first | (with_reducible first | exact HB.out | apply lA | apply lN | apply lD) | exact HB.out))) : w.heap.size ≤ gb259)); clear HB; have HB := n0_; have BK259 := n1_; have GW259 := n2_; have GE259 := n3_; clear n0_ n1_ n2_ n3_; clear hb hbox hg) | ((with_reducible refine gate_callee (f := 14) rfl ?_); refine goesL_ (some 6) rfl rfl Try.func14 (by kernel_rfl) rfl #[] rfl (by (try simp only [List.map_toArray, List.map_cons, List.map_nil]); first | done | rfl | (simp only [List.length_drop, List.length_take]; rfl)) ?_; (with_reducible refine (changeforgelaw3_packExample.calls k  false _ A2.out).mono ?_); rintro e w93 ⟨rfl, hb⟩; refine ⟨_, rfl, ?_⟩; have n0_ := aZ (blk_below (g := gb259) (o := .cells #[.slice A0_0 l0_0.length c0_0] 24 (0, 0)) (by (with_reducible repeat (first | refine bN ?_ _ | refine bD ?_ | refine bA ?_ _)); exact BK259.out) hb); have n1_ := aZ (lT (by repeat (first | (with_reducible first | exact HB.out | apply lA | apply lN | apply lD | refine lS ?_ GE259.out) | exact HB.out)) hb); clear BK259; clear HB; have BK259 := n0_; have HB := n1_; clear n0_ n1_; (try clear hb); (try clear hb2); (try clear hk); (try clear hi)))
    go_ret
    exact ⟨by first | rfl | (simp [errW_none, errW_some] <;> rfl) | (simp [*, errW_none, errW_some] <;> rfl), by repeat (first | (with_reducible first | exact HB.out | apply lA | apply lN | apply lD | refine lS ?_ GE259.out) | exact HB.out)⟩

  subst c3
  have H1 : ((pack_Build.f k l0_0).bind fun bt261 => ((changeforgeref3_StoreFault.f k l0_0).bind fun bt267 => (if bt267.1 = 0 then ((changeforgeref3_PackBytes.f k l0_0).bind fun t270 => (changeforgelaw3_PackBuildMatchesSpec.j0 k bt261.1 (decide ((t270.length : Int) > 4096)) l0_0 bt261.2.1 bt261.2.2 bt267.1 bt267.2)) else (changeforgelaw3_PackBuildMatchesSpec.j0 k bt261.1 false l0_0 bt261.2.1 bt261.2.2 bt267.1 bt267.2)))) = some r := by rw [if_pos rfl] at H; exact H
  clear H
  have H := H1
  clear H1
  replace H := Option.bind_eq_some_iff.mp H
  obtain ⟨⟨t261, t264, t265⟩, A40, H⟩ := H
  replace H : ((changeforgeref3_StoreFault.f k l0_0).bind fun bt267 => (if bt267.1 = 0 then ((changeforgeref3_PackBytes.f k l0_0).bind fun t270 => (changeforgelaw3_PackBuildMatchesSpec.j0 k t261 (decide ((t270.length : Int) > 4096)) l0_0 t264 t265 bt267.1 bt267.2)) else (changeforgelaw3_PackBuildMatchesSpec.j0 k t261 false l0_0 t264 t265 bt267.1 bt267.2))) = some r := H
  have A4 := aZ A40
  clear A40
  replace H := Option.bind_eq_some_iff.mp H
  obtain ⟨⟨t267, t268⟩, A50, H⟩ := H
  replace H : (if t267 = 0 then ((changeforgeref3_PackBytes.f k l0_0).bind fun t270 => (changeforgelaw3_PackBuildMatchesSpec.j0 k t261 (decide ((t270.length : Int) > 4096)) l0_0 t264 t265 t267 t268)) else (changeforgelaw3_PackBuildMatchesSpec.j0 k t261 false l0_0 t264 t265 t267 t268)) = some r := H
  have A5 := aZ A50
  clear A50
  have HC6 := aZ H
  clear H
  go_enter Try.func3, Try.ntmps3
  go_upto_region 5 with (first | ((with_reducible refine gate_dst (N := 1) rfl ?_); (try (refine gate_guard (by rfl) ?_; dsimp only)); refine box_event ?hg (N := 1) ?hd (cs := #[.slice A0_0 l0_0.length c0_0]) (t := 24) ?hr ?_; (case hd => rfl); (case hg => rfl); (case hr => first | (go_simp; done) | (go_simp; rfl)); intro gb259 hg w7 hbox hb; have n0_ := aZ (lT (by repeat (first | (with_reducible first | exact HB.out | apply lA | apply lN | apply lD) | exact HB.out)) hb); have n1_ := aZ (hbox); have n2_ := aZ ((by rw [hg]; exact (lZ (by repeat (first | (with_reducible first | exact HB.out | apply lA | apply lN | apply lD) | exact HB.out))) : w.heap.size ≤ gb259)); have n3_ := aZ ((by rw [hg]; exact (lZ (by repeat (first | (with_reducible first | exact HB.out | apply lA | apply lN | apply lD) | exact HB.out))) : w.heap.size ≤ gb259)); clear HB; have HB := n0_; have BK259 := n1_; have GW259 := n2_; have GE259 := n3_; clear n0_ n1_ n2_ n3_; clear hb hbox hg) | ((with_reducible refine gate_callee (f := 14) rfl ?_); refine goesL_ (some 6) rfl rfl Try.func14 (by kernel_rfl) rfl #[] rfl (by (try simp only [List.map_toArray, List.map_cons, List.map_nil]); first | done | rfl | (simp only [List.length_drop, List.length_take]; rfl)) ?_; (with_reducible refine (changeforgelaw3_packExample.calls k  true _ A2.out).mono ?_); rintro e w8 ⟨rfl, hb⟩; refine ⟨_, rfl, ?_⟩; have n0_ := aZ (blk_below (g := gb259) (o := .cells #[.slice A0_0 l0_0.length c0_0] 24 (0, 0)) (by (with_reducible repeat (first | refine bN ?_ _ | refine bD ?_ | refine bA ?_ _)); exact BK259.out) hb); have n1_ := aZ (lT (by repeat (first | (with_reducible first | exact HB.out | apply lA | apply lN | apply lD | refine lS ?_ GE259.out) | exact HB.out)) hb); clear BK259; clear HB; have BK259 := n0_; have HB := n1_; clear n0_ n1_; (try clear hb); (try clear hb2); (try clear hk); (try clear hi); have hcz9_0 : w8.cell? ⟨gb259, 0, none⟩ = some (.slice A0_0 l0_0.length c0_0) := (blk_cell BK259.out 0).trans rfl; have hfz9_0 := blk_frozen BK259.out 0) | ((with_reducible refine gate_callee (f := 15) rfl ?_); refine goesL_ (some 10) rfl rfl Try.func15 (by kernel_rfl) rfl #[.agg #[.slice A0_0 l0_0.length c0_0]] rfl (by (try simp only [List.map_toArray, List.map_cons, List.map_nil]); first | done | rfl | (simp only [List.length_drop, List.length_take]; rfl)) ?_; (with_reducible refine (pack_Build.calls k _ _ l0_0 t261 t264 t265 _ ?side1 ?side2 A4.out).mono ?_); (case side1 => repeat (first | exact (Kd.C_below HR0_0.out HB.out) | (with_reducible refine Kd.C_alloc ?_ _) | (with_reducible refine Kd.C_drewN ?_ _) | (with_reducible refine Kd.C_drew ?_))); (case side2 => exact HC0_0.out); rintro e w10 ⟨v262, rfl, ho0, hb⟩; refine ⟨_, rfl, ?_⟩; have n0_ := aZ (Kd.R_lower ho0 (lZ (by repeat (first | (with_reducible first | exact HB.out | apply lA | apply lN | apply lD | refine lS ?_ GE259.out) | exact HB.out)))); have n1_ := aZ (blk_below (g := gb259) (o := .cells #[.slice A0_0 l0_0.length c0_0] 24 (0, 0)) (by (with_reducible repeat (first | refine bN ?_ _ | refine bD ?_ | refine bA ?_ _)); exact BK259.out) hb); have n2_ := aZ (lT (by repeat (first | (with_reducible first | exact HB.out | apply lA | apply lN | apply lD | refine lS ?_ GE259.out) | exact HB.out)) hb); clear BK259; clear HB; have HO263 := n0_; have BK259 := n1_; have HB := n2_; clear n0_ n1_ n2_; (try clear hb); (try clear hb2); (try clear hk); (try clear hi); (try clear ho0)) | ((with_reducible refine gate_dst (N := 4) rfl ?_); (try (refine gate_guard (by rfl) ?_; dsimp only)); refine box_event ?hg (N := 4) ?hd (cs := #[.int .i64 0, .int .i64 0]) (t := 28) ?hr ?_; (case hd => rfl); (case hg => rfl); (case hr => first | (go_simp; done) | (go_simp; rfl)); intro gb266 hg w11 hbox hb; have n0_ := aZ (Kd.R_below (by (with_reducible repeat (first | apply Kd.rA | apply Kd.rN | apply Kd.rD)); exact HO263.out) hb); have n1_ := aZ (blk_below (g := gb259) (o := .cells #[.slice A0_0 l0_0.length c0_0] 24 (0, 0)) (by (with_reducible repeat (first | refine bN ?_ _ | refine bD ?_ | refine bA ?_ _)); exact BK259.out) hb); have n2_ := aZ (lT (by repeat (first | (with_reducible first | exact HB.out | apply lA | apply lN | apply lD | refine lS ?_ GE259.out) | exact HB.out)) hb); have n3_ := aZ (hbox); have n4_ := aZ ((by rw [hg]; exact (lZ (by repeat (first | (with_reducible first | exact HB.out | apply lA | apply lN | apply lD | refine lS ?_ GE259.out) | exact HB.out))) : w.heap.size ≤ gb266)); have n5_ := aZ ((by rw [hg]; exact (lZ (by repeat (first | (with_reducible first | exact HB.out | apply lA | apply lN | apply lD | refine lS ?_ GE259.out) | exact HB.out))) : w.heap.size ≤ gb266)); have n6_ := aZ ((by rw [hg]; exact Nat.ne_of_lt (blk_lt (g := gb259) (o := .cells #[.slice A0_0 l0_0.length c0_0] 24 (0, 0)) (by (with_reducible repeat (first | refine bN ?_ _ | refine bD ?_ | refine bA ?_ _)); exact BK259.out)) : gb259 ≠ gb266)); have n7_ := aZ ((by rw [hg]; exact Nat.ne_of_gt (blk_lt (g := gb259) (o := .cells #[.slice A0_0 l0_0.length c0_0] 24 (0, 0)) (by (with_reducible repeat (first | refine bN ?_ _ | refine bD ?_ | refine bA ?_ _)); exact BK259.out)) : gb266 ≠ gb259)); clear HO263; clear BK259; clear HB; have HO263 := n0_; have BK259 := n1_; have HB := n2_; have BK266 := n3_; have GW266 := n4_; have GE266 := n5_; have NB259_266 := n6_; have NB266_259 := n7_; clear n0_ n1_ n2_ n3_ n4_ n5_ n6_ n7_; clear hb hbox hg; have hnb12 := NB266_259.out; have hnc12 := NB259_266.out; have hcz13_0 : w11.cell? ⟨gb266, 0, none⟩ = some (.int .i64 0) := (blk_cell BK266.out 0).trans rfl; have hcz13_1 : w11.cell? ⟨gb266, 1, none⟩ = some (.int .i64 0) := (blk_cell BK266.out 1).trans rfl; have hfz13_0 := blk_frozen BK266.out 0; have hfz13_1 := blk_frozen BK266.out 1; have hcz14_0 : w11.cell? ⟨gb259, 0, none⟩ = some (.slice A0_0 l0_0.length c0_0) := (blk_cell BK259.out 0).trans rfl; have hfz14_0 := blk_frozen BK259.out 0) | ((with_reducible refine gate_callee (f := 16) rfl ?_); refine goesL_ (some 14) rfl rfl Try.func16 (by kernel_rfl) rfl #[.agg #[.slice A0_0 l0_0.length c0_0]] rfl (by (try simp only [List.map_toArray, List.map_cons, List.map_nil]); first | done | rfl | (simp only [List.length_drop, List.length_take]; rfl)) ?_; (with_reducible refine (changeforgeref3_StoreFault.calls k _ _ l0_0 t267 t268 _ ?side1 ?side2 A5.out).mono ?_); (case side1 => exact Kd.C_below HR0_0.out (by repeat (first | (with_reducible first | exact HB.out | apply lA | apply lN | apply lD | refine lS ?_ GE259.out | refine lS ?_ GE266.out) | exact HB.out))); (case side2 => exact HC0_0.out); rintro e w15 ⟨rfl, hb⟩; refine ⟨_, rfl, ?_⟩; have n0_ := aZ (Kd.R_below (by (with_reducible repeat (first | apply Kd.rA | apply Kd.rN | apply Kd.rD)); exact (Kd.R_mono (Kd.R_far (p := ⟨gb266, 1, none⟩) (Kd.R_far (p := ⟨gb266, 0, none⟩) (Kd.R_types HO263.out BK266.out (by decide)) (fun _ hk => hk.2) (.int .i64 t264)) (fun _ hk => hk.2) (.int .i64 t265)) (fun _ h_ => h_.1))) hb); have n1_ := aZ (blk_below (g := gb259) (o := .cells #[.slice A0_0 l0_0.length c0_0] 24 (0, 0)) (by (with_reducible repeat (first | refine bN ?_ _ | refine bD ?_ | refine bA ?_ _)); refine blk_far ?_ NB259_266.out _; (with_reducible repeat (first | refine bN ?_ _ | refine bD ?_ | refine bA ?_ _)); refine blk_far ?_ NB259_266.out _; (with_reducible repeat (first | refine bN ?_ _ | refine bD ?_ | refine bA ?_ _)); exact BK259.out) hb); have n2_ := aZ (blk_below (g := gb266) (o := .cells #[.int .i64 t264, .int .i64 t265] 28 (0, 0)) (by (with_reducible repeat (first | refine bN ?_ _ | refine bD ?_ | refine bA ?_ _)); refine blk_put (cs := #[.int .i64 t264, .int .i64 0]) ?_ 1 _ rfl; (with_reducible repeat (first | refine bN ?_ _ | refine bD ?_ | refine bA ?_ _)); refine blk_put (cs := #[.int .i64 0, .int .i64 0]) ?_ 0 _ rfl; (with_reducible repeat (first | refine bN ?_ _ | refine bD ?_ | refine bA ?_ _)); exact BK266.out) hb); have n3_ := aZ (lT (by repeat (first | (with_reducible first | exact HB.out | apply lA | apply lN | apply lD | refine lS ?_ GE259.out | refine lS ?_ GE266.out) | exact HB.out)) hb); clear HO263; clear BK259; clear BK266; clear HB; have HO263 := n0_; have BK259 := n1_; have BK266 := n2_; have HB := n3_; clear n0_ n1_ n2_ n3_; (try clear hb); (try clear hb2); (try clear hk); (try clear hi)) | ((with_reducible refine gate_dst (N := 5) rfl ?_); (try (refine gate_guard (by rfl) ?_; dsimp only)); refine box_event ?hg (N := 5) ?hd (cs := #[.int .i64 0, .int .i64 0]) (t := 28) ?hr ?_; (case hd => rfl); (case hg => rfl); (case hr => first | (go_simp; done) | (go_simp; rfl)); intro gb269 hg w16 hbox hb; have n0_ := aZ (Kd.R_below (by (with_reducible repeat (first | apply Kd.rA | apply Kd.rN | apply Kd.rD)); exact HO263.out) hb); have n1_ := aZ (blk_below (g := gb259) (o := .cells #[.slice A0_0 l0_0.length c0_0] 24 (0, 0)) (by (with_reducible repeat (first | refine bN ?_ _ | refine bD ?_ | refine bA ?_ _)); exact BK259.out) hb); have n2_ := aZ (blk_below (g := gb266) (o := .cells #[.int .i64 t264, .int .i64 t265] 28 (0, 0)) (by (with_reducible repeat (first | refine bN ?_ _ | refine bD ?_ | refine bA ?_ _)); exact BK266.out) hb); have n3_ := aZ (lT (by repeat (first | (with_reducible first | exact HB.out | apply lA | apply lN | apply lD | refine lS ?_ GE259.out | refine lS ?_ GE266.out) | exact HB.out)) hb); have n4_ := aZ (hbox); have n5_ := aZ ((by rw [hg]; exact (lZ (by repeat (first | (with_reducible first | exact HB.out | apply lA | apply lN | apply lD | refine lS ?_ GE259.out | refine lS ?_ GE266.out) | exact HB.out))) : w.heap.size ≤ gb269)); have n6_ := aZ ((by rw [hg]; exact (lZ (by repeat (first | (with_reducible first | exact HB.out | apply lA | apply lN | apply lD | refine lS ?_ GE259.out | refine lS ?_ GE266.out) | exact HB.out))) : w.heap.size ≤ gb269)); have n7_ := aZ ((by rw [hg]; exact Nat.ne_of_lt (blk_lt (g := gb259) (o := .cells #[.slice A0_0 l0_0.length c0_0] 24 (0, 0)) (by (with_reducible repeat (first | refine bN ?_ _ | refine bD ?_ | refine bA ?_ _)); exact BK259.out)) : gb259 ≠ gb269)); have n8_ := aZ ((by rw [hg]; exact Nat.ne_of_gt (blk_lt (g := gb259) (o := .cells #[.slice A0_0 l0_0.length c0_0] 24 (0, 0)) (by (with_reducible repeat (first | refine bN ?_ _ | refine bD ?_ | refine bA ?_ _)); exact BK259.out)) : gb269 ≠ gb259)); have n9_ := aZ ((by rw [hg]; exact Nat.ne_of_lt (blk_lt (g := gb266) (o := .cells #[.int .i64 t264, .int .i64 t265] 28 (0, 0)) (by (with_reducible repeat (first | refine bN ?_ _ | refine bD ?_ | refine bA ?_ _)); exact BK266.out)) : gb266 ≠ gb269)); have n10_ := aZ ((by rw [hg]; exact Nat.ne_of_gt (blk_lt (g := gb266) (o := .cells #[.int .i64 t264, .int .i64 t265] 28 (0, 0)) (by (with_reducible repeat (first | refine bN ?_ _ | refine bD ?_ | refine bA ?_ _)); exact BK266.out)) : gb269 ≠ gb266)); clear HO263; clear BK259; clear BK266; clear HB; have HO263 := n0_; have BK259 := n1_; have BK266 := n2_; have HB := n3_; have BK269 := n4_; have GW269 := n5_; have GE269 := n6_; have NB259_269 := n7_; have NB269_259 := n8_; have NB266_269 := n9_; have NB269_266 := n10_; clear n0_ n1_ n2_ n3_ n4_ n5_ n6_ n7_ n8_ n9_ n10_; clear hb hbox hg; have hnb17 := NB269_259.out; have hnc17 := NB259_269.out; have hnb18 := NB269_266.out; have hnc18 := NB266_269.out; have hcz19_0 : w16.cell? ⟨gb269, 0, none⟩ = some (.int .i64 0) := (blk_cell BK269.out 0).trans rfl; have hcz19_1 : w16.cell? ⟨gb269, 1, none⟩ = some (.int .i64 0) := (blk_cell BK269.out 1).trans rfl; have hfz19_0 := blk_frozen BK269.out 0; have hfz19_1 := blk_frozen BK269.out 1))
  (try simp only [Act.put, List.setIfInBounds_toArray, List.set_cons_zero, List.set_cons_succ])
  go_cut [23] (fun v23 wc => ∃ (kq : Nat) (x23_5 : Bool), v23 = .bool x23_5 ∧ Aside0 (changeforgelaw3_PackBuildMatchesSpec.j0 kq t261 x23_5 l0_0 t264 t265 t267 t268 = some r) ∧ Aside0 (kq ≤ k) ∧ Aside0 (Kd.R (Kd.int .u8) 5 wc w.heap.size (fun _ => True) v262 t261) ∧ Aside0 (wc.heap[gb259]? = some (.cells #[(.slice A0_0 l0_0.length c0_0)] 24 (0, 0))) ∧ Aside0 (wc.heap[gb266]? = some (.cells #[.int .i64 t264, .int .i64 t265] 28 (0, 0))) ∧ Aside0 (wc.heap[gb269]? = some (.cells #[.int .i64 t267, .int .i64 t268] 28 (0, 0))) ∧ Aside0 (Below w.heap.size w wc))
  case first =>
   have H := HC6.out
   clear HC6
   by_cases c20 : t267 = 0
   rotate_left
   · rw [if_neg c20] at H
     have c20b0 : (t267 == 0) = false := beq_eq_false_iff_ne.mpr c20
     have c20b1 : (t267 != 0) = true := bne_iff_ne.mpr c20
     (first | rw [c20b0] | (simp only [i64_w, i32_w]; rw [c20b0]) | skip)
     have H' := aZ H
     clear H
     have hnb29 := NB269_259.out
     have hnc29 := NB259_269.out
     have hnb30 := NB269_266.out
     have hnc30 := NB266_269.out
     have hcz31_0 : w16.cell? ⟨gb269, 0, none⟩ = some (.int .i64 0) := (blk_cell BK269.out 0).trans rfl
     have hcz31_1 : w16.cell? ⟨gb269, 1, none⟩ = some (.int .i64 0) := (blk_cell BK269.out 1).trans rfl
     have hfz31_0 := blk_frozen BK269.out 0
     have hfz31_1 := blk_frozen BK269.out 1
     go_wp2
     go_meet
     case rel => exact ⟨_, (false), (by first | rfl | (simp; done) | (simp [*]; done) | (simp [i64_w]; done)), H', ⟨by first | omega | exact Nat.le_refl _⟩, ⟨by (with_reducible repeat (first | apply Kd.rA | apply Kd.rN | apply Kd.rD)); exact Kd.R_mono (Kd.R_far (p := ⟨gb269, 1, none⟩) (Kd.R_far (p := ⟨gb269, 0, none⟩) (Kd.R_types HO263.out BK269.out (by decide)) (fun _ hk => hk.2) (.int .i64 t267)) (fun _ hk => hk.2) (.int .i64 t268)) (fun _ hk => trivial)⟩, ⟨by (with_reducible repeat (first | refine bN ?_ _ | refine bD ?_ | refine bA ?_ _)); refine blk_far ?_ NB259_269.out _; (with_reducible repeat (first | refine bN ?_ _ | refine bD ?_ | refine bA ?_ _)); refine blk_far ?_ NB259_269.out _; (with_reducible repeat (first | refine bN ?_ _ | refine bD ?_ | refine bA ?_ _)); exact BK259.out⟩, ⟨by (with_reducible repeat (first | refine bN ?_ _ | refine bD ?_ | refine bA ?_ _)); refine blk_far ?_ NB266_269.out _; (with_reducible repeat (first | refine bN ?_ _ | refine bD ?_ | refine bA ?_ _)); refine blk_far ?_ NB266_269.out _; (with_reducible repeat (first | refine bN ?_ _ | refine bD ?_ | refine bA ?_ _)); exact BK266.out⟩, ⟨by (with_reducible repeat (first | refine bN ?_ _ | refine bD ?_ | refine bA ?_ _)); refine blk_put (cs := #[.int .i64 t267, .int .i64 0]) ?_ 1 _ rfl; (with_reducible repeat (first | refine bN ?_ _ | refine bD ?_ | refine bA ?_ _)); refine blk_put (cs := #[.int .i64 0, .int .i64 0]) ?_ 0 _ rfl; (with_reducible repeat (first | refine bN ?_ _ | refine bD ?_ | refine bA ?_ _)); exact BK269.out⟩, ⟨by repeat (first | (with_reducible first | exact HB.out | apply lA | apply lN | apply lD | refine lS ?_ GE259.out | refine lS ?_ GE266.out | refine lS ?_ GE269.out) | exact HB.out)⟩⟩
   rw [if_pos c20] at H
   have c20b0 : (t267 == 0) = true := beq_iff_eq.mpr c20
   have c20b1 : (t267 != 0) = false := bne_eq_false_iff_eq.mpr c20
   clear c20
   (first | rw [c20b0] | (simp only [i64_w, i32_w]; rw [c20b0]) | skip)
   replace H := Option.bind_eq_some_iff.mp H
   obtain ⟨t270, A210, H⟩ := H
   replace H : (changeforgelaw3_PackBuildMatchesSpec.j0 k t261 (decide ((t270.length : Int) > 4096)) l0_0 t264 t265 t267 t268) = some r := H
   have A21 := aZ A210
   clear A210
   have H' := aZ H
   clear H
   have hnb22 := NB269_259.out
   have hnc22 := NB259_269.out
   have hnb23 := NB269_266.out
   have hnc23 := NB266_269.out
   have hcz24_0 : w16.cell? ⟨gb269, 0, none⟩ = some (.int .i64 0) := (blk_cell BK269.out 0).trans rfl
   have hcz24_1 : w16.cell? ⟨gb269, 1, none⟩ = some (.int .i64 0) := (blk_cell BK269.out 1).trans rfl
   have hfz24_0 := blk_frozen BK269.out 0
   have hfz24_1 := blk_frozen BK269.out 1
   have hnb25 := NB259_266.out
   have hnc25 := NB266_259.out
   have hcz26_0 : w16.cell? ⟨gb259, 0, none⟩ = some (.slice A0_0 l0_0.length c0_0) := (blk_cell BK259.out 0).trans rfl
   have hfz26_0 := blk_frozen BK259.out 0
   go_wp2_with (first | (go_at_call 17; (with_reducible refine (changeforgeref3_PackBytes.calls k _ _ l0_0 t270 _ ?side1 ?side2 A21.out).mono ?_); (case side1 => exact Kd.C_below HR0_0.out (by repeat (first | (with_reducible first | exact HB.out | apply lA | apply lN | apply lD | refine lS ?_ GE259.out | refine lS ?_ GE266.out | refine lS ?_ GE269.out) | exact HB.out))); (case side2 => exact HC0_0.out); rintro e w27 ⟨v271, rfl, ho0, hb⟩; have n0_ := aZ (Kd.R_below (by (with_reducible repeat (first | apply Kd.rA | apply Kd.rN | apply Kd.rD)); exact (Kd.R_mono (Kd.R_far (p := ⟨gb269, 1, none⟩) (Kd.R_far (p := ⟨gb269, 0, none⟩) (Kd.R_types HO263.out BK269.out (by decide)) (fun _ hk => hk.2) (.int .i64 t267)) (fun _ hk => hk.2) (.int .i64 t268)) (fun _ h_ => h_.1))) hb); have n1_ := aZ (Kd.V_lower (Kd.V_mono (ok' := fun k_ => some k_ ≠ (v262 : Value).ownBlock ∧ k_ ≠ gb259 ∧ k_ ≠ gb266 ∧ k_ ≠ gb269) ho0 (fun k_ hk_ => ⟨(Kd.fresh' (Kd.R_lt (by (with_reducible repeat (first | apply Kd.rA | apply Kd.rN | apply Kd.rD)); exact (Kd.R_mono (Kd.R_far (p := ⟨gb269, 1, none⟩) (Kd.R_far (p := ⟨gb269, 0, none⟩) (Kd.R_types HO263.out BK269.out (by decide)) (fun _ hk => hk.2) (.int .i64 t267)) (fun _ hk => hk.2) (.int .i64 t268)) (fun _ h_ => h_.1)))) k_ hk_), (Kd.freshB (g := gb259) (o := .cells #[.slice A0_0 l0_0.length c0_0] 24 (0, 0)) (by (with_reducible repeat (first | refine bN ?_ _ | refine bD ?_ | refine bA ?_ _)); refine blk_far ?_ NB259_269.out _; (with_reducible repeat (first | refine bN ?_ _ | refine bD ?_ | refine bA ?_ _)); refine blk_far ?_ NB259_269.out _; (with_reducible repeat (first | refine bN ?_ _ | refine bD ?_ | refine bA ?_ _)); exact BK259.out) k_ hk_), (Kd.freshB (g := gb266) (o := .cells #[.int .i64 t264, .int .i64 t265] 28 (0, 0)) (by (with_reducible repeat (first | refine bN ?_ _ | refine bD ?_ | refine bA ?_ _)); refine blk_far ?_ NB266_269.out _; (with_reducible repeat (first | refine bN ?_ _ | refine bD ?_ | refine bA ?_ _)); refine blk_far ?_ NB266_269.out _; (with_reducible repeat (first | refine bN ?_ _ | refine bD ?_ | refine bA ?_ _)); exact BK266.out) k_ hk_), (Kd.freshB (g := gb269) (o := .cells #[.int .i64 t267, .int .i64 t268] 28 (0, 0)) (by (with_reducible repeat (first | refine bN ?_ _ | refine bD ?_ | refine bA ?_ _)); refine blk_put (cs := #[.int .i64 t267, .int .i64 0]) ?_ 1 _ rfl; (with_reducible repeat (first | refine bN ?_ _ | refine bD ?_ | refine bA ?_ _)); refine blk_put (cs := #[.int .i64 0, .int .i64 0]) ?_ 0 _ rfl; (with_reducible repeat (first | refine bN ?_ _ | refine bD ?_ | refine bA ?_ _)); exact BK269.out) k_ hk_)⟩)) (lZ (by repeat (first | (with_reducible first | exact HB.out | apply lA | apply lN | apply lD | refine lS ?_ GE259.out | refine lS ?_ GE266.out | refine lS ?_ GE269.out) | exact HB.out)))); have n2_ := aZ (blk_below (g := gb259) (o := .cells #[.slice A0_0 l0_0.length c0_0] 24 (0, 0)) (by (with_reducible repeat (first | refine bN ?_ _ | refine bD ?_ | refine bA ?_ _)); refine blk_far ?_ NB259_269.out _; (with_reducible repeat (first | refine bN ?_ _ | refine bD ?_ | refine bA ?_ _)); refine blk_far ?_ NB259_269.out _; (with_reducible repeat (first | refine bN ?_ _ | refine bD ?_ | refine bA ?_ _)); exact BK259.out) hb); have n3_ := aZ (blk_below (g := gb266) (o := .cells #[.int .i64 t264, .int .i64 t265] 28 (0, 0)) (by (with_reducible repeat (first | refine bN ?_ _ | refine bD ?_ | refine bA ?_ _)); refine blk_far ?_ NB266_269.out _; (with_reducible repeat (first | refine bN ?_ _ | refine bD ?_ | refine bA ?_ _)); refine blk_far ?_ NB266_269.out _; (with_reducible repeat (first | refine bN ?_ _ | refine bD ?_ | refine bA ?_ _)); exact BK266.out) hb); have n4_ := aZ (blk_below (g := gb269) (o := .cells #[.int .i64 t267, .int .i64 t268] 28 (0, 0)) (by (with_reducible repeat (first | refine bN ?_ _ | refine bD ?_ | refine bA ?_ _)); refine blk_put (cs := #[.int .i64 t267, .int .i64 0]) ?_ 1 _ rfl; (with_reducible repeat (first | refine bN ?_ _ | refine bD ?_ | refine bA ?_ _)); refine blk_put (cs := #[.int .i64 0, .int .i64 0]) ?_ 0 _ rfl; (with_reducible repeat (first | refine bN ?_ _ | refine bD ?_ | refine bA ?_ _)); exact BK269.out) hb); have n5_ := aZ (lT (by repeat (first | (with_reducible first | exact HB.out | apply lA | apply lN | apply lD | refine lS ?_ GE259.out | refine lS ?_ GE266.out | refine lS ?_ GE269.out) | exact HB.out)) hb); clear HO263; clear BK259; clear BK266; clear BK269; clear HB; have HO263 := n0_; have HO272 := n1_; have BK259 := n2_; have BK266 := n3_; have BK269 := n4_; have HB := n5_; clear n0_ n1_ n2_ n3_ n4_ n5_; (try clear hb); (try clear hb2); (try clear hk); (try clear hi); (try clear ho0); obtain ⟨Ao28, co28, eo28⟩ := Kd.V_slice HO272.out; subst eo28))
   go_meet
   case rel => exact ⟨_, (decide ((t270.length : Int) > 4096)), (by first | rfl | (simp; done) | (simp [*]; done) | (simp [i64_w]; done)), H', ⟨by first | omega | exact Nat.le_refl _⟩, ⟨by (with_reducible repeat (first | apply Kd.rA | apply Kd.rN | apply Kd.rD)); exact HO263.out⟩, ⟨by (with_reducible repeat (first | refine bN ?_ _ | refine bD ?_ | refine bA ?_ _)); exact BK259.out⟩, ⟨by (with_reducible repeat (first | refine bN ?_ _ | refine bD ?_ | refine bA ?_ _)); exact BK266.out⟩, ⟨by (with_reducible repeat (first | refine bN ?_ _ | refine bD ?_ | refine bA ?_ _)); exact BK269.out⟩, ⟨by repeat (first | (with_reducible first | exact HB.out | apply lA | apply lN | apply lD | refine lS ?_ GE259.out | refine lS ?_ GE266.out | refine lS ?_ GE269.out) | exact HB.out)⟩⟩
  case rest =>
   clear HC6
   (try clear c3); (try clear hcz13_0); (try clear hcz13_1); (try clear hcz14_0); (try clear hcz19_0); (try clear hcz19_1); (try clear hcz9_0); (try clear hfz13_0); (try clear hfz13_1); (try clear hfz14_0); (try clear hfz19_0); (try clear hfz19_1); (try clear hfz9_0)
   obtain ⟨kq, x23_5, rfl, HA, HJ5, HO_3, BK259, BK266, BK269, HB⟩ := hcut
   cases kq with
   | zero => exact absurd HA.out (by simp [changeforgelaw3_PackBuildMatchesSpec.j0])
   | succ kj5 =>
    have H := HA.out
    clear HA
    simp only [changeforgelaw3_PackBuildMatchesSpec.j0] at H
    by_cases c32 : x23_5 = true
    rotate_left
    · replace c32 := Bool.eq_false_iff.mpr c32
      subst c32
      have H1 : (if t267 = 0 then (if t264 = 0 then ((changeforgeref3_PackBytes.f kj5 l0_0).bind fun t278 => (some ((strOfNums t261).toList == (strOfNums t278).toList))) else (some false)) else (if (t264 == t267 && (t265 == t268)) = true then (some ((t261.length : Int) == 0)) else (some false))) = some r := by rw [if_neg (show ¬ (false = true) by decide)] at H; exact H
      clear H
      have H := H1
      clear H1
      by_cases c66 : t267 = 0
      rotate_left
      · rw [if_neg c66] at H
        have c66b0 : (t267 == 0) = false := beq_eq_false_iff_ne.mpr c66
        have c66b1 : (t267 != 0) = true := bne_iff_ne.mpr c66
        by_cases c80 : (t264 == t267 && (t265 == t268)) = true
        · rw [if_pos c80] at H
          have c80b0 : (t264 == t267 && (t265 == t268)) = true := c80
          (try (have c80b1 : decide (t264 = t267 && (t265 == t268)) = true := by simpa using c80))
          (try (have c80b2 : (t264 == t267 && (t265 == t268)) = true := by simpa using c80))
          clear c80
          obtain rfl := Option.some.inj H
          have hnb81 := NB269_259.out
          have hnc81 := NB259_269.out
          have hnb82 := NB269_266.out
          have hnc82 := NB266_269.out
          have hcz83_0 : wc.cell? ⟨gb269, 0, none⟩ = some (.int .i64 t267) := (blk_cell BK269.out 0).trans rfl
          have hcz83_1 : wc.cell? ⟨gb269, 1, none⟩ = some (.int .i64 t268) := (blk_cell BK269.out 1).trans rfl
          have hfz83_0 := blk_frozen BK269.out 0
          have hfz83_1 := blk_frozen BK269.out 1
          have hnb84 := NB266_259.out
          have hnc84 := NB259_266.out
          have hcz85_0 : wc.cell? ⟨gb266, 0, none⟩ = some (.int .i64 t264) := (blk_cell BK266.out 0).trans rfl
          have hcz85_1 : wc.cell? ⟨gb266, 1, none⟩ = some (.int .i64 t265) := (blk_cell BK266.out 1).trans rfl
          have hfz85_0 := blk_frozen BK266.out 0
          have hfz85_1 := blk_frozen BK266.out 1
          obtain ⟨Ao86, co86, eo86⟩ := Kd.R_slice HO_3.out
          subst eo86
          go_wp2
          go_ret
          exact ⟨by first | rfl | (simp [errW_none, errW_some] <;> rfl) | (simp [*, errW_none, errW_some] <;> rfl), by repeat (first | (with_reducible first | exact HB.out | apply lA | apply lN | apply lD | refine lS ?_ GE259.out | refine lS ?_ GE266.out | refine lS ?_ GE269.out) | exact HB.out)⟩
        rw [if_neg c80] at H
        have c80b0 : (t264 == t267 && (t265 == t268)) = false := by simpa using c80
        (try (have c80b1 : decide (t264 = t267 && (t265 == t268)) = false := by simpa using c80))
        (try (have c80b2 : (t264 == t267 && (t265 == t268)) = false := by simpa using c80))
        (try (have c80b3 : ¬ (t264 = t267 && (t265 == t268)) := by simpa using c80))
        clear c80
        obtain rfl := Option.some.inj H
        have hnb87 := NB269_259.out
        have hnc87 := NB259_269.out
        have hnb88 := NB269_266.out
        have hnc88 := NB266_269.out
        have hcz89_0 : wc.cell? ⟨gb269, 0, none⟩ = some (.int .i64 t267) := (blk_cell BK269.out 0).trans rfl
        have hcz89_1 : wc.cell? ⟨gb269, 1, none⟩ = some (.int .i64 t268) := (blk_cell BK269.out 1).trans rfl
        have hfz89_0 := blk_frozen BK269.out 0
        have hfz89_1 := blk_frozen BK269.out 1
        have hnb90 := NB266_259.out
        have hnc90 := NB259_266.out
        have hcz91_0 : wc.cell? ⟨gb266, 0, none⟩ = some (.int .i64 t264) := (blk_cell BK266.out 0).trans rfl
        have hcz91_1 : wc.cell? ⟨gb266, 1, none⟩ = some (.int .i64 t265) := (blk_cell BK266.out 1).trans rfl
        have hfz91_0 := blk_frozen BK266.out 0
        have hfz91_1 := blk_frozen BK266.out 1
        go_wp2
        go_ret
        exact ⟨by first | rfl | (simp [errW_none, errW_some] <;> rfl) | (simp [*, errW_none, errW_some] <;> rfl), by repeat (first | (with_reducible first | exact HB.out | apply lA | apply lN | apply lD | refine lS ?_ GE259.out | refine lS ?_ GE266.out | refine lS ?_ GE269.out) | exact HB.out)⟩
      rw [if_pos c66] at H
      have c66b0 : (t267 == 0) = true := beq_iff_eq.mpr c66
      have c66b1 : (t267 != 0) = false := bne_eq_false_iff_eq.mpr c66
      clear c66
      by_cases c67 : t264 = 0
      rotate_left
      · rw [if_neg c67] at H
        have c67b0 : (t264 == 0) = false := beq_eq_false_iff_ne.mpr c67
        have c67b1 : (t264 != 0) = true := bne_iff_ne.mpr c67
        obtain rfl := Option.some.inj H
        have hnb76 := NB269_259.out
        have hnc76 := NB259_269.out
        have hnb77 := NB269_266.out
        have hnc77 := NB266_269.out
        have hcz78_0 : wc.cell? ⟨gb269, 0, none⟩ = some (.int .i64 t267) := (blk_cell BK269.out 0).trans rfl
        have hcz78_1 : wc.cell? ⟨gb269, 1, none⟩ = some (.int .i64 t268) := (blk_cell BK269.out 1).trans rfl
        have hfz78_0 := blk_frozen BK269.out 0
        have hfz78_1 := blk_frozen BK269.out 1
        try go_wp2
        have n0_ := aZ (Kd.rD HO_3.out)
        have n1_ := aZ (bD BK259.out)
        have n2_ := aZ (bD BK266.out)
        have n3_ := aZ (bD BK269.out)
        have n4_ := aZ (lD HB.out)
        clear HO_3
        clear BK259
        clear BK266
        clear BK269
        clear HB
        have HO_3 := n0_
        have BK259 := n1_
        have BK266 := n2_
        have BK269 := n3_
        have HB := n4_
        clear n0_ n1_ n2_ n3_ n4_
        refine start_ (n := 12) (S := fun w' => w'.cell? ⟨gb266, 0, none⟩ = some (.int .i64 t264) ∧ w'.cell? ⟨gb266, 1, none⟩ = some (.int .i64 t265)) (ds := []) Z1 (by kernel_rfl) rfl rfl ⟨(blk_cell BK266.out 0).trans rfl, (blk_cell BK266.out 1).trans rfl⟩ (fun hHeld => ?_); refine with_tabW changeforgelaw3_PackBuildMatchesSpec.tab9 changeforgelaw3_PackBuildMatchesSpec.bits9 (fun HT_ HW_ => ?_)
        generalize wc.drew = w79 at HO_3 BK259 BK266 BK269 HB hHeld ⊢
        refine pu 0 36 Z2 HT_ rfl rfl (h := ?_)
        refine tk 1 37 Z3 HT_ HW_ rfl rfl hHeld (by rintro w' ⟨s0, s1⟩; go_simp; with_reducible rfl) (h := ?_)
        refine pu 2 38 Z4 HT_ rfl rfl (h := ?_)
        refine pu 3 39 Z5 HT_ rfl rfl (h := ?_)
        refine pv 4 40 Z6 HT_ rfl rfl (h := ?_)
        refine pv 5 41 Z7 HT_ rfl rfl (h := ?_)
        refine pv 6 42 Z8 HT_ rfl rfl (h := ?_)
        refine pv 7 43 Z9 HT_ rfl rfl (h := ?_)
        refine pv 8 44 Z10 HT_ rfl rfl (h := ?_)
        refine pv 9 45 Z11 HT_ rfl rfl (h := ?_)
        refine pu 10 46 Z12 HT_ rfl rfl (h := ?_)
        refine pu 11 2 Z13 HT_ rfl rfl (h := ?_)
        refine done_ (done_of HT_.out (by kernel_rfl)) ?_
        try go_wp2
        go_ret
        exact ⟨by first | rfl | (simp [errW_none, errW_some] <;> rfl) | (simp [*, errW_none, errW_some] <;> rfl), by repeat (first | (with_reducible first | exact HB.out | apply lA | apply lN | apply lD | refine lS ?_ GE259.out | refine lS ?_ GE266.out | refine lS ?_ GE269.out) | exact HB.out)⟩
      rw [if_pos c67] at H
      have c67b0 : (t264 == 0) = true := beq_iff_eq.mpr c67
      have c67b1 : (t264 != 0) = false := bne_eq_false_iff_eq.mpr c67
      clear c67
      replace H := Option.bind_eq_some_iff.mp H
      obtain ⟨t278, A680, H⟩ := H
      replace H : (some ((strOfNums t261).toList == (strOfNums t278).toList)) = some r := H
      have A68 := aZ A680
      clear A680
      obtain rfl := Option.some.inj H
      have hnb69 := NB269_259.out
      have hnc69 := NB259_269.out
      have hnb70 := NB269_266.out
      have hnc70 := NB266_269.out
      have hcz71_0 : wc.cell? ⟨gb269, 0, none⟩ = some (.int .i64 t267) := (blk_cell BK269.out 0).trans rfl
      have hcz71_1 : wc.cell? ⟨gb269, 1, none⟩ = some (.int .i64 t268) := (blk_cell BK269.out 1).trans rfl
      have hfz71_0 := blk_frozen BK269.out 0
      have hfz71_1 := blk_frozen BK269.out 1
      try go_wp2
      have n0_ := aZ (Kd.rD HO_3.out)
      have n1_ := aZ (bD BK259.out)
      have n2_ := aZ (bD BK266.out)
      have n3_ := aZ (bD BK269.out)
      have n4_ := aZ (lD HB.out)
      clear HO_3
      clear BK259
      clear BK266
      clear BK269
      clear HB
      have HO_3 := n0_
      have BK259 := n1_
      have BK266 := n2_
      have BK269 := n3_
      have HB := n4_
      clear n0_ n1_ n2_ n3_ n4_
      refine start_ (n := 12) (S := fun w' => w'.cell? ⟨gb266, 0, none⟩ = some (.int .i64 t264) ∧ w'.cell? ⟨gb266, 1, none⟩ = some (.int .i64 t265) ∧ w'.cell? ⟨gb259, 0, none⟩ = some (.slice A0_0 l0_0.length c0_0) ∧ (convert 26 9 v262).run Try.prog w' = .ok (.string (strOfNums t261)) w') (ds := []) Z1 (by kernel_rfl) rfl rfl ⟨(blk_cell BK266.out 0).trans rfl, (blk_cell BK266.out 1).trans rfl, (blk_cell BK259.out 0).trans rfl, (own_string (P := Try.prog) Try.underlying26 Try.underlying5 Try.underlying9 (Kd.own_of_R (by repeat (first | exact HO_3.out | (with_reducible refine Kd.rD ?_) | (with_reducible refine Kd.rN ?_ _) | (with_reducible refine Kd.rA ?_ _)))))⟩ (fun hHeld => ?_); refine with_tabW changeforgelaw3_PackBuildMatchesSpec.tab9 changeforgelaw3_PackBuildMatchesSpec.bits9 (fun HT_ HW_ => ?_)
      generalize wc.drew = w72 at HO_3 BK259 BK266 BK269 HB hHeld ⊢
      refine pu 0 36 Z2 HT_ rfl rfl (h := ?_)
      refine tk 1 37 Z3 HT_ HW_ rfl rfl hHeld (by rintro w' ⟨s0, s1, s2, s3⟩; go_simp; with_reducible rfl) (h := ?_)
      refine pu 2 38 Z4 HT_ rfl rfl (h := ?_)
      refine pu 3 39 Z5 HT_ rfl rfl (h := ?_)
      refine pu 4 40 Z6 HT_ rfl rfl (h := ?_)
      refine tk 5 41 Z7 HT_ HW_ rfl rfl hHeld (by rintro w' ⟨s0, s1, s2, s3⟩; go_simp; with_reducible rfl) (h := ?_)
      refine tk 6 42 Z8 HT_ HW_ rfl rfl hHeld (by rintro w' ⟨s0, s1, s2, s3⟩; go_simp; with_reducible rfl) (h := ?_)
      refine one_ (i := 7) (N := some 43) Z9 rfl rfl (one_of HT_.out (by kernel_rfl)) (by decide) (fun K hK => ?_)
      refine goes_ Try.func17 (by kernel_rfl) rfl #[.agg #[.slice A0_0 l0_0.length c0_0]] (by rfl) rfl rfl (by (try simp only [List.map_toArray, List.map_cons, List.map_nil]); first | done | rfl | (simp only [List.length_drop, List.length_take]; rfl)) ?_
      with_reducible refine (changeforgeref3_PackBytes.calls kj5 _ _ l0_0 t278 _ ?side1 ?side2 A68.out).mono ?_
      (case side1 => repeat (first | exact (Kd.C_below HR0_0.out HB.out) | (with_reducible refine Kd.C_alloc ?_ _) | (with_reducible refine Kd.C_drewN ?_ _) | (with_reducible refine Kd.C_drew ?_)))
      (case side2 => exact HC0_0.out)
      rintro e w73 ⟨v279, rfl, ho0, hb⟩
      refine ⟨_, rfl, ?_⟩
      have n0_ := aZ (Kd.R_below (by (with_reducible repeat (first | apply Kd.rA | apply Kd.rN | apply Kd.rD)); exact HO_3.out) hb)
      have n1_ := aZ (Kd.V_lower (Kd.V_mono (ok' := fun k_ => some k_ ≠ (v262 : Value).ownBlock ∧ k_ ≠ gb259 ∧ k_ ≠ gb266 ∧ k_ ≠ gb269) ho0 (fun k_ hk_ => ⟨(Kd.fresh' (Kd.R_lt (by (with_reducible repeat (first | apply Kd.rA | apply Kd.rN | apply Kd.rD)); exact HO_3.out)) k_ hk_), (Kd.freshB (g := gb259) (o := .cells #[.slice A0_0 l0_0.length c0_0] 24 (0, 0)) (by (with_reducible repeat (first | refine bN ?_ _ | refine bD ?_ | refine bA ?_ _)); exact BK259.out) k_ hk_), (Kd.freshB (g := gb266) (o := .cells #[.int .i64 t264, .int .i64 t265] 28 (0, 0)) (by (with_reducible repeat (first | refine bN ?_ _ | refine bD ?_ | refine bA ?_ _)); exact BK266.out) k_ hk_), (Kd.freshB (g := gb269) (o := .cells #[.int .i64 t267, .int .i64 t268] 28 (0, 0)) (by (with_reducible repeat (first | refine bN ?_ _ | refine bD ?_ | refine bA ?_ _)); exact BK269.out) k_ hk_)⟩)) (lZ (by repeat (first | (with_reducible first | exact HB.out | apply lA | apply lN | apply lD | refine lS ?_ GE259.out | refine lS ?_ GE266.out | refine lS ?_ GE269.out) | exact HB.out))))
      have n2_ := aZ (blk_below (g := gb259) (o := .cells #[.slice A0_0 l0_0.length c0_0] 24 (0, 0)) (by (with_reducible repeat (first | refine bN ?_ _ | refine bD ?_ | refine bA ?_ _)); exact BK259.out) hb)
      have n3_ := aZ (blk_below (g := gb266) (o := .cells #[.int .i64 t264, .int .i64 t265] 28 (0, 0)) (by (with_reducible repeat (first | refine bN ?_ _ | refine bD ?_ | refine bA ?_ _)); exact BK266.out) hb)
      have n4_ := aZ (blk_below (g := gb269) (o := .cells #[.int .i64 t267, .int .i64 t268] 28 (0, 0)) (by (with_reducible repeat (first | refine bN ?_ _ | refine bD ?_ | refine bA ?_ _)); exact BK269.out) hb)
      have n5_ := aZ (lT (by repeat (first | (with_reducible first | exact HB.out | apply lA | apply lN | apply lD | refine lS ?_ GE259.out | refine lS ?_ GE266.out | refine lS ?_ GE269.out) | exact HB.out)) hb)
      clear HO_3
      clear BK259
      clear BK266
      clear BK269
      clear HB
      have HO_3 := n0_
      have HO280 := n1_
      have BK259 := n2_
      have BK266 := n3_
      have BK269 := n4_
      have HB := n5_
      clear n0_ n1_ n2_ n3_ n4_ n5_
      (try clear hb)
      (try clear hb2)
      (try clear hk)
      (try clear hi)
      (try clear ho0)
      refine hK.out _ _ ⟨(blk_cell BK266.out 0).trans rfl, (blk_cell BK266.out 1).trans rfl, (blk_cell BK259.out 0).trans rfl, (own_string (P := Try.prog) Try.underlying26 Try.underlying5 Try.underlying9 (Kd.own_of_R (by repeat (first | exact HO_3.out | (with_reducible refine Kd.rD ?_) | (with_reducible refine Kd.rN ?_ _) | (with_reducible refine Kd.rA ?_ _)))))⟩ (fun hHeld => ?_)
      clear hK K
      refine norm_ (a' := ?_) ?_ ?_
      rotate_left
      · show Act.put _ (some 43) _ = _
        simp only [Act.put, List.setIfInBounds_toArray, List.set_cons_zero, List.set_cons_succ, i64_w, i32_w]
        rfl
      refine one_ (i := 8) (N := some 44) Z10 rfl rfl (one_of HT_.out (by kernel_rfl)) (by decide) (fun K hK => ?_)
      have hcv74 := Kd.V_string (P := Try.prog) Try.underlying26 Try.underlying5 Try.underlying9 HO280.out
      refine value_ (w1 := ?_) (v := ?_) (by rfl) rfl ?_ ?_
      rotate_left 2
      · go_simp
        constructor
        · rfl
        · rfl
      clear hcv74
      refine hK.out _ _ ⟨(blk_cell BK266.out 0).trans rfl, (blk_cell BK266.out 1).trans rfl, (blk_cell BK259.out 0).trans rfl, (own_string (P := Try.prog) Try.underlying26 Try.underlying5 Try.underlying9 (Kd.own_of_R (by repeat (first | exact HO_3.out | (with_reducible refine Kd.rD ?_) | (with_reducible refine Kd.rN ?_ _) | (with_reducible refine Kd.rA ?_ _)))))⟩ (fun hHeld => ?_)
      clear hK K
      refine norm_ (a' := ?_) ?_ ?_
      rotate_left
      · show Act.put _ (some 44) _ = _
        simp only [Act.put, List.setIfInBounds_toArray, List.set_cons_zero, List.set_cons_succ, i64_w, i32_w]
        rfl
      refine pu 9 45 Z11 HT_ rfl rfl (h := ?_)
      refine pu 10 46 Z12 HT_ rfl rfl (h := ?_)
      refine pu 11 2 Z13 HT_ rfl rfl (h := ?_)
      refine done_ (done_of HT_.out (by kernel_rfl)) ?_
      try go_wp2
      go_ret
      exact ⟨by first | rfl | (simp [errW_none, errW_some] <;> rfl) | (simp [*, errW_none, errW_some] <;> rfl), by repeat (first | (with_reducible first | exact HB.out | apply lA | apply lN | apply lD | refine lS ?_ GE259.out | refine lS ?_ GE266.out | refine lS ?_ GE269.out) | exact HB.out)⟩
    subst c32
    have H1 : ((changeforgeref3_Fault.f 10 (-1)).bind fun bt273 => (if bt273.1 = 0 then (if t264 = 0 then ((changeforgeref3_PackBytes.f kj5 l0_0).bind fun t275 => (some ((strOfNums t261).toList == (strOfNums t275).toList))) else (some false)) else (if (t264 == bt273.1 && (t265 == bt273.2)) = true then (some ((t261.length : Int) == 0)) else (some false)))) = some r := by rw [if_pos rfl] at H; exact H
    clear H
    have H := H1
    clear H1
    replace H := Option.bind_eq_some_iff.mp H
    obtain ⟨⟨t273, t274⟩, A330, H⟩ := H
    replace H : (if t273 = 0 then (if t264 = 0 then ((changeforgeref3_PackBytes.f kj5 l0_0).bind fun t275 => (some ((strOfNums t261).toList == (strOfNums t275).toList))) else (some false)) else (if (t264 == t273 && (t265 == t274)) = true then (some ((t261.length : Int) == 0)) else (some false))) = some r := H
    have A33 := aZ A330
    clear A330
    by_cases c34 : t273 = 0
    rotate_left
    · rw [if_neg c34] at H
      have c34b0 : (t273 == 0) = false := beq_eq_false_iff_ne.mpr c34
      have c34b1 : (t273 != 0) = true := bne_iff_ne.mpr c34
      by_cases c52 : (t264 == t273 && (t265 == t274)) = true
      · rw [if_pos c52] at H
        have c52b0 : (t264 == t273 && (t265 == t274)) = true := c52
        (try (have c52b1 : decide (t264 = t273 && (t265 == t274)) = true := by simpa using c52))
        (try (have c52b2 : (t264 == t273 && (t265 == t274)) = true := by simpa using c52))
        clear c52
        obtain rfl := Option.some.inj H
        go_wp2_with (first | ((with_reducible refine gate_callee (f := 18) rfl ?_); refine goesL_ (some 24) rfl rfl Try.func18 (by kernel_rfl) rfl #[.int .i64 10, .int .i64 (-1)] rfl (by (try simp only [List.map_toArray, List.map_cons, List.map_nil]); first | done | rfl | (simp only [List.length_drop, List.length_take]; rfl)) ?_; (with_reducible refine (changeforgeref3_Fault.calls 10 (-1) t273 t274 _ A33.out).mono ?_); rintro e w53 ⟨rfl, hb⟩; refine ⟨_, rfl, ?_⟩; have n0_ := aZ (Kd.R_below (by (with_reducible repeat (first | apply Kd.rA | apply Kd.rN | apply Kd.rD)); exact HO_3.out) hb); have n1_ := aZ (blk_below (g := gb259) (o := .cells #[.slice A0_0 l0_0.length c0_0] 24 (0, 0)) (by (with_reducible repeat (first | refine bN ?_ _ | refine bD ?_ | refine bA ?_ _)); exact BK259.out) hb); have n2_ := aZ (blk_below (g := gb266) (o := .cells #[.int .i64 t264, .int .i64 t265] 28 (0, 0)) (by (with_reducible repeat (first | refine bN ?_ _ | refine bD ?_ | refine bA ?_ _)); exact BK266.out) hb); have n3_ := aZ (blk_below (g := gb269) (o := .cells #[.int .i64 t267, .int .i64 t268] 28 (0, 0)) (by (with_reducible repeat (first | refine bN ?_ _ | refine bD ?_ | refine bA ?_ _)); exact BK269.out) hb); have n4_ := aZ (lT (by repeat (first | (with_reducible first | exact HB.out | apply lA | apply lN | apply lD | refine lS ?_ GE259.out | refine lS ?_ GE266.out | refine lS ?_ GE269.out) | exact HB.out)) hb); clear HO_3; clear BK259; clear BK266; clear BK269; clear HB; have HO_3 := n0_; have BK259 := n1_; have BK266 := n2_; have BK269 := n3_; have HB := n4_; clear n0_ n1_ n2_ n3_ n4_; (try clear hb); (try clear hb2); (try clear hk); (try clear hi); have hnb54 := NB269_259.out; have hnc54 := NB259_269.out; have hnb55 := NB269_266.out; have hnc55 := NB266_269.out; have hcz56_0 : w53.cell? ⟨gb269, 0, none⟩ = some (.int .i64 t267) := (blk_cell BK269.out 0).trans rfl; have hcz56_1 : w53.cell? ⟨gb269, 1, none⟩ = some (.int .i64 t268) := (blk_cell BK269.out 1).trans rfl; have hfz56_0 := blk_frozen BK269.out 0; have hfz56_1 := blk_frozen BK269.out 1; have hnb57 := NB266_259.out; have hnc57 := NB259_266.out; have hcz58_0 : w53.cell? ⟨gb266, 0, none⟩ = some (.int .i64 t264) := (blk_cell BK266.out 0).trans rfl; have hcz58_1 : w53.cell? ⟨gb266, 1, none⟩ = some (.int .i64 t265) := (blk_cell BK266.out 1).trans rfl; have hfz58_0 := blk_frozen BK266.out 0; have hfz58_1 := blk_frozen BK266.out 1; obtain ⟨Ao59, co59, eo59⟩ := Kd.R_slice HO_3.out; subst eo59))
        go_ret
        exact ⟨by first | rfl | (simp [errW_none, errW_some] <;> rfl) | (simp [*, errW_none, errW_some] <;> rfl), by repeat (first | (with_reducible first | exact HB.out | apply lA | apply lN | apply lD | refine lS ?_ GE259.out | refine lS ?_ GE266.out | refine lS ?_ GE269.out) | exact HB.out)⟩
      rw [if_neg c52] at H
      have c52b0 : (t264 == t273 && (t265 == t274)) = false := by simpa using c52
      (try (have c52b1 : decide (t264 = t273 && (t265 == t274)) = false := by simpa using c52))
      (try (have c52b2 : (t264 == t273 && (t265 == t274)) = false := by simpa using c52))
      (try (have c52b3 : ¬ (t264 = t273 && (t265 == t274)) := by simpa using c52))
      clear c52
      obtain rfl := Option.some.inj H
      go_wp2_with (first | ((with_reducible refine gate_callee (f := 18) rfl ?_); refine goesL_ (some 24) rfl rfl Try.func18 (by kernel_rfl) rfl #[.int .i64 10, .int .i64 (-1)] rfl (by (try simp only [List.map_toArray, List.map_cons, List.map_nil]); first | done | rfl | (simp only [List.length_drop, List.length_take]; rfl)) ?_; (with_reducible refine (changeforgeref3_Fault.calls 10 (-1) t273 t274 _ A33.out).mono ?_); rintro e w60 ⟨rfl, hb⟩; refine ⟨_, rfl, ?_⟩; have n0_ := aZ (Kd.R_below (by (with_reducible repeat (first | apply Kd.rA | apply Kd.rN | apply Kd.rD)); exact HO_3.out) hb); have n1_ := aZ (blk_below (g := gb259) (o := .cells #[.slice A0_0 l0_0.length c0_0] 24 (0, 0)) (by (with_reducible repeat (first | refine bN ?_ _ | refine bD ?_ | refine bA ?_ _)); exact BK259.out) hb); have n2_ := aZ (blk_below (g := gb266) (o := .cells #[.int .i64 t264, .int .i64 t265] 28 (0, 0)) (by (with_reducible repeat (first | refine bN ?_ _ | refine bD ?_ | refine bA ?_ _)); exact BK266.out) hb); have n3_ := aZ (blk_below (g := gb269) (o := .cells #[.int .i64 t267, .int .i64 t268] 28 (0, 0)) (by (with_reducible repeat (first | refine bN ?_ _ | refine bD ?_ | refine bA ?_ _)); exact BK269.out) hb); have n4_ := aZ (lT (by repeat (first | (with_reducible first | exact HB.out | apply lA | apply lN | apply lD | refine lS ?_ GE259.out | refine lS ?_ GE266.out | refine lS ?_ GE269.out) | exact HB.out)) hb); clear HO_3; clear BK259; clear BK266; clear BK269; clear HB; have HO_3 := n0_; have BK259 := n1_; have BK266 := n2_; have BK269 := n3_; have HB := n4_; clear n0_ n1_ n2_ n3_ n4_; (try clear hb); (try clear hb2); (try clear hk); (try clear hi); have hnb61 := NB269_259.out; have hnc61 := NB259_269.out; have hnb62 := NB269_266.out; have hnc62 := NB266_269.out; have hcz63_0 : w60.cell? ⟨gb269, 0, none⟩ = some (.int .i64 t267) := (blk_cell BK269.out 0).trans rfl; have hcz63_1 : w60.cell? ⟨gb269, 1, none⟩ = some (.int .i64 t268) := (blk_cell BK269.out 1).trans rfl; have hfz63_0 := blk_frozen BK269.out 0; have hfz63_1 := blk_frozen BK269.out 1; have hnb64 := NB266_259.out; have hnc64 := NB259_266.out; have hcz65_0 : w60.cell? ⟨gb266, 0, none⟩ = some (.int .i64 t264) := (blk_cell BK266.out 0).trans rfl; have hcz65_1 : w60.cell? ⟨gb266, 1, none⟩ = some (.int .i64 t265) := (blk_cell BK266.out 1).trans rfl; have hfz65_0 := blk_frozen BK266.out 0; have hfz65_1 := blk_frozen BK266.out 1))
      go_ret
      exact ⟨by first | rfl | (simp [errW_none, errW_some] <;> rfl) | (simp [*, errW_none, errW_some] <;> rfl), by repeat (first | (with_reducible first | exact HB.out | apply lA | apply lN | apply lD | refine lS ?_ GE259.out | refine lS ?_ GE266.out | refine lS ?_ GE269.out) | exact HB.out)⟩
    rw [if_pos c34] at H
    have c34b0 : (t273 == 0) = true := beq_iff_eq.mpr c34
    have c34b1 : (t273 != 0) = false := bne_eq_false_iff_eq.mpr c34
    clear c34
    by_cases c35 : t264 = 0
    rotate_left
    · rw [if_neg c35] at H
      have c35b0 : (t264 == 0) = false := beq_eq_false_iff_ne.mpr c35
      have c35b1 : (t264 != 0) = true := bne_iff_ne.mpr c35
      obtain rfl := Option.some.inj H
      try go_wp2_with (first | ((with_reducible refine gate_callee (f := 18) rfl ?_); refine goesL_ (some 24) rfl rfl Try.func18 (by kernel_rfl) rfl #[.int .i64 10, .int .i64 (-1)] rfl (by (try simp only [List.map_toArray, List.map_cons, List.map_nil]); first | done | rfl | (simp only [List.length_drop, List.length_take]; rfl)) ?_; (with_reducible refine (changeforgeref3_Fault.calls 10 (-1) t273 t274 _ A33.out).mono ?_); rintro e w46 ⟨rfl, hb⟩; refine ⟨_, rfl, ?_⟩; have n0_ := aZ (Kd.R_below (by (with_reducible repeat (first | apply Kd.rA | apply Kd.rN | apply Kd.rD)); exact HO_3.out) hb); have n1_ := aZ (blk_below (g := gb259) (o := .cells #[.slice A0_0 l0_0.length c0_0] 24 (0, 0)) (by (with_reducible repeat (first | refine bN ?_ _ | refine bD ?_ | refine bA ?_ _)); exact BK259.out) hb); have n2_ := aZ (blk_below (g := gb266) (o := .cells #[.int .i64 t264, .int .i64 t265] 28 (0, 0)) (by (with_reducible repeat (first | refine bN ?_ _ | refine bD ?_ | refine bA ?_ _)); exact BK266.out) hb); have n3_ := aZ (blk_below (g := gb269) (o := .cells #[.int .i64 t267, .int .i64 t268] 28 (0, 0)) (by (with_reducible repeat (first | refine bN ?_ _ | refine bD ?_ | refine bA ?_ _)); exact BK269.out) hb); have n4_ := aZ (lT (by repeat (first | (with_reducible first | exact HB.out | apply lA | apply lN | apply lD | refine lS ?_ GE259.out | refine lS ?_ GE266.out | refine lS ?_ GE269.out) | exact HB.out)) hb); clear HO_3; clear BK259; clear BK266; clear BK269; clear HB; have HO_3 := n0_; have BK259 := n1_; have BK266 := n2_; have BK269 := n3_; have HB := n4_; clear n0_ n1_ n2_ n3_ n4_; (try clear hb); (try clear hb2); (try clear hk); (try clear hi); have hnb47 := NB269_259.out; have hnc47 := NB259_269.out; have hnb48 := NB269_266.out; have hnc48 := NB266_269.out; have hcz49_0 : w46.cell? ⟨gb269, 0, none⟩ = some (.int .i64 t267) := (blk_cell BK269.out 0).trans rfl; have hcz49_1 : w46.cell? ⟨gb269, 1, none⟩ = some (.int .i64 t268) := (blk_cell BK269.out 1).trans rfl; have hfz49_0 := blk_frozen BK269.out 0; have hfz49_1 := blk_frozen BK269.out 1))
      have n0_ : Aside0 (Kd.R (Kd.int .u8) 5 ((w46.setCell ⟨gb269, 0, none⟩ (.int .i64 t273)).setCell ⟨gb269, 1, none⟩ (.int .i64 t274)) w.heap.size (fun _ => True) v262 t261) := ⟨by (with_reducible repeat (first | apply Kd.rA | apply Kd.rN | apply Kd.rD)); exact Kd.R_mono (Kd.R_far (p := ⟨gb269, 1, none⟩) (Kd.R_far (p := ⟨gb269, 0, none⟩) (Kd.R_types HO_3.out BK269.out (by decide)) (fun _ hk => hk.2) (.int .i64 t273)) (fun _ hk => hk.2) (.int .i64 t274)) (fun _ hk => trivial)⟩
      have n1_ : Aside0 (((w46.setCell ⟨gb269, 0, none⟩ (.int .i64 t273)).setCell ⟨gb269, 1, none⟩ (.int .i64 t274)).heap[gb259]? = some (.cells #[.slice A0_0 l0_0.length c0_0] 24 (0, 0))) := ⟨by (with_reducible repeat (first | refine bN ?_ _ | refine bD ?_ | refine bA ?_ _)); refine blk_far ?_ NB259_269.out _; (with_reducible repeat (first | refine bN ?_ _ | refine bD ?_ | refine bA ?_ _)); refine blk_far ?_ NB259_269.out _; (with_reducible repeat (first | refine bN ?_ _ | refine bD ?_ | refine bA ?_ _)); exact BK259.out⟩
      have n2_ : Aside0 (((w46.setCell ⟨gb269, 0, none⟩ (.int .i64 t273)).setCell ⟨gb269, 1, none⟩ (.int .i64 t274)).heap[gb266]? = some (.cells #[.int .i64 t264, .int .i64 t265] 28 (0, 0))) := ⟨by (with_reducible repeat (first | refine bN ?_ _ | refine bD ?_ | refine bA ?_ _)); refine blk_far ?_ NB266_269.out _; (with_reducible repeat (first | refine bN ?_ _ | refine bD ?_ | refine bA ?_ _)); refine blk_far ?_ NB266_269.out _; (with_reducible repeat (first | refine bN ?_ _ | refine bD ?_ | refine bA ?_ _)); exact BK266.out⟩
      have n3_ : Aside0 (((w46.setCell ⟨gb269, 0, none⟩ (.int .i64 t273)).setCell ⟨gb269, 1, none⟩ (.int .i64 t274)).heap[gb269]? = some (.cells #[.int .i64 t273, .int .i64 t274] 28 (0, 0))) := ⟨by (with_reducible repeat (first | refine bN ?_ _ | refine bD ?_ | refine bA ?_ _)); refine blk_put (cs := #[.int .i64 t273, .int .i64 t268]) ?_ 1 _ rfl; (with_reducible repeat (first | refine bN ?_ _ | refine bD ?_ | refine bA ?_ _)); refine blk_put (cs := #[.int .i64 t267, .int .i64 t268]) ?_ 0 _ rfl; (with_reducible repeat (first | refine bN ?_ _ | refine bD ?_ | refine bA ?_ _)); exact BK269.out⟩
      have n4_ : Aside0 (Below w.heap.size w ((w46.setCell ⟨gb269, 0, none⟩ (.int .i64 t273)).setCell ⟨gb269, 1, none⟩ (.int .i64 t274))) := ⟨by repeat (first | (with_reducible first | exact HB.out | apply lA | apply lN | apply lD | refine lS ?_ GE259.out | refine lS ?_ GE266.out | refine lS ?_ GE269.out) | exact HB.out)⟩
      (try clear HO_3)
      (try clear BK259)
      (try clear BK266)
      (try clear BK269)
      (try clear HB)
      generalize ((w46.setCell ⟨gb269, 0, none⟩ (.int .i64 t273)).setCell ⟨gb269, 1, none⟩ (.int .i64 t274)) = w50 at n0_ n1_ n2_ n3_ n4_ ⊢
      have HO_3 := n0_
      have BK259 := n1_
      have BK266 := n2_
      have BK269 := n3_
      have HB := n4_
      clear n0_ n1_ n2_ n3_ n4_
      have n0_ := aZ (Kd.rD HO_3.out)
      have n1_ := aZ (bD BK259.out)
      have n2_ := aZ (bD BK266.out)
      have n3_ := aZ (bD BK269.out)
      have n4_ := aZ (lD HB.out)
      clear HO_3
      clear BK259
      clear BK266
      clear BK269
      clear HB
      have HO_3 := n0_
      have BK259 := n1_
      have BK266 := n2_
      have BK269 := n3_
      have HB := n4_
      clear n0_ n1_ n2_ n3_ n4_
      refine start_ (n := 12) (S := fun w' => w'.cell? ⟨gb266, 0, none⟩ = some (.int .i64 t264) ∧ w'.cell? ⟨gb266, 1, none⟩ = some (.int .i64 t265)) (ds := []) Z1 (by kernel_rfl) rfl rfl ⟨(blk_cell BK266.out 0).trans rfl, (blk_cell BK266.out 1).trans rfl⟩ (fun hHeld => ?_); refine with_tabW changeforgelaw3_PackBuildMatchesSpec.tab9 changeforgelaw3_PackBuildMatchesSpec.bits9 (fun HT_ HW_ => ?_)
      generalize w50.drew = w51 at HO_3 BK259 BK266 BK269 HB hHeld ⊢
      refine pu 0 36 Z2 HT_ rfl rfl (h := ?_)
      refine tk 1 37 Z3 HT_ HW_ rfl rfl hHeld (by rintro w' ⟨s0, s1⟩; go_simp; with_reducible rfl) (h := ?_)
      refine pu 2 38 Z4 HT_ rfl rfl (h := ?_)
      refine pu 3 39 Z5 HT_ rfl rfl (h := ?_)
      refine pv 4 40 Z6 HT_ rfl rfl (h := ?_)
      refine pv 5 41 Z7 HT_ rfl rfl (h := ?_)
      refine pv 6 42 Z8 HT_ rfl rfl (h := ?_)
      refine pv 7 43 Z9 HT_ rfl rfl (h := ?_)
      refine pv 8 44 Z10 HT_ rfl rfl (h := ?_)
      refine pv 9 45 Z11 HT_ rfl rfl (h := ?_)
      refine pu 10 46 Z12 HT_ rfl rfl (h := ?_)
      refine pu 11 2 Z13 HT_ rfl rfl (h := ?_)
      refine done_ (done_of HT_.out (by kernel_rfl)) ?_
      try go_wp2
      go_ret
      exact ⟨by first | rfl | (simp [errW_none, errW_some] <;> rfl) | (simp [*, errW_none, errW_some] <;> rfl), by repeat (first | (with_reducible first | exact HB.out | apply lA | apply lN | apply lD | refine lS ?_ GE259.out | refine lS ?_ GE266.out | refine lS ?_ GE269.out) | exact HB.out)⟩
    rw [if_pos c35] at H
    have c35b0 : (t264 == 0) = true := beq_iff_eq.mpr c35
    have c35b1 : (t264 != 0) = false := bne_eq_false_iff_eq.mpr c35
    clear c35
    replace H := Option.bind_eq_some_iff.mp H
    obtain ⟨t275, A360, H⟩ := H
    replace H : (some ((strOfNums t261).toList == (strOfNums t275).toList)) = some r := H
    have A36 := aZ A360
    clear A360
    obtain rfl := Option.some.inj H
    try go_wp2_with (first | ((with_reducible refine gate_callee (f := 18) rfl ?_); refine goesL_ (some 24) rfl rfl Try.func18 (by kernel_rfl) rfl #[.int .i64 10, .int .i64 (-1)] rfl (by (try simp only [List.map_toArray, List.map_cons, List.map_nil]); first | done | rfl | (simp only [List.length_drop, List.length_take]; rfl)) ?_; (with_reducible refine (changeforgeref3_Fault.calls 10 (-1) t273 t274 _ A33.out).mono ?_); rintro e w37 ⟨rfl, hb⟩; refine ⟨_, rfl, ?_⟩; have n0_ := aZ (Kd.R_below (by (with_reducible repeat (first | apply Kd.rA | apply Kd.rN | apply Kd.rD)); exact HO_3.out) hb); have n1_ := aZ (blk_below (g := gb259) (o := .cells #[.slice A0_0 l0_0.length c0_0] 24 (0, 0)) (by (with_reducible repeat (first | refine bN ?_ _ | refine bD ?_ | refine bA ?_ _)); exact BK259.out) hb); have n2_ := aZ (blk_below (g := gb266) (o := .cells #[.int .i64 t264, .int .i64 t265] 28 (0, 0)) (by (with_reducible repeat (first | refine bN ?_ _ | refine bD ?_ | refine bA ?_ _)); exact BK266.out) hb); have n3_ := aZ (blk_below (g := gb269) (o := .cells #[.int .i64 t267, .int .i64 t268] 28 (0, 0)) (by (with_reducible repeat (first | refine bN ?_ _ | refine bD ?_ | refine bA ?_ _)); exact BK269.out) hb); have n4_ := aZ (lT (by repeat (first | (with_reducible first | exact HB.out | apply lA | apply lN | apply lD | refine lS ?_ GE259.out | refine lS ?_ GE266.out | refine lS ?_ GE269.out) | exact HB.out)) hb); clear HO_3; clear BK259; clear BK266; clear BK269; clear HB; have HO_3 := n0_; have BK259 := n1_; have BK266 := n2_; have BK269 := n3_; have HB := n4_; clear n0_ n1_ n2_ n3_ n4_; (try clear hb); (try clear hb2); (try clear hk); (try clear hi); have hnb38 := NB269_259.out; have hnc38 := NB259_269.out; have hnb39 := NB269_266.out; have hnc39 := NB266_269.out; have hcz40_0 : w37.cell? ⟨gb269, 0, none⟩ = some (.int .i64 t267) := (blk_cell BK269.out 0).trans rfl; have hcz40_1 : w37.cell? ⟨gb269, 1, none⟩ = some (.int .i64 t268) := (blk_cell BK269.out 1).trans rfl; have hfz40_0 := blk_frozen BK269.out 0; have hfz40_1 := blk_frozen BK269.out 1))
    have n0_ : Aside0 (Kd.R (Kd.int .u8) 5 ((w37.setCell ⟨gb269, 0, none⟩ (.int .i64 t273)).setCell ⟨gb269, 1, none⟩ (.int .i64 t274)) w.heap.size (fun _ => True) v262 t261) := ⟨by (with_reducible repeat (first | apply Kd.rA | apply Kd.rN | apply Kd.rD)); exact Kd.R_mono (Kd.R_far (p := ⟨gb269, 1, none⟩) (Kd.R_far (p := ⟨gb269, 0, none⟩) (Kd.R_types HO_3.out BK269.out (by decide)) (fun _ hk => hk.2) (.int .i64 t273)) (fun _ hk => hk.2) (.int .i64 t274)) (fun _ hk => trivial)⟩
    have n1_ : Aside0 (((w37.setCell ⟨gb269, 0, none⟩ (.int .i64 t273)).setCell ⟨gb269, 1, none⟩ (.int .i64 t274)).heap[gb259]? = some (.cells #[.slice A0_0 l0_0.length c0_0] 24 (0, 0))) := ⟨by (with_reducible repeat (first | refine bN ?_ _ | refine bD ?_ | refine bA ?_ _)); refine blk_far ?_ NB259_269.out _; (with_reducible repeat (first | refine bN ?_ _ | refine bD ?_ | refine bA ?_ _)); refine blk_far ?_ NB259_269.out _; (with_reducible repeat (first | refine bN ?_ _ | refine bD ?_ | refine bA ?_ _)); exact BK259.out⟩
    have n2_ : Aside0 (((w37.setCell ⟨gb269, 0, none⟩ (.int .i64 t273)).setCell ⟨gb269, 1, none⟩ (.int .i64 t274)).heap[gb266]? = some (.cells #[.int .i64 t264, .int .i64 t265] 28 (0, 0))) := ⟨by (with_reducible repeat (first | refine bN ?_ _ | refine bD ?_ | refine bA ?_ _)); refine blk_far ?_ NB266_269.out _; (with_reducible repeat (first | refine bN ?_ _ | refine bD ?_ | refine bA ?_ _)); refine blk_far ?_ NB266_269.out _; (with_reducible repeat (first | refine bN ?_ _ | refine bD ?_ | refine bA ?_ _)); exact BK266.out⟩
    have n3_ : Aside0 (((w37.setCell ⟨gb269, 0, none⟩ (.int .i64 t273)).setCell ⟨gb269, 1, none⟩ (.int .i64 t274)).heap[gb269]? = some (.cells #[.int .i64 t273, .int .i64 t274] 28 (0, 0))) := ⟨by (with_reducible repeat (first | refine bN ?_ _ | refine bD ?_ | refine bA ?_ _)); refine blk_put (cs := #[.int .i64 t273, .int .i64 t268]) ?_ 1 _ rfl; (with_reducible repeat (first | refine bN ?_ _ | refine bD ?_ | refine bA ?_ _)); refine blk_put (cs := #[.int .i64 t267, .int .i64 t268]) ?_ 0 _ rfl; (with_reducible repeat (first | refine bN ?_ _ | refine bD ?_ | refine bA ?_ _)); exact BK269.out⟩
    have n4_ : Aside0 (Below w.heap.size w ((w37.setCell ⟨gb269, 0, none⟩ (.int .i64 t273)).setCell ⟨gb269, 1, none⟩ (.int .i64 t274))) := ⟨by repeat (first | (with_reducible first | exact HB.out | apply lA | apply lN | apply lD | refine lS ?_ GE259.out | refine lS ?_ GE266.out | refine lS ?_ GE269.out) | exact HB.out)⟩
    (try clear HO_3)
    (try clear BK259)
    (try clear BK266)
    (try clear BK269)
    (try clear HB)
    generalize ((w37.setCell ⟨gb269, 0, none⟩ (.int .i64 t273)).setCell ⟨gb269, 1, none⟩ (.int .i64 t274)) = w41 at n0_ n1_ n2_ n3_ n4_ ⊢
    have HO_3 := n0_
    have BK259 := n1_
    have BK266 := n2_
    have BK269 := n3_
    have HB := n4_
    clear n0_ n1_ n2_ n3_ n4_
    have n0_ := aZ (Kd.rD HO_3.out)
    have n1_ := aZ (bD BK259.out)
    have n2_ := aZ (bD BK266.out)
    have n3_ := aZ (bD BK269.out)
    have n4_ := aZ (lD HB.out)
    clear HO_3
    clear BK259
    clear BK266
    clear BK269
    clear HB
    have HO_3 := n0_
    have BK259 := n1_
    have BK266 := n2_
    have BK269 := n3_
    have HB := n4_
    clear n0_ n1_ n2_ n3_ n4_
    refine start_ (n := 12) (S := fun w' => w'.cell? ⟨gb266, 0, none⟩ = some (.int .i64 t264) ∧ w'.cell? ⟨gb266, 1, none⟩ = some (.int .i64 t265) ∧ w'.cell? ⟨gb259, 0, none⟩ = some (.slice A0_0 l0_0.length c0_0) ∧ (convert 26 9 v262).run Try.prog w' = .ok (.string (strOfNums t261)) w') (ds := []) Z1 (by kernel_rfl) rfl rfl ⟨(blk_cell BK266.out 0).trans rfl, (blk_cell BK266.out 1).trans rfl, (blk_cell BK259.out 0).trans rfl, (own_string (P := Try.prog) Try.underlying26 Try.underlying5 Try.underlying9 (Kd.own_of_R (by repeat (first | exact HO_3.out | (with_reducible refine Kd.rD ?_) | (with_reducible refine Kd.rN ?_ _) | (with_reducible refine Kd.rA ?_ _)))))⟩ (fun hHeld => ?_); refine with_tabW changeforgelaw3_PackBuildMatchesSpec.tab9 changeforgelaw3_PackBuildMatchesSpec.bits9 (fun HT_ HW_ => ?_)
    generalize w41.drew = w42 at HO_3 BK259 BK266 BK269 HB hHeld ⊢
    refine pu 0 36 Z2 HT_ rfl rfl (h := ?_)
    refine tk 1 37 Z3 HT_ HW_ rfl rfl hHeld (by rintro w' ⟨s0, s1, s2, s3⟩; go_simp; with_reducible rfl) (h := ?_)
    refine pu 2 38 Z4 HT_ rfl rfl (h := ?_)
    refine pu 3 39 Z5 HT_ rfl rfl (h := ?_)
    refine pu 4 40 Z6 HT_ rfl rfl (h := ?_)
    refine tk 5 41 Z7 HT_ HW_ rfl rfl hHeld (by rintro w' ⟨s0, s1, s2, s3⟩; go_simp; with_reducible rfl) (h := ?_)
    refine tk 6 42 Z8 HT_ HW_ rfl rfl hHeld (by rintro w' ⟨s0, s1, s2, s3⟩; go_simp; with_reducible rfl) (h := ?_)
    refine one_ (i := 7) (N := some 43) Z9 rfl rfl (one_of HT_.out (by kernel_rfl)) (by decide) (fun K hK => ?_)
    refine goes_ Try.func17 (by kernel_rfl) rfl #[.agg #[.slice A0_0 l0_0.length c0_0]] (by rfl) rfl rfl (by (try simp only [List.map_toArray, List.map_cons, List.map_nil]); first | done | rfl | (simp only [List.length_drop, List.length_take]; rfl)) ?_
    with_reducible refine (changeforgeref3_PackBytes.calls kj5 _ _ l0_0 t275 _ ?side1 ?side2 A36.out).mono ?_
    (case side1 => repeat (first | exact (Kd.C_below HR0_0.out HB.out) | (with_reducible refine Kd.C_alloc ?_ _) | (with_reducible refine Kd.C_drewN ?_ _) | (with_reducible refine Kd.C_drew ?_)))
    (case side2 => exact HC0_0.out)
    rintro e w43 ⟨v276, rfl, ho0, hb⟩
    refine ⟨_, rfl, ?_⟩
    have n0_ := aZ (Kd.R_below (by (with_reducible repeat (first | apply Kd.rA | apply Kd.rN | apply Kd.rD)); exact HO_3.out) hb)
    have n1_ := aZ (Kd.V_lower (Kd.V_mono (ok' := fun k_ => some k_ ≠ (v262 : Value).ownBlock ∧ k_ ≠ gb259 ∧ k_ ≠ gb266 ∧ k_ ≠ gb269) ho0 (fun k_ hk_ => ⟨(Kd.fresh' (Kd.R_lt (by (with_reducible repeat (first | apply Kd.rA | apply Kd.rN | apply Kd.rD)); exact HO_3.out)) k_ hk_), (Kd.freshB (g := gb259) (o := .cells #[.slice A0_0 l0_0.length c0_0] 24 (0, 0)) (by (with_reducible repeat (first | refine bN ?_ _ | refine bD ?_ | refine bA ?_ _)); exact BK259.out) k_ hk_), (Kd.freshB (g := gb266) (o := .cells #[.int .i64 t264, .int .i64 t265] 28 (0, 0)) (by (with_reducible repeat (first | refine bN ?_ _ | refine bD ?_ | refine bA ?_ _)); exact BK266.out) k_ hk_), (Kd.freshB (g := gb269) (o := .cells #[.int .i64 t273, .int .i64 t274] 28 (0, 0)) (by (with_reducible repeat (first | refine bN ?_ _ | refine bD ?_ | refine bA ?_ _)); exact BK269.out) k_ hk_)⟩)) (lZ (by repeat (first | (with_reducible first | exact HB.out | apply lA | apply lN | apply lD | refine lS ?_ GE259.out | refine lS ?_ GE266.out | refine lS ?_ GE269.out) | exact HB.out))))
    have n2_ := aZ (blk_below (g := gb259) (o := .cells #[.slice A0_0 l0_0.length c0_0] 24 (0, 0)) (by (with_reducible repeat (first | refine bN ?_ _ | refine bD ?_ | refine bA ?_ _)); exact BK259.out) hb)
    have n3_ := aZ (blk_below (g := gb266) (o := .cells #[.int .i64 t264, .int .i64 t265] 28 (0, 0)) (by (with_reducible repeat (first | refine bN ?_ _ | refine bD ?_ | refine bA ?_ _)); exact BK266.out) hb)
    have n4_ := aZ (blk_below (g := gb269) (o := .cells #[.int .i64 t273, .int .i64 t274] 28 (0, 0)) (by (with_reducible repeat (first | refine bN ?_ _ | refine bD ?_ | refine bA ?_ _)); exact BK269.out) hb)
    have n5_ := aZ (lT (by repeat (first | (with_reducible first | exact HB.out | apply lA | apply lN | apply lD | refine lS ?_ GE259.out | refine lS ?_ GE266.out | refine lS ?_ GE269.out) | exact HB.out)) hb)
    clear HO_3
    clear BK259
    clear BK266
    clear BK269
    clear HB
    have HO_3 := n0_
    have HO277 := n1_
    have BK259 := n2_
    have BK266 := n3_
    have BK269 := n4_
    have HB := n5_
    clear n0_ n1_ n2_ n3_ n4_ n5_
    (try clear hb)
    (try clear hb2)
    (try clear hk)
    (try clear hi)
    (try clear ho0)
    refine hK.out _ _ ⟨(blk_cell BK266.out 0).trans rfl, (blk_cell BK266.out 1).trans rfl, (blk_cell BK259.out 0).trans rfl, (own_string (P := Try.prog) Try.underlying26 Try.underlying5 Try.underlying9 (Kd.own_of_R (by repeat (first | exact HO_3.out | (with_reducible refine Kd.rD ?_) | (with_reducible refine Kd.rN ?_ _) | (with_reducible refine Kd.rA ?_ _)))))⟩ (fun hHeld => ?_)
    clear hK K
    refine norm_ (a' := ?_) ?_ ?_
    rotate_left
    · show Act.put _ (some 43) _ = _
      simp only [Act.put, List.setIfInBounds_toArray, List.set_cons_zero, List.set_cons_succ, i64_w, i32_w]
      rfl
    refine one_ (i := 8) (N := some 44) Z10 rfl rfl (one_of HT_.out (by kernel_rfl)) (by decide) (fun K hK => ?_)
    have hcv44 := Kd.V_string (P := Try.prog) Try.underlying26 Try.underlying5 Try.underlying9 HO277.out
    refine value_ (w1 := ?_) (v := ?_) (by rfl) rfl ?_ ?_
    rotate_left 2
    · go_simp
      constructor
      · rfl
      · rfl
    clear hcv44
    refine hK.out _ _ ⟨(blk_cell BK266.out 0).trans rfl, (blk_cell BK266.out 1).trans rfl, (blk_cell BK259.out 0).trans rfl, (own_string (P := Try.prog) Try.underlying26 Try.underlying5 Try.underlying9 (Kd.own_of_R (by repeat (first | exact HO_3.out | (with_reducible refine Kd.rD ?_) | (with_reducible refine Kd.rN ?_ _) | (with_reducible refine Kd.rA ?_ _)))))⟩ (fun hHeld => ?_)
    clear hK K
    refine norm_ (a' := ?_) ?_ ?_
    rotate_left
    · show Act.put _ (some 44) _ = _
      simp only [Act.put, List.setIfInBounds_toArray, List.set_cons_zero, List.set_cons_succ, i64_w, i32_w]
      rfl
    refine pu 9 45 Z11 HT_ rfl rfl (h := ?_)
    refine pu 10 46 Z12 HT_ rfl rfl (h := ?_)
    refine pu 11 2 Z13 HT_ rfl rfl (h := ?_)
    refine done_ (done_of HT_.out (by kernel_rfl)) ?_
    try go_wp2
    go_ret
    exact ⟨by first | rfl | (simp [errW_none, errW_some] <;> rfl) | (simp [*, errW_none, errW_some] <;> rfl), by repeat (first | (with_reducible first | exact HB.out | apply lA | apply lN | apply lD | refine lS ?_ GE259.out | refine lS ?_ GE266.out | refine lS ?_ GE269.out) | exact HB.out)⟩
/-- THE PURE STATEMENT of changeforgelaw3_PackBuildMatchesSpec. -/
def changeforgelaw3_PackBuildMatchesSpec.Pure : Prop := ∀ (x0 : S24), S24.ok x0 → ∃ k, changeforgelaw3_PackBuildMatchesSpec.f k x0.f0 = some true

end Go.Proofs.Ytnmkmamobhkcbaa.P
