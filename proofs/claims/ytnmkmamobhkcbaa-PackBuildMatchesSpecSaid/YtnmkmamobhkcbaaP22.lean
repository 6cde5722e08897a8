/- What the Go functions of this seat compute, and that they do: printed by a program over the kit's print. -/
import Derived.Test.YtnmkmamobhkcbaaP0
import Derived.Test.YtnmkmamobhkcbaaP15
import Derived.Test.YtnmkmamobhkcbaaP16
import Derived.Test.YtnmkmamobhkcbaaP21
namespace Go.Proofs.Ytnmkmamobhkcbaa.P
open Go.RowKit Go.Proofs.YtnmkmamobhkcbaaW.PrintWords Go.Proofs.YtnmkmamobhkcbaaW.PrintLast Go.Proofs.YtnmkmamobhkcbaaW.PrintMore
attribute [local go_sem] max2_int min2_int max_two min_two max_three min_three max_four min_four   -- for this text's walks alone
set_option linter.unusedVariables false
set_option linter.unusedSimpArgs false

/-! ### changeforgeref3_StoreFault: function 16 -/
def changeforgeref3_StoreFault.l0 : Nat → Int → List (S46) → Option (Int × Int)
  | 0, _, _ => none
  | k + 1, x3, x225000 => if x3 < (x225000.length : Int) then (if 0 ≤ x3 then ((changeforgeref3_ObjectFault.f k ((rd_T46 x225000 x3).f1.f0) ((rd_T46 x225000 x3).f1.f1) ((rd_T46 x225000 x3).f1.f2)).bind fun bt229 => (if bt229.1 = 0 then ((changeforgeref3_ObjectDigest.f k ((rd_T46 x225000 x3).f1.f0) ((rd_T46 x225000 x3).f1.f1) ((rd_T46 x225000 x3).f1.f2)).bind fun t235 => (if t235 = ((rd_T46 x225000 x3).f0) then (if x3 > 0 then (if 0 ≤ (wrap64 (x3 - 1)) then (if (wrap64 (x3 - 1)) < (x225000.length : Int) then (if ((rd_T46 x225000 x3).f0) ≤ ((rd_T46 x225000 (wrap64 (x3 - 1))).f0) then ((changeforgeref3_Fault.f 5 x3).bind fun bt239 => (some (bt239.1, bt239.2))) else (changeforgeref3_StoreFault.l0 k (wrap64 (x3 + 1)) x225000)) else (none)) else (none)) else (changeforgeref3_StoreFault.l0 k (wrap64 (x3 + 1)) x225000)) else ((changeforgeref3_Fault.f 18 x3).bind fun bt241 => (some (bt241.1, bt241.2))))) else ((changeforgeref3_Fault.f bt229.1 x3).bind fun bt232 => (some (bt232.1, bt232.2))))) else (none)) else (some (0, 0))
def changeforgeref3_StoreFault.f (k : Nat) (l0_0 : List (S46)) : Option (Int × Int) := if (l0_0.length : Int) > 40 then ((changeforgeref3_Fault.f 2 0).bind fun bt226 => (some (bt226.1, bt226.2))) else (changeforgeref3_StoreFault.l0 k 0 l0_0)
theorem changeforgeref3_StoreFault.mono_l : ∀ k, (∀ y0 y1, LeO (changeforgeref3_StoreFault.l0 k y0 y1) (changeforgeref3_StoreFault.l0 (k + 1) y0 y1))
  | 0 => fun _ _ r h => by simp [changeforgeref3_StoreFault.l0] at h
  | k + 1 => by
    have ih0 := changeforgeref3_StoreFault.mono_l k
    · intro y0 y1
      unfold changeforgeref3_StoreFault.l0
      repeat' first
      | (with_reducible exact ih0 _ _)
      | (with_reducible exact changeforgeref3_ObjectDigest.mono _ _ _ _)
      | (with_reducible exact changeforgeref3_ObjectFault.mono _ _ _ _)
      | (with_reducible exact LeO.refl _)
      | (with_reducible exact LeO.none _)
      | (with_reducible refine LeO.ite ?_ ?_)
      | (with_reducible refine LeO.bind ?_ (fun _ => ?_))
      | exact ih0 _ _
      | exact changeforgeref3_ObjectDigest.mono _ _ _ _
      | exact changeforgeref3_ObjectFault.mono _ _ _ _
      | exact LeO.none _
      | refine LeO.ite ?_ ?_
      | refine LeO.bind ?_ (fun _ => ?_)
theorem changeforgeref3_StoreFault.mono : ∀ a0 k, LeO (changeforgeref3_StoreFault.f k a0) (changeforgeref3_StoreFault.f (k + 1) a0) := by
  intro a0 k
  have ih0 := changeforgeref3_StoreFault.mono_l k
  unfold changeforgeref3_StoreFault.f
  repeat' first
      | (with_reducible exact ih0 _ _)
      | (with_reducible exact changeforgeref3_ObjectDigest.mono _ _ _ _)
      | (with_reducible exact changeforgeref3_ObjectFault.mono _ _ _ _)
      | (with_reducible exact LeO.refl _)
      | (with_reducible exact LeO.none _)
      | (with_reducible refine LeO.ite ?_ ?_)
      | (with_reducible refine LeO.bind ?_ (fun _ => ?_))
      | exact ih0 _ _
      | exact changeforgeref3_ObjectDigest.mono _ _ _ _
      | exact changeforgeref3_ObjectFault.mono _ _ _ _
      | exact LeO.none _
      | refine LeO.ite ?_ ?_
      | refine LeO.bind ?_ (fun _ => ?_)
def changeforgeref3_StoreFault.T9 : Bool × List (List Nat × List Nat) := (true, [([], []), ([0], [0]), ([], []), ([1, 2], [1, 2]), ([3], [3]), ([4], [4]), ([5], [5]), ([], []), ([7], [7]), ([], []), ([8, 9], [8, 9]), ([10], [10]), ([11], [11]), ([6, 12], [6, 12])])
def changeforgeref3_StoreFault.B9 : List Nat := [0, 1, 0, 7, 15, 31, 63, 0, 128, 0, 896, 1920, 3968, 8191]
theorem changeforgeref3_StoreFault.tab9 : rtab .any (opsOf Try.f16 9) = changeforgeref3_StoreFault.T9 := by kernel_rfl
theorem changeforgeref3_StoreFault.bits9 : waitsOk changeforgeref3_StoreFault.T9.2 changeforgeref3_StoreFault.B9 = true := by kernel_rfl
def changeforgeref3_StoreFault.T11 : Bool × List (List Nat × List Nat) := (true, [([], []), ([0], [0]), ([1], [1]), ([2], [2]), ([3, 2], [2, 3]), ([2], [2]), ([4, 5, 2], [2, 4, 5]), ([6, 2], [2, 6]), ([7, 2], [2, 7]), ([2], [2]), ([9, 2], [2, 9]), ([2], [2]), ([11, 2], [2, 11]), ([10, 12, 2], [2, 10, 12]), ([13, 2], [2, 13]), ([14, 2], [2, 14]), ([8, 15, 2], [2, 8, 15]), ([2, 16], [2, 16])])
def changeforgeref3_StoreFault.B11 : List Nat := [0, 1, 3, 7, 15, 7, 63, 127, 255, 7, 519, 7, 2055, 7687, 15879, 32263, 65535, 131071]
theorem changeforgeref3_StoreFault.tab11 : rtab .any (opsOf Try.f16 11) = changeforgeref3_StoreFault.T11 := by kernel_rfl
theorem changeforgeref3_StoreFault.bits11 : waitsOk changeforgeref3_StoreFault.T11.2 changeforgeref3_StoreFault.B11 = true := by kernel_rfl
abbrev changeforgeref3_StoreFault.Z1 : Array Bool := #[false, false, false, false, false, false, false, false, false, false, false, false, false, false]
abbrev changeforgeref3_StoreFault.Z2 : Array Bool := #[true, false, false, false, false, false, false, false, false, false, false, false, false, false]
abbrev changeforgeref3_StoreFault.Z3 : Array Bool := #[true, false, true, false, false, false, false, false, false, false, false, false, false, false]
abbrev changeforgeref3_StoreFault.Z4 : Array Bool := #[true, false, true, false, false, false, false, true, false, false, false, false, false, false]
abbrev changeforgeref3_StoreFault.Z5 : Array Bool := #[true, false, true, false, false, false, false, true, false, true, false, false, false, false]
abbrev changeforgeref3_StoreFault.Z6 : Array Bool := #[true, true, true, false, false, false, false, true, false, true, false, false, false, false]
abbrev changeforgeref3_StoreFault.Z7 : Array Bool := #[true, true, true, true, false, false, false, true, false, true, false, false, false, false]
abbrev changeforgeref3_StoreFault.Z8 : Array Bool := #[true, true, true, true, true, false, false, true, false, true, false, false, false, false]
abbrev changeforgeref3_StoreFault.Z9 : Array Bool := #[true, true, true, true, true, true, false, true, false, true, false, false, false, false]
abbrev changeforgeref3_StoreFault.Z10 : Array Bool := #[true, true, true, true, true, true, false, true, true, true, false, false, false, false]
abbrev changeforgeref3_StoreFault.Z11 : Array Bool := #[true, true, true, true, true, true, false, true, true, true, true, false, false, false]
abbrev changeforgeref3_StoreFault.Z12 : Array Bool := #[true, true, true, true, true, true, false, true, true, true, true, true, false, false]
abbrev changeforgeref3_StoreFault.Z13 : Array Bool := #[true, true, true, true, true, true, false, true, true, true, true, true, true, false]
abbrev changeforgeref3_StoreFault.Z14 : Array Bool := #[true, true, true, true, true, true, true, true, true, true, true, true, true, false]
abbrev changeforgeref3_StoreFault.Z15 : Array Bool := #[true, true, true, true, true, true, true, true, true, true, true, true, true, true]
abbrev changeforgeref3_StoreFault.Z16 : Array Bool := #[false, false, false, false, false, false, false, false, false, false, false, false, false, false, false, false, false, false]
abbrev changeforgeref3_StoreFault.Z17 : Array Bool := #[true, false, false, false, false, false, false, false, false, false, false, false, false, false, false, false, false, false]
abbrev changeforgeref3_StoreFault.Z18 : Array Bool := #[true, true, false, false, false, false, false, false, false, false, false, false, false, false, false, false, false, false]
abbrev changeforgeref3_StoreFault.Z19 : Array Bool := #[true, true, true, false, false, false, false, false, false, false, false, false, false, false, false, false, false, false]
abbrev changeforgeref3_StoreFault.Z20 : Array Bool := #[true, true, true, true, false, false, false, false, false, false, false, false, false, false, false, false, false, false]
abbrev changeforgeref3_StoreFault.Z21 : Array Bool := #[true, true, true, true, false, true, false, false, false, false, false, false, false, false, false, false, false, false]
abbrev changeforgeref3_StoreFault.Z22 : Array Bool := #[true, true, true, true, false, true, false, false, false, true, false, false, false, false, false, false, false, false]
abbrev changeforgeref3_StoreFault.Z23 : Array Bool := #[true, true, true, true, false, true, false, false, false, true, false, true, false, false, false, false, false, false]
abbrev changeforgeref3_StoreFault.Z24 : Array Bool := #[true, true, true, true, false, true, false, false, false, true, false, true, true, false, false, false, false, false]
abbrev changeforgeref3_StoreFault.Z25 : Array Bool := #[true, true, true, true, true, true, false, false, false, true, false, true, true, false, false, false, false, false]
abbrev changeforgeref3_StoreFault.Z26 : Array Bool := #[true, true, true, true, true, true, true, false, false, true, false, true, true, false, false, false, false, false]
abbrev changeforgeref3_StoreFault.Z27 : Array Bool := #[true, true, true, true, true, true, true, true, false, true, false, true, true, false, false, false, false, false]
abbrev changeforgeref3_StoreFault.Z28 : Array Bool := #[true, true, true, true, true, true, true, true, true, true, false, true, true, false, false, false, false, false]
abbrev changeforgeref3_StoreFault.Z29 : Array Bool := #[true, true, true, true, true, true, true, true, true, true, true, true, true, false, false, false, false, false]
abbrev changeforgeref3_StoreFault.Z30 : Array Bool := #[true, true, true, true, true, true, true, true, true, true, true, true, true, true, false, false, false, false]
abbrev changeforgeref3_StoreFault.Z31 : Array Bool := #[true, true, true, true, true, true, true, true, true, true, true, true, true, true, true, false, false, false]
abbrev changeforgeref3_StoreFault.Z32 : Array Bool := #[true, true, true, true, true, true, true, true, true, true, true, true, true, true, true, true, false, false]
abbrev changeforgeref3_StoreFault.Z33 : Array Bool := #[true, true, true, true, true, true, true, true, true, true, true, true, true, true, true, true, true, false]
abbrev changeforgeref3_StoreFault.Z34 : Array Bool := #[true, true, true, true, true, true, true, true, true, true, true, true, true, true, true, true, true, true]
abbrev changeforgeref3_StoreFault.Z35 : Array Bool := #[true, true, true, true, true, false, false, false, false, false, false, false, false, false, false, false, false, false]
abbrev changeforgeref3_StoreFault.Z36 : Array Bool := #[true, true, true, true, true, true, false, false, false, false, false, false, false, false, false, false, false, false]
abbrev changeforgeref3_StoreFault.Z37 : Array Bool := #[true, true, true, true, true, true, true, false, false, false, false, false, false, false, false, false, false, false]
abbrev changeforgeref3_StoreFault.Z38 : Array Bool := #[true, true, true, true, true, true, true, true, false, false, false, false, false, false, false, false, false, false]
abbrev changeforgeref3_StoreFault.Z39 : Array Bool := #[true, true, true, true, true, true, true, true, true, false, false, false, false, false, false, false, false, false]
abbrev changeforgeref3_StoreFault.Z40 : Array Bool := #[true, true, true, true, true, true, true, true, true, true, false, false, false, false, false, false, false, false]
abbrev changeforgeref3_StoreFault.Z41 : Array Bool := #[true, true, true, true, true, true, true, true, true, true, true, false, false, false, false, false, false, false]
abbrev changeforgeref3_StoreFault.Z42 : Array Bool := #[true, true, true, true, true, true, true, true, true, true, true, true, false, false, false, false, false, false]
set_option maxHeartbeats 8000000 in
set_option maxRecDepth 100000 in
theorem changeforgeref3_StoreFault.calls (k : Nat) (A0_0 : Option Addr) (c0_0 : Nat) (l0_0 : List (S46)) (r1 : Int) (r2 : Int) (w : World) (hr0_0 : Kd.C k46 w A0_0 l0_0.length l0_0) (hc0_0 : l0_0.length ≤ c0_0) (h : changeforgeref3_StoreFault.f k l0_0 = some (r1, r2)) :
  Calls Try.prog 16 #[.agg #[.slice A0_0 l0_0.length c0_0]] w fun e w' => e = .returned (.agg #[.int .i64 r1, .int .i64 r2]) ∧ Below w.heap.size w w' := by
  have hu24 := Try.underlying24
  have hu28 := Try.underlying28
  have hu44 := Try.underlying44
  have HR0_0 := aZ hr0_0
  have HC0_0 := aZ hc0_0
  clear hr0_0 hc0_0
  have HB := aZ (Below.refl w.heap.size w)
  have H : (if (l0_0.length : Int) > 40 then ((changeforgeref3_Fault.f 2 0).bind fun bt226 => (some (bt226.1, bt226.2))) else (changeforgeref3_StoreFault.l0 k 0 l0_0)) = some (r1, r2) := h
  clear h
  by_cases c2 : (l0_0.length : Int) > 40
  · rw [if_pos c2] at H
    have c2b0 : decide (40 < (l0_0.length : Int)) = true := decide_eq_true c2
    have c2b1 : decide (40 < l0_0.length) = true := decide_eq_true (by omega)
    clear c2
    replace H := Option.bind_eq_some_iff.mp H
    obtain ⟨⟨t226, t227⟩, A30, H⟩ := H
    replace H : (some (t226, t227)) = some (r1, r2) := H
    have A3 := aZ A30
    clear A30
    simp only [Option.some.injEq, Prod.mk.injEq] at H
    obtain ⟨rfl, rfl⟩ := H
    go_enter Try.func16, Try.ntmps16
    go_wp2_with (first | ((with_reducible refine gate_dst (N := 1) rfl ?_); refine box_event ?hg (N := 1) ?hd (cs := #[.slice A0_0 l0_0.length c0_0]) (t := 24) ?hr ?_; (case hd => rfl); (case hg => rfl); (case hr => first | (go_simp; done) | (go_simp; rfl)); intro gb224 hg w4 hbox hb; have n0_ := aZ (lT (by repeat (first | (with_reducible first | exact HB.out | apply lA | apply lN | apply lD) | exact HB.out)) hb); have n1_ := aZ (hbox); have n2_ := aZ ((by rw [hg]; exact (lZ (by repeat (first | (with_reducible first | exact HB.out | apply lA | apply lN | apply lD) | exact HB.out))) : w.heap.size ≤ gb224)); have n3_ := aZ ((by rw [hg]; exact (lZ (by repeat (first | (with_reducible first | exact HB.out | apply lA | apply lN | apply lD) | exact HB.out))) : w.heap.size ≤ gb224)); clear HB; have HB := n0_; have BK224 := n1_; have GW224 := n2_; have GE224 := n3_; clear n0_ n1_ n2_ n3_; clear hb hbox hg) | ((with_reducible refine gate_dst (N := 2) rfl ?_); refine box_event ?hg (N := 2) ?hd (cs := #[.int .i64 0, .int .i64 0]) (t := 28) ?hr ?_; (case hd => rfl); (case hg => rfl); (case hr => first | (go_simp; done) | (go_simp; rfl)); intro gb225 hg w5 hbox hb; have n0_ := aZ (blk_below (g := gb224) (o := .cells #[.slice A0_0 l0_0.length c0_0] 24 (0, 0)) (by (with_reducible repeat (first | refine bN ?_ _ | refine bD ?_ | refine bA ?_ _)); exact BK224.out) hb); have n1_ := aZ (lT (by repeat (first | (with_reducible first | exact HB.out | apply lA | apply lN | apply lD | refine lS ?_ GE224.out) | exact HB.out)) hb); have n2_ := aZ (hbox); have n3_ := aZ ((by rw [hg]; exact (lZ (by repeat (first | (with_reducible first | exact HB.out | apply lA | apply lN | apply lD | refine lS ?_ GE224.out) | exact HB.out))) : w.heap.size ≤ gb225)); have n4_ := aZ ((by rw [hg]; exact (lZ (by repeat (first | (with_reducible first | exact HB.out | apply lA | apply lN | apply lD | refine lS ?_ GE224.out) | exact HB.out))) : w.heap.size ≤ gb225)); have n5_ := aZ ((by rw [hg]; exact Nat.ne_of_lt (blk_lt (g := gb224) (o := .cells #[.slice A0_0 l0_0.length c0_0] 24 (0, 0)) (by (with_reducible repeat (first | refine bN ?_ _ | refine bD ?_ | refine bA ?_ _)); exact BK224.out)) : gb224 ≠ gb225)); have n6_ := aZ ((by rw [hg]; exact Nat.ne_of_gt (blk_lt (g := gb224) (o := .cells #[.slice A0_0 l0_0.length c0_0] 24 (0, 0)) (by (with_reducible repeat (first | refine bN ?_ _ | refine bD ?_ | refine bA ?_ _)); exact BK224.out)) : gb225 ≠ gb224)); clear BK224; clear HB; have BK224 := n0_; have HB := n1_; have BK225 := n2_; have GW225 := n3_; have GE225 := n4_; have NB224_225 := n5_; have NB225_224 := n6_; clear n0_ n1_ n2_ n3_ n4_ n5_ n6_; clear hb hbox hg; have hnb6 := NB224_225.out; have hnc6 := NB225_224.out; have hcz7_0 : w5.cell? ⟨gb224, 0, none⟩ = some (.slice A0_0 l0_0.length c0_0) := (blk_cell BK224.out 0).trans rfl; have hfz7_0 := blk_frozen BK224.out 0) | ((with_reducible refine gate_callee (f := 18) rfl ?_); refine goesL_ (some 9) rfl rfl Try.func18 (by kernel_rfl) rfl #[.int .i64 2, .int .i64 0] rfl (by (try simp only [List.map_toArray, List.map_cons, List.map_nil]); first | done | rfl | (simp only [List.length_drop, List.length_take]; rfl)) ?_; (with_reducible refine (changeforgeref3_Fault.calls 2 0 t226 t227 _ A3.out).mono ?_); rintro e w8 ⟨rfl, hb⟩; refine ⟨_, rfl, ?_⟩; have n0_ := aZ (blk_below (g := gb224) (o := .cells #[.slice A0_0 l0_0.length c0_0] 24 (0, 0)) (by (with_reducible repeat (first | refine bN ?_ _ | refine bD ?_ | refine bA ?_ _)); exact BK224.out) hb); have n1_ := aZ (blk_below (g := gb225) (o := .cells #[.int .i64 0, .int .i64 0] 28 (0, 0)) (by (with_reducible repeat (first | refine bN ?_ _ | refine bD ?_ | refine bA ?_ _)); exact BK225.out) hb); have n2_ := aZ (lT (by repeat (first | (with_reducible first | exact HB.out | apply lA | apply lN | apply lD | refine lS ?_ GE224.out | refine lS ?_ GE225.out) | exact HB.out)) hb); clear BK224; clear BK225; clear HB; have BK224 := n0_; have BK225 := n1_; have HB := n2_; clear n0_ n1_ n2_; (try clear hb); (try clear hb2); (try clear hk); (try clear hi); have hcz9_0 : w8.cell? ⟨gb225, 0, none⟩ = some (.int .i64 0) := (blk_cell BK225.out 0).trans rfl; have hcz9_1 : w8.cell? ⟨gb225, 1, none⟩ = some (.int .i64 0) := (blk_cell BK225.out 1).trans rfl; have hfz9_0 := blk_frozen BK225.out 0; have hfz9_1 := blk_frozen BK225.out 1))
    refine bodyPost_ret (results_cell_row rfl _ _ gb225 28 #[.int .i64 t226, .int .i64 t227] (0, 0) _ rfl (by (with_reducible repeat (first | refine bN ?_ _ | refine bD ?_ | refine bA ?_ _)); refine blk_put (cs := #[.int .i64 t226, .int .i64 0]) ?_ 1 _ rfl; (with_reducible repeat (first | refine bN ?_ _ | refine bD ?_ | refine bA ?_ _)); refine blk_put (cs := #[.int .i64 0, .int .i64 0]) ?_ 0 _ rfl; (with_reducible repeat (first | refine bN ?_ _ | refine bD ?_ | refine bA ?_ _)); exact BK225.out) Try.underlying28 rfl (by kernel_rfl)) rfl ?_
    exact ⟨by first | rfl | (simp [errW_none, errW_some] <;> rfl) | (simp [*, errW_none, errW_some] <;> rfl), by repeat (first | (with_reducible first | exact HB.out | apply lA | apply lN | apply lD | refine lS ?_ GE224.out | refine lS ?_ GE225.out) | exact HB.out)⟩
  rw [if_neg c2] at H
  have c2b0 : decide (40 < (l0_0.length : Int)) = false := decide_eq_false c2
  have c2b1 : decide (40 < l0_0.length) = false := decide_eq_false (by omega)
  clear c2
  have H' := aZ H
  clear H
  go_enter Try.func16, Try.ntmps16
  go_wp2_with (first | ((with_reducible refine gate_dst (N := 1) rfl ?_); refine box_event ?hg (N := 1) ?hd (cs := #[.slice A0_0 l0_0.length c0_0]) (t := 24) ?hr ?_; (case hd => rfl); (case hg => rfl); (case hr => first | (go_simp; done) | (go_simp; rfl)); intro gb224 hg w10 hbox hb; have n0_ := aZ (lT (by repeat (first | (with_reducible first | exact HB.out | apply lA | apply lN | apply lD) | exact HB.out)) hb); have n1_ := aZ (hbox); have n2_ := aZ ((by rw [hg]; exact (lZ (by repeat (first | (with_reducible first | exact HB.out | apply lA | apply lN | apply lD) | exact HB.out))) : w.heap.size ≤ gb224)); have n3_ := aZ ((by rw [hg]; exact (lZ (by repeat (first | (with_reducible first | exact HB.out | apply lA | apply lN | apply lD) | exact HB.out))) : w.heap.size ≤ gb224)); clear HB; have HB := n0_; have BK224 := n1_; have GW224 := n2_; have GE224 := n3_; clear n0_ n1_ n2_ n3_; clear hb hbox hg) | ((with_reducible refine gate_dst (N := 2) rfl ?_); refine box_event ?hg (N := 2) ?hd (cs := #[.int .i64 0, .int .i64 0]) (t := 28) ?hr ?_; (case hd => rfl); (case hg => rfl); (case hr => first | (go_simp; done) | (go_simp; rfl)); intro gb225 hg w11 hbox hb; have n0_ := aZ (blk_below (g := gb224) (o := .cells #[.slice A0_0 l0_0.length c0_0] 24 (0, 0)) (by (with_reducible repeat (first | refine bN ?_ _ | refine bD ?_ | refine bA ?_ _)); exact BK224.out) hb); have n1_ := aZ (lT (by repeat (first | (with_reducible first | exact HB.out | apply lA | apply lN | apply lD | refine lS ?_ GE224.out) | exact HB.out)) hb); have n2_ := aZ (hbox); have n3_ := aZ ((by rw [hg]; exact (lZ (by repeat (first | (with_reducible first | exact HB.out | apply lA | apply lN | apply lD | refine lS ?_ GE224.out) | exact HB.out))) : w.heap.size ≤ gb225)); have n4_ := aZ ((by rw [hg]; exact (lZ (by repeat (first | (with_reducible first | exact HB.out | apply lA | apply lN | apply lD | refine lS ?_ GE224.out) | exact HB.out))) : w.heap.size ≤ gb225)); have n5_ := aZ ((by rw [hg]; exact Nat.ne_of_lt (blk_lt (g := gb224) (o := .cells #[.slice A0_0 l0_0.length c0_0] 24 (0, 0)) (by (with_reducible repeat (first | refine bN ?_ _ | refine bD ?_ | refine bA ?_ _)); exact BK224.out)) : gb224 ≠ gb225)); have n6_ := aZ ((by rw [hg]; exact Nat.ne_of_gt (blk_lt (g := gb224) (o := .cells #[.slice A0_0 l0_0.length c0_0] 24 (0, 0)) (by (with_reducible repeat (first | refine bN ?_ _ | refine bD ?_ | refine bA ?_ _)); exact BK224.out)) : gb225 ≠ gb224)); clear BK224; clear HB; have BK224 := n0_; have HB := n1_; have BK225 := n2_; have GW225 := n3_; have GE225 := n4_; have NB224_225 := n5_; have NB225_224 := n6_; clear n0_ n1_ n2_ n3_ n4_ n5_ n6_; clear hb hbox hg; have hnb12 := NB224_225.out; have hnc12 := NB225_224.out; have hcz13_0 : w11.cell? ⟨gb224, 0, none⟩ = some (.slice A0_0 l0_0.length c0_0) := (blk_cell BK224.out 0).trans rfl; have hfz13_0 := blk_frozen BK224.out 0))
  go_loopg [3] k (fun kq v3 w' => ∃ (x3_1 : Int) (x226000_1 : Int) (x226001_1 : Int), v3 = .int .i64 x3_1 ∧ Aside0 (changeforgeref3_StoreFault.l0 kq x3_1 l0_0 = some (r1, r2)) ∧ Aside0 (kq ≤ k) ∧ Aside0 (w'.heap[gb224]? = some (.cells #[(.slice A0_0 l0_0.length c0_0)] 24 (0, 0))) ∧ Aside0 (w'.heap[gb225]? = some (.cells #[.int .i64 x226000_1, .int .i64 x226001_1] 28 (0, 0))) ∧ Aside0 (Below w.heap.size w w'))
  case atStart => exact ⟨(0), (0), (0), (by first | rfl | (simp; done) | (simp [*]; done) | (simp [i64_w]; done)), H', ⟨Nat.le_refl _⟩, ⟨by (with_reducible repeat (first | refine bN ?_ _ | refine bD ?_ | refine bA ?_ _)); exact BK224.out⟩, ⟨by (with_reducible repeat (first | refine bN ?_ _ | refine bD ?_ | refine bA ?_ _)); exact BK225.out⟩, ⟨by repeat (first | (with_reducible first | exact HB.out | apply lA | apply lN | apply lD | refine lS ?_ GE224.out | refine lS ?_ GE225.out) | exact HB.out)⟩⟩
  case round =>
   clear H'
   (try clear c2); (try clear c2b0); (try clear c2b1); (try clear hcz13_0); (try clear hfz13_0)
   obtain ⟨x3_1, x226000_1, x226001_1, rfl, HA, HK1, BK224, BK225, HB⟩ := hrel
   cases gk with
   | zero => exact absurd HA.out (by simp [changeforgeref3_StoreFault.l0])
   | succ k1 =>
    have H := HA.out
    clear HA
    simp only [changeforgeref3_StoreFault.l0] at H
    by_cases c14 : x3_1 < (l0_0.length : Int)
    rotate_left
    · rw [if_neg c14] at H
      have c14b0 : decide (x3_1 < (l0_0.length : Int)) = false := decide_eq_false c14
      clear c14
      simp only [Option.some.injEq, Prod.mk.injEq] at H
      obtain ⟨rfl, rfl⟩ := H
      have hnb84 := NB224_225.out
      have hnc84 := NB225_224.out
      have hcz85_0 : wr.cell? ⟨gb224, 0, none⟩ = some (.slice A0_0 l0_0.length c0_0) := (blk_cell BK224.out 0).trans rfl
      have hfz85_0 := blk_frozen BK224.out 0
      have hcz86_0 : wr.cell? ⟨gb225, 0, none⟩ = some (.int .i64 x226000_1) := (blk_cell BK225.out 0).trans rfl
      have hcz86_1 : wr.cell? ⟨gb225, 1, none⟩ = some (.int .i64 x226001_1) := (blk_cell BK225.out 1).trans rfl
      have hfz86_0 := blk_frozen BK225.out 0
      have hfz86_1 := blk_frozen BK225.out 1
      go_wp2
      refine bodyPost_ret (results_cell_row rfl _ _ gb225 28 #[.int .i64 0, .int .i64 0] (0, 0) _ rfl (by (with_reducible repeat (first | refine bN ?_ _ | refine bD ?_ | refine bA ?_ _)); refine blk_put (cs := #[.int .i64 0, .int .i64 x226001_1]) ?_ 1 _ rfl; (with_reducible repeat (first | refine bN ?_ _ | refine bD ?_ | refine bA ?_ _)); refine blk_put (cs := #[.int .i64 x226000_1, .int .i64 x226001_1]) ?_ 0 _ rfl; (with_reducible repeat (first | refine bN ?_ _ | refine bD ?_ | refine bA ?_ _)); exact BK225.out) Try.underlying28 rfl (by kernel_rfl)) rfl ?_
      exact ⟨by first | rfl | (simp [errW_none, errW_some] <;> rfl) | (simp [*, errW_none, errW_some] <;> rfl), by repeat (first | (with_reducible first | exact HB.out | apply lA | apply lN | apply lD | refine lS ?_ GE224.out | refine lS ?_ GE225.out) | exact HB.out)⟩

    rw [if_pos c14] at H
    have c14b0 : decide (x3_1 < (l0_0.length : Int)) = true := decide_eq_true c14
    clear c14
    by_cases c15 : 0 ≤ x3_1
    rotate_left
    · rw [if_neg c15] at H
      exact absurd H (by simp)
    rw [if_pos c15] at H
    have c15b0 : decide (0 ≤ x3_1) = true := decide_eq_true c15
    clear c15
    replace H := Option.bind_eq_some_iff.mp H
    obtain ⟨⟨t229, t230⟩, A160, H⟩ := H
    replace H : (if t229 = 0 then ((changeforgeref3_ObjectDigest.f k1 ((rd_T46 l0_0 x3_1).f1.f0) ((rd_T46 l0_0 x3_1).f1.f1) ((rd_T46 l0_0 x3_1).f1.f2)).bind fun t235 => (if t235 = ((rd_T46 l0_0 x3_1).f0) then (if x3_1 > 0 then (if 0 ≤ (wrap64 (x3_1 - 1)) then (if (wrap64 (x3_1 - 1)) < (l0_0.length : Int) then (if ((rd_T46 l0_0 x3_1).f0) ≤ ((rd_T46 l0_0 (wrap64 (x3_1 - 1))).f0) then ((changeforgeref3_Fault.f 5 x3_1).bind fun bt239 => (some (bt239.1, bt239.2))) else (changeforgeref3_StoreFault.l0 k1 (wrap64 (x3_1 + 1)) l0_0)) else (none)) else (none)) else (changeforgeref3_StoreFault.l0 k1 (wrap64 (x3_1 + 1)) l0_0)) else ((changeforgeref3_Fault.f 18 x3_1).bind fun bt241 => (some (bt241.1, bt241.2))))) else ((changeforgeref3_Fault.f t229 x3_1).bind fun bt232 => (some (bt232.1, bt232.2)))) = some (r1, r2) := H
    have A16 := aZ A160
    clear A160
    by_cases c17 : t229 = 0
    rotate_left
    · rw [if_neg c17] at H
      have c17b0 : (t229 == 0) = false := beq_eq_false_iff_ne.mpr c17
      have c17b1 : (t229 != 0) = true := bne_iff_ne.mpr c17
      replace H := Option.bind_eq_some_iff.mp H
      obtain ⟨⟨t232, t233⟩, A740, H⟩ := H
      replace H : (some (t232, t233)) = some (r1, r2) := H
      have A74 := aZ A740
      clear A740
      simp only [Option.some.injEq, Prod.mk.injEq] at H
      obtain ⟨rfl, rfl⟩ := H
      have hnb75 := NB224_225.out
      have hnc75 := NB225_224.out
      have hcz76_0 : wr.cell? ⟨gb224, 0, none⟩ = some (.slice A0_0 l0_0.length c0_0) := (blk_cell BK224.out 0).trans rfl
      have hfz76_0 := blk_frozen BK224.out 0
      have p228 : 0 ≤ (x3_1 : Int) := of_decide_eq_true (by first | (with_reducible assumption) | assumption)
      have q228 : x3_1 < (l0_0.length : Int) := of_decide_eq_true (by first | (with_reducible assumption) | assumption)
      obtain ⟨ad228, A228_2, c228_2, A228_3, c228_3, e228, hx228_0, hx228_1, hx228_2, hx228_3, hl228_2, hi228_2, hl228_3, hi228_3⟩ := at_T46 HR0_0.out x3_1 p228 q228
      cases e228
      replace hx228_0 := (HB.out.cell (World.block_lt_of_cell? w _ hx228_0)).trans hx228_0
      replace hx228_1 := (HB.out.cell (World.block_lt_of_cell? w _ hx228_1)).trans hx228_1
      replace hx228_2 := (HB.out.cell (World.block_lt_of_cell? w _ hx228_2)).trans hx228_2
      replace hx228_3 := (HB.out.cell (World.block_lt_of_cell? w _ hx228_3)).trans hx228_3
      have HR228_2 := aZ hi228_2
      have HC228_2 := aZ hl228_2
      clear hi228_2 hl228_2
      have HR228_3 := aZ hi228_3
      have HC228_3 := aZ hl228_3
      clear hi228_3 hl228_3
      replace p228 := eq_true p228
      replace q228 := eq_true q228
      go_wp2_with (first | ((with_reducible refine gate_callee (f := 30) rfl ?_); refine goesL_ (some 23) rfl rfl Try.func30 (by kernel_rfl) rfl #[.agg #[.int .i64 ((rd_T46 l0_0 x3_1).f1.f0), .slice A228_2 ((rd_T46 l0_0 x3_1).f1.f1).length c228_2, .slice A228_3 ((rd_T46 l0_0 x3_1).f1.f2).length c228_3]] rfl (by (try simp only [List.map_toArray, List.map_cons, List.map_nil]); first | done | rfl | (simp only [List.length_drop, List.length_take]; rfl)) ?_; (with_reducible refine (changeforgeref3_ObjectFault.calls k1 ((rd_T46 l0_0 x3_1).f1.f0) _ _ ((rd_T46 l0_0 x3_1).f1.f1) _ _ ((rd_T46 l0_0 x3_1).f1.f2) t229 t230 _ ?side1 ?side2 ?side3 ?side4 A16.out).mono ?_); (case side1 => repeat (first | exact (Kd.C_below HR228_2.out HB.out) | (with_reducible refine Kd.C_alloc ?_ _) | (with_reducible refine Kd.C_drewN ?_ _) | (with_reducible refine Kd.C_drew ?_))); (case side2 => exact HC228_2.out); (case side3 => repeat (first | exact (Kd.C_below HR228_3.out HB.out) | (with_reducible refine Kd.C_alloc ?_ _) | (with_reducible refine Kd.C_drewN ?_ _) | (with_reducible refine Kd.C_drew ?_))); (case side4 => exact HC228_3.out); rintro e w77 ⟨rfl, hb⟩; refine ⟨_, rfl, ?_⟩; have n0_ := aZ (blk_below (g := gb224) (o := .cells #[.slice (some ad228) l0_0.length c0_0] 24 (0, 0)) (by (with_reducible repeat (first | refine bN ?_ _ | refine bD ?_ | refine bA ?_ _)); exact BK224.out) hb); have n1_ := aZ (blk_below (g := gb225) (o := .cells #[.int .i64 x226000_1, .int .i64 x226001_1] 28 (0, 0)) (by (with_reducible repeat (first | refine bN ?_ _ | refine bD ?_ | refine bA ?_ _)); exact BK225.out) hb); have n2_ := aZ (lT (by repeat (first | (with_reducible first | exact HB.out | apply lA | apply lN | apply lD | refine lS ?_ GE224.out | refine lS ?_ GE225.out) | exact HB.out)) hb); clear BK224; clear BK225; clear HB; have BK224 := n0_; have BK225 := n1_; have HB := n2_; clear n0_ n1_ n2_; (try clear hb); (try clear hb2); (try clear hk); (try clear hi)) | ((with_reducible refine gate_dst (N := 4) rfl ?_); refine box_event ?hg (N := 4) ?hd (cs := #[.int .i64 0, .int .i64 0]) (t := 28) ?hr ?_; (case hd => rfl); (case hg => rfl); (case hr => first | (go_simp; done) | (go_simp; rfl)); intro gb231 hg w78 hbox hb; have n0_ := aZ (blk_below (g := gb224) (o := .cells #[.slice (some ad228) l0_0.length c0_0] 24 (0, 0)) (by (with_reducible repeat (first | refine bN ?_ _ | refine bD ?_ | refine bA ?_ _)); exact BK224.out) hb); have n1_ := aZ (blk_below (g := gb225) (o := .cells #[.int .i64 x226000_1, .int .i64 x226001_1] 28 (0, 0)) (by (with_reducible repeat (first | refine bN ?_ _ | refine bD ?_ | refine bA ?_ _)); exact BK225.out) hb); have n2_ := aZ (lT (by repeat (first | (with_reducible first | exact HB.out | apply lA | apply lN | apply lD | refine lS ?_ GE224.out | refine lS ?_ GE225.out) | exact HB.out)) hb); have n3_ := aZ (hbox); have n4_ := aZ ((by rw [hg]; exact (lZ (by repeat (first | (with_reducible first | exact HB.out | apply lA | apply lN | apply lD | refine lS ?_ GE224.out | refine lS ?_ GE225.out) | exact HB.out))) : w.heap.size ≤ gb231)); have n5_ := aZ ((by rw [hg]; exact (lZ (by repeat (first | (with_reducible first | exact HB.out | apply lA | apply lN | apply lD | refine lS ?_ GE224.out | refine lS ?_ GE225.out) | exact HB.out))) : w.heap.size ≤ gb231)); have n6_ := aZ ((by rw [hg]; exact Nat.ne_of_lt (blk_lt (g := gb224) (o := .cells #[.slice (some ad228) l0_0.length c0_0] 24 (0, 0)) (by (with_reducible repeat (first | refine bN ?_ _ | refine bD ?_ | refine bA ?_ _)); exact BK224.out)) : gb224 ≠ gb231)); have n7_ := aZ ((by rw [hg]; exact Nat.ne_of_gt (blk_lt (g := gb224) (o := .cells #[.slice (some ad228) l0_0.length c0_0] 24 (0, 0)) (by (with_reducible repeat (first | refine bN ?_ _ | refine bD ?_ | refine bA ?_ _)); exact BK224.out)) : gb231 ≠ gb224)); have n8_ := aZ ((by rw [hg]; exact Nat.ne_of_lt (blk_lt (g := gb225) (o := .cells #[.int .i64 x226000_1, .int .i64 x226001_1] 28 (0, 0)) (by (with_reducible repeat (first | refine bN ?_ _ | refine bD ?_ | refine bA ?_ _)); exact BK225.out)) : gb225 ≠ gb231)); have n9_ := aZ ((by rw [hg]; exact Nat.ne_of_gt (blk_lt (g := gb225) (o := .cells #[.int .i64 x226000_1, .int .i64 x226001_1] 28 (0, 0)) (by (with_reducible repeat (first | refine bN ?_ _ | refine bD ?_ | refine bA ?_ _)); exact BK225.out)) : gb231 ≠ gb225)); clear BK224; clear BK225; clear HB; have BK224 := n0_; have BK225 := n1_; have HB := n2_; have BK231 := n3_; have GW231 := n4_; have GE231 := n5_; have NB224_231 := n6_; have NB231_224 := n7_; have NB225_231 := n8_; have NB231_225 := n9_; clear n0_ n1_ n2_ n3_ n4_ n5_ n6_ n7_ n8_ n9_; clear hb hbox hg; have hnb79 := NB231_224.out; have hnc79 := NB224_231.out; have hnb80 := NB231_225.out; have hnc80 := NB225_231.out; have hcz81_0 : w78.cell? ⟨gb231, 0, none⟩ = some (.int .i64 0) := (blk_cell BK231.out 0).trans rfl; have hcz81_1 : w78.cell? ⟨gb231, 1, none⟩ = some (.int .i64 0) := (blk_cell BK231.out 1).trans rfl; have hfz81_0 := blk_frozen BK231.out 0; have hfz81_1 := blk_frozen BK231.out 1) | ((with_reducible refine gate_callee (f := 18) rfl ?_); refine goesL_ (some 30) rfl rfl Try.func18 (by kernel_rfl) rfl #[.int .i64 t229, .int .i64 x3_1] rfl (by (try simp only [List.map_toArray, List.map_cons, List.map_nil]); first | done | rfl | (simp only [List.length_drop, List.length_take]; rfl)) ?_; (with_reducible refine (changeforgeref3_Fault.calls t229 x3_1 t232 t233 _ A74.out).mono ?_); rintro e w82 ⟨rfl, hb⟩; refine ⟨_, rfl, ?_⟩; have n0_ := aZ (blk_below (g := gb224) (o := .cells #[.slice (some ad228) l0_0.length c0_0] 24 (0, 0)) (by (with_reducible repeat (first | refine bN ?_ _ | refine bD ?_ | refine bA ?_ _)); refine blk_far ?_ NB224_231.out _; (with_reducible repeat (first | refine bN ?_ _ | refine bD ?_ | refine bA ?_ _)); refine blk_far ?_ NB224_231.out _; (with_reducible repeat (first | refine bN ?_ _ | refine bD ?_ | refine bA ?_ _)); exact BK224.out) hb); have n1_ := aZ (blk_below (g := gb225) (o := .cells #[.int .i64 x226000_1, .int .i64 x226001_1] 28 (0, 0)) (by (with_reducible repeat (first | refine bN ?_ _ | refine bD ?_ | refine bA ?_ _)); refine blk_far ?_ NB225_231.out _; (with_reducible repeat (first | refine bN ?_ _ | refine bD ?_ | refine bA ?_ _)); refine blk_far ?_ NB225_231.out _; (with_reducible repeat (first | refine bN ?_ _ | refine bD ?_ | refine bA ?_ _)); exact BK225.out) hb); have n2_ := aZ (blk_below (g := gb231) (o := .cells #[.int .i64 t229, .int .i64 t230] 28 (0, 0)) (by (with_reducible repeat (first | refine bN ?_ _ | refine bD ?_ | refine bA ?_ _)); refine blk_put (cs := #[.int .i64 t229, .int .i64 0]) ?_ 1 _ rfl; (with_reducible repeat (first | refine bN ?_ _ | refine bD ?_ | refine bA ?_ _)); refine blk_put (cs := #[.int .i64 0, .int .i64 0]) ?_ 0 _ rfl; (with_reducible repeat (first | refine bN ?_ _ | refine bD ?_ | refine bA ?_ _)); exact BK231.out) hb); have n3_ := aZ (lT (by repeat (first | (with_reducible first | exact HB.out | apply lA | apply lN | apply lD | refine lS ?_ GE224.out | refine lS ?_ GE225.out | refine lS ?_ GE231.out) | exact HB.out)) hb); clear BK224; clear BK225; clear BK231; clear HB; have BK224 := n0_; have BK225 := n1_; have BK231 := n2_; have HB := n3_; clear n0_ n1_ n2_ n3_; (try clear hb); (try clear hb2); (try clear hk); (try clear hi); have hcz83_0 : w82.cell? ⟨gb225, 0, none⟩ = some (.int .i64 x226000_1) := (blk_cell BK225.out 0).trans rfl; have hcz83_1 : w82.cell? ⟨gb225, 1, none⟩ = some (.int .i64 x226001_1) := (blk_cell BK225.out 1).trans rfl; have hfz83_0 := blk_frozen BK225.out 0; have hfz83_1 := blk_frozen BK225.out 1))
      refine bodyPost_ret (results_cell_row rfl _ _ gb225 28 #[.int .i64 t232, .int .i64 t233] (0, 0) _ rfl (by (with_reducible repeat (first | refine bN ?_ _ | refine bD ?_ | refine bA ?_ _)); refine blk_put (cs := #[.int .i64 t232, .int .i64 x226001_1]) ?_ 1 _ rfl; (with_reducible repeat (first | refine bN ?_ _ | refine bD ?_ | refine bA ?_ _)); refine blk_put (cs := #[.int .i64 x226000_1, .int .i64 x226001_1]) ?_ 0 _ rfl; (with_reducible repeat (first | refine bN ?_ _ | refine bD ?_ | refine bA ?_ _)); exact BK225.out) Try.underlying28 rfl (by kernel_rfl)) rfl ?_
      exact ⟨by first | rfl | (simp [errW_none, errW_some] <;> rfl) | (simp [*, errW_none, errW_some] <;> rfl), by repeat (first | (with_reducible first | exact HB.out | apply lA | apply lN | apply lD | refine lS ?_ GE224.out | refine lS ?_ GE225.out | refine lS ?_ GE231.out) | exact HB.out)⟩
    rw [if_pos c17] at H
    have c17b0 : (t229 == 0) = true := beq_iff_eq.mpr c17
    have c17b1 : (t229 != 0) = false := bne_eq_false_iff_eq.mpr c17
    clear c17
    replace H := Option.bind_eq_some_iff.mp H
    obtain ⟨t235, A180, H⟩ := H
    replace H : (if t235 = ((rd_T46 l0_0 x3_1).f0) then (if x3_1 > 0 then (if 0 ≤ (wrap64 (x3_1 - 1)) then (if (wrap64 (x3_1 - 1)) < (l0_0.length : Int) then (if ((rd_T46 l0_0 x3_1).f0) ≤ ((rd_T46 l0_0 (wrap64 (x3_1 - 1))).f0) then ((changeforgeref3_Fault.f 5 x3_1).bind fun bt239 => (some (bt239.1, bt239.2))) else (changeforgeref3_StoreFault.l0 k1 (wrap64 (x3_1 + 1)) l0_0)) else (none)) else (none)) else (changeforgeref3_StoreFault.l0 k1 (wrap64 (x3_1 + 1)) l0_0)) else ((changeforgeref3_Fault.f 18 x3_1).bind fun bt241 => (some (bt241.1, bt241.2)))) = some (r1, r2) := H
    have A18 := aZ A180
    clear A180
    by_cases c19 : t235 = ((rd_T46 l0_0 x3_1).f0)
    rotate_left
    · rw [if_neg c19] at H
      have c19b0 : (t235 == ((rd_T46 l0_0 x3_1).f0)) = false := beq_eq_false_iff_ne.mpr c19
      have c19b1 : (t235 != ((rd_T46 l0_0 x3_1).f0)) = true := bne_iff_ne.mpr c19
      replace H := Option.bind_eq_some_iff.mp H
      obtain ⟨⟨t241, t242⟩, A610, H⟩ := H
      replace H : (some (t241, t242)) = some (r1, r2) := H
      have A61 := aZ A610
      clear A610
      simp only [Option.some.injEq, Prod.mk.injEq] at H
      obtain ⟨rfl, rfl⟩ := H
      have hnb62 := NB224_225.out
      have hnc62 := NB225_224.out
      have hcz63_0 : wr.cell? ⟨gb224, 0, none⟩ = some (.slice A0_0 l0_0.length c0_0) := (blk_cell BK224.out 0).trans rfl
      have hfz63_0 := blk_frozen BK224.out 0
      have p228 : 0 ≤ (x3_1 : Int) := of_decide_eq_true (by first | (with_reducible assumption) | assumption)
      have q228 : x3_1 < (l0_0.length : Int) := of_decide_eq_true (by first | (with_reducible assumption) | assumption)
      obtain ⟨ad228, A228_2, c228_2, A228_3, c228_3, e228, hx228_0, hx228_1, hx228_2, hx228_3, hl228_2, hi228_2, hl228_3, hi228_3⟩ := at_T46 HR0_0.out x3_1 p228 q228
      cases e228
      replace hx228_0 := (HB.out.cell (World.block_lt_of_cell? w _ hx228_0)).trans hx228_0
      replace hx228_1 := (HB.out.cell (World.block_lt_of_cell? w _ hx228_1)).trans hx228_1
      replace hx228_2 := (HB.out.cell (World.block_lt_of_cell? w _ hx228_2)).trans hx228_2
      replace hx228_3 := (HB.out.cell (World.block_lt_of_cell? w _ hx228_3)).trans hx228_3
      have HR228_2 := aZ hi228_2
      have HC228_2 := aZ hl228_2
      clear hi228_2 hl228_2
      have HR228_3 := aZ hi228_3
      have HC228_3 := aZ hl228_3
      clear hi228_3 hl228_3
      replace p228 := eq_true p228
      replace q228 := eq_true q228
      try go_wp2_with (first | ((with_reducible refine gate_callee (f := 30) rfl ?_); refine goesL_ (some 23) rfl rfl Try.func30 (by kernel_rfl) rfl #[.agg #[.int .i64 ((rd_T46 l0_0 x3_1).f1.f0), .slice A228_2 ((rd_T46 l0_0 x3_1).f1.f1).length c228_2, .slice A228_3 ((rd_T46 l0_0 x3_1).f1.f2).length c228_3]] rfl (by (try simp only [List.map_toArray, List.map_cons, List.map_nil]); first | done | rfl | (simp only [List.length_drop, List.length_take]; rfl)) ?_; (with_reducible refine (changeforgeref3_ObjectFault.calls k1 ((rd_T46 l0_0 x3_1).f1.f0) _ _ ((rd_T46 l0_0 x3_1).f1.f1) _ _ ((rd_T46 l0_0 x3_1).f1.f2) t229 t230 _ ?side1 ?side2 ?side3 ?side4 A16.out).mono ?_); (case side1 => repeat (first | exact (Kd.C_below HR228_2.out HB.out) | (with_reducible refine Kd.C_alloc ?_ _) | (with_reducible refine Kd.C_drewN ?_ _) | (with_reducible refine Kd.C_drew ?_))); (case side2 => exact HC228_2.out); (case side3 => repeat (first | exact (Kd.C_below HR228_3.out HB.out) | (with_reducible refine Kd.C_alloc ?_ _) | (with_reducible refine Kd.C_drewN ?_ _) | (with_reducible refine Kd.C_drew ?_))); (case side4 => exact HC228_3.out); rintro e w64 ⟨rfl, hb⟩; refine ⟨_, rfl, ?_⟩; have n0_ := aZ (blk_below (g := gb224) (o := .cells #[.slice (some ad228) l0_0.length c0_0] 24 (0, 0)) (by (with_reducible repeat (first | refine bN ?_ _ | refine bD ?_ | refine bA ?_ _)); exact BK224.out) hb); have n1_ := aZ (blk_below (g := gb225) (o := .cells #[.int .i64 x226000_1, .int .i64 x226001_1] 28 (0, 0)) (by (with_reducible repeat (first | refine bN ?_ _ | refine bD ?_ | refine bA ?_ _)); exact BK225.out) hb); have n2_ := aZ (lT (by repeat (first | (with_reducible first | exact HB.out | apply lA | apply lN | apply lD | refine lS ?_ GE224.out | refine lS ?_ GE225.out) | exact HB.out)) hb); clear BK224; clear BK225; clear HB; have BK224 := n0_; have BK225 := n1_; have HB := n2_; clear n0_ n1_ n2_; (try clear hb); (try clear hb2); (try clear hk); (try clear hi)) | ((with_reducible refine gate_dst (N := 4) rfl ?_); refine box_event ?hg (N := 4) ?hd (cs := #[.int .i64 0, .int .i64 0]) (t := 28) ?hr ?_; (case hd => rfl); (case hg => rfl); (case hr => first | (go_simp; done) | (go_simp; rfl)); intro gb231 hg w65 hbox hb; have n0_ := aZ (blk_below (g := gb224) (o := .cells #[.slice (some ad228) l0_0.length c0_0] 24 (0, 0)) (by (with_reducible repeat (first | refine bN ?_ _ | refine bD ?_ | refine bA ?_ _)); exact BK224.out) hb); have n1_ := aZ (blk_below (g := gb225) (o := .cells #[.int .i64 x226000_1, .int .i64 x226001_1] 28 (0, 0)) (by (with_reducible repeat (first | refine bN ?_ _ | refine bD ?_ | refine bA ?_ _)); exact BK225.out) hb); have n2_ := aZ (lT (by repeat (first | (with_reducible first | exact HB.out | apply lA | apply lN | apply lD | refine lS ?_ GE224.out | refine lS ?_ GE225.out) | exact HB.out)) hb); have n3_ := aZ (hbox); have n4_ := aZ ((by rw [hg]; exact (lZ (by repeat (first | (with_reducible first | exact HB.out | apply lA | apply lN | apply lD | refine lS ?_ GE224.out | refine lS ?_ GE225.out) | exact HB.out))) : w.heap.size ≤ gb231)); have n5_ := aZ ((by rw [hg]; exact (lZ (by repeat (first | (with_reducible first | exact HB.out | apply lA | apply lN | apply lD | refine lS ?_ GE224.out | refine lS ?_ GE225.out) | exact HB.out))) : w.heap.size ≤ gb231)); have n6_ := aZ ((by rw [hg]; exact Nat.ne_of_lt (blk_lt (g := gb224) (o := .cells #[.slice (some ad228) l0_0.length c0_0] 24 (0, 0)) (by (with_reducible repeat (first | refine bN ?_ _ | refine bD ?_ | refine bA ?_ _)); exact BK224.out)) : gb224 ≠ gb231)); have n7_ := aZ ((by rw [hg]; exact Nat.ne_of_gt (blk_lt (g := gb224) (o := .cells #[.slice (some ad228) l0_0.length c0_0] 24 (0, 0)) (by (with_reducible repeat (first | refine bN ?_ _ | refine bD ?_ | refine bA ?_ _)); exact BK224.out)) : gb231 ≠ gb224)); have n8_ := aZ ((by rw [hg]; exact Nat.ne_of_lt (blk_lt (g := gb225) (o := .cells #[.int .i64 x226000_1, .int .i64 x226001_1] 28 (0, 0)) (by (with_reducible repeat (first | refine bN ?_ _ | refine bD ?_ | refine bA ?_ _)); exact BK225.out)) : gb225 ≠ gb231)); have n9_ := aZ ((by rw [hg]; exact Nat.ne_of_gt (blk_lt (g := gb225) (o := .cells #[.int .i64 x226000_1, .int .i64 x226001_1] 28 (0, 0)) (by (with_reducible repeat (first | refine bN ?_ _ | refine bD ?_ | refine bA ?_ _)); exact BK225.out)) : gb231 ≠ gb225)); clear BK224; clear BK225; clear HB; have BK224 := n0_; have BK225 := n1_; have HB := n2_; have BK231 := n3_; have GW231 := n4_; have GE231 := n5_; have NB224_231 := n6_; have NB231_224 := n7_; have NB225_231 := n8_; have NB231_225 := n9_; clear n0_ n1_ n2_ n3_ n4_ n5_ n6_ n7_ n8_ n9_; clear hb hbox hg; have hnb66 := NB231_224.out; have hnc66 := NB224_231.out; have hnb67 := NB231_225.out; have hnc67 := NB225_231.out; have hcz68_0 : w65.cell? ⟨gb231, 0, none⟩ = some (.int .i64 0) := (blk_cell BK231.out 0).trans rfl; have hcz68_1 : w65.cell? ⟨gb231, 1, none⟩ = some (.int .i64 0) := (blk_cell BK231.out 1).trans rfl; have hfz68_0 := blk_frozen BK231.out 0; have hfz68_1 := blk_frozen BK231.out 1))
      have n0_ : Aside0 (((w65.setCell ⟨gb231, 0, none⟩ (.int .i64 t229)).setCell ⟨gb231, 1, none⟩ (.int .i64 t230)).heap[gb224]? = some (.cells #[.slice (some ad228) l0_0.length c0_0] 24 (0, 0))) := ⟨by (with_reducible repeat (first | refine bN ?_ _ | refine bD ?_ | refine bA ?_ _)); refine blk_far ?_ NB224_231.out _; (with_reducible repeat (first | refine bN ?_ _ | refine bD ?_ | refine bA ?_ _)); refine blk_far ?_ NB224_231.out _; (with_reducible repeat (first | refine bN ?_ _ | refine bD ?_ | refine bA ?_ _)); exact BK224.out⟩
      have n1_ : Aside0 (((w65.setCell ⟨gb231, 0, none⟩ (.int .i64 t229)).setCell ⟨gb231, 1, none⟩ (.int .i64 t230)).heap[gb225]? = some (.cells #[.int .i64 x226000_1, .int .i64 x226001_1] 28 (0, 0))) := ⟨by (with_reducible repeat (first | refine bN ?_ _ | refine bD ?_ | refine bA ?_ _)); refine blk_far ?_ NB225_231.out _; (with_reducible repeat (first | refine bN ?_ _ | refine bD ?_ | refine bA ?_ _)); refine blk_far ?_ NB225_231.out _; (with_reducible repeat (first | refine bN ?_ _ | refine bD ?_ | refine bA ?_ _)); exact BK225.out⟩
      have n2_ : Aside0 (((w65.setCell ⟨gb231, 0, none⟩ (.int .i64 t229)).setCell ⟨gb231, 1, none⟩ (.int .i64 t230)).heap[gb231]? = some (.cells #[.int .i64 t229, .int .i64 t230] 28 (0, 0))) := ⟨by (with_reducible repeat (first | refine bN ?_ _ | refine bD ?_ | refine bA ?_ _)); refine blk_put (cs := #[.int .i64 t229, .int .i64 0]) ?_ 1 _ rfl; (with_reducible repeat (first | refine bN ?_ _ | refine bD ?_ | refine bA ?_ _)); refine blk_put (cs := #[.int .i64 0, .int .i64 0]) ?_ 0 _ rfl; (with_reducible repeat (first | refine bN ?_ _ | refine bD ?_ | refine bA ?_ _)); exact BK231.out⟩
      have n3_ : Aside0 (Below w.heap.size w ((w65.setCell ⟨gb231, 0, none⟩ (.int .i64 t229)).setCell ⟨gb231, 1, none⟩ (.int .i64 t230))) := ⟨by repeat (first | (with_reducible first | exact HB.out | apply lA | apply lN | apply lD | refine lS ?_ GE224.out | refine lS ?_ GE225.out | refine lS ?_ GE231.out) | exact HB.out)⟩
      (try clear BK224)
      (try clear BK225)
      (try clear BK231)
      (try clear HB)
      generalize ((w65.setCell ⟨gb231, 0, none⟩ (.int .i64 t229)).setCell ⟨gb231, 1, none⟩ (.int .i64 t230)) = w69 at n0_ n1_ n2_ n3_ ⊢
      have BK224 := n0_
      have BK225 := n1_
      have BK231 := n2_
      have HB := n3_
      clear n0_ n1_ n2_ n3_
      have n0_ := aZ (bD BK224.out)
      have n1_ := aZ (bD BK225.out)
      have n2_ := aZ (bD BK231.out)
      have n3_ := aZ (lD HB.out)
      clear BK224
      clear BK225
      clear BK231
      clear HB
      have BK224 := n0_
      have BK225 := n1_
      have BK231 := n2_
      have HB := n3_
      clear n0_ n1_ n2_ n3_
      have p234 : 0 ≤ (x3_1 : Int) := of_decide_eq_true (by first | (with_reducible assumption) | assumption)
      have q234 : x3_1 < (l0_0.length : Int) := of_decide_eq_true (by first | (with_reducible assumption) | assumption)
      obtain ⟨ad234, A234_2, c234_2, A234_3, c234_3, e234, hx234_0, hx234_1, hx234_2, hx234_3, hl234_2, hi234_2, hl234_3, hi234_3⟩ := at_T46 HR0_0.out x3_1 p234 q234
      have hw234_3 := hx234_3
      have hw234_2 := hx234_2
      have hw234_1 := hx234_1
      have hw234_0 := hx234_0
      obtain rfl : ad228 = ad234 := (by injection e234)
      replace hx234_0 := (HB.out.cell (World.block_lt_of_cell? w _ hx234_0)).trans hx234_0
      replace hx234_1 := (HB.out.cell (World.block_lt_of_cell? w _ hx234_1)).trans hx234_1
      replace hx234_2 := (HB.out.cell (World.block_lt_of_cell? w _ hx234_2)).trans hx234_2
      replace hx234_3 := (HB.out.cell (World.block_lt_of_cell? w _ hx234_3)).trans hx234_3
      have HR234_2 := aZ hi234_2
      have HC234_2 := aZ hl234_2
      clear hi234_2 hl234_2
      have HR234_3 := aZ hi234_3
      have HC234_3 := aZ hl234_3
      clear hi234_3 hl234_3
      replace p234 := eq_true p234
      replace q234 := eq_true q234
      have p236 : 0 ≤ (x3_1 : Int) := of_decide_eq_true (by first | (with_reducible assumption) | assumption)
      have q236 : x3_1 < (l0_0.length : Int) := of_decide_eq_true (by first | (with_reducible assumption) | assumption)
      obtain ⟨ad236, A236_2, c236_2, A236_3, c236_3, e236, hx236_0, hx236_1, hx236_2, hx236_3, hl236_2, hi236_2, hl236_3, hi236_3⟩ := at_T46 HR0_0.out x3_1 p236 q236
      have hw236_3 := hx236_3
      have hw236_2 := hx236_2
      have hw236_1 := hx236_1
      have hw236_0 := hx236_0
      obtain rfl : ad228 = ad236 := (by injection e236)
      replace hx236_0 := (HB.out.cell (World.block_lt_of_cell? w _ hx236_0)).trans hx236_0
      replace hx236_1 := (HB.out.cell (World.block_lt_of_cell? w _ hx236_1)).trans hx236_1
      replace hx236_2 := (HB.out.cell (World.block_lt_of_cell? w _ hx236_2)).trans hx236_2
      replace hx236_3 := (HB.out.cell (World.block_lt_of_cell? w _ hx236_3)).trans hx236_3
      have HR236_2 := aZ hi236_2
      have HC236_2 := aZ hl236_2
      clear hi236_2 hl236_2
      have HR236_3 := aZ hi236_3
      have HC236_3 := aZ hl236_3
      clear hi236_3 hl236_3
      replace p236 := eq_true p236
      replace q236 := eq_true q236
      have ea_ := Option.some.inj (hx234_2.symm.trans hx236_2)
      injection ea_ with ea_ en_ ec_
      subst ea_
      subst ec_
      clear en_
      have ea_ := Option.some.inj (hx234_3.symm.trans hx236_3)
      injection ea_ with ea_ en_ ec_
      subst ea_
      subst ec_
      clear en_
      refine start_ (n := 14) (S := fun w' => w'.cell? ⟨gb224, 0, none⟩ = some (.slice (some ad228) l0_0.length c0_0) ∧ w'.cell? (ad228.add ((x3_1).toNat * 4)) = some (.int .i64 ((rd_T46 l0_0 x3_1).f0)) ∧ w'.cell? ⟨(ad228.add ((x3_1).toNat * 4)).block, (ad228.add ((x3_1).toNat * 4)).off + 1, none⟩ = some (.int .i64 ((rd_T46 l0_0 x3_1).f1.f0)) ∧ w'.cell? ⟨(ad228.add ((x3_1).toNat * 4)).block, (ad228.add ((x3_1).toNat * 4)).off + 2, none⟩ = some (.slice A234_2 ((rd_T46 l0_0 x3_1).f1.f1).length c234_2) ∧ w'.cell? ⟨(ad228.add ((x3_1).toNat * 4)).block, (ad228.add ((x3_1).toNat * 4)).off + 3, none⟩ = some (.slice A234_3 ((rd_T46 l0_0 x3_1).f1.f2).length c234_3) ∧ w'.cell? (ad228.add ((x3_1).toNat * 4)) = some (.int .i64 ((rd_T46 l0_0 x3_1).f0)) ∧ w'.cell? ⟨(ad228.add ((x3_1).toNat * 4)).block, (ad228.add ((x3_1).toNat * 4)).off + 1, none⟩ = some (.int .i64 ((rd_T46 l0_0 x3_1).f1.f0)) ∧ w'.cell? ⟨(ad228.add ((x3_1).toNat * 4)).block, (ad228.add ((x3_1).toNat * 4)).off + 2, none⟩ = some (.slice A234_2 ((rd_T46 l0_0 x3_1).f1.f1).length c234_2) ∧ w'.cell? ⟨(ad228.add ((x3_1).toNat * 4)).block, (ad228.add ((x3_1).toNat * 4)).off + 3, none⟩ = some (.slice A234_3 ((rd_T46 l0_0 x3_1).f1.f2).length c234_3)) (ds := []) Z1 (by kernel_rfl) rfl rfl ⟨(blk_cell BK224.out 0).trans rfl, ((HB.out.cell (World.block_lt_of_cell? w _ hw234_0)).trans hw234_0), ((HB.out.cell (World.block_lt_of_cell? w _ hw234_1)).trans hw234_1), ((HB.out.cell (World.block_lt_of_cell? w _ hw234_2)).trans hw234_2), ((HB.out.cell (World.block_lt_of_cell? w _ hw234_3)).trans hw234_3), ((HB.out.cell (World.block_lt_of_cell? w _ hw236_0)).trans hw236_0), ((HB.out.cell (World.block_lt_of_cell? w _ hw236_1)).trans hw236_1), ((HB.out.cell (World.block_lt_of_cell? w _ hw236_2)).trans hw236_2), ((HB.out.cell (World.block_lt_of_cell? w _ hw236_3)).trans hw236_3)⟩ (fun hHeld => ?_); refine with_tabW changeforgeref3_StoreFault.tab9 changeforgeref3_StoreFault.bits9 (fun HT_ HW_ => ?_)
      generalize w69.drew = w70 at BK224 BK225 BK231 HB HR234_2 HR234_3 HR236_2 HR236_3 hx234_0 hx234_1 hx234_2 hx234_3 hx236_0 hx236_1 hx236_2 hx236_3 hHeld ⊢
      refine pu 0 31 Z2 HT_ rfl rfl (h := ?_)
      refine pu 2 33 Z3 HT_ rfl rfl (h := ?_)
      refine pu 7 38 Z4 HT_ rfl rfl (h := ?_)
      refine pu 9 40 Z5 HT_ rfl rfl (h := ?_)
      refine tk 1 32 Z6 HT_ HW_ rfl rfl hHeld (by rintro w' ⟨s0, s1, s2, s3, s4, s5, s6, s7, s8⟩; go_simp; with_reducible rfl) (h := ?_)
      refine pu 3 34 Z7 HT_ rfl rfl (h := ?_)
      refine pu 4 35 Z8 HT_ rfl rfl (h := ?_)
      refine tk 5 36 Z9 HT_ HW_ rfl rfl hHeld (by rintro w' ⟨s0, s1, s2, s3, s4, s5, s6, s7, s8⟩; go_simp; with_reducible rfl) (h := ?_)
      refine tk 8 39 Z10 HT_ HW_ rfl rfl hHeld (by rintro w' ⟨s0, s1, s2, s3, s4, s5, s6, s7, s8⟩; go_simp; with_reducible rfl) (h := ?_)
      refine pu 10 41 Z11 HT_ rfl rfl (h := ?_)
      refine pu 11 42 Z12 HT_ rfl rfl (h := ?_)
      refine tk 12 43 Z13 HT_ HW_ rfl rfl hHeld (by rintro w' ⟨s0, s1, s2, s3, s4, s5, s6, s7, s8⟩; go_simp; with_reducible rfl) (h := ?_)
      refine one_ (i := 6) (N := some 37) Z14 rfl rfl (one_of HT_.out (by kernel_rfl)) (by decide) (fun K hK => ?_)
      refine goes_ Try.func31 (by kernel_rfl) rfl #[.agg #[.int .i64 ((rd_T46 l0_0 x3_1).f1.f0), .slice A234_2 ((rd_T46 l0_0 x3_1).f1.f1).length c234_2, .slice A234_3 ((rd_T46 l0_0 x3_1).f1.f2).length c234_3]] (by rfl) rfl rfl (by (try simp only [List.map_toArray, List.map_cons, List.map_nil]); first | done | rfl | (simp only [List.length_drop, List.length_take]; rfl)) ?_
      with_reducible refine (changeforgeref3_ObjectDigest.calls k1 ((rd_T46 l0_0 x3_1).f1.f0) _ _ ((rd_T46 l0_0 x3_1).f1.f1) _ _ ((rd_T46 l0_0 x3_1).f1.f2) t235 _ ?side1 ?side2 ?side3 ?side4 A18.out).mono ?_
      (case side1 => repeat (first | exact (Kd.C_below HR234_2.out HB.out) | (with_reducible refine Kd.C_alloc ?_ _) | (with_reducible refine Kd.C_drewN ?_ _) | (with_reducible refine Kd.C_drew ?_)))
      (case side2 => exact HC234_2.out)
      (case side3 => repeat (first | exact (Kd.C_below HR234_3.out HB.out) | (with_reducible refine Kd.C_alloc ?_ _) | (with_reducible refine Kd.C_drewN ?_ _) | (with_reducible refine Kd.C_drew ?_)))
      (case side4 => exact HC234_3.out)
      rintro e w71 ⟨rfl, hb⟩
      refine ⟨_, rfl, ?_⟩
      have n0_ := aZ (blk_below (g := gb224) (o := .cells #[.slice (some ad228) l0_0.length c0_0] 24 (0, 0)) (by (with_reducible repeat (first | refine bN ?_ _ | refine bD ?_ | refine bA ?_ _)); exact BK224.out) hb)
      have n1_ := aZ (blk_below (g := gb225) (o := .cells #[.int .i64 x226000_1, .int .i64 x226001_1] 28 (0, 0)) (by (with_reducible repeat (first | refine bN ?_ _ | refine bD ?_ | refine bA ?_ _)); exact BK225.out) hb)
      have n2_ := aZ (blk_below (g := gb231) (o := .cells #[.int .i64 t229, .int .i64 t230] 28 (0, 0)) (by (with_reducible repeat (first | refine bN ?_ _ | refine bD ?_ | refine bA ?_ _)); exact BK231.out) hb)
      have n3_ := aZ (lT (by repeat (first | (with_reducible first | exact HB.out | apply lA | apply lN | apply lD | refine lS ?_ GE224.out | refine lS ?_ GE225.out | refine lS ?_ GE231.out) | exact HB.out)) hb)
      clear BK224
      clear BK225
      clear BK231
      clear HB
      have BK224 := n0_
      have BK225 := n1_
      have BK231 := n2_
      have HB := n3_
      clear n0_ n1_ n2_ n3_
      (try clear hb)
      (try clear hb2)
      (try clear hk)
      (try clear hi)
      refine hK.out _ _ ⟨(blk_cell BK224.out 0).trans rfl, ((HB.out.cell (World.block_lt_of_cell? w _ hw234_0)).trans hw234_0), ((HB.out.cell (World.block_lt_of_cell? w _ hw234_1)).trans hw234_1), ((HB.out.cell (World.block_lt_of_cell? w _ hw234_2)).trans hw234_2), ((HB.out.cell (World.block_lt_of_cell? w _ hw234_3)).trans hw234_3), ((HB.out.cell (World.block_lt_of_cell? w _ hw236_0)).trans hw236_0), ((HB.out.cell (World.block_lt_of_cell? w _ hw236_1)).trans hw236_1), ((HB.out.cell (World.block_lt_of_cell? w _ hw236_2)).trans hw236_2), ((HB.out.cell (World.block_lt_of_cell? w _ hw236_3)).trans hw236_3)⟩ (fun hHeld => ?_)
      clear hK K
      refine norm_ (a' := ?_) ?_ ?_
      rotate_left
      · show Act.put _ (some 37) _ = _
        simp only [Act.put, List.setIfInBounds_toArray, List.set_cons_zero, List.set_cons_succ, i64_w, i32_w]
        rfl
      refine pu 13 44 Z15 HT_ rfl rfl (h := ?_)
      refine done_ (done_of HT_.out (by kernel_rfl)) ?_
      try go_wp2_with (first | ((with_reducible refine gate_callee (f := 18) rfl ?_); refine goesL_ (some 46) rfl rfl Try.func18 (by kernel_rfl) rfl #[.int .i64 18, .int .i64 x3_1] rfl (by (try simp only [List.map_toArray, List.map_cons, List.map_nil]); first | done | rfl | (simp only [List.length_drop, List.length_take]; rfl)) ?_; (with_reducible refine (changeforgeref3_Fault.calls 18 x3_1 t241 t242 _ A61.out).mono ?_); rintro e w72 ⟨rfl, hb⟩; refine ⟨_, rfl, ?_⟩; have n0_ := aZ (blk_below (g := gb224) (o := .cells #[.slice (some ad228) l0_0.length c0_0] 24 (0, 0)) (by (with_reducible repeat (first | refine bN ?_ _ | refine bD ?_ | refine bA ?_ _)); exact BK224.out) hb); have n1_ := aZ (blk_below (g := gb225) (o := .cells #[.int .i64 x226000_1, .int .i64 x226001_1] 28 (0, 0)) (by (with_reducible repeat (first | refine bN ?_ _ | refine bD ?_ | refine bA ?_ _)); exact BK225.out) hb); have n2_ := aZ (blk_below (g := gb231) (o := .cells #[.int .i64 t229, .int .i64 t230] 28 (0, 0)) (by (with_reducible repeat (first | refine bN ?_ _ | refine bD ?_ | refine bA ?_ _)); exact BK231.out) hb); have n3_ := aZ (lT (by repeat (first | (with_reducible first | exact HB.out | apply lA | apply lN | apply lD | refine lS ?_ GE224.out | refine lS ?_ GE225.out | refine lS ?_ GE231.out) | exact HB.out)) hb); clear BK224; clear BK225; clear BK231; clear HB; have BK224 := n0_; have BK225 := n1_; have BK231 := n2_; have HB := n3_; clear n0_ n1_ n2_ n3_; (try clear hb); (try clear hb2); (try clear hk); (try clear hi); have hcz73_0 : w72.cell? ⟨gb225, 0, none⟩ = some (.int .i64 x226000_1) := (blk_cell BK225.out 0).trans rfl; have hcz73_1 : w72.cell? ⟨gb225, 1, none⟩ = some (.int .i64 x226001_1) := (blk_cell BK225.out 1).trans rfl; have hfz73_0 := blk_frozen BK225.out 0; have hfz73_1 := blk_frozen BK225.out 1))
      refine bodyPost_ret (results_cell_row rfl _ _ gb225 28 #[.int .i64 t241, .int .i64 t242] (0, 0) _ rfl (by (with_reducible repeat (first | refine bN ?_ _ | refine bD ?_ | refine bA ?_ _)); refine blk_put (cs := #[.int .i64 t241, .int .i64 x226001_1]) ?_ 1 _ rfl; (with_reducible repeat (first | refine bN ?_ _ | refine bD ?_ | refine bA ?_ _)); refine blk_put (cs := #[.int .i64 x226000_1, .int .i64 x226001_1]) ?_ 0 _ rfl; (with_reducible repeat (first | refine bN ?_ _ | refine bD ?_ | refine bA ?_ _)); exact BK225.out) Try.underlying28 rfl (by kernel_rfl)) rfl ?_
      exact ⟨by first | rfl | (simp [errW_none, errW_some] <;> rfl) | (simp [*, errW_none, errW_some] <;> rfl), by repeat (first | (with_reducible first | exact HB.out | apply lA | apply lN | apply lD | refine lS ?_ GE224.out | refine lS ?_ GE225.out | refine lS ?_ GE231.out) | exact HB.out)⟩
    rw [if_pos c19] at H
    have c19b0 : (t235 == ((rd_T46 l0_0 x3_1).f0)) = true := beq_iff_eq.mpr c19
    have c19b1 : (t235 != ((rd_T46 l0_0 x3_1).f0)) = false := bne_eq_false_iff_eq.mpr c19
    clear c19
    by_cases c20 : x3_1 > 0
    rotate_left
    · rw [if_neg c20] at H
      have c20b0 : decide (0 < x3_1) = false := decide_eq_false c20
      clear c20
      have H' := aZ H
      clear H
      have hnb50 := NB224_225.out
      have hnc50 := NB225_224.out
      have hcz51_0 : wr.cell? ⟨gb224, 0, none⟩ = some (.slice A0_0 l0_0.length c0_0) := (blk_cell BK224.out 0).trans rfl
      have hfz51_0 := blk_frozen BK224.out 0
      have p228 : 0 ≤ (x3_1 : Int) := of_decide_eq_true (by first | (with_reducible assumption) | assumption)
      have q228 : x3_1 < (l0_0.length : Int) := of_decide_eq_true (by first | (with_reducible assumption) | assumption)
      obtain ⟨ad228, A228_2, c228_2, A228_3, c228_3, e228, hx228_0, hx228_1, hx228_2, hx228_3, hl228_2, hi228_2, hl228_3, hi228_3⟩ := at_T46 HR0_0.out x3_1 p228 q228
      cases e228
      replace hx228_0 := (HB.out.cell (World.block_lt_of_cell? w _ hx228_0)).trans hx228_0
      replace hx228_1 := (HB.out.cell (World.block_lt_of_cell? w _ hx228_1)).trans hx228_1
      replace hx228_2 := (HB.out.cell (World.block_lt_of_cell? w _ hx228_2)).trans hx228_2
      replace hx228_3 := (HB.out.cell (World.block_lt_of_cell? w _ hx228_3)).trans hx228_3
      have HR228_2 := aZ hi228_2
      have HC228_2 := aZ hl228_2
      clear hi228_2 hl228_2
      have HR228_3 := aZ hi228_3
      have HC228_3 := aZ hl228_3
      clear hi228_3 hl228_3
      replace p228 := eq_true p228
      replace q228 := eq_true q228
      try go_wp2_with (first | ((with_reducible refine gate_callee (f := 30) rfl ?_); refine goesL_ (some 23) rfl rfl Try.func30 (by kernel_rfl) rfl #[.agg #[.int .i64 ((rd_T46 l0_0 x3_1).f1.f0), .slice A228_2 ((rd_T46 l0_0 x3_1).f1.f1).length c228_2, .slice A228_3 ((rd_T46 l0_0 x3_1).f1.f2).length c228_3]] rfl (by (try simp only [List.map_toArray, List.map_cons, List.map_nil]); first | done | rfl | (simp only [List.length_drop, List.length_take]; rfl)) ?_; (with_reducible refine (changeforgeref3_ObjectFault.calls k1 ((rd_T46 l0_0 x3_1).f1.f0) _ _ ((rd_T46 l0_0 x3_1).f1.f1) _ _ ((rd_T46 l0_0 x3_1).f1.f2) t229 t230 _ ?side1 ?side2 ?side3 ?side4 A16.out).mono ?_); (case side1 => repeat (first | exact (Kd.C_below HR228_2.out HB.out) | (with_reducible refine Kd.C_alloc ?_ _) | (with_reducible refine Kd.C_drewN ?_ _) | (with_reducible refine Kd.C_drew ?_))); (case side2 => exact HC228_2.out); (case side3 => repeat (first | exact (Kd.C_below HR228_3.out HB.out) | (with_reducible refine Kd.C_alloc ?_ _) | (with_reducible refine Kd.C_drewN ?_ _) | (with_reducible refine Kd.C_drew ?_))); (case side4 => exact HC228_3.out); rintro e w52 ⟨rfl, hb⟩; refine ⟨_, rfl, ?_⟩; have n0_ := aZ (blk_below (g := gb224) (o := .cells #[.slice (some ad228) l0_0.length c0_0] 24 (0, 0)) (by (with_reducible repeat (first | refine bN ?_ _ | refine bD ?_ | refine bA ?_ _)); exact BK224.out) hb); have n1_ := aZ (blk_below (g := gb225) (o := .cells #[.int .i64 x226000_1, .int .i64 x226001_1] 28 (0, 0)) (by (with_reducible repeat (first | refine bN ?_ _ | refine bD ?_ | refine bA ?_ _)); exact BK225.out) hb); have n2_ := aZ (lT (by repeat (first | (with_reducible first | exact HB.out | apply lA | apply lN | apply lD | refine lS ?_ GE224.out | refine lS ?_ GE225.out) | exact HB.out)) hb); clear BK224; clear BK225; clear HB; have BK224 := n0_; have BK225 := n1_; have HB := n2_; clear n0_ n1_ n2_; (try clear hb); (try clear hb2); (try clear hk); (try clear hi)) | ((with_reducible refine gate_dst (N := 4) rfl ?_); refine box_event ?hg (N := 4) ?hd (cs := #[.int .i64 0, .int .i64 0]) (t := 28) ?hr ?_; (case hd => rfl); (case hg => rfl); (case hr => first | (go_simp; done) | (go_simp; rfl)); intro gb231 hg w53 hbox hb; have n0_ := aZ (blk_below (g := gb224) (o := .cells #[.slice (some ad228) l0_0.length c0_0] 24 (0, 0)) (by (with_reducible repeat (first | refine bN ?_ _ | refine bD ?_ | refine bA ?_ _)); exact BK224.out) hb); have n1_ := aZ (blk_below (g := gb225) (o := .cells #[.int .i64 x226000_1, .int .i64 x226001_1] 28 (0, 0)) (by (with_reducible repeat (first | refine bN ?_ _ | refine bD ?_ | refine bA ?_ _)); exact BK225.out) hb); have n2_ := aZ (lT (by repeat (first | (with_reducible first | exact HB.out | apply lA | apply lN | apply lD | refine lS ?_ GE224.out | refine lS ?_ GE225.out) | exact HB.out)) hb); have n3_ := aZ (hbox); have n4_ := aZ ((by rw [hg]; exact (lZ (by repeat (first | (with_reducible first | exact HB.out | apply lA | apply lN | apply lD | refine lS ?_ GE224.out | refine lS ?_ GE225.out) | exact HB.out))) : w.heap.size ≤ gb231)); have n5_ := aZ ((by rw [hg]; exact (lZ (by repeat (first | (with_reducible first | exact HB.out | apply lA | apply lN | apply lD | refine lS ?_ GE224.out | refine lS ?_ GE225.out) | exact HB.out))) : w.heap.size ≤ gb231)); have n6_ := aZ ((by rw [hg]; exact Nat.ne_of_lt (blk_lt (g := gb224) (o := .cells #[.slice (some ad228) l0_0.length c0_0] 24 (0, 0)) (by (with_reducible repeat (first | refine bN ?_ _ | refine bD ?_ | refine bA ?_ _)); exact BK224.out)) : gb224 ≠ gb231)); have n7_ := aZ ((by rw [hg]; exact Nat.ne_of_gt (blk_lt (g := gb224) (o := .cells #[.slice (some ad228) l0_0.length c0_0] 24 (0, 0)) (by (with_reducible repeat (first | refine bN ?_ _ | refine bD ?_ | refine bA ?_ _)); exact BK224.out)) : gb231 ≠ gb224)); have n8_ := aZ ((by rw [hg]; exact Nat.ne_of_lt (blk_lt (g := gb225) (o := .cells #[.int .i64 x226000_1, .int .i64 x226001_1] 28 (0, 0)) (by (with_reducible repeat (first | refine bN ?_ _ | refine bD ?_ | refine bA ?_ _)); exact BK225.out)) : gb225 ≠ gb231)); have n9_ := aZ ((by rw [hg]; exact Nat.ne_of_gt (blk_lt (g := gb225) (o := .cells #[.int .i64 x226000_1, .int .i64 x226001_1] 28 (0, 0)) (by (with_reducible repeat (first | refine bN ?_ _ | refine bD ?_ | refine bA ?_ _)); exact BK225.out)) : gb231 ≠ gb225)); clear BK224; clear BK225; clear HB; have BK224 := n0_; have BK225 := n1_; have HB := n2_; have BK231 := n3_; have GW231 := n4_; have GE231 := n5_; have NB224_231 := n6_; have NB231_224 := n7_; have NB225_231 := n8_; have NB231_225 := n9_; clear n0_ n1_ n2_ n3_ n4_ n5_ n6_ n7_ n8_ n9_; clear hb hbox hg; have hnb54 := NB231_224.out; have hnc54 := NB224_231.out; have hnb55 := NB231_225.out; have hnc55 := NB225_231.out; have hcz56_0 : w53.cell? ⟨gb231, 0, none⟩ = some (.int .i64 0) := (blk_cell BK231.out 0).trans rfl; have hcz56_1 : w53.cell? ⟨gb231, 1, none⟩ = some (.int .i64 0) := (blk_cell BK231.out 1).trans rfl; have hfz56_0 := blk_frozen BK231.out 0; have hfz56_1 := blk_frozen BK231.out 1))
      have n0_ : Aside0 (((w53.setCell ⟨gb231, 0, none⟩ (.int .i64 t229)).setCell ⟨gb231, 1, none⟩ (.int .i64 t230)).heap[gb224]? = some (.cells #[.slice (some ad228) l0_0.length c0_0] 24 (0, 0))) := ⟨by (with_reducible repeat (first | refine bN ?_ _ | refine bD ?_ | refine bA ?_ _)); refine blk_far ?_ NB224_231.out _; (with_reducible repeat (first | refine bN ?_ _ | refine bD ?_ | refine bA ?_ _)); refine blk_far ?_ NB224_231.out _; (with_reducible repeat (first | refine bN ?_ _ | refine bD ?_ | refine bA ?_ _)); exact BK224.out⟩
      have n1_ : Aside0 (((w53.setCell ⟨gb231, 0, none⟩ (.int .i64 t229)).setCell ⟨gb231, 1, none⟩ (.int .i64 t230)).heap[gb225]? = some (.cells #[.int .i64 x226000_1, .int .i64 x226001_1] 28 (0, 0))) := ⟨by (with_reducible repeat (first | refine bN ?_ _ | refine bD ?_ | refine bA ?_ _)); refine blk_far ?_ NB225_231.out _; (with_reducible repeat (first | refine bN ?_ _ | refine bD ?_ | refine bA ?_ _)); refine blk_far ?_ NB225_231.out _; (with_reducible repeat (first | refine bN ?_ _ | refine bD ?_ | refine bA ?_ _)); exact BK225.out⟩
      have n2_ : Aside0 (((w53.setCell ⟨gb231, 0, none⟩ (.int .i64 t229)).setCell ⟨gb231, 1, none⟩ (.int .i64 t230)).heap[gb231]? = some (.cells #[.int .i64 t229, .int .i64 t230] 28 (0, 0))) := ⟨by (with_reducible repeat (first | refine bN ?_ _ | refine bD ?_ | refine bA ?_ _)); refine blk_put (cs := #[.int .i64 t229, .int .i64 0]) ?_ 1 _ rfl; (with_reducible repeat (first | refine bN ?_ _ | refine bD ?_ | refine bA ?_ _)); refine blk_put (cs := #[.int .i64 0, .int .i64 0]) ?_ 0 _ rfl; (with_reducible repeat (first | refine bN ?_ _ | refine bD ?_ | refine bA ?_ _)); exact BK231.out⟩
      have n3_ : Aside0 (Below w.heap.size w ((w53.setCell ⟨gb231, 0, none⟩ (.int .i64 t229)).setCell ⟨gb231, 1, none⟩ (.int .i64 t230))) := ⟨by repeat (first | (with_reducible first | exact HB.out | apply lA | apply lN | apply lD | refine lS ?_ GE224.out | refine lS ?_ GE225.out | refine lS ?_ GE231.out) | exact HB.out)⟩
      (try clear BK224)
      (try clear BK225)
      (try clear BK231)
      (try clear HB)
      generalize ((w53.setCell ⟨gb231, 0, none⟩ (.int .i64 t229)).setCell ⟨gb231, 1, none⟩ (.int .i64 t230)) = w57 at n0_ n1_ n2_ n3_ ⊢
      have BK224 := n0_
      have BK225 := n1_
      have BK231 := n2_
      have HB := n3_
      clear n0_ n1_ n2_ n3_
      have n0_ := aZ (bD BK224.out)
      have n1_ := aZ (bD BK225.out)
      have n2_ := aZ (bD BK231.out)
      have n3_ := aZ (lD HB.out)
      clear BK224
      clear BK225
      clear BK231
      clear HB
      have BK224 := n0_
      have BK225 := n1_
      have BK231 := n2_
      have HB := n3_
      clear n0_ n1_ n2_ n3_
      have p234 : 0 ≤ (x3_1 : Int) := of_decide_eq_true (by first | (with_reducible assumption) | assumption)
      have q234 : x3_1 < (l0_0.length : Int) := of_decide_eq_true (by first | (with_reducible assumption) | assumption)
      obtain ⟨ad234, A234_2, c234_2, A234_3, c234_3, e234, hx234_0, hx234_1, hx234_2, hx234_3, hl234_2, hi234_2, hl234_3, hi234_3⟩ := at_T46 HR0_0.out x3_1 p234 q234
      have hw234_3 := hx234_3
      have hw234_2 := hx234_2
      have hw234_1 := hx234_1
      have hw234_0 := hx234_0
      obtain rfl : ad228 = ad234 := (by injection e234)
      replace hx234_0 := (HB.out.cell (World.block_lt_of_cell? w _ hx234_0)).trans hx234_0
      replace hx234_1 := (HB.out.cell (World.block_lt_of_cell? w _ hx234_1)).trans hx234_1
      replace hx234_2 := (HB.out.cell (World.block_lt_of_cell? w _ hx234_2)).trans hx234_2
      replace hx234_3 := (HB.out.cell (World.block_lt_of_cell? w _ hx234_3)).trans hx234_3
      have HR234_2 := aZ hi234_2
      have HC234_2 := aZ hl234_2
      clear hi234_2 hl234_2
      have HR234_3 := aZ hi234_3
      have HC234_3 := aZ hl234_3
      clear hi234_3 hl234_3
      replace p234 := eq_true p234
      replace q234 := eq_true q234
      have p236 : 0 ≤ (x3_1 : Int) := of_decide_eq_true (by first | (with_reducible assumption) | assumption)
      have q236 : x3_1 < (l0_0.length : Int) := of_decide_eq_true (by first | (with_reducible assumption) | assumption)
      obtain ⟨ad236, A236_2, c236_2, A236_3, c236_3, e236, hx236_0, hx236_1, hx236_2, hx236_3, hl236_2, hi236_2, hl236_3, hi236_3⟩ := at_T46 HR0_0.out x3_1 p236 q236
      have hw236_3 := hx236_3
      have hw236_2 := hx236_2
      have hw236_1 := hx236_1
      have hw236_0 := hx236_0
      obtain rfl : ad228 = ad236 := (by injection e236)
      replace hx236_0 := (HB.out.cell (World.block_lt_of_cell? w _ hx236_0)).trans hx236_0
      replace hx236_1 := (HB.out.cell (World.block_lt_of_cell? w _ hx236_1)).trans hx236_1
      replace hx236_2 := (HB.out.cell (World.block_lt_of_cell? w _ hx236_2)).trans hx236_2
      replace hx236_3 := (HB.out.cell (World.block_lt_of_cell? w _ hx236_3)).trans hx236_3
      have HR236_2 := aZ hi236_2
      have HC236_2 := aZ hl236_2
      clear hi236_2 hl236_2
      have HR236_3 := aZ hi236_3
      have HC236_3 := aZ hl236_3
      clear hi236_3 hl236_3
      replace p236 := eq_true p236
      replace q236 := eq_true q236
      have ea_ := Option.some.inj (hx234_2.symm.trans hx236_2)
      injection ea_ with ea_ en_ ec_
      subst ea_
      subst ec_
      clear en_
      have ea_ := Option.some.inj (hx234_3.symm.trans hx236_3)
      injection ea_ with ea_ en_ ec_
      subst ea_
      subst ec_
      clear en_
      refine start_ (n := 14) (S := fun w' => w'.cell? ⟨gb224, 0, none⟩ = some (.slice (some ad228) l0_0.length c0_0) ∧ w'.cell? (ad228.add ((x3_1).toNat * 4)) = some (.int .i64 ((rd_T46 l0_0 x3_1).f0)) ∧ w'.cell? ⟨(ad228.add ((x3_1).toNat * 4)).block, (ad228.add ((x3_1).toNat * 4)).off + 1, none⟩ = some (.int .i64 ((rd_T46 l0_0 x3_1).f1.f0)) ∧ w'.cell? ⟨(ad228.add ((x3_1).toNat * 4)).block, (ad228.add ((x3_1).toNat * 4)).off + 2, none⟩ = some (.slice A234_2 ((rd_T46 l0_0 x3_1).f1.f1).length c234_2) ∧ w'.cell? ⟨(ad228.add ((x3_1).toNat * 4)).block, (ad228.add ((x3_1).toNat * 4)).off + 3, none⟩ = some (.slice A234_3 ((rd_T46 l0_0 x3_1).f1.f2).length c234_3) ∧ w'.cell? (ad228.add ((x3_1).toNat * 4)) = some (.int .i64 ((rd_T46 l0_0 x3_1).f0)) ∧ w'.cell? ⟨(ad228.add ((x3_1).toNat * 4)).block, (ad228.add ((x3_1).toNat * 4)).off + 1, none⟩ = some (.int .i64 ((rd_T46 l0_0 x3_1).f1.f0)) ∧ w'.cell? ⟨(ad228.add ((x3_1).toNat * 4)).block, (ad228.add ((x3_1).toNat * 4)).off + 2, none⟩ = some (.slice A234_2 ((rd_T46 l0_0 x3_1).f1.f1).length c234_2) ∧ w'.cell? ⟨(ad228.add ((x3_1).toNat * 4)).block, (ad228.add ((x3_1).toNat * 4)).off + 3, none⟩ = some (.slice A234_3 ((rd_T46 l0_0 x3_1).f1.f2).length c234_3)) (ds := []) Z1 (by kernel_rfl) rfl rfl ⟨(blk_cell BK224.out 0).trans rfl, ((HB.out.cell (World.block_lt_of_cell? w _ hw234_0)).trans hw234_0), ((HB.out.cell (World.block_lt_of_cell? w _ hw234_1)).trans hw234_1), ((HB.out.cell (World.block_lt_of_cell? w _ hw234_2)).trans hw234_2), ((HB.out.cell (World.block_lt_of_cell? w _ hw234_3)).trans hw234_3), ((HB.out.cell (World.block_lt_of_cell? w _ hw236_0)).trans hw236_0), ((HB.out.cell (World.block_lt_of_cell? w _ hw236_1)).trans hw236_1), ((HB.out.cell (World.block_lt_of_cell? w _ hw236_2)).trans hw236_2), ((HB.out.cell (World.block_lt_of_cell? w _ hw236_3)).trans hw236_3)⟩ (fun hHeld => ?_); refine with_tabW changeforgeref3_StoreFault.tab9 changeforgeref3_StoreFault.bits9 (fun HT_ HW_ => ?_)
      generalize w57.drew = w58 at BK224 BK225 BK231 HB HR234_2 HR234_3 HR236_2 HR236_3 hx234_0 hx234_1 hx234_2 hx234_3 hx236_0 hx236_1 hx236_2 hx236_3 hHeld ⊢
      refine pu 0 31 Z2 HT_ rfl rfl (h := ?_)
      refine pu 2 33 Z3 HT_ rfl rfl (h := ?_)
      refine pu 7 38 Z4 HT_ rfl rfl (h := ?_)
      refine pu 9 40 Z5 HT_ rfl rfl (h := ?_)
      refine tk 1 32 Z6 HT_ HW_ rfl rfl hHeld (by rintro w' ⟨s0, s1, s2, s3, s4, s5, s6, s7, s8⟩; go_simp; with_reducible rfl) (h := ?_)
      refine pu 3 34 Z7 HT_ rfl rfl (h := ?_)
      refine pu 4 35 Z8 HT_ rfl rfl (h := ?_)
      refine tk 5 36 Z9 HT_ HW_ rfl rfl hHeld (by rintro w' ⟨s0, s1, s2, s3, s4, s5, s6, s7, s8⟩; go_simp; with_reducible rfl) (h := ?_)
      refine tk 8 39 Z10 HT_ HW_ rfl rfl hHeld (by rintro w' ⟨s0, s1, s2, s3, s4, s5, s6, s7, s8⟩; go_simp; with_reducible rfl) (h := ?_)
      refine pu 10 41 Z11 HT_ rfl rfl (h := ?_)
      refine pu 11 42 Z12 HT_ rfl rfl (h := ?_)
      refine tk 12 43 Z13 HT_ HW_ rfl rfl hHeld (by rintro w' ⟨s0, s1, s2, s3, s4, s5, s6, s7, s8⟩; go_simp; with_reducible rfl) (h := ?_)
      refine one_ (i := 6) (N := some 37) Z14 rfl rfl (one_of HT_.out (by kernel_rfl)) (by decide) (fun K hK => ?_)
      refine goes_ Try.func31 (by kernel_rfl) rfl #[.agg #[.int .i64 ((rd_T46 l0_0 x3_1).f1.f0), .slice A234_2 ((rd_T46 l0_0 x3_1).f1.f1).length c234_2, .slice A234_3 ((rd_T46 l0_0 x3_1).f1.f2).length c234_3]] (by rfl) rfl rfl (by (try simp only [List.map_toArray, List.map_cons, List.map_nil]); first | done | rfl | (simp only [List.length_drop, List.length_take]; rfl)) ?_
      with_reducible refine (changeforgeref3_ObjectDigest.calls k1 ((rd_T46 l0_0 x3_1).f1.f0) _ _ ((rd_T46 l0_0 x3_1).f1.f1) _ _ ((rd_T46 l0_0 x3_1).f1.f2) t235 _ ?side1 ?side2 ?side3 ?side4 A18.out).mono ?_
      (case side1 => repeat (first | exact (Kd.C_below HR234_2.out HB.out) | (with_reducible refine Kd.C_alloc ?_ _) | (with_reducible refine Kd.C_drewN ?_ _) | (with_reducible refine Kd.C_drew ?_)))
      (case side2 => exact HC234_2.out)
      (case side3 => repeat (first | exact (Kd.C_below HR234_3.out HB.out) | (with_reducible refine Kd.C_alloc ?_ _) | (with_reducible refine Kd.C_drewN ?_ _) | (with_reducible refine Kd.C_drew ?_)))
      (case side4 => exact HC234_3.out)
      rintro e w59 ⟨rfl, hb⟩
      refine ⟨_, rfl, ?_⟩
      have n0_ := aZ (blk_below (g := gb224) (o := .cells #[.slice (some ad228) l0_0.length c0_0] 24 (0, 0)) (by (with_reducible repeat (first | refine bN ?_ _ | refine bD ?_ | refine bA ?_ _)); exact BK224.out) hb)
      have n1_ := aZ (blk_below (g := gb225) (o := .cells #[.int .i64 x226000_1, .int .i64 x226001_1] 28 (0, 0)) (by (with_reducible repeat (first | refine bN ?_ _ | refine bD ?_ | refine bA ?_ _)); exact BK225.out) hb)
      have n2_ := aZ (blk_below (g := gb231) (o := .cells #[.int .i64 t229, .int .i64 t230] 28 (0, 0)) (by (with_reducible repeat (first | refine bN ?_ _ | refine bD ?_ | refine bA ?_ _)); exact BK231.out) hb)
      have n3_ := aZ (lT (by repeat (first | (with_reducible first | exact HB.out | apply lA | apply lN | apply lD | refine lS ?_ GE224.out | refine lS ?_ GE225.out | refine lS ?_ GE231.out) | exact HB.out)) hb)
      clear BK224
      clear BK225
      clear BK231
      clear HB
      have BK224 := n0_
      have BK225 := n1_
      have BK231 := n2_
      have HB := n3_
      clear n0_ n1_ n2_ n3_
      (try clear hb)
      (try clear hb2)
      (try clear hk)
      (try clear hi)
      refine hK.out _ _ ⟨(blk_cell BK224.out 0).trans rfl, ((HB.out.cell (World.block_lt_of_cell? w _ hw234_0)).trans hw234_0), ((HB.out.cell (World.block_lt_of_cell? w _ hw234_1)).trans hw234_1), ((HB.out.cell (World.block_lt_of_cell? w _ hw234_2)).trans hw234_2), ((HB.out.cell (World.block_lt_of_cell? w _ hw234_3)).trans hw234_3), ((HB.out.cell (World.block_lt_of_cell? w _ hw236_0)).trans hw236_0), ((HB.out.cell (World.block_lt_of_cell? w _ hw236_1)).trans hw236_1), ((HB.out.cell (World.block_lt_of_cell? w _ hw236_2)).trans hw236_2), ((HB.out.cell (World.block_lt_of_cell? w _ hw236_3)).trans hw236_3)⟩ (fun hHeld => ?_)
      clear hK K
      refine norm_ (a' := ?_) ?_ ?_
      rotate_left
      · show Act.put _ (some 37) _ = _
        simp only [Act.put, List.setIfInBounds_toArray, List.set_cons_zero, List.set_cons_succ, i64_w, i32_w]
        rfl
      refine pu 13 44 Z15 HT_ rfl rfl (h := ?_)
      refine done_ (done_of HT_.out (by kernel_rfl)) ?_
      try go_wp2
      have n0_ := aZ (bD BK224.out)
      have n1_ := aZ (bD BK225.out)
      have n2_ := aZ (bD BK231.out)
      have n3_ := aZ (lD HB.out)
      clear BK224
      clear BK225
      clear BK231
      clear HB
      have BK224 := n0_
      have BK225 := n1_
      have BK231 := n2_
      have HB := n3_
      clear n0_ n1_ n2_ n3_
      refine start_ (n := 18) (S := fun w' => True) (ds := []) Z16 (by kernel_rfl) rfl rfl trivial (fun hHeld => ?_); refine with_tabW changeforgeref3_StoreFault.tab11 changeforgeref3_StoreFault.bits11 (fun HT_ HW_ => ?_)
      generalize w59.drew = w60 at BK224 BK225 BK231 HB hHeld ⊢
      refine pu 0 47 Z17 HT_ rfl rfl (h := ?_)
      refine pu 1 48 Z18 HT_ rfl rfl (h := ?_)
      refine pu 2 49 Z19 HT_ rfl rfl (h := ?_)
      refine pv 3 50 Z20 HT_ rfl rfl (h := ?_)
      refine pv 4 51 Z35 HT_ rfl rfl (h := ?_)
      refine pv 5 52 Z36 HT_ rfl rfl (h := ?_)
      refine pv 6 53 Z37 HT_ rfl rfl (h := ?_)
      refine pv 7 54 Z38 HT_ rfl rfl (h := ?_)
      refine pv 8 55 Z39 HT_ rfl rfl (h := ?_)
      refine pv 9 56 Z40 HT_ rfl rfl (h := ?_)
      refine pv 10 57 Z41 HT_ rfl rfl (h := ?_)
      refine pv 11 58 Z42 HT_ rfl rfl (h := ?_)
      refine pv 12 59 Z29 HT_ rfl rfl (h := ?_)
      refine pv 13 60 Z30 HT_ rfl rfl (h := ?_)
      refine pv 14 61 Z31 HT_ rfl rfl (h := ?_)
      refine pv 15 62 Z32 HT_ rfl rfl (h := ?_)
      refine pv 16 63 Z33 HT_ rfl rfl (h := ?_)
      refine pu 17 64 Z34 HT_ rfl rfl (h := ?_)
      refine done_ (done_of HT_.out (by kernel_rfl)) ?_
      try go_wp2
      go_roundg k1
      case measure => have := HK1.out; omega
      case rel => exact ⟨(wrap64 (x3_1 + 1)), (x226000_1), (x226001_1), (by first | rfl | (simp; done) | (simp [*]; done) | (simp [i64_w]; done)), H', ⟨by have := HK1.out; omega⟩, ⟨by (with_reducible repeat (first | refine bN ?_ _ | refine bD ?_ | refine bA ?_ _)); exact BK224.out⟩, ⟨by (with_reducible repeat (first | refine bN ?_ _ | refine bD ?_ | refine bA ?_ _)); exact BK225.out⟩, ⟨by repeat (first | (with_reducible first | exact HB.out | apply lA | apply lN | apply lD | refine lS ?_ GE224.out | refine lS ?_ GE225.out | refine lS ?_ GE231.out) | exact HB.out)⟩⟩
    rw [if_pos c20] at H
    have c20b0 : decide (0 < x3_1) = true := decide_eq_true c20
    clear c20
    obtain ⟨ji21, hji21⟩ : ∃ j_ : Int, (wrap64 (x3_1 - 1)) = j_ := ⟨_, rfl⟩
    replace H : (if 0 ≤ (ji21) then (if (ji21) < (l0_0.length : Int) then (if ((rd_T46 l0_0 x3_1).f0) ≤ ((rd_T46 l0_0 (ji21)).f0) then ((changeforgeref3_Fault.f 5 x3_1).bind fun bt239 => (some (bt239.1, bt239.2))) else (changeforgeref3_StoreFault.l0 k1 (wrap64 (x3_1 + 1)) l0_0)) else (none)) else (none)) = some (r1, r2) := by first | (rw [hji21] at H; exact H) | (simp only [hji21] at H ⊢; exact H)
    (try rw [hji21] at A16)
    (try rw [hji21] at A18)
    have hji21w : (IntKind.i64.wrap (x3_1 - 1)) = ji21 := (i64_w _).trans hji21
    by_cases c22 : 0 ≤ (ji21)
    rotate_left
    · rw [if_neg c22] at H
      exact absurd H (by simp)
    rw [if_pos c22] at H
    have c22b0 : decide (0 ≤ (ji21)) = true := decide_eq_true c22
    clear c22
    by_cases c23 : (ji21) < (l0_0.length : Int)
    rotate_left
    · rw [if_neg c23] at H
      exact absurd H (by simp)
    rw [if_pos c23] at H
    have c23b0 : decide ((ji21) < (l0_0.length : Int)) = true := decide_eq_true c23
    clear c23
    by_cases c24 : ((rd_T46 l0_0 x3_1).f0) ≤ ((rd_T46 l0_0 (ji21)).f0)
    rotate_left
    · rw [if_neg c24] at H
      have c24b0 : decide (((rd_T46 l0_0 x3_1).f0) ≤ ((rd_T46 l0_0 (ji21)).f0)) = false := decide_eq_false c24
      clear c24
      have H' := aZ H
      clear H
      have hnb39 := NB224_225.out
      have hnc39 := NB225_224.out
      have hcz40_0 : wr.cell? ⟨gb224, 0, none⟩ = some (.slice A0_0 l0_0.length c0_0) := (blk_cell BK224.out 0).trans rfl
      have hfz40_0 := blk_frozen BK224.out 0
      have p228 : 0 ≤ (x3_1 : Int) := of_decide_eq_true (by first | (with_reducible assumption) | assumption)
      have q228 : x3_1 < (l0_0.length : Int) := of_decide_eq_true (by first | (with_reducible assumption) | assumption)
      obtain ⟨ad228, A228_2, c228_2, A228_3, c228_3, e228, hx228_0, hx228_1, hx228_2, hx228_3, hl228_2, hi228_2, hl228_3, hi228_3⟩ := at_T46 HR0_0.out x3_1 p228 q228
      cases e228
      replace hx228_0 := (HB.out.cell (World.block_lt_of_cell? w _ hx228_0)).trans hx228_0
      replace hx228_1 := (HB.out.cell (World.block_lt_of_cell? w _ hx228_1)).trans hx228_1
      replace hx228_2 := (HB.out.cell (World.block_lt_of_cell? w _ hx228_2)).trans hx228_2
      replace hx228_3 := (HB.out.cell (World.block_lt_of_cell? w _ hx228_3)).trans hx228_3
      have HR228_2 := aZ hi228_2
      have HC228_2 := aZ hl228_2
      clear hi228_2 hl228_2
      have HR228_3 := aZ hi228_3
      have HC228_3 := aZ hl228_3
      clear hi228_3 hl228_3
      replace p228 := eq_true p228
      replace q228 := eq_true q228
      try go_wp2_with (first | ((with_reducible refine gate_callee (f := 30) rfl ?_); refine goesL_ (some 23) rfl rfl Try.func30 (by kernel_rfl) rfl #[.agg #[.int .i64 ((rd_T46 l0_0 x3_1).f1.f0), .slice A228_2 ((rd_T46 l0_0 x3_1).f1.f1).length c228_2, .slice A228_3 ((rd_T46 l0_0 x3_1).f1.f2).length c228_3]] rfl (by (try simp only [List.map_toArray, List.map_cons, List.map_nil]); first | done | rfl | (simp only [List.length_drop, List.length_take]; rfl)) ?_; (with_reducible refine (changeforgeref3_ObjectFault.calls k1 ((rd_T46 l0_0 x3_1).f1.f0) _ _ ((rd_T46 l0_0 x3_1).f1.f1) _ _ ((rd_T46 l0_0 x3_1).f1.f2) t229 t230 _ ?side1 ?side2 ?side3 ?side4 A16.out).mono ?_); (case side1 => repeat (first | exact (Kd.C_below HR228_2.out HB.out) | (with_reducible refine Kd.C_alloc ?_ _) | (with_reducible refine Kd.C_drewN ?_ _) | (with_reducible refine Kd.C_drew ?_))); (case side2 => exact HC228_2.out); (case side3 => repeat (first | exact (Kd.C_below HR228_3.out HB.out) | (with_reducible refine Kd.C_alloc ?_ _) | (with_reducible refine Kd.C_drewN ?_ _) | (with_reducible refine Kd.C_drew ?_))); (case side4 => exact HC228_3.out); rintro e w41 ⟨rfl, hb⟩; refine ⟨_, rfl, ?_⟩; have n0_ := aZ (blk_below (g := gb224) (o := .cells #[.slice (some ad228) l0_0.length c0_0] 24 (0, 0)) (by (with_reducible repeat (first | refine bN ?_ _ | refine bD ?_ | refine bA ?_ _)); exact BK224.out) hb); have n1_ := aZ (blk_below (g := gb225) (o := .cells #[.int .i64 x226000_1, .int .i64 x226001_1] 28 (0, 0)) (by (with_reducible repeat (first | refine bN ?_ _ | refine bD ?_ | refine bA ?_ _)); exact BK225.out) hb); have n2_ := aZ (lT (by repeat (first | (with_reducible first | exact HB.out | apply lA | apply lN | apply lD | refine lS ?_ GE224.out | refine lS ?_ GE225.out) | exact HB.out)) hb); clear BK224; clear BK225; clear HB; have BK224 := n0_; have BK225 := n1_; have HB := n2_; clear n0_ n1_ n2_; (try clear hb); (try clear hb2); (try clear hk); (try clear hi)) | ((with_reducible refine gate_dst (N := 4) rfl ?_); refine box_event ?hg (N := 4) ?hd (cs := #[.int .i64 0, .int .i64 0]) (t := 28) ?hr ?_; (case hd => rfl); (case hg => rfl); (case hr => first | (go_simp; done) | (go_simp; rfl)); intro gb231 hg w42 hbox hb; have n0_ := aZ (blk_below (g := gb224) (o := .cells #[.slice (some ad228) l0_0.length c0_0] 24 (0, 0)) (by (with_reducible repeat (first | refine bN ?_ _ | refine bD ?_ | refine bA ?_ _)); exact BK224.out) hb); have n1_ := aZ (blk_below (g := gb225) (o := .cells #[.int .i64 x226000_1, .int .i64 x226001_1] 28 (0, 0)) (by (with_reducible repeat (first | refine bN ?_ _ | refine bD ?_ | refine bA ?_ _)); exact BK225.out) hb); have n2_ := aZ (lT (by repeat (first | (with_reducible first | exact HB.out | apply lA | apply lN | apply lD | refine lS ?_ GE224.out | refine lS ?_ GE225.out) | exact HB.out)) hb); have n3_ := aZ (hbox); have n4_ := aZ ((by rw [hg]; exact (lZ (by repeat (first | (with_reducible first | exact HB.out | apply lA | apply lN | apply lD | refine lS ?_ GE224.out | refine lS ?_ GE225.out) | exact HB.out))) : w.heap.size ≤ gb231)); have n5_ := aZ ((by rw [hg]; exact (lZ (by repeat (first | (with_reducible first | exact HB.out | apply lA | apply lN | apply lD | refine lS ?_ GE224.out | refine lS ?_ GE225.out) | exact HB.out))) : w.heap.size ≤ gb231)); have n6_ := aZ ((by rw [hg]; exact Nat.ne_of_lt (blk_lt (g := gb224) (o := .cells #[.slice (some ad228) l0_0.length c0_0] 24 (0, 0)) (by (with_reducible repeat (first | refine bN ?_ _ | refine bD ?_ | refine bA ?_ _)); exact BK224.out)) : gb224 ≠ gb231)); have n7_ := aZ ((by rw [hg]; exact Nat.ne_of_gt (blk_lt (g := gb224) (o := .cells #[.slice (some ad228) l0_0.length c0_0] 24 (0, 0)) (by (with_reducible repeat (first | refine bN ?_ _ | refine bD ?_ | refine bA ?_ _)); exact BK224.out)) : gb231 ≠ gb224)); have n8_ := aZ ((by rw [hg]; exact Nat.ne_of_lt (blk_lt (g := gb225) (o := .cells #[.int .i64 x226000_1, .int .i64 x226001_1] 28 (0, 0)) (by (with_reducible repeat (first | refine bN ?_ _ | refine bD ?_ | refine bA ?_ _)); exact BK225.out)) : gb225 ≠ gb231)); have n9_ := aZ ((by rw [hg]; exact Nat.ne_of_gt (blk_lt (g := gb225) (o := .cells #[.int .i64 x226000_1, .int .i64 x226001_1] 28 (0, 0)) (by (with_reducible repeat (first | refine bN ?_ _ | refine bD ?_ | refine bA ?_ _)); exact BK225.out)) : gb231 ≠ gb225)); clear BK224; clear BK225; clear HB; have BK224 := n0_; have BK225 := n1_; have HB := n2_; have BK231 := n3_; have GW231 := n4_; have GE231 := n5_; have NB224_231 := n6_; have NB231_224 := n7_; have NB225_231 := n8_; have NB231_225 := n9_; clear n0_ n1_ n2_ n3_ n4_ n5_ n6_ n7_ n8_ n9_; clear hb hbox hg; have hnb43 := NB231_224.out; have hnc43 := NB224_231.out; have hnb44 := NB231_225.out; have hnc44 := NB225_231.out; have hcz45_0 : w42.cell? ⟨gb231, 0, none⟩ = some (.int .i64 0) := (blk_cell BK231.out 0).trans rfl; have hcz45_1 : w42.cell? ⟨gb231, 1, none⟩ = some (.int .i64 0) := (blk_cell BK231.out 1).trans rfl; have hfz45_0 := blk_frozen BK231.out 0; have hfz45_1 := blk_frozen BK231.out 1))
      have n0_ : Aside0 (((w42.setCell ⟨gb231, 0, none⟩ (.int .i64 t229)).setCell ⟨gb231, 1, none⟩ (.int .i64 t230)).heap[gb224]? = some (.cells #[.slice (some ad228) l0_0.length c0_0] 24 (0, 0))) := ⟨by (with_reducible repeat (first | refine bN ?_ _ | refine bD ?_ | refine bA ?_ _)); refine blk_far ?_ NB224_231.out _; (with_reducible repeat (first | refine bN ?_ _ | refine bD ?_ | refine bA ?_ _)); refine blk_far ?_ NB224_231.out _; (with_reducible repeat (first | refine bN ?_ _ | refine bD ?_ | refine bA ?_ _)); exact BK224.out⟩
      have n1_ : Aside0 (((w42.setCell ⟨gb231, 0, none⟩ (.int .i64 t229)).setCell ⟨gb231, 1, none⟩ (.int .i64 t230)).heap[gb225]? = some (.cells #[.int .i64 x226000_1, .int .i64 x226001_1] 28 (0, 0))) := ⟨by (with_reducible repeat (first | refine bN ?_ _ | refine bD ?_ | refine bA ?_ _)); refine blk_far ?_ NB225_231.out _; (with_reducible repeat (first | refine bN ?_ _ | refine bD ?_ | refine bA ?_ _)); refine blk_far ?_ NB225_231.out _; (with_reducible repeat (first | refine bN ?_ _ | refine bD ?_ | refine bA ?_ _)); exact BK225.out⟩
      have n2_ : Aside0 (((w42.setCell ⟨gb231, 0, none⟩ (.int .i64 t229)).setCell ⟨gb231, 1, none⟩ (.int .i64 t230)).heap[gb231]? = some (.cells #[.int .i64 t229, .int .i64 t230] 28 (0, 0))) := ⟨by (with_reducible repeat (first | refine bN ?_ _ | refine bD ?_ | refine bA ?_ _)); refine blk_put (cs := #[.int .i64 t229, .int .i64 0]) ?_ 1 _ rfl; (with_reducible repeat (first | refine bN ?_ _ | refine bD ?_ | refine bA ?_ _)); refine blk_put (cs := #[.int .i64 0, .int .i64 0]) ?_ 0 _ rfl; (with_reducible repeat (first | refine bN ?_ _ | refine bD ?_ | refine bA ?_ _)); exact BK231.out⟩
      have n3_ : Aside0 (Below w.heap.size w ((w42.setCell ⟨gb231, 0, none⟩ (.int .i64 t229)).setCell ⟨gb231, 1, none⟩ (.int .i64 t230))) := ⟨by repeat (first | (with_reducible first | exact HB.out | apply lA | apply lN | apply lD | refine lS ?_ GE224.out | refine lS ?_ GE225.out | refine lS ?_ GE231.out) | exact HB.out)⟩
      (try clear BK224)
      (try clear BK225)
      (try clear BK231)
      (try clear HB)
      generalize ((w42.setCell ⟨gb231, 0, none⟩ (.int .i64 t229)).setCell ⟨gb231, 1, none⟩ (.int .i64 t230)) = w46 at n0_ n1_ n2_ n3_ ⊢
      have BK224 := n0_
      have BK225 := n1_
      have BK231 := n2_
      have HB := n3_
      clear n0_ n1_ n2_ n3_
      have n0_ := aZ (bD BK224.out)
      have n1_ := aZ (bD BK225.out)
      have n2_ := aZ (bD BK231.out)
      have n3_ := aZ (lD HB.out)
      clear BK224
      clear BK225
      clear BK231
      clear HB
      have BK224 := n0_
      have BK225 := n1_
      have BK231 := n2_
      have HB := n3_
      clear n0_ n1_ n2_ n3_
      have p234 : 0 ≤ (x3_1 : Int) := of_decide_eq_true (by first | (with_reducible assumption) | assumption)
      have q234 : x3_1 < (l0_0.length : Int) := of_decide_eq_true (by first | (with_reducible assumption) | assumption)
      obtain ⟨ad234, A234_2, c234_2, A234_3, c234_3, e234, hx234_0, hx234_1, hx234_2, hx234_3, hl234_2, hi234_2, hl234_3, hi234_3⟩ := at_T46 HR0_0.out x3_1 p234 q234
      have hw234_3 := hx234_3
      have hw234_2 := hx234_2
      have hw234_1 := hx234_1
      have hw234_0 := hx234_0
      obtain rfl : ad228 = ad234 := (by injection e234)
      replace hx234_0 := (HB.out.cell (World.block_lt_of_cell? w _ hx234_0)).trans hx234_0
      replace hx234_1 := (HB.out.cell (World.block_lt_of_cell? w _ hx234_1)).trans hx234_1
      replace hx234_2 := (HB.out.cell (World.block_lt_of_cell? w _ hx234_2)).trans hx234_2
      replace hx234_3 := (HB.out.cell (World.block_lt_of_cell? w _ hx234_3)).trans hx234_3
      have HR234_2 := aZ hi234_2
      have HC234_2 := aZ hl234_2
      clear hi234_2 hl234_2
      have HR234_3 := aZ hi234_3
      have HC234_3 := aZ hl234_3
      clear hi234_3 hl234_3
      replace p234 := eq_true p234
      replace q234 := eq_true q234
      have p236 : 0 ≤ (x3_1 : Int) := of_decide_eq_true (by first | (with_reducible assumption) | assumption)
      have q236 : x3_1 < (l0_0.length : Int) := of_decide_eq_true (by first | (with_reducible assumption) | assumption)
      obtain ⟨ad236, A236_2, c236_2, A236_3, c236_3, e236, hx236_0, hx236_1, hx236_2, hx236_3, hl236_2, hi236_2, hl236_3, hi236_3⟩ := at_T46 HR0_0.out x3_1 p236 q236
      have hw236_3 := hx236_3
      have hw236_2 := hx236_2
      have hw236_1 := hx236_1
      have hw236_0 := hx236_0
      obtain rfl : ad228 = ad236 := (by injection e236)
      replace hx236_0 := (HB.out.cell (World.block_lt_of_cell? w _ hx236_0)).trans hx236_0
      replace hx236_1 := (HB.out.cell (World.block_lt_of_cell? w _ hx236_1)).trans hx236_1
      replace hx236_2 := (HB.out.cell (World.block_lt_of_cell? w _ hx236_2)).trans hx236_2
      replace hx236_3 := (HB.out.cell (World.block_lt_of_cell? w _ hx236_3)).trans hx236_3
      have HR236_2 := aZ hi236_2
      have HC236_2 := aZ hl236_2
      clear hi236_2 hl236_2
      have HR236_3 := aZ hi236_3
      have HC236_3 := aZ hl236_3
      clear hi236_3 hl236_3
      replace p236 := eq_true p236
      replace q236 := eq_true q236
      have ea_ := Option.some.inj (hx234_2.symm.trans hx236_2)
      injection ea_ with ea_ en_ ec_
      subst ea_
      subst ec_
      clear en_
      have ea_ := Option.some.inj (hx234_3.symm.trans hx236_3)
      injection ea_ with ea_ en_ ec_
      subst ea_
      subst ec_
      clear en_
      refine start_ (n := 14) (S := fun w' => w'.cell? ⟨gb224, 0, none⟩ = some (.slice (some ad228) l0_0.length c0_0) ∧ w'.cell? (ad228.add ((x3_1).toNat * 4)) = some (.int .i64 ((rd_T46 l0_0 x3_1).f0)) ∧ w'.cell? ⟨(ad228.add ((x3_1).toNat * 4)).block, (ad228.add ((x3_1).toNat * 4)).off + 1, none⟩ = some (.int .i64 ((rd_T46 l0_0 x3_1).f1.f0)) ∧ w'.cell? ⟨(ad228.add ((x3_1).toNat * 4)).block, (ad228.add ((x3_1).toNat * 4)).off + 2, none⟩ = some (.slice A234_2 ((rd_T46 l0_0 x3_1).f1.f1).length c234_2) ∧ w'.cell? ⟨(ad228.add ((x3_1).toNat * 4)).block, (ad228.add ((x3_1).toNat * 4)).off + 3, none⟩ = some (.slice A234_3 ((rd_T46 l0_0 x3_1).f1.f2).length c234_3) ∧ w'.cell? (ad228.add ((x3_1).toNat * 4)) = some (.int .i64 ((rd_T46 l0_0 x3_1).f0)) ∧ w'.cell? ⟨(ad228.add ((x3_1).toNat * 4)).block, (ad228.add ((x3_1).toNat * 4)).off + 1, none⟩ = some (.int .i64 ((rd_T46 l0_0 x3_1).f1.f0)) ∧ w'.cell? ⟨(ad228.add ((x3_1).toNat * 4)).block, (ad228.add ((x3_1).toNat * 4)).off + 2, none⟩ = some (.slice A234_2 ((rd_T46 l0_0 x3_1).f1.f1).length c234_2) ∧ w'.cell? ⟨(ad228.add ((x3_1).toNat * 4)).block, (ad228.add ((x3_1).toNat * 4)).off + 3, none⟩ = some (.slice A234_3 ((rd_T46 l0_0 x3_1).f1.f2).length c234_3)) (ds := []) Z1 (by kernel_rfl) rfl rfl ⟨(blk_cell BK224.out 0).trans rfl, ((HB.out.cell (World.block_lt_of_cell? w _ hw234_0)).trans hw234_0), ((HB.out.cell (World.block_lt_of_cell? w _ hw234_1)).trans hw234_1), ((HB.out.cell (World.block_lt_of_cell? w _ hw234_2)).trans hw234_2), ((HB.out.cell (World.block_lt_of_cell? w _ hw234_3)).trans hw234_3), ((HB.out.cell (World.block_lt_of_cell? w _ hw236_0)).trans hw236_0), ((HB.out.cell (World.block_lt_of_cell? w _ hw236_1)).trans hw236_1), ((HB.out.cell (World.block_lt_of_cell? w _ hw236_2)).trans hw236_2), ((HB.out.cell (World.block_lt_of_cell? w _ hw236_3)).trans hw236_3)⟩ (fun hHeld => ?_); refine with_tabW changeforgeref3_StoreFault.tab9 changeforgeref3_StoreFault.bits9 (fun HT_ HW_ => ?_)
      generalize w46.drew = w47 at BK224 BK225 BK231 HB HR234_2 HR234_3 HR236_2 HR236_3 hx234_0 hx234_1 hx234_2 hx234_3 hx236_0 hx236_1 hx236_2 hx236_3 hHeld ⊢
      refine pu 0 31 Z2 HT_ rfl rfl (h := ?_)
      refine pu 2 33 Z3 HT_ rfl rfl (h := ?_)
      refine pu 7 38 Z4 HT_ rfl rfl (h := ?_)
      refine pu 9 40 Z5 HT_ rfl rfl (h := ?_)
      refine tk 1 32 Z6 HT_ HW_ rfl rfl hHeld (by rintro w' ⟨s0, s1, s2, s3, s4, s5, s6, s7, s8⟩; go_simp; with_reducible rfl) (h := ?_)
      refine pu 3 34 Z7 HT_ rfl rfl (h := ?_)
      refine pu 4 35 Z8 HT_ rfl rfl (h := ?_)
      refine tk 5 36 Z9 HT_ HW_ rfl rfl hHeld (by rintro w' ⟨s0, s1, s2, s3, s4, s5, s6, s7, s8⟩; go_simp; with_reducible rfl) (h := ?_)
      refine tk 8 39 Z10 HT_ HW_ rfl rfl hHeld (by rintro w' ⟨s0, s1, s2, s3, s4, s5, s6, s7, s8⟩; go_simp; with_reducible rfl) (h := ?_)
      refine pu 10 41 Z11 HT_ rfl rfl (h := ?_)
      refine pu 11 42 Z12 HT_ rfl rfl (h := ?_)
      refine tk 12 43 Z13 HT_ HW_ rfl rfl hHeld (by rintro w' ⟨s0, s1, s2, s3, s4, s5, s6, s7, s8⟩; go_simp; with_reducible rfl) (h := ?_)
      refine one_ (i := 6) (N := some 37) Z14 rfl rfl (one_of HT_.out (by kernel_rfl)) (by decide) (fun K hK => ?_)
      refine goes_ Try.func31 (by kernel_rfl) rfl #[.agg #[.int .i64 ((rd_T46 l0_0 x3_1).f1.f0), .slice A234_2 ((rd_T46 l0_0 x3_1).f1.f1).length c234_2, .slice A234_3 ((rd_T46 l0_0 x3_1).f1.f2).length c234_3]] (by rfl) rfl rfl (by (try simp only [List.map_toArray, List.map_cons, List.map_nil]); first | done | rfl | (simp only [List.length_drop, List.length_take]; rfl)) ?_
      with_reducible refine (changeforgeref3_ObjectDigest.calls k1 ((rd_T46 l0_0 x3_1).f1.f0) _ _ ((rd_T46 l0_0 x3_1).f1.f1) _ _ ((rd_T46 l0_0 x3_1).f1.f2) t235 _ ?side1 ?side2 ?side3 ?side4 A18.out).mono ?_
      (case side1 => repeat (first | exact (Kd.C_below HR234_2.out HB.out) | (with_reducible refine Kd.C_alloc ?_ _) | (with_reducible refine Kd.C_drewN ?_ _) | (with_reducible refine Kd.C_drew ?_)))
      (case side2 => exact HC234_2.out)
      (case side3 => repeat (first | exact (Kd.C_below HR234_3.out HB.out) | (with_reducible refine Kd.C_alloc ?_ _) | (with_reducible refine Kd.C_drewN ?_ _) | (with_reducible refine Kd.C_drew ?_)))
      (case side4 => exact HC234_3.out)
      rintro e w48 ⟨rfl, hb⟩
      refine ⟨_, rfl, ?_⟩
      have n0_ := aZ (blk_below (g := gb224) (o := .cells #[.slice (some ad228) l0_0.length c0_0] 24 (0, 0)) (by (with_reducible repeat (first | refine bN ?_ _ | refine bD ?_ | refine bA ?_ _)); exact BK224.out) hb)
      have n1_ := aZ (blk_below (g := gb225) (o := .cells #[.int .i64 x226000_1, .int .i64 x226001_1] 28 (0, 0)) (by (with_reducible repeat (first | refine bN ?_ _ | refine bD ?_ | refine bA ?_ _)); exact BK225.out) hb)
      have n2_ := aZ (blk_below (g := gb231) (o := .cells #[.int .i64 t229, .int .i64 t230] 28 (0, 0)) (by (with_reducible repeat (first | refine bN ?_ _ | refine bD ?_ | refine bA ?_ _)); exact BK231.out) hb)
      have n3_ := aZ (lT (by repeat (first | (with_reducible first | exact HB.out | apply lA | apply lN | apply lD | refine lS ?_ GE224.out | refine lS ?_ GE225.out | refine lS ?_ GE231.out) | exact HB.out)) hb)
      clear BK224
      clear BK225
      clear BK231
      clear HB
      have BK224 := n0_
      have BK225 := n1_
      have BK231 := n2_
      have HB := n3_
      clear n0_ n1_ n2_ n3_
      (try clear hb)
      (try clear hb2)
      (try clear hk)
      (try clear hi)
      refine hK.out _ _ ⟨(blk_cell BK224.out 0).trans rfl, ((HB.out.cell (World.block_lt_of_cell? w _ hw234_0)).trans hw234_0), ((HB.out.cell (World.block_lt_of_cell? w _ hw234_1)).trans hw234_1), ((HB.out.cell (World.block_lt_of_cell? w _ hw234_2)).trans hw234_2), ((HB.out.cell (World.block_lt_of_cell? w _ hw234_3)).trans hw234_3), ((HB.out.cell (World.block_lt_of_cell? w _ hw236_0)).trans hw236_0), ((HB.out.cell (World.block_lt_of_cell? w _ hw236_1)).trans hw236_1), ((HB.out.cell (World.block_lt_of_cell? w _ hw236_2)).trans hw236_2), ((HB.out.cell (World.block_lt_of_cell? w _ hw236_3)).trans hw236_3)⟩ (fun hHeld => ?_)
      clear hK K
      refine norm_ (a' := ?_) ?_ ?_
      rotate_left
      · show Act.put _ (some 37) _ = _
        simp only [Act.put, List.setIfInBounds_toArray, List.set_cons_zero, List.set_cons_succ, i64_w, i32_w]
        rfl
      refine pu 13 44 Z15 HT_ rfl rfl (h := ?_)
      refine done_ (done_of HT_.out (by kernel_rfl)) ?_
      try go_wp2
      have n0_ := aZ (bD BK224.out)
      have n1_ := aZ (bD BK225.out)
      have n2_ := aZ (bD BK231.out)
      have n3_ := aZ (lD HB.out)
      clear BK224
      clear BK225
      clear BK231
      clear HB
      have BK224 := n0_
      have BK225 := n1_
      have BK231 := n2_
      have HB := n3_
      clear n0_ n1_ n2_ n3_
      have p237 : 0 ≤ (x3_1 : Int) := of_decide_eq_true (by first | (with_reducible assumption) | assumption)
      have q237 : x3_1 < (l0_0.length : Int) := of_decide_eq_true (by first | (with_reducible assumption) | assumption)
      obtain ⟨ad237, A237_2, c237_2, A237_3, c237_3, e237, hx237_0, hx237_1, hx237_2, hx237_3, hl237_2, hi237_2, hl237_3, hi237_3⟩ := at_T46 HR0_0.out x3_1 p237 q237
      have hw237_3 := hx237_3
      have hw237_2 := hx237_2
      have hw237_1 := hx237_1
      have hw237_0 := hx237_0
      obtain rfl : ad228 = ad237 := (by injection e237)
      replace hx237_0 := (HB.out.cell (World.block_lt_of_cell? w _ hx237_0)).trans hx237_0
      replace hx237_1 := (HB.out.cell (World.block_lt_of_cell? w _ hx237_1)).trans hx237_1
      replace hx237_2 := (HB.out.cell (World.block_lt_of_cell? w _ hx237_2)).trans hx237_2
      replace hx237_3 := (HB.out.cell (World.block_lt_of_cell? w _ hx237_3)).trans hx237_3
      have HR237_2 := aZ hi237_2
      have HC237_2 := aZ hl237_2
      clear hi237_2 hl237_2
      have HR237_3 := aZ hi237_3
      have HC237_3 := aZ hl237_3
      clear hi237_3 hl237_3
      replace p237 := eq_true p237
      replace q237 := eq_true q237
      have p238 : 0 ≤ ((ji21) : Int) := of_decide_eq_true (by first | (with_reducible assumption) | assumption)
      have q238 : (ji21) < (l0_0.length : Int) := of_decide_eq_true (by first | (with_reducible assumption) | assumption)
      obtain ⟨ad238, A238_2, c238_2, A238_3, c238_3, e238, hx238_0, hx238_1, hx238_2, hx238_3, hl238_2, hi238_2, hl238_3, hi238_3⟩ := at_T46 HR0_0.out (ji21) p238 q238
      have hw238_3 := hx238_3
      have hw238_2 := hx238_2
      have hw238_1 := hx238_1
      have hw238_0 := hx238_0
      obtain rfl : ad228 = ad238 := (by injection e238)
      replace hx238_0 := (HB.out.cell (World.block_lt_of_cell? w _ hx238_0)).trans hx238_0
      replace hx238_1 := (HB.out.cell (World.block_lt_of_cell? w _ hx238_1)).trans hx238_1
      replace hx238_2 := (HB.out.cell (World.block_lt_of_cell? w _ hx238_2)).trans hx238_2
      replace hx238_3 := (HB.out.cell (World.block_lt_of_cell? w _ hx238_3)).trans hx238_3
      have HR238_2 := aZ hi238_2
      have HC238_2 := aZ hl238_2
      clear hi238_2 hl238_2
      have HR238_3 := aZ hi238_3
      have HC238_3 := aZ hl238_3
      clear hi238_3 hl238_3
      replace p238 := eq_true p238
      replace q238 := eq_true q238
      refine start_ (n := 18) (S := fun w' => w'.cell? ⟨gb224, 0, none⟩ = some (.slice (some ad228) l0_0.length c0_0) ∧ w'.cell? (ad228.add ((x3_1).toNat * 4)) = some (.int .i64 ((rd_T46 l0_0 x3_1).f0)) ∧ w'.cell? ⟨(ad228.add ((x3_1).toNat * 4)).block, (ad228.add ((x3_1).toNat * 4)).off + 1, none⟩ = some (.int .i64 ((rd_T46 l0_0 x3_1).f1.f0)) ∧ w'.cell? ⟨(ad228.add ((x3_1).toNat * 4)).block, (ad228.add ((x3_1).toNat * 4)).off + 2, none⟩ = some (.slice A237_2 ((rd_T46 l0_0 x3_1).f1.f1).length c237_2) ∧ w'.cell? ⟨(ad228.add ((x3_1).toNat * 4)).block, (ad228.add ((x3_1).toNat * 4)).off + 3, none⟩ = some (.slice A237_3 ((rd_T46 l0_0 x3_1).f1.f2).length c237_3) ∧ w'.cell? (ad228.add (((ji21)).toNat * 4)) = some (.int .i64 ((rd_T46 l0_0 (ji21)).f0)) ∧ w'.cell? ⟨(ad228.add (((ji21)).toNat * 4)).block, (ad228.add (((ji21)).toNat * 4)).off + 1, none⟩ = some (.int .i64 ((rd_T46 l0_0 (ji21)).f1.f0)) ∧ w'.cell? ⟨(ad228.add (((ji21)).toNat * 4)).block, (ad228.add (((ji21)).toNat * 4)).off + 2, none⟩ = some (.slice A238_2 ((rd_T46 l0_0 (ji21)).f1.f1).length c238_2) ∧ w'.cell? ⟨(ad228.add (((ji21)).toNat * 4)).block, (ad228.add (((ji21)).toNat * 4)).off + 3, none⟩ = some (.slice A238_3 ((rd_T46 l0_0 (ji21)).f1.f2).length c238_3)) (ds := []) Z16 (by kernel_rfl) rfl rfl ⟨(blk_cell BK224.out 0).trans rfl, ((HB.out.cell (World.block_lt_of_cell? w _ hw237_0)).trans hw237_0), ((HB.out.cell (World.block_lt_of_cell? w _ hw237_1)).trans hw237_1), ((HB.out.cell (World.block_lt_of_cell? w _ hw237_2)).trans hw237_2), ((HB.out.cell (World.block_lt_of_cell? w _ hw237_3)).trans hw237_3), ((HB.out.cell (World.block_lt_of_cell? w _ hw238_0)).trans hw238_0), ((HB.out.cell (World.block_lt_of_cell? w _ hw238_1)).trans hw238_1), ((HB.out.cell (World.block_lt_of_cell? w _ hw238_2)).trans hw238_2), ((HB.out.cell (World.block_lt_of_cell? w _ hw238_3)).trans hw238_3)⟩ (fun hHeld => ?_); refine with_tabW changeforgeref3_StoreFault.tab11 changeforgeref3_StoreFault.bits11 (fun HT_ HW_ => ?_)
      generalize w48.drew = w49 at BK224 BK225 BK231 HB HR237_2 HR237_3 HR238_2 HR238_3 hx237_0 hx237_1 hx237_2 hx237_3 hx238_0 hx238_1 hx238_2 hx238_3 hHeld ⊢
      refine pu 0 47 Z17 HT_ rfl rfl (h := ?_)
      refine pu 1 48 Z18 HT_ rfl rfl (h := ?_)
      refine pu 2 49 Z19 HT_ rfl rfl (h := ?_)
      refine pu 3 50 Z20 HT_ rfl rfl (h := ?_)
      refine pu 5 52 Z21 HT_ rfl rfl (h := ?_)
      refine pu 9 56 Z22 HT_ rfl rfl (h := ?_)
      refine pu 11 58 Z23 HT_ rfl rfl (h := ?_)
      refine pu 12 59 Z24 HT_ rfl rfl (h := ?_)
      refine tk 4 51 Z25 HT_ HW_ rfl rfl hHeld (by rintro w' ⟨s0, s1, s2, s3, s4, s5, s6, s7, s8⟩; go_simp; with_reducible rfl) (h := ?_)
      refine pu 6 53 Z26 HT_ rfl rfl (h := ?_)
      refine pu 7 54 Z27 HT_ rfl rfl (h := ?_)
      refine tk 8 55 Z28 HT_ HW_ rfl rfl hHeld (by rintro w' ⟨s0, s1, s2, s3, s4, s5, s6, s7, s8⟩; go_simp; with_reducible rfl) (h := ?_)
      refine tk 10 57 Z29 HT_ HW_ rfl rfl hHeld (by rintro w' ⟨s0, s1, s2, s3, s4, s5, s6, s7, s8⟩; go_simp; with_reducible rfl) (h := ?_)
      refine pu 13 60 Z30 HT_ rfl rfl (h := ?_)
      refine pu 14 61 Z31 HT_ rfl rfl (h := ?_)
      refine tk 15 62 Z32 HT_ HW_ rfl rfl hHeld (by rintro w' ⟨s0, s1, s2, s3, s4, s5, s6, s7, s8⟩; go_simp; with_reducible rfl) (h := ?_)
      refine pu 16 63 Z33 HT_ rfl rfl (h := ?_)
      refine pu 17 64 Z34 HT_ rfl rfl (h := ?_)
      refine done_ (done_of HT_.out (by kernel_rfl)) ?_
      try go_wp2
      go_roundg k1
      case measure => have := HK1.out; omega
      case rel => exact ⟨(wrap64 (x3_1 + 1)), (x226000_1), (x226001_1), (by first | rfl | (simp; done) | (simp [*]; done) | (simp [i64_w]; done)), H', ⟨by have := HK1.out; omega⟩, ⟨by (with_reducible repeat (first | refine bN ?_ _ | refine bD ?_ | refine bA ?_ _)); exact BK224.out⟩, ⟨by (with_reducible repeat (first | refine bN ?_ _ | refine bD ?_ | refine bA ?_ _)); exact BK225.out⟩, ⟨by repeat (first | (with_reducible first | exact HB.out | apply lA | apply lN | apply lD | refine lS ?_ GE224.out | refine lS ?_ GE225.out | refine lS ?_ GE231.out) | exact HB.out)⟩⟩
    rw [if_pos c24] at H
    have c24b0 : decide (((rd_T46 l0_0 x3_1).f0) ≤ ((rd_T46 l0_0 (ji21)).f0)) = true := decide_eq_true c24
    clear c24
    replace H := Option.bind_eq_some_iff.mp H
    obtain ⟨⟨t239, t240⟩, A250, H⟩ := H
    replace H : (some (t239, t240)) = some (r1, r2) := H
    have A25 := aZ A250
    clear A250
    simp only [Option.some.injEq, Prod.mk.injEq] at H
    obtain ⟨rfl, rfl⟩ := H
    have hnb26 := NB224_225.out
    have hnc26 := NB225_224.out
    have hcz27_0 : wr.cell? ⟨gb224, 0, none⟩ = some (.slice A0_0 l0_0.length c0_0) := (blk_cell BK224.out 0).trans rfl
    have hfz27_0 := blk_frozen BK224.out 0
    have p228 : 0 ≤ (x3_1 : Int) := of_decide_eq_true (by first | (with_reducible assumption) | assumption)
    have q228 : x3_1 < (l0_0.length : Int) := of_decide_eq_true (by first | (with_reducible assumption) | assumption)
    obtain ⟨ad228, A228_2, c228_2, A228_3, c228_3, e228, hx228_0, hx228_1, hx228_2, hx228_3, hl228_2, hi228_2, hl228_3, hi228_3⟩ := at_T46 HR0_0.out x3_1 p228 q228
    cases e228
    replace hx228_0 := (HB.out.cell (World.block_lt_of_cell? w _ hx228_0)).trans hx228_0
    replace hx228_1 := (HB.out.cell (World.block_lt_of_cell? w _ hx228_1)).trans hx228_1
    replace hx228_2 := (HB.out.cell (World.block_lt_of_cell? w _ hx228_2)).trans hx228_2
    replace hx228_3 := (HB.out.cell (World.block_lt_of_cell? w _ hx228_3)).trans hx228_3
    have HR228_2 := aZ hi228_2
    have HC228_2 := aZ hl228_2
    clear hi228_2 hl228_2
    have HR228_3 := aZ hi228_3
    have HC228_3 := aZ hl228_3
    clear hi228_3 hl228_3
    replace p228 := eq_true p228
    replace q228 := eq_true q228
    try go_wp2_with (first | ((with_reducible refine gate_callee (f := 30) rfl ?_); refine goesL_ (some 23) rfl rfl Try.func30 (by kernel_rfl) rfl #[.agg #[.int .i64 ((rd_T46 l0_0 x3_1).f1.f0), .slice A228_2 ((rd_T46 l0_0 x3_1).f1.f1).length c228_2, .slice A228_3 ((rd_T46 l0_0 x3_1).f1.f2).length c228_3]] rfl (by (try simp only [List.map_toArray, List.map_cons, List.map_nil]); first | done | rfl | (simp only [List.length_drop, List.length_take]; rfl)) ?_; (with_reducible refine (changeforgeref3_ObjectFault.calls k1 ((rd_T46 l0_0 x3_1).f1.f0) _ _ ((rd_T46 l0_0 x3_1).f1.f1) _ _ ((rd_T46 l0_0 x3_1).f1.f2) t229 t230 _ ?side1 ?side2 ?side3 ?side4 A16.out).mono ?_); (case side1 => repeat (first | exact (Kd.C_below HR228_2.out HB.out) | (with_reducible refine Kd.C_alloc ?_ _) | (with_reducible refine Kd.C_drewN ?_ _) | (with_reducible refine Kd.C_drew ?_))); (case side2 => exact HC228_2.out); (case side3 => repeat (first | exact (Kd.C_below HR228_3.out HB.out) | (with_reducible refine Kd.C_alloc ?_ _) | (with_reducible refine Kd.C_drewN ?_ _) | (with_reducible refine Kd.C_drew ?_))); (case side4 => exact HC228_3.out); rintro e w28 ⟨rfl, hb⟩; refine ⟨_, rfl, ?_⟩; have n0_ := aZ (blk_below (g := gb224) (o := .cells #[.slice (some ad228) l0_0.length c0_0] 24 (0, 0)) (by (with_reducible repeat (first | refine bN ?_ _ | refine bD ?_ | refine bA ?_ _)); exact BK224.out) hb); have n1_ := aZ (blk_below (g := gb225) (o := .cells #[.int .i64 x226000_1, .int .i64 x226001_1] 28 (0, 0)) (by (with_reducible repeat (first | refine bN ?_ _ | refine bD ?_ | refine bA ?_ _)); exact BK225.out) hb); have n2_ := aZ (lT (by repeat (first | (with_reducible first | exact HB.out | apply lA | apply lN | apply lD | refine lS ?_ GE224.out | refine lS ?_ GE225.out) | exact HB.out)) hb); clear BK224; clear BK225; clear HB; have BK224 := n0_; have BK225 := n1_; have HB := n2_; clear n0_ n1_ n2_; (try clear hb); (try clear hb2); (try clear hk); (try clear hi)) | ((with_reducible refine gate_dst (N := 4) rfl ?_); refine box_event ?hg (N := 4) ?hd (cs := #[.int .i64 0, .int .i64 0]) (t := 28) ?hr ?_; (case hd => rfl); (case hg => rfl); (case hr => first | (go_simp; done) | (go_simp; rfl)); intro gb231 hg w29 hbox hb; have n0_ := aZ (blk_below (g := gb224) (o := .cells #[.slice (some ad228) l0_0.length c0_0] 24 (0, 0)) (by (with_reducible repeat (first | refine bN ?_ _ | refine bD ?_ | refine bA ?_ _)); exact BK224.out) hb); have n1_ := aZ (blk_below (g := gb225) (o := .cells #[.int .i64 x226000_1, .int .i64 x226001_1] 28 (0, 0)) (by (with_reducible repeat (first | refine bN ?_ _ | refine bD ?_ | refine bA ?_ _)); exact BK225.out) hb); have n2_ := aZ (lT (by repeat (first | (with_reducible first | exact HB.out | apply lA | apply lN | apply lD | refine lS ?_ GE224.out | refine lS ?_ GE225.out) | exact HB.out)) hb); have n3_ := aZ (hbox); have n4_ := aZ ((by rw [hg]; exact (lZ (by repeat (first | (with_reducible first | exact HB.out | apply lA | apply lN | apply lD | refine lS ?_ GE224.out | refine lS ?_ GE225.out) | exact HB.out))) : w.heap.size ≤ gb231)); have n5_ := aZ ((by rw [hg]; exact (lZ (by repeat (first | (with_reducible first | exact HB.out | apply lA | apply lN | apply lD | refine lS ?_ GE224.out | refine lS ?_ GE225.out) | exact HB.out))) : w.heap.size ≤ gb231)); have n6_ := aZ ((by rw [hg]; exact Nat.ne_of_lt (blk_lt (g := gb224) (o := .cells #[.slice (some ad228) l0_0.length c0_0] 24 (0, 0)) (by (with_reducible repeat (first | refine bN ?_ _ | refine bD ?_ | refine bA ?_ _)); exact BK224.out)) : gb224 ≠ gb231)); have n7_ := aZ ((by rw [hg]; exact Nat.ne_of_gt (blk_lt (g := gb224) (o := .cells #[.slice (some ad228) l0_0.length c0_0] 24 (0, 0)) (by (with_reducible repeat (first | refine bN ?_ _ | refine bD ?_ | refine bA ?_ _)); exact BK224.out)) : gb231 ≠ gb224)); have n8_ := aZ ((by rw [hg]; exact Nat.ne_of_lt (blk_lt (g := gb225) (o := .cells #[.int .i64 x226000_1, .int .i64 x226001_1] 28 (0, 0)) (by (with_reducible repeat (first | refine bN ?_ _ | refine bD ?_ | refine bA ?_ _)); exact BK225.out)) : gb225 ≠ gb231)); have n9_ := aZ ((by rw [hg]; exact Nat.ne_of_gt (blk_lt (g := gb225) (o := .cells #[.int .i64 x226000_1, .int .i64 x226001_1] 28 (0, 0)) (by (with_reducible repeat (first | refine bN ?_ _ | refine bD ?_ | refine bA ?_ _)); exact BK225.out)) : gb231 ≠ gb225)); clear BK224; clear BK225; clear HB; have BK224 := n0_; have BK225 := n1_; have HB := n2_; have BK231 := n3_; have GW231 := n4_; have GE231 := n5_; have NB224_231 := n6_; have NB231_224 := n7_; have NB225_231 := n8_; have NB231_225 := n9_; clear n0_ n1_ n2_ n3_ n4_ n5_ n6_ n7_ n8_ n9_; clear hb hbox hg; have hnb30 := NB231_224.out; have hnc30 := NB224_231.out; have hnb31 := NB231_225.out; have hnc31 := NB225_231.out; have hcz32_0 : w29.cell? ⟨gb231, 0, none⟩ = some (.int .i64 0) := (blk_cell BK231.out 0).trans rfl; have hcz32_1 : w29.cell? ⟨gb231, 1, none⟩ = some (.int .i64 0) := (blk_cell BK231.out 1).trans rfl; have hfz32_0 := blk_frozen BK231.out 0; have hfz32_1 := blk_frozen BK231.out 1))
    have n0_ : Aside0 (((w29.setCell ⟨gb231, 0, none⟩ (.int .i64 t229)).setCell ⟨gb231, 1, none⟩ (.int .i64 t230)).heap[gb224]? = some (.cells #[.slice (some ad228) l0_0.length c0_0] 24 (0, 0))) := ⟨by (with_reducible repeat (first | refine bN ?_ _ | refine bD ?_ | refine bA ?_ _)); refine blk_far ?_ NB224_231.out _; (with_reducible repeat (first | refine bN ?_ _ | refine bD ?_ | refine bA ?_ _)); refine blk_far ?_ NB224_231.out _; (with_reducible repeat (first | refine bN ?_ _ | refine bD ?_ | refine bA ?_ _)); exact BK224.out⟩
    have n1_ : Aside0 (((w29.setCell ⟨gb231, 0, none⟩ (.int .i64 t229)).setCell ⟨gb231, 1, none⟩ (.int .i64 t230)).heap[gb225]? = some (.cells #[.int .i64 x226000_1, .int .i64 x226001_1] 28 (0, 0))) := ⟨by (with_reducible repeat (first | refine bN ?_ _ | refine bD ?_ | refine bA ?_ _)); refine blk_far ?_ NB225_231.out _; (with_reducible repeat (first | refine bN ?_ _ | refine bD ?_ | refine bA ?_ _)); refine blk_far ?_ NB225_231.out _; (with_reducible repeat (first | refine bN ?_ _ | refine bD ?_ | refine bA ?_ _)); exact BK225.out⟩
    have n2_ : Aside0 (((w29.setCell ⟨gb231, 0, none⟩ (.int .i64 t229)).setCell ⟨gb231, 1, none⟩ (.int .i64 t230)).heap[gb231]? = some (.cells #[.int .i64 t229, .int .i64 t230] 28 (0, 0))) := ⟨by (with_reducible repeat (first | refine bN ?_ _ | refine bD ?_ | refine bA ?_ _)); refine blk_put (cs := #[.int .i64 t229, .int .i64 0]) ?_ 1 _ rfl; (with_reducible repeat (first | refine bN ?_ _ | refine bD ?_ | refine bA ?_ _)); refine blk_put (cs := #[.int .i64 0, .int .i64 0]) ?_ 0 _ rfl; (with_reducible repeat (first | refine bN ?_ _ | refine bD ?_ | refine bA ?_ _)); exact BK231.out⟩
    have n3_ : Aside0 (Below w.heap.size w ((w29.setCell ⟨gb231, 0, none⟩ (.int .i64 t229)).setCell ⟨gb231, 1, none⟩ (.int .i64 t230))) := ⟨by repeat (first | (with_reducible first | exact HB.out | apply lA | apply lN | apply lD | refine lS ?_ GE224.out | refine lS ?_ GE225.out | refine lS ?_ GE231.out) | exact HB.out)⟩
    (try clear BK224)
    (try clear BK225)
    (try clear BK231)
    (try clear HB)
    generalize ((w29.setCell ⟨gb231, 0, none⟩ (.int .i64 t229)).setCell ⟨gb231, 1, none⟩ (.int .i64 t230)) = w33 at n0_ n1_ n2_ n3_ ⊢
    have BK224 := n0_
    have BK225 := n1_
    have BK231 := n2_
    have HB := n3_
    clear n0_ n1_ n2_ n3_
    have n0_ := aZ (bD BK224.out)
    have n1_ := aZ (bD BK225.out)
    have n2_ := aZ (bD BK231.out)
    have n3_ := aZ (lD HB.out)
    clear BK224
    clear BK225
    clear BK231
    clear HB
    have BK224 := n0_
    have BK225 := n1_
    have BK231 := n2_
    have HB := n3_
    clear n0_ n1_ n2_ n3_
    have p234 : 0 ≤ (x3_1 : Int) := of_decide_eq_true (by first | (with_reducible assumption) | assumption)
    have q234 : x3_1 < (l0_0.length : Int) := of_decide_eq_true (by first | (with_reducible assumption) | assumption)
    obtain ⟨ad234, A234_2, c234_2, A234_3, c234_3, e234, hx234_0, hx234_1, hx234_2, hx234_3, hl234_2, hi234_2, hl234_3, hi234_3⟩ := at_T46 HR0_0.out x3_1 p234 q234
    have hw234_3 := hx234_3
    have hw234_2 := hx234_2
    have hw234_1 := hx234_1
    have hw234_0 := hx234_0
    obtain rfl : ad228 = ad234 := (by injection e234)
    replace hx234_0 := (HB.out.cell (World.block_lt_of_cell? w _ hx234_0)).trans hx234_0
    replace hx234_1 := (HB.out.cell (World.block_lt_of_cell? w _ hx234_1)).trans hx234_1
    replace hx234_2 := (HB.out.cell (World.block_lt_of_cell? w _ hx234_2)).trans hx234_2
    replace hx234_3 := (HB.out.cell (World.block_lt_of_cell? w _ hx234_3)).trans hx234_3
    have HR234_2 := aZ hi234_2
    have HC234_2 := aZ hl234_2
    clear hi234_2 hl234_2
    have HR234_3 := aZ hi234_3
    have HC234_3 := aZ hl234_3
    clear hi234_3 hl234_3
    replace p234 := eq_true p234
    replace q234 := eq_true q234
    have p236 : 0 ≤ (x3_1 : Int) := of_decide_eq_true (by first | (with_reducible assumption) | assumption)
    have q236 : x3_1 < (l0_0.length : Int) := of_decide_eq_true (by first | (with_reducible assumption) | assumption)
    obtain ⟨ad236, A236_2, c236_2, A236_3, c236_3, e236, hx236_0, hx236_1, hx236_2, hx236_3, hl236_2, hi236_2, hl236_3, hi236_3⟩ := at_T46 HR0_0.out x3_1 p236 q236
    have hw236_3 := hx236_3
    have hw236_2 := hx236_2
    have hw236_1 := hx236_1
    have hw236_0 := hx236_0
    obtain rfl : ad228 = ad236 := (by injection e236)
    replace hx236_0 := (HB.out.cell (World.block_lt_of_cell? w _ hx236_0)).trans hx236_0
    replace hx236_1 := (HB.out.cell (World.block_lt_of_cell? w _ hx236_1)).trans hx236_1
    replace hx236_2 := (HB.out.cell (World.block_lt_of_cell? w _ hx236_2)).trans hx236_2
    replace hx236_3 := (HB.out.cell (World.block_lt_of_cell? w _ hx236_3)).trans hx236_3
    have HR236_2 := aZ hi236_2
    have HC236_2 := aZ hl236_2
    clear hi236_2 hl236_2
    have HR236_3 := aZ hi236_3
    have HC236_3 := aZ hl236_3
    clear hi236_3 hl236_3
    replace p236 := eq_true p236
    replace q236 := eq_true q236
    have ea_ := Option.some.inj (hx234_2.symm.trans hx236_2)
    injection ea_ with ea_ en_ ec_
    subst ea_
    subst ec_
    clear en_
    have ea_ := Option.some.inj (hx234_3.symm.trans hx236_3)
    injection ea_ with ea_ en_ ec_
    subst ea_
    subst ec_
    clear en_
    refine start_ (n := 14) (S := fun w' => w'.cell? ⟨gb224, 0, none⟩ = some (.slice (some ad228) l0_0.length c0_0) ∧ w'.cell? (ad228.add ((x3_1).toNat * 4)) = some (.int .i64 ((rd_T46 l0_0 x3_1).f0)) ∧ w'.cell? ⟨(ad228.add ((x3_1).toNat * 4)).block, (ad228.add ((x3_1).toNat * 4)).off + 1, none⟩ = some (.int .i64 ((rd_T46 l0_0 x3_1).f1.f0)) ∧ w'.cell? ⟨(ad228.add ((x3_1).toNat * 4)).block, (ad228.add ((x3_1).toNat * 4)).off + 2, none⟩ = some (.slice A234_2 ((rd_T46 l0_0 x3_1).f1.f1).length c234_2) ∧ w'.cell? ⟨(ad228.add ((x3_1).toNat * 4)).block, (ad228.add ((x3_1).toNat * 4)).off + 3, none⟩ = some (.slice A234_3 ((rd_T46 l0_0 x3_1).f1.f2).length c234_3) ∧ w'.cell? (ad228.add ((x3_1).toNat * 4)) = some (.int .i64 ((rd_T46 l0_0 x3_1).f0)) ∧ w'.cell? ⟨(ad228.add ((x3_1).toNat * 4)).block, (ad228.add ((x3_1).toNat * 4)).off + 1, none⟩ = some (.int .i64 ((rd_T46 l0_0 x3_1).f1.f0)) ∧ w'.cell? ⟨(ad228.add ((x3_1).toNat * 4)).block, (ad228.add ((x3_1).toNat * 4)).off + 2, none⟩ = some (.slice A234_2 ((rd_T46 l0_0 x3_1).f1.f1).length c234_2) ∧ w'.cell? ⟨(ad228.add ((x3_1).toNat * 4)).block, (ad228.add ((x3_1).toNat * 4)).off + 3, none⟩ = some (.slice A234_3 ((rd_T46 l0_0 x3_1).f1.f2).length c234_3)) (ds := []) Z1 (by kernel_rfl) rfl rfl ⟨(blk_cell BK224.out 0).trans rfl, ((HB.out.cell (World.block_lt_of_cell? w _ hw234_0)).trans hw234_0), ((HB.out.cell (World.block_lt_of_cell? w _ hw234_1)).trans hw234_1), ((HB.out.cell (World.block_lt_of_cell? w _ hw234_2)).trans hw234_2), ((HB.out.cell (World.block_lt_of_cell? w _ hw234_3)).trans hw234_3), ((HB.out.cell (World.block_lt_of_cell? w _ hw236_0)).trans hw236_0), ((HB.out.cell (World.block_lt_of_cell? w _ hw236_1)).trans hw236_1), ((HB.out.cell (World.block_lt_of_cell? w _ hw236_2)).trans hw236_2), ((HB.out.cell (World.block_lt_of_cell? w _ hw236_3)).trans hw236_3)⟩ (fun hHeld => ?_); refine with_tabW changeforgeref3_StoreFault.tab9 changeforgeref3_StoreFault.bits9 (fun HT_ HW_ => ?_)
    generalize w33.drew = w34 at BK224 BK225 BK231 HB HR234_2 HR234_3 HR236_2 HR236_3 hx234_0 hx234_1 hx234_2 hx234_3 hx236_0 hx236_1 hx236_2 hx236_3 hHeld ⊢
    refine pu 0 31 Z2 HT_ rfl rfl (h := ?_)
    refine pu 2 33 Z3 HT_ rfl rfl (h := ?_)
    refine pu 7 38 Z4 HT_ rfl rfl (h := ?_)
    refine pu 9 40 Z5 HT_ rfl rfl (h := ?_)
    refine tk 1 32 Z6 HT_ HW_ rfl rfl hHeld (by rintro w' ⟨s0, s1, s2, s3, s4, s5, s6, s7, s8⟩; go_simp; with_reducible rfl) (h := ?_)
    refine pu 3 34 Z7 HT_ rfl rfl (h := ?_)
    refine pu 4 35 Z8 HT_ rfl rfl (h := ?_)
    refine tk 5 36 Z9 HT_ HW_ rfl rfl hHeld (by rintro w' ⟨s0, s1, s2, s3, s4, s5, s6, s7, s8⟩; go_simp; with_reducible rfl) (h := ?_)
    refine tk 8 39 Z10 HT_ HW_ rfl rfl hHeld (by rintro w' ⟨s0, s1, s2, s3, s4, s5, s6, s7, s8⟩; go_simp; with_reducible rfl) (h := ?_)
    refine pu 10 41 Z11 HT_ rfl rfl (h := ?_)
    refine pu 11 42 Z12 HT_ rfl rfl (h := ?_)
    refine tk 12 43 Z13 HT_ HW_ rfl rfl hHeld (by rintro w' ⟨s0, s1, s2, s3, s4, s5, s6, s7, s8⟩; go_simp; with_reducible rfl) (h := ?_)
    refine one_ (i := 6) (N := some 37) Z14 rfl rfl (one_of HT_.out (by kernel_rfl)) (by decide) (fun K hK => ?_)
    refine goes_ Try.func31 (by kernel_rfl) rfl #[.agg #[.int .i64 ((rd_T46 l0_0 x3_1).f1.f0), .slice A234_2 ((rd_T46 l0_0 x3_1).f1.f1).length c234_2, .slice A234_3 ((rd_T46 l0_0 x3_1).f1.f2).length c234_3]] (by rfl) rfl rfl (by (try simp only [List.map_toArray, List.map_cons, List.map_nil]); first | done | rfl | (simp only [List.length_drop, List.length_take]; rfl)) ?_
    with_reducible refine (changeforgeref3_ObjectDigest.calls k1 ((rd_T46 l0_0 x3_1).f1.f0) _ _ ((rd_T46 l0_0 x3_1).f1.f1) _ _ ((rd_T46 l0_0 x3_1).f1.f2) t235 _ ?side1 ?side2 ?side3 ?side4 A18.out).mono ?_
    (case side1 => repeat (first | exact (Kd.C_below HR234_2.out HB.out) | (with_reducible refine Kd.C_alloc ?_ _) | (with_reducible refine Kd.C_drewN ?_ _) | (with_reducible refine Kd.C_drew ?_)))
    (case side2 => exact HC234_2.out)
    (case side3 => repeat (first | exact (Kd.C_below HR234_3.out HB.out) | (with_reducible refine Kd.C_alloc ?_ _) | (with_reducible refine Kd.C_drewN ?_ _) | (with_reducible refine Kd.C_drew ?_)))
    (case side4 => exact HC234_3.out)
    rintro e w35 ⟨rfl, hb⟩
    refine ⟨_, rfl, ?_⟩
    have n0_ := aZ (blk_below (g := gb224) (o := .cells #[.slice (some ad228) l0_0.length c0_0] 24 (0, 0)) (by (with_reducible repeat (first | refine bN ?_ _ | refine bD ?_ | refine bA ?_ _)); exact BK224.out) hb)
    have n1_ := aZ (blk_below (g := gb225) (o := .cells #[.int .i64 x226000_1, .int .i64 x226001_1] 28 (0, 0)) (by (with_reducible repeat (first | refine bN ?_ _ | refine bD ?_ | refine bA ?_ _)); exact BK225.out) hb)
    have n2_ := aZ (blk_below (g := gb231) (o := .cells #[.int .i64 t229, .int .i64 t230] 28 (0, 0)) (by (with_reducible repeat (first | refine bN ?_ _ | refine bD ?_ | refine bA ?_ _)); exact BK231.out) hb)
    have n3_ := aZ (lT (by repeat (first | (with_reducible first | exact HB.out | apply lA | apply lN | apply lD | refine lS ?_ GE224.out | refine lS ?_ GE225.out | refine lS ?_ GE231.out) | exact HB.out)) hb)
    clear BK224
    clear BK225
    clear BK231
    clear HB
    have BK224 := n0_
    have BK225 := n1_
    have BK231 := n2_
    have HB := n3_
    clear n0_ n1_ n2_ n3_
    (try clear hb)
    (try clear hb2)
    (try clear hk)
    (try clear hi)
    refine hK.out _ _ ⟨(blk_cell BK224.out 0).trans rfl, ((HB.out.cell (World.block_lt_of_cell? w _ hw234_0)).trans hw234_0), ((HB.out.cell (World.block_lt_of_cell? w _ hw234_1)).trans hw234_1), ((HB.out.cell (World.block_lt_of_cell? w _ hw234_2)).trans hw234_2), ((HB.out.cell (World.block_lt_of_cell? w _ hw234_3)).trans hw234_3), ((HB.out.cell (World.block_lt_of_cell? w _ hw236_0)).trans hw236_0), ((HB.out.cell (World.block_lt_of_cell? w _ hw236_1)).trans hw236_1), ((HB.out.cell (World.block_lt_of_cell? w _ hw236_2)).trans hw236_2), ((HB.out.cell (World.block_lt_of_cell? w _ hw236_3)).trans hw236_3)⟩ (fun hHeld => ?_)
    clear hK K
    refine norm_ (a' := ?_) ?_ ?_
    rotate_left
    · show Act.put _ (some 37) _ = _
      simp only [Act.put, List.setIfInBounds_toArray, List.set_cons_zero, List.set_cons_succ, i64_w, i32_w]
      rfl
    refine pu 13 44 Z15 HT_ rfl rfl (h := ?_)
    refine done_ (done_of HT_.out (by kernel_rfl)) ?_
    try go_wp2
    have n0_ := aZ (bD BK224.out)
    have n1_ := aZ (bD BK225.out)
    have n2_ := aZ (bD BK231.out)
    have n3_ := aZ (lD HB.out)
    clear BK224
    clear BK225
    clear BK231
    clear HB
    have BK224 := n0_
    have BK225 := n1_
    have BK231 := n2_
    have HB := n3_
    clear n0_ n1_ n2_ n3_
    have p237 : 0 ≤ (x3_1 : Int) := of_decide_eq_true (by first | (with_reducible assumption) | assumption)
    have q237 : x3_1 < (l0_0.length : Int) := of_decide_eq_true (by first | (with_reducible assumption) | assumption)
    obtain ⟨ad237, A237_2, c237_2, A237_3, c237_3, e237, hx237_0, hx237_1, hx237_2, hx237_3, hl237_2, hi237_2, hl237_3, hi237_3⟩ := at_T46 HR0_0.out x3_1 p237 q237
    have hw237_3 := hx237_3
    have hw237_2 := hx237_2
    have hw237_1 := hx237_1
    have hw237_0 := hx237_0
    obtain rfl : ad228 = ad237 := (by injection e237)
    replace hx237_0 := (HB.out.cell (World.block_lt_of_cell? w _ hx237_0)).trans hx237_0
    replace hx237_1 := (HB.out.cell (World.block_lt_of_cell? w _ hx237_1)).trans hx237_1
    replace hx237_2 := (HB.out.cell (World.block_lt_of_cell? w _ hx237_2)).trans hx237_2
    replace hx237_3 := (HB.out.cell (World.block_lt_of_cell? w _ hx237_3)).trans hx237_3
    have HR237_2 := aZ hi237_2
    have HC237_2 := aZ hl237_2
    clear hi237_2 hl237_2
    have HR237_3 := aZ hi237_3
    have HC237_3 := aZ hl237_3
    clear hi237_3 hl237_3
    replace p237 := eq_true p237
    replace q237 := eq_true q237
    have p238 : 0 ≤ ((ji21) : Int) := of_decide_eq_true (by first | (with_reducible assumption) | assumption)
    have q238 : (ji21) < (l0_0.length : Int) := of_decide_eq_true (by first | (with_reducible assumption) | assumption)
    obtain ⟨ad238, A238_2, c238_2, A238_3, c238_3, e238, hx238_0, hx238_1, hx238_2, hx238_3, hl238_2, hi238_2, hl238_3, hi238_3⟩ := at_T46 HR0_0.out (ji21) p238 q238
    have hw238_3 := hx238_3
    have hw238_2 := hx238_2
    have hw238_1 := hx238_1
    have hw238_0 := hx238_0
    obtain rfl : ad228 = ad238 := (by injection e238)
    replace hx238_0 := (HB.out.cell (World.block_lt_of_cell? w _ hx238_0)).trans hx238_0
    replace hx238_1 := (HB.out.cell (World.block_lt_of_cell? w _ hx238_1)).trans hx238_1
    replace hx238_2 := (HB.out.cell (World.block_lt_of_cell? w _ hx238_2)).trans hx238_2
    replace hx238_3 := (HB.out.cell (World.block_lt_of_cell? w _ hx238_3)).trans hx238_3
    have HR238_2 := aZ hi238_2
    have HC238_2 := aZ hl238_2
    clear hi238_2 hl238_2
    have HR238_3 := aZ hi238_3
    have HC238_3 := aZ hl238_3
    clear hi238_3 hl238_3
    replace p238 := eq_true p238
    replace q238 := eq_true q238
    refine start_ (n := 18) (S := fun w' => w'.cell? ⟨gb224, 0, none⟩ = some (.slice (some ad228) l0_0.length c0_0) ∧ w'.cell? (ad228.add ((x3_1).toNat * 4)) = some (.int .i64 ((rd_T46 l0_0 x3_1).f0)) ∧ w'.cell? ⟨(ad228.add ((x3_1).toNat * 4)).block, (ad228.add ((x3_1).toNat * 4)).off + 1, none⟩ = some (.int .i64 ((rd_T46 l0_0 x3_1).f1.f0)) ∧ w'.cell? ⟨(ad228.add ((x3_1).toNat * 4)).block, (ad228.add ((x3_1).toNat * 4)).off + 2, none⟩ = some (.slice A237_2 ((rd_T46 l0_0 x3_1).f1.f1).length c237_2) ∧ w'.cell? ⟨(ad228.add ((x3_1).toNat * 4)).block, (ad228.add ((x3_1).toNat * 4)).off + 3, none⟩ = some (.slice A237_3 ((rd_T46 l0_0 x3_1).f1.f2).length c237_3) ∧ w'.cell? (ad228.add (((ji21)).toNat * 4)) = some (.int .i64 ((rd_T46 l0_0 (ji21)).f0)) ∧ w'.cell? ⟨(ad228.add (((ji21)).toNat * 4)).block, (ad228.add (((ji21)).toNat * 4)).off + 1, none⟩ = some (.int .i64 ((rd_T46 l0_0 (ji21)).f1.f0)) ∧ w'.cell? ⟨(ad228.add (((ji21)).toNat * 4)).block, (ad228.add (((ji21)).toNat * 4)).off + 2, none⟩ = some (.slice A238_2 ((rd_T46 l0_0 (ji21)).f1.f1).length c238_2) ∧ w'.cell? ⟨(ad228.add (((ji21)).toNat * 4)).block, (ad228.add (((ji21)).toNat * 4)).off + 3, none⟩ = some (.slice A238_3 ((rd_T46 l0_0 (ji21)).f1.f2).length c238_3)) (ds := []) Z16 (by kernel_rfl) rfl rfl ⟨(blk_cell BK224.out 0).trans rfl, ((HB.out.cell (World.block_lt_of_cell? w _ hw237_0)).trans hw237_0), ((HB.out.cell (World.block_lt_of_cell? w _ hw237_1)).trans hw237_1), ((HB.out.cell (World.block_lt_of_cell? w _ hw237_2)).trans hw237_2), ((HB.out.cell (World.block_lt_of_cell? w _ hw237_3)).trans hw237_3), ((HB.out.cell (World.block_lt_of_cell? w _ hw238_0)).trans hw238_0), ((HB.out.cell (World.block_lt_of_cell? w _ hw238_1)).trans hw238_1), ((HB.out.cell (World.block_lt_of_cell? w _ hw238_2)).trans hw238_2), ((HB.out.cell (World.block_lt_of_cell? w _ hw238_3)).trans hw238_3)⟩ (fun hHeld => ?_); refine with_tabW changeforgeref3_StoreFault.tab11 changeforgeref3_StoreFault.bits11 (fun HT_ HW_ => ?_)
    generalize w35.drew = w36 at BK224 BK225 BK231 HB HR237_2 HR237_3 HR238_2 HR238_3 hx237_0 hx237_1 hx237_2 hx237_3 hx238_0 hx238_1 hx238_2 hx238_3 hHeld ⊢
    refine pu 0 47 Z17 HT_ rfl rfl (h := ?_)
    refine pu 1 48 Z18 HT_ rfl rfl (h := ?_)
    refine pu 2 49 Z19 HT_ rfl rfl (h := ?_)
    refine pu 3 50 Z20 HT_ rfl rfl (h := ?_)
    refine pu 5 52 Z21 HT_ rfl rfl (h := ?_)
    refine pu 9 56 Z22 HT_ rfl rfl (h := ?_)
    refine pu 11 58 Z23 HT_ rfl rfl (h := ?_)
    refine pu 12 59 Z24 HT_ rfl rfl (h := ?_)
    refine tk 4 51 Z25 HT_ HW_ rfl rfl hHeld (by rintro w' ⟨s0, s1, s2, s3, s4, s5, s6, s7, s8⟩; go_simp; with_reducible rfl) (h := ?_)
    refine pu 6 53 Z26 HT_ rfl rfl (h := ?_)
    refine pu 7 54 Z27 HT_ rfl rfl (h := ?_)
    refine tk 8 55 Z28 HT_ HW_ rfl rfl hHeld (by rintro w' ⟨s0, s1, s2, s3, s4, s5, s6, s7, s8⟩; go_simp; with_reducible rfl) (h := ?_)
    refine tk 10 57 Z29 HT_ HW_ rfl rfl hHeld (by rintro w' ⟨s0, s1, s2, s3, s4, s5, s6, s7, s8⟩; go_simp; with_reducible rfl) (h := ?_)
    refine pu 13 60 Z30 HT_ rfl rfl (h := ?_)
    refine pu 14 61 Z31 HT_ rfl rfl (h := ?_)
    refine tk 15 62 Z32 HT_ HW_ rfl rfl hHeld (by rintro w' ⟨s0, s1, s2, s3, s4, s5, s6, s7, s8⟩; go_simp; with_reducible rfl) (h := ?_)
    refine pu 16 63 Z33 HT_ rfl rfl (h := ?_)
    refine pu 17 64 Z34 HT_ rfl rfl (h := ?_)
    refine done_ (done_of HT_.out (by kernel_rfl)) ?_
    try go_wp2_with (first | ((with_reducible refine gate_callee (f := 18) rfl ?_); refine goesL_ (some 66) rfl rfl Try.func18 (by kernel_rfl) rfl #[.int .i64 5, .int .i64 x3_1] rfl (by (try simp only [List.map_toArray, List.map_cons, List.map_nil]); first | done | rfl | (simp only [List.length_drop, List.length_take]; rfl)) ?_; (with_reducible refine (changeforgeref3_Fault.calls 5 x3_1 t239 t240 _ A25.out).mono ?_); rintro e w37 ⟨rfl, hb⟩; refine ⟨_, rfl, ?_⟩; have n0_ := aZ (blk_below (g := gb224) (o := .cells #[.slice (some ad228) l0_0.length c0_0] 24 (0, 0)) (by (with_reducible repeat (first | refine bN ?_ _ | refine bD ?_ | refine bA ?_ _)); exact BK224.out) hb); have n1_ := aZ (blk_below (g := gb225) (o := .cells #[.int .i64 x226000_1, .int .i64 x226001_1] 28 (0, 0)) (by (with_reducible repeat (first | refine bN ?_ _ | refine bD ?_ | refine bA ?_ _)); exact BK225.out) hb); have n2_ := aZ (blk_below (g := gb231) (o := .cells #[.int .i64 t229, .int .i64 t230] 28 (0, 0)) (by (with_reducible repeat (first | refine bN ?_ _ | refine bD ?_ | refine bA ?_ _)); exact BK231.out) hb); have n3_ := aZ (lT (by repeat (first | (with_reducible first | exact HB.out | apply lA | apply lN | apply lD | refine lS ?_ GE224.out | refine lS ?_ GE225.out | refine lS ?_ GE231.out) | exact HB.out)) hb); clear BK224; clear BK225; clear BK231; clear HB; have BK224 := n0_; have BK225 := n1_; have BK231 := n2_; have HB := n3_; clear n0_ n1_ n2_ n3_; (try clear hb); (try clear hb2); (try clear hk); (try clear hi); have hcz38_0 : w37.cell? ⟨gb225, 0, none⟩ = some (.int .i64 x226000_1) := (blk_cell BK225.out 0).trans rfl; have hcz38_1 : w37.cell? ⟨gb225, 1, none⟩ = some (.int .i64 x226001_1) := (blk_cell BK225.out 1).trans rfl; have hfz38_0 := blk_frozen BK225.out 0; have hfz38_1 := blk_frozen BK225.out 1))
    refine bodyPost_ret (results_cell_row rfl _ _ gb225 28 #[.int .i64 t239, .int .i64 t240] (0, 0) _ rfl (by (with_reducible repeat (first | refine bN ?_ _ | refine bD ?_ | refine bA ?_ _)); refine blk_put (cs := #[.int .i64 t239, .int .i64 x226001_1]) ?_ 1 _ rfl; (with_reducible repeat (first | refine bN ?_ _ | refine bD ?_ | refine bA ?_ _)); refine blk_put (cs := #[.int .i64 x226000_1, .int .i64 x226001_1]) ?_ 0 _ rfl; (with_reducible repeat (first | refine bN ?_ _ | refine bD ?_ | refine bA ?_ _)); exact BK225.out) Try.underlying28 rfl (by kernel_rfl)) rfl ?_
    exact ⟨by first | rfl | (simp [errW_none, errW_some] <;> rfl) | (simp only [← hji21]; first | rfl | (simp [errW_none, errW_some] <;> rfl)) | (simp [*, errW_none, errW_some] <;> rfl), by repeat (first | (with_reducible first | exact HB.out | apply lA | apply lN | apply lD | refine lS ?_ GE224.out | refine lS ?_ GE225.out | refine lS ?_ GE231.out) | exact HB.out)⟩
end Go.Proofs.Ytnmkmamobhkcbaa.P
