/- What the Go functions of this seat compute, and that they do: printed by a program over the kit's print. -/
import Derived.Test.YtgmpnghgmcgghaaP0
import Derived.Test.YtgmpnghgmcgghaaP7
import Derived.Test.YtgmpnghgmcgghaaP11
import Derived.Test.YtgmpnghgmcgghaaP12
import Derived.Test.YtgmpnghgmcgghaaP22
namespace Go.Proofs.Ytgmpnghgmcgghaa.P
open Go.RowKit Go.Proofs.YtgmpnghgmcgghaaW.PrintWords Go.Proofs.YtgmpnghgmcgghaaW.PrintLast Go.Proofs.YtgmpnghgmcgghaaW.PrintMore
attribute [local go_sem] max2_int min2_int max_two min_two max_three min_three max_four min_four   -- for this text's walks alone
set_option linter.unusedVariables false
set_option linter.unusedSimpArgs false

/-! ### changeforgeref3_ChainFault: function 21 -/
mutual
def changeforgeref3_ChainFault.l0 : Nat → List (S45) → Int → Option (Int × Int)
  | 0, _, _ => none
  | k + 1, x0, x3 => if x3 < (x0.length : Int) then (if 0 ≤ x3 then ((changeforgeref3_In.f ((rd_T45 x0 x3).f0) (-1) (wrap64 (x3 - 1))).bind fun t461 => (if t461 = true then (if ((rd_T45 x0 x3).f0) < 0 then (if (((rd_T45 x0 x3).f2).length : Int) > 0 then (changeforgeref3_ChainFault.j1 k x0 x3 true ((rd_T45 x0 x3).f0) ((rd_T45 x0 x3).f1) ((rd_T45 x0 x3).f2)) else (if ((rd_T45 x0 x3).f0) ≥ 0 then (changeforgeref3_ChainFault.j1 k x0 x3 (decide ((((rd_T45 x0 x3).f1).length : Int) > 0)) ((rd_T45 x0 x3).f0) ((rd_T45 x0 x3).f1) ((rd_T45 x0 x3).f2)) else (changeforgeref3_ChainFault.j1 k x0 x3 false ((rd_T45 x0 x3).f0) ((rd_T45 x0 x3).f1) ((rd_T45 x0 x3).f2)))) else (if ((rd_T45 x0 x3).f0) ≥ 0 then (changeforgeref3_ChainFault.j1 k x0 x3 (decide ((((rd_T45 x0 x3).f1).length : Int) > 0)) ((rd_T45 x0 x3).f0) ((rd_T45 x0 x3).f1) ((rd_T45 x0 x3).f2)) else (changeforgeref3_ChainFault.j1 k x0 x3 false ((rd_T45 x0 x3).f0) ((rd_T45 x0 x3).f1) ((rd_T45 x0 x3).f2)))) else ((changeforgeref3_Fault.f 3 x3).bind fun bt462 => (some (bt462.1, bt462.2))))) else (none)) else (some (0, 0))
def changeforgeref3_ChainFault.j1 : Nat → List (S45) → Int → Bool → Int → List Int → List (S37) → Option (Int × Int)
  | 0, _, _, _, _, _, _ => none
  | k + 1, x0, x3, x48, x461000, x461001, x461002 => if x48 = true then ((changeforgeref3_Fault.f 5 x3).bind fun bt464 => (some (bt464.1, bt464.2))) else (if (x461001.length : Int) > 1000 then ((changeforgeref3_Fault.f 10 x3).bind fun bt466 => (some (bt466.1, bt466.2))) else (if x461000 ≥ 0 then ((changeforgeref3_ChainVersion.f k x0 x461000).bind fun t468 => ((changeforgeref3_ApplyDelta.f k t468 x461002).bind fun bt471 => (if bt471.2.1 = 0 then (changeforgeref3_ChainFault.l0 k x0 (wrap64 (x3 + 1))) else ((changeforgeref3_Fault.f bt471.2.1 x3).bind fun bt477 => (some (bt477.1, bt477.2)))))) else (changeforgeref3_ChainFault.l0 k x0 (wrap64 (x3 + 1)))))
end
def changeforgeref3_ChainFault.f (k : Nat) (l0 : List (S45)) : Option (Int × Int) := if (l0.length : Int) > 20 then ((changeforgeref3_Fault.f 2 (-1)).bind fun bt457 => (some (bt457.1, bt457.2))) else (changeforgeref3_ChainFault.l0 k l0 0)
theorem changeforgeref3_ChainFault.mono_l : ∀ k, (∀ y0 y1, LeO (changeforgeref3_ChainFault.l0 k y0 y1) (changeforgeref3_ChainFault.l0 (k + 1) y0 y1)) ∧ (∀ y0 y1 y2 y3 y4 y5, LeO (changeforgeref3_ChainFault.j1 k y0 y1 y2 y3 y4 y5) (changeforgeref3_ChainFault.j1 (k + 1) y0 y1 y2 y3 y4 y5))
  | 0 => ⟨fun _ _ r h => by simp [changeforgeref3_ChainFault.l0] at h, fun _ _ _ _ _ _ r h => by simp [changeforgeref3_ChainFault.j1] at h⟩
  | k + 1 => by
    obtain ⟨ih0, ih1⟩ := changeforgeref3_ChainFault.mono_l k
    refine ⟨?_, ?_⟩
    · intro y0 y1
      unfold changeforgeref3_ChainFault.l0
      repeat' first
      | (with_reducible exact ih0 _ _)
      | (with_reducible exact ih1 _ _ _ _ _ _)
      | (with_reducible exact changeforgeref3_ApplyDelta.mono _ _ _)
      | (with_reducible exact changeforgeref3_ChainVersion.mono _ _ _)
      | (with_reducible exact LeO.refl _)
      | (with_reducible exact LeO.none _)
      | (with_reducible refine LeO.ite ?_ ?_)
      | (with_reducible refine LeO.bind ?_ (fun _ => ?_))
      | exact ih0 _ _
      | exact ih1 _ _ _ _ _ _
      | exact changeforgeref3_ApplyDelta.mono _ _ _
      | exact changeforgeref3_ChainVersion.mono _ _ _
      | exact LeO.none _
      | refine LeO.ite ?_ ?_
      | refine LeO.bind ?_ (fun _ => ?_)
    · intro y0 y1 y2 y3 y4 y5
      unfold changeforgeref3_ChainFault.j1
      repeat' first
      | (with_reducible exact ih0 _ _)
      | (with_reducible exact ih1 _ _ _ _ _ _)
      | (with_reducible exact changeforgeref3_ApplyDelta.mono _ _ _)
      | (with_reducible exact changeforgeref3_ChainVersion.mono _ _ _)
      | (with_reducible exact LeO.refl _)
      | (with_reducible exact LeO.none _)
      | (with_reducible refine LeO.ite ?_ ?_)
      | (with_reducible refine LeO.bind ?_ (fun _ => ?_))
      | exact ih0 _ _
      | exact ih1 _ _ _ _ _ _
      | exact changeforgeref3_ApplyDelta.mono _ _ _
      | exact changeforgeref3_ChainVersion.mono _ _ _
      | exact LeO.none _
      | refine LeO.ite ?_ ?_
      | refine LeO.bind ?_ (fun _ => ?_)
theorem changeforgeref3_ChainFault.mono : ∀ a0 k, LeO (changeforgeref3_ChainFault.f k a0) (changeforgeref3_ChainFault.f (k + 1) a0) := by
  intro a0 k
  obtain ⟨ih0, ih1⟩ := changeforgeref3_ChainFault.mono_l k
  unfold changeforgeref3_ChainFault.f
  repeat' first
      | (with_reducible exact ih0 _ _)
      | (with_reducible exact ih1 _ _ _ _ _ _)
      | (with_reducible exact changeforgeref3_ApplyDelta.mono _ _ _)
      | (with_reducible exact changeforgeref3_ChainVersion.mono _ _ _)
      | (with_reducible exact LeO.refl _)
      | (with_reducible exact LeO.none _)
      | (with_reducible refine LeO.ite ?_ ?_)
      | (with_reducible refine LeO.bind ?_ (fun _ => ?_))
      | exact ih0 _ _
      | exact ih1 _ _ _ _ _ _
      | exact changeforgeref3_ApplyDelta.mono _ _ _
      | exact changeforgeref3_ChainVersion.mono _ _ _
      | exact LeO.none _
      | refine LeO.ite ?_ ?_
      | refine LeO.bind ?_ (fun _ => ?_)
def changeforgeref3_ChainFault.T14 : Bool × List (List Nat × List Nat) := (true, [([], []), ([], []), ([1], [1]), ([0, 2], [0, 2]), ([], []), ([4], [4]), ([3, 5, 3], [3, 5]), ([6], [6]), ([7], [7]), ([7], [7]), ([], []), ([8, 6, 0, 1, 2, 3, 4, 5, 6, 7, 8, 10], [8]), ([10, 9, 11, 0, 1, 2, 3, 4, 5, 6, 7, 8, 9, 10, 11], [9, 10])])
def changeforgeref3_ChainFault.B14 : List Nat := [0, 0, 2, 7, 0, 16, 63, 127, 255, 255, 0, 1535, 4095]
theorem changeforgeref3_ChainFault.tab14 : rtab .any (opsOf Try.f21 14) = changeforgeref3_ChainFault.T14 := by kernel_rfl
theorem changeforgeref3_ChainFault.bits14 : waitsOk changeforgeref3_ChainFault.T14.2 changeforgeref3_ChainFault.B14 = true := by kernel_rfl
abbrev changeforgeref3_ChainFault.Z1 : Array Bool := #[false, false, false, false, false, false, false, false, false, false, false, false, false]
abbrev changeforgeref3_ChainFault.Z2 : Array Bool := #[true, false, false, false, false, false, false, false, false, false, false, false, false]
abbrev changeforgeref3_ChainFault.Z3 : Array Bool := #[true, true, false, false, false, false, false, false, false, false, false, false, false]
abbrev changeforgeref3_ChainFault.Z4 : Array Bool := #[true, true, false, false, true, false, false, false, false, false, false, false, false]
abbrev changeforgeref3_ChainFault.Z5 : Array Bool := #[true, true, true, false, true, false, false, false, false, false, false, false, false]
abbrev changeforgeref3_ChainFault.Z6 : Array Bool := #[true, true, true, false, true, true, false, false, false, false, false, false, false]
abbrev changeforgeref3_ChainFault.Z7 : Array Bool := #[true, true, true, true, true, true, true, true, true, true, true, false, false]
abbrev changeforgeref3_ChainFault.Z8 : Array Bool := #[true, true, true, true, true, true, false, false, false, false, false, false, false]
abbrev changeforgeref3_ChainFault.Z9 : Array Bool := #[true, true, true, false, true, true, false, false, false, false, true, false, false]
abbrev changeforgeref3_ChainFault.Z10 : Array Bool := #[true, true, true, true, true, true, true, false, false, false, false, false, false]
abbrev changeforgeref3_ChainFault.Z11 : Array Bool := #[true, true, true, true, true, true, false, false, false, false, true, false, false]
abbrev changeforgeref3_ChainFault.Z12 : Array Bool := #[true, true, true, true, true, true, true, true, false, false, false, false, false]
abbrev changeforgeref3_ChainFault.Z13 : Array Bool := #[true, true, true, true, true, true, true, true, true, false, false, false, false]
abbrev changeforgeref3_ChainFault.Z14 : Array Bool := #[true, true, true, true, true, true, true, true, true, true, false, false, false]
abbrev changeforgeref3_ChainFault.Z15 : Array Bool := #[true, true, true, true, true, true, true, false, false, false, true, false, false]
abbrev changeforgeref3_ChainFault.Z16 : Array Bool := #[true, true, true, true, true, true, true, true, false, false, true, false, false]
abbrev changeforgeref3_ChainFault.Z17 : Array Bool := #[true, true, true, true, true, true, true, true, true, false, true, false, false]
abbrev changeforgeref3_ChainFault.Z18 : Array Bool := #[true, true, true, true, true, true, true, true, true, true, true, true, false]
abbrev changeforgeref3_ChainFault.Z19 : Array Bool := #[true, true, true, true, true, true, true, true, true, true, true, true, true]
set_option maxHeartbeats 8000000 in
set_option maxRecDepth 100000 in
theorem changeforgeref3_ChainFault.calls (k : Nat) (A0 : Option Addr) (c0 : Nat) (l0 : List (S45)) (r1 : Int) (r2 : Int) (w : World) (hr0 : Kd.C k45 w A0 l0.length l0) (hc0 : l0.length ≤ c0) (h : changeforgeref3_ChainFault.f k l0 = some (r1, r2)) :
  Calls Try.prog 21 #[.slice A0 l0.length c0] w fun e w' => e = .returned (.agg #[.int .i64 r1, .int .i64 r2]) ∧ Below w.heap.size w w' := by
  have hu26 := Try.underlying26
  have hu45 := Try.underlying45
  have HR0 := aZ hr0
  have HC0 := aZ hc0
  clear hr0 hc0
  have HB := aZ (Below.refl w.heap.size w)
  have H : (if (l0.length : Int) > 20 then ((changeforgeref3_Fault.f 2 (-1)).bind fun bt457 => (some (bt457.1, bt457.2))) else (changeforgeref3_ChainFault.l0 k l0 0)) = some (r1, r2) := h
  clear h
  by_cases c2 : (l0.length : Int) > 20
  · rw [if_pos c2] at H
    have c2b0 : decide (20 < (l0.length : Int)) = true := decide_eq_true c2
    have c2b1 : decide (20 < l0.length) = true := decide_eq_true (by omega)
    clear c2
    replace H := Option.bind_eq_some_iff.mp H
    obtain ⟨⟨t457, t458⟩, A30, H⟩ := H
    replace H : (some (t457, t458)) = some (r1, r2) := H
    have A3 := aZ A30
    clear A30
    simp only [Option.some.injEq, Prod.mk.injEq] at H
    obtain ⟨rfl, rfl⟩ := H
    go_enter Try.func21, Try.ntmps21
    go_wp2_with (first | ((with_reducible refine gate_dst (N := 2) rfl ?_); (try (refine gate_guard (by rfl) ?_; dsimp only)); refine box_event ?hg (N := 2) ?hd (cs := #[.int .i64 0, .int .i64 0]) (t := 26) ?hr ?_; (case hd => rfl); (case hg => rfl); (case hr => first | (go_simp; done) | (go_simp; rfl)); intro gb456 hg w4 hbox hb; have n0_ := aZ (lT (by repeat (first | (with_reducible first | exact HB.out | apply lA | apply lN | apply lD) | exact HB.out)) hb); have n1_ := aZ (hbox); have n2_ := aZ ((by rw [hg]; exact (lZ (by repeat (first | (with_reducible first | exact HB.out | apply lA | apply lN | apply lD) | exact HB.out))) : w.heap.size ≤ gb456)); have n3_ := aZ ((by rw [hg]; exact (lZ (by repeat (first | (with_reducible first | exact HB.out | apply lA | apply lN | apply lD) | exact HB.out))) : w.heap.size ≤ gb456)); clear HB; have HB := n0_; have BK456 := n1_; have GW456 := n2_; have GE456 := n3_; clear n0_ n1_ n2_ n3_; clear hb hbox hg) | ((with_reducible refine gate_callee (f := 12) rfl ?_); refine goesL_ (some 10) rfl rfl Try.func12 (by kernel_rfl) rfl #[.int .i64 2, .int .i64 (-1)] rfl (by (try simp only [List.map_toArray, List.map_cons, List.map_nil]); first | done | rfl | (simp only [List.length_drop, List.length_take]; rfl)) ?_; (with_reducible refine (changeforgeref3_Fault.calls 2 (-1) t457 t458 _ A3.out).mono ?_); rintro e w5 ⟨rfl, hb⟩; refine ⟨_, rfl, ?_⟩; have n0_ := aZ (blk_below (g := gb456) (o := .cells #[.int .i64 0, .int .i64 0] 26 (0, 0)) (by (with_reducible repeat (first | refine bN ?_ _ | refine bD ?_ | refine bA ?_ _)); exact BK456.out) hb); have n1_ := aZ (lT (by repeat (first | (with_reducible first | exact HB.out | apply lA | apply lN | apply lD | refine lS ?_ GE456.out) | exact HB.out)) hb); clear BK456; clear HB; have BK456 := n0_; have HB := n1_; clear n0_ n1_; (try clear hb); (try clear hb2); (try clear hk); (try clear hi); have hcz6_0 : w5.cell? ⟨gb456, 0, none⟩ = some (.int .i64 0) := (blk_cell BK456.out 0).trans rfl; have hcz6_1 : w5.cell? ⟨gb456, 1, none⟩ = some (.int .i64 0) := (blk_cell BK456.out 1).trans rfl; have hfz6_0 := blk_frozen BK456.out 0; have hfz6_1 := blk_frozen BK456.out 1))
    refine bodyPost_ret (results_cell_row rfl _ _ gb456 26 #[.int .i64 t457, .int .i64 t458] (0, 0) _ rfl (by (with_reducible repeat (first | refine bN ?_ _ | refine bD ?_ | refine bA ?_ _)); refine blk_put (cs := #[.int .i64 t457, .int .i64 0]) ?_ 1 _ rfl; (with_reducible repeat (first | refine bN ?_ _ | refine bD ?_ | refine bA ?_ _)); refine blk_put (cs := #[.int .i64 0, .int .i64 0]) ?_ 0 _ rfl; (with_reducible repeat (first | refine bN ?_ _ | refine bD ?_ | refine bA ?_ _)); exact BK456.out) Try.underlying26 rfl (by kernel_rfl)) rfl ?_
    exact ⟨by first | rfl | (simp [errW_none, errW_some] <;> rfl) | (simp [*, errW_none, errW_some] <;> rfl), by repeat (first | (with_reducible first | exact HB.out | apply lA | apply lN | apply lD | refine lS ?_ GE456.out) | exact HB.out)⟩
  rw [if_neg c2] at H
  have c2b0 : decide (20 < (l0.length : Int)) = false := decide_eq_false c2
  have c2b1 : decide (20 < l0.length) = false := decide_eq_false (by omega)
  clear c2
  have H' := aZ H
  clear H
  go_enter Try.func21, Try.ntmps21
  go_wp2_with (first | ((with_reducible refine gate_dst (N := 2) rfl ?_); (try (refine gate_guard (by rfl) ?_; dsimp only)); refine box_event ?hg (N := 2) ?hd (cs := #[.int .i64 0, .int .i64 0]) (t := 26) ?hr ?_; (case hd => rfl); (case hg => rfl); (case hr => first | (go_simp; done) | (go_simp; rfl)); intro gb456 hg w7 hbox hb; have n0_ := aZ (lT (by repeat (first | (with_reducible first | exact HB.out | apply lA | apply lN | apply lD) | exact HB.out)) hb); have n1_ := aZ (hbox); have n2_ := aZ ((by rw [hg]; exact (lZ (by repeat (first | (with_reducible first | exact HB.out | apply lA | apply lN | apply lD) | exact HB.out))) : w.heap.size ≤ gb456)); have n3_ := aZ ((by rw [hg]; exact (lZ (by repeat (first | (with_reducible first | exact HB.out | apply lA | apply lN | apply lD) | exact HB.out))) : w.heap.size ≤ gb456)); clear HB; have HB := n0_; have BK456 := n1_; have GW456 := n2_; have GE456 := n3_; clear n0_ n1_ n2_ n3_; clear hb hbox hg))
  go_loopg [3] k (fun kq v3 w' => ∃ (x3_1 : Int) (x457000_1 : Int) (x457001_1 : Int), v3 = .int .i64 x3_1 ∧ Aside0 (changeforgeref3_ChainFault.l0 kq l0 x3_1 = some (r1, r2)) ∧ Aside0 (kq ≤ k) ∧ Aside0 (w'.heap[gb456]? = some (.cells #[.int .i64 x457000_1, .int .i64 x457001_1] 26 (0, 0))) ∧ Aside0 (Below w.heap.size w w'))
  case atStart => exact ⟨(0), (0), (0), (by first | rfl | (simp; done) | (simp [*]; done) | (simp [i64_w]; done)), H', ⟨Nat.le_refl _⟩, ⟨by (with_reducible repeat (first | refine bN ?_ _ | refine bD ?_ | refine bA ?_ _)); exact BK456.out⟩, ⟨by repeat (first | (with_reducible first | exact HB.out | apply lA | apply lN | apply lD | refine lS ?_ GE456.out) | exact HB.out)⟩⟩
  case round =>
   clear H'
   (try clear c2); (try clear c2b0); (try clear c2b1)
   obtain ⟨x3_1, x457000_1, x457001_1, rfl, HA, HK1, BK456, HB⟩ := hrel
   cases gk with
   | zero => exact absurd HA.out (by simp [changeforgeref3_ChainFault.l0])
   | succ k1 =>
    have H := HA.out
    clear HA
    simp only [changeforgeref3_ChainFault.l0] at H
    by_cases c8 : x3_1 < (l0.length : Int)
    rotate_left
    · rw [if_neg c8] at H
      have c8b0 : decide (x3_1 < (l0.length : Int)) = false := decide_eq_false c8
      clear c8
      simp only [Option.some.injEq, Prod.mk.injEq] at H
      obtain ⟨rfl, rfl⟩ := H
      have hcz82_0 : wr.cell? ⟨gb456, 0, none⟩ = some (.int .i64 x457000_1) := (blk_cell BK456.out 0).trans rfl
      have hcz82_1 : wr.cell? ⟨gb456, 1, none⟩ = some (.int .i64 x457001_1) := (blk_cell BK456.out 1).trans rfl
      have hfz82_0 := blk_frozen BK456.out 0
      have hfz82_1 := blk_frozen BK456.out 1
      go_wp2
      refine bodyPost_ret (results_cell_row rfl _ _ gb456 26 #[.int .i64 0, .int .i64 0] (0, 0) _ rfl (by (with_reducible repeat (first | refine bN ?_ _ | refine bD ?_ | refine bA ?_ _)); refine blk_put (cs := #[.int .i64 0, .int .i64 x457001_1]) ?_ 1 _ rfl; (with_reducible repeat (first | refine bN ?_ _ | refine bD ?_ | refine bA ?_ _)); refine blk_put (cs := #[.int .i64 x457000_1, .int .i64 x457001_1]) ?_ 0 _ rfl; (with_reducible repeat (first | refine bN ?_ _ | refine bD ?_ | refine bA ?_ _)); exact BK456.out) Try.underlying26 rfl (by kernel_rfl)) rfl ?_
      exact ⟨by first | rfl | (simp [errW_none, errW_some] <;> rfl) | (simp [*, errW_none, errW_some] <;> rfl), by repeat (first | (with_reducible first | exact HB.out | apply lA | apply lN | apply lD | refine lS ?_ GE456.out) | exact HB.out)⟩

    rw [if_pos c8] at H
    have c8b0 : decide (x3_1 < (l0.length : Int)) = true := decide_eq_true c8
    clear c8
    by_cases c9 : 0 ≤ x3_1
    rotate_left
    · rw [if_neg c9] at H
      exact absurd H (by simp)
    rw [if_pos c9] at H
    have c9b0 : decide (0 ≤ x3_1) = true := decide_eq_true c9
    clear c9
    replace H := Option.bind_eq_some_iff.mp H
    obtain ⟨t461, A100, H⟩ := H
    replace H : (if t461 = true then (if ((rd_T45 l0 x3_1).f0) < 0 then (if (((rd_T45 l0 x3_1).f2).length : Int) > 0 then (changeforgeref3_ChainFault.j1 k1 l0 x3_1 true ((rd_T45 l0 x3_1).f0) ((rd_T45 l0 x3_1).f1) ((rd_T45 l0 x3_1).f2)) else (if ((rd_T45 l0 x3_1).f0) ≥ 0 then (changeforgeref3_ChainFault.j1 k1 l0 x3_1 (decide ((((rd_T45 l0 x3_1).f1).length : Int) > 0)) ((rd_T45 l0 x3_1).f0) ((rd_T45 l0 x3_1).f1) ((rd_T45 l0 x3_1).f2)) else (changeforgeref3_ChainFault.j1 k1 l0 x3_1 false ((rd_T45 l0 x3_1).f0) ((rd_T45 l0 x3_1).f1) ((rd_T45 l0 x3_1).f2)))) else (if ((rd_T45 l0 x3_1).f0) ≥ 0 then (changeforgeref3_ChainFault.j1 k1 l0 x3_1 (decide ((((rd_T45 l0 x3_1).f1).length : Int) > 0)) ((rd_T45 l0 x3_1).f0) ((rd_T45 l0 x3_1).f1) ((rd_T45 l0 x3_1).f2)) else (changeforgeref3_ChainFault.j1 k1 l0 x3_1 false ((rd_T45 l0 x3_1).f0) ((rd_T45 l0 x3_1).f1) ((rd_T45 l0 x3_1).f2)))) else ((changeforgeref3_Fault.f 3 x3_1).bind fun bt462 => (some (bt462.1, bt462.2)))) = some (r1, r2) := H
    have A10 := aZ A100
    clear A100
    by_cases c11 : t461 = true
    rotate_left
    · replace c11 := Bool.eq_false_iff.mpr c11
      subst c11
      have H1 : ((changeforgeref3_Fault.f 3 x3_1).bind fun bt462 => (some (bt462.1, bt462.2))) = some (r1, r2) := by rw [if_neg (show ¬ (false = true) by decide)] at H; exact H
      clear H
      have H := H1
      clear H1
      replace H := Option.bind_eq_some_iff.mp H
      obtain ⟨⟨t462, t463⟩, A760, H⟩ := H
      replace H : (some (t462, t463)) = some (r1, r2) := H
      have A76 := aZ A760
      clear A760
      simp only [Option.some.injEq, Prod.mk.injEq] at H
      obtain ⟨rfl, rfl⟩ := H
      have p459 : 0 ≤ (x3_1 : Int) := of_decide_eq_true (by first | (with_reducible assumption) | assumption)
      have q459 : x3_1 < (l0.length : Int) := of_decide_eq_true (by first | (with_reducible assumption) | assumption)
      obtain ⟨ad459, A459_1, c459_1, A459_2, c459_2, e459, hx459_0, hx459_1, hx459_2, hl459_1, hi459_1, hl459_2, hi459_2⟩ := at_T45 HR0.out x3_1 p459 q459
      cases e459
      replace hx459_0 := (HB.out.cell (World.block_lt_of_cell? w _ hx459_0)).trans hx459_0
      replace hx459_1 := (HB.out.cell (World.block_lt_of_cell? w _ hx459_1)).trans hx459_1
      replace hx459_2 := (HB.out.cell (World.block_lt_of_cell? w _ hx459_2)).trans hx459_2
      have HR459_1 := aZ hi459_1
      have HC459_1 := aZ hl459_1
      clear hi459_1 hl459_1
      have HR459_2 := aZ hi459_2
      have HC459_2 := aZ hl459_2
      clear hi459_2 hl459_2
      replace p459 := eq_true p459
      replace q459 := eq_true q459
      go_wp2_with (first | ((with_reducible refine gate_dst (N := 4) rfl ?_); (try (refine gate_guard (by rfl) ?_; dsimp only)); refine box_event ?hg (N := 4) ?hd (cs := #[.int .i64 0, .slice none 0 0, .slice none 0 0]) (t := 45) ?hr ?_; (case hd => rfl); (case hg => rfl); (case hr => first | (go_simp; done) | (go_simp; rfl)); intro gb460 hg w77 hbox hb; have n0_ := aZ (blk_below (g := gb456) (o := .cells #[.int .i64 x457000_1, .int .i64 x457001_1] 26 (0, 0)) (by (with_reducible repeat (first | refine bN ?_ _ | refine bD ?_ | refine bA ?_ _)); exact BK456.out) hb); have n1_ := aZ (lT (by repeat (first | (with_reducible first | exact HB.out | apply lA | apply lN | apply lD | refine lS ?_ GE456.out) | exact HB.out)) hb); have n2_ := aZ (hbox); have n3_ := aZ ((by rw [hg]; exact (lZ (by repeat (first | (with_reducible first | exact HB.out | apply lA | apply lN | apply lD | refine lS ?_ GE456.out) | exact HB.out))) : w.heap.size ≤ gb460)); have n4_ := aZ ((by rw [hg]; exact (lZ (by repeat (first | (with_reducible first | exact HB.out | apply lA | apply lN | apply lD | refine lS ?_ GE456.out) | exact HB.out))) : w.heap.size ≤ gb460)); have n5_ := aZ ((by rw [hg]; exact Nat.ne_of_lt (blk_lt (g := gb456) (o := .cells #[.int .i64 x457000_1, .int .i64 x457001_1] 26 (0, 0)) (by (with_reducible repeat (first | refine bN ?_ _ | refine bD ?_ | refine bA ?_ _)); exact BK456.out)) : gb456 ≠ gb460)); have n6_ := aZ ((by rw [hg]; exact Nat.ne_of_gt (blk_lt (g := gb456) (o := .cells #[.int .i64 x457000_1, .int .i64 x457001_1] 26 (0, 0)) (by (with_reducible repeat (first | refine bN ?_ _ | refine bD ?_ | refine bA ?_ _)); exact BK456.out)) : gb460 ≠ gb456)); clear BK456; clear HB; have BK456 := n0_; have HB := n1_; have BK460 := n2_; have GW460 := n3_; have GE460 := n4_; have NB456_460 := n5_; have NB460_456 := n6_; clear n0_ n1_ n2_ n3_ n4_ n5_ n6_; clear hb hbox hg; have hnb78 := NB460_456.out; have hnc78 := NB456_460.out; have hcz79_0 : w77.cell? ⟨gb460, 0, none⟩ = some (.int .i64 0) := (blk_cell BK460.out 0).trans rfl; have hcz79_1 : w77.cell? ⟨gb460, 1, none⟩ = some (.slice none 0 0) := (blk_cell BK460.out 1).trans rfl; have hcz79_2 : w77.cell? ⟨gb460, 2, none⟩ = some (.slice none 0 0) := (blk_cell BK460.out 2).trans rfl; have hfz79_0 := blk_frozen BK460.out 0; have hfz79_1 := blk_frozen BK460.out 1; have hfz79_2 := blk_frozen BK460.out 2) | ((with_reducible refine gate_callee (f := 18) rfl ?_); refine goesL_ (some 25) rfl rfl Try.func18 (by kernel_rfl) rfl #[.int .i64 ((rd_T45 l0 x3_1).f0), .int .i64 (-1), .int .i64 (wrap64 (x3_1 - 1))] rfl (by (try simp only [List.map_toArray, List.map_cons, List.map_nil]); first | done | rfl | (simp only [List.length_drop, List.length_take]; rfl)) ?_; (with_reducible refine (changeforgeref3_In.calls ((rd_T45 l0 x3_1).f0) (-1) (wrap64 (x3_1 - 1)) false _ A10.out).mono ?_); rintro e w' ⟨rfl, ⟨nd, rfl⟩⟩; refine ⟨_, rfl, ?_⟩) | ((with_reducible refine gate_callee (f := 12) rfl ?_); refine goesL_ (some 28) rfl rfl Try.func12 (by kernel_rfl) rfl #[.int .i64 3, .int .i64 x3_1] rfl (by (try simp only [List.map_toArray, List.map_cons, List.map_nil]); first | done | rfl | (simp only [List.length_drop, List.length_take]; rfl)) ?_; (with_reducible refine (changeforgeref3_Fault.calls 3 x3_1 t462 t463 _ A76.out).mono ?_); rintro e w80 ⟨rfl, hb⟩; refine ⟨_, rfl, ?_⟩; have n0_ := aZ (blk_below (g := gb456) (o := .cells #[.int .i64 x457000_1, .int .i64 x457001_1] 26 (0, 0)) (by (with_reducible repeat (first | refine bN ?_ _ | refine bD ?_ | refine bA ?_ _)); refine blk_far ?_ NB456_460.out _; (with_reducible repeat (first | refine bN ?_ _ | refine bD ?_ | refine bA ?_ _)); refine blk_far ?_ NB456_460.out _; (with_reducible repeat (first | refine bN ?_ _ | refine bD ?_ | refine bA ?_ _)); refine blk_far ?_ NB456_460.out _; (with_reducible repeat (first | refine bN ?_ _ | refine bD ?_ | refine bA ?_ _)); exact BK456.out) hb); have n1_ := aZ (blk_below (g := gb460) (o := .cells #[.int .i64 ((rd_T45 l0 x3_1).f0), .slice A459_1 ((rd_T45 l0 x3_1).f1).length c459_1, .slice A459_2 ((rd_T45 l0 x3_1).f2).length c459_2] 45 (0, 0)) (by (with_reducible repeat (first | refine bN ?_ _ | refine bD ?_ | refine bA ?_ _)); refine blk_put (cs := #[.int .i64 ((rd_T45 l0 x3_1).f0), .slice A459_1 ((rd_T45 l0 x3_1).f1).length c459_1, .slice none 0 0]) ?_ 2 _ rfl; (with_reducible repeat (first | refine bN ?_ _ | refine bD ?_ | refine bA ?_ _)); refine blk_put (cs := #[.int .i64 ((rd_T45 l0 x3_1).f0), .slice none 0 0, .slice none 0 0]) ?_ 1 _ rfl; (with_reducible repeat (first | refine bN ?_ _ | refine bD ?_ | refine bA ?_ _)); refine blk_put (cs := #[.int .i64 0, .slice none 0 0, .slice none 0 0]) ?_ 0 _ rfl; (with_reducible repeat (first | refine bN ?_ _ | refine bD ?_ | refine bA ?_ _)); exact BK460.out) hb); have n2_ := aZ (lT (by repeat (first | (with_reducible first | exact HB.out | apply lA | apply lN | apply lD | refine lS ?_ GE456.out | refine lS ?_ GE460.out) | exact HB.out)) hb); clear BK456; clear BK460; clear HB; have BK456 := n0_; have BK460 := n1_; have HB := n2_; clear n0_ n1_ n2_; (try clear hb); (try clear hb2); (try clear hk); (try clear hi); have hcz81_0 : w80.cell? ⟨gb456, 0, none⟩ = some (.int .i64 x457000_1) := (blk_cell BK456.out 0).trans rfl; have hcz81_1 : w80.cell? ⟨gb456, 1, none⟩ = some (.int .i64 x457001_1) := (blk_cell BK456.out 1).trans rfl; have hfz81_0 := blk_frozen BK456.out 0; have hfz81_1 := blk_frozen BK456.out 1))
      refine bodyPost_ret (results_cell_row rfl _ _ gb456 26 #[.int .i64 t462, .int .i64 t463] (0, 0) _ rfl (by (with_reducible repeat (first | refine bN ?_ _ | refine bD ?_ | refine bA ?_ _)); refine blk_put (cs := #[.int .i64 t462, .int .i64 x457001_1]) ?_ 1 _ rfl; (with_reducible repeat (first | refine bN ?_ _ | refine bD ?_ | refine bA ?_ _)); refine blk_put (cs := #[.int .i64 x457000_1, .int .i64 x457001_1]) ?_ 0 _ rfl; (with_reducible repeat (first | refine bN ?_ _ | refine bD ?_ | refine bA ?_ _)); exact BK456.out) Try.underlying26 rfl (by kernel_rfl)) rfl ?_
      exact ⟨by first | rfl | (simp [errW_none, errW_some] <;> rfl) | (simp [*, errW_none, errW_some] <;> rfl), by repeat (first | (with_reducible first | exact HB.out | apply lA | apply lN | apply lD | refine lS ?_ GE456.out | refine lS ?_ GE460.out) | exact HB.out)⟩
    subst c11
    have H1 : (if ((rd_T45 l0 x3_1).f0) < 0 then (if (((rd_T45 l0 x3_1).f2).length : Int) > 0 then (changeforgeref3_ChainFault.j1 k1 l0 x3_1 true ((rd_T45 l0 x3_1).f0) ((rd_T45 l0 x3_1).f1) ((rd_T45 l0 x3_1).f2)) else (if ((rd_T45 l0 x3_1).f0) ≥ 0 then (changeforgeref3_ChainFault.j1 k1 l0 x3_1 (decide ((((rd_T45 l0 x3_1).f1).length : Int) > 0)) ((rd_T45 l0 x3_1).f0) ((rd_T45 l0 x3_1).f1) ((rd_T45 l0 x3_1).f2)) else (changeforgeref3_ChainFault.j1 k1 l0 x3_1 false ((rd_T45 l0 x3_1).f0) ((rd_T45 l0 x3_1).f1) ((rd_T45 l0 x3_1).f2)))) else (if ((rd_T45 l0 x3_1).f0) ≥ 0 then (changeforgeref3_ChainFault.j1 k1 l0 x3_1 (decide ((((rd_T45 l0 x3_1).f1).length : Int) > 0)) ((rd_T45 l0 x3_1).f0) ((rd_T45 l0 x3_1).f1) ((rd_T45 l0 x3_1).f2)) else (changeforgeref3_ChainFault.j1 k1 l0 x3_1 false ((rd_T45 l0 x3_1).f0) ((rd_T45 l0 x3_1).f1) ((rd_T45 l0 x3_1).f2)))) = some (r1, r2) := by rw [if_pos rfl] at H; exact H
    clear H
    have H := H1
    clear H1
    have HC12 := aZ H
    clear H
    have p459 : 0 ≤ (x3_1 : Int) := of_decide_eq_true (by first | (with_reducible assumption) | assumption)
    have q459 : x3_1 < (l0.length : Int) := of_decide_eq_true (by first | (with_reducible assumption) | assumption)
    obtain ⟨ad459, A459_1, c459_1, A459_2, c459_2, e459, hx459_0, hx459_1, hx459_2, hl459_1, hi459_1, hl459_2, hi459_2⟩ := at_T45 HR0.out x3_1 p459 q459
    cases e459
    replace hx459_0 := (HB.out.cell (World.block_lt_of_cell? w _ hx459_0)).trans hx459_0
    replace hx459_1 := (HB.out.cell (World.block_lt_of_cell? w _ hx459_1)).trans hx459_1
    replace hx459_2 := (HB.out.cell (World.block_lt_of_cell? w _ hx459_2)).trans hx459_2
    have HR459_1 := aZ hi459_1
    have HC459_1 := aZ hl459_1
    clear hi459_1 hl459_1
    have HR459_2 := aZ hi459_2
    have HC459_2 := aZ hl459_2
    clear hi459_2 hl459_2
    replace p459 := eq_true p459
    replace q459 := eq_true q459
    go_upto_region 9 with (first | ((with_reducible refine gate_dst (N := 4) rfl ?_); (try (refine gate_guard (by rfl) ?_; dsimp only)); refine box_event ?hg (N := 4) ?hd (cs := #[.int .i64 0, .slice none 0 0, .slice none 0 0]) (t := 45) ?hr ?_; (case hd => rfl); (case hg => rfl); (case hr => first | (go_simp; done) | (go_simp; rfl)); intro gb460 hg w13 hbox hb; have n0_ := aZ (blk_below (g := gb456) (o := .cells #[.int .i64 x457000_1, .int .i64 x457001_1] 26 (0, 0)) (by (with_reducible repeat (first | refine bN ?_ _ | refine bD ?_ | refine bA ?_ _)); exact BK456.out) hb); have n1_ := aZ (lT (by repeat (first | (with_reducible first | exact HB.out | apply lA | apply lN | apply lD | refine lS ?_ GE456.out) | exact HB.out)) hb); have n2_ := aZ (hbox); have n3_ := aZ ((by rw [hg]; exact (lZ (by repeat (first | (with_reducible first | exact HB.out | apply lA | apply lN | apply lD | refine lS ?_ GE456.out) | exact HB.out))) : w.heap.size ≤ gb460)); have n4_ := aZ ((by rw [hg]; exact (lZ (by repeat (first | (with_reducible first | exact HB.out | apply lA | apply lN | apply lD | refine lS ?_ GE456.out) | exact HB.out))) : w.heap.size ≤ gb460)); have n5_ := aZ ((by rw [hg]; exact Nat.ne_of_lt (blk_lt (g := gb456) (o := .cells #[.int .i64 x457000_1, .int .i64 x457001_1] 26 (0, 0)) (by (with_reducible repeat (first | refine bN ?_ _ | refine bD ?_ | refine bA ?_ _)); exact BK456.out)) : gb456 ≠ gb460)); have n6_ := aZ ((by rw [hg]; exact Nat.ne_of_gt (blk_lt (g := gb456) (o := .cells #[.int .i64 x457000_1, .int .i64 x457001_1] 26 (0, 0)) (by (with_reducible repeat (first | refine bN ?_ _ | refine bD ?_ | refine bA ?_ _)); exact BK456.out)) : gb460 ≠ gb456)); clear BK456; clear HB; have BK456 := n0_; have HB := n1_; have BK460 := n2_; have GW460 := n3_; have GE460 := n4_; have NB456_460 := n5_; have NB460_456 := n6_; clear n0_ n1_ n2_ n3_ n4_ n5_ n6_; clear hb hbox hg; have hnb14 := NB460_456.out; have hnc14 := NB456_460.out; have hcz15_0 : w13.cell? ⟨gb460, 0, none⟩ = some (.int .i64 0) := (blk_cell BK460.out 0).trans rfl; have hcz15_1 : w13.cell? ⟨gb460, 1, none⟩ = some (.slice none 0 0) := (blk_cell BK460.out 1).trans rfl; have hcz15_2 : w13.cell? ⟨gb460, 2, none⟩ = some (.slice none 0 0) := (blk_cell BK460.out 2).trans rfl; have hfz15_0 := blk_frozen BK460.out 0; have hfz15_1 := blk_frozen BK460.out 1; have hfz15_2 := blk_frozen BK460.out 2) | ((with_reducible refine gate_callee (f := 18) rfl ?_); refine goesL_ (some 25) rfl rfl Try.func18 (by kernel_rfl) rfl #[.int .i64 ((rd_T45 l0 x3_1).f0), .int .i64 (-1), .int .i64 (wrap64 (x3_1 - 1))] rfl (by (try simp only [List.map_toArray, List.map_cons, List.map_nil]); first | done | rfl | (simp only [List.length_drop, List.length_take]; rfl)) ?_; (with_reducible refine (changeforgeref3_In.calls ((rd_T45 l0 x3_1).f0) (-1) (wrap64 (x3_1 - 1)) true _ A10.out).mono ?_); rintro e w' ⟨rfl, ⟨nd, rfl⟩⟩; refine ⟨_, rfl, ?_⟩))
    (try simp only [Act.put, List.setIfInBounds_toArray, List.set_cons_zero, List.set_cons_succ])
    go_cut [48] (fun v48 wc => ∃ (kq : Nat) (x48_11 : Bool), v48 = .bool x48_11 ∧ Aside0 (changeforgeref3_ChainFault.j1 kq l0 x3_1 x48_11 ((rd_T45 l0 x3_1).f0) ((rd_T45 l0 x3_1).f1) ((rd_T45 l0 x3_1).f2) = some (r1, r2)) ∧ Aside0 (kq ≤ k1) ∧ Aside0 (wc.heap[gb456]? = some (.cells #[.int .i64 x457000_1, .int .i64 x457001_1] 26 (0, 0))) ∧ Aside0 (wc.heap[gb460]? = some (.cells #[.int .i64 ((rd_T45 l0 x3_1).f0), (.slice A459_1 ((rd_T45 l0 x3_1).f1).length c459_1), (.slice A459_2 ((rd_T45 l0 x3_1).f2).length c459_2)] 45 (0, 0))) ∧ Aside0 (Below w.heap.size w wc))
    case first =>
     have H := HC12.out
     clear HC12
     by_cases c16 : ((rd_T45 l0 x3_1).f0) < 0
     rotate_left
     · rw [if_neg c16] at H
       have c16b0 : decide (((rd_T45 l0 x3_1).f0) < 0) = false := decide_eq_false c16
       clear c16
       (first | rw [c16b0] | (simp only [i64_w, i32_w]; rw [c16b0]) | skip)
       by_cases c25 : ((rd_T45 l0 x3_1).f0) ≥ 0
       rotate_left
       · rw [if_neg c25] at H
         have c25b0 : decide (0 ≤ ((rd_T45 l0 x3_1).f0)) = false := decide_eq_false c25
         clear c25
         have H' := aZ H
         clear H
         have hnb28 := NB460_456.out
         have hnc28 := NB456_460.out
         have hcz29_0 : w13.cell? ⟨gb460, 0, none⟩ = some (.int .i64 0) := (blk_cell BK460.out 0).trans rfl
         have hcz29_1 : w13.cell? ⟨gb460, 1, none⟩ = some (.slice none 0 0) := (blk_cell BK460.out 1).trans rfl
         have hcz29_2 : w13.cell? ⟨gb460, 2, none⟩ = some (.slice none 0 0) := (blk_cell BK460.out 2).trans rfl
         have hfz29_0 := blk_frozen BK460.out 0
         have hfz29_1 := blk_frozen BK460.out 1
         have hfz29_2 := blk_frozen BK460.out 2
         go_wp2
         go_meet
         case rel => exact ⟨_, (false), (by first | rfl | (simp; done) | (simp [*]; done) | (simp [i64_w]; done)), H', ⟨by have := HK1.out; first | omega | exact Nat.le_refl _⟩, ⟨by (with_reducible repeat (first | refine bN ?_ _ | refine bD ?_ | refine bA ?_ _)); refine blk_far ?_ NB456_460.out _; (with_reducible repeat (first | refine bN ?_ _ | refine bD ?_ | refine bA ?_ _)); refine blk_far ?_ NB456_460.out _; (with_reducible repeat (first | refine bN ?_ _ | refine bD ?_ | refine bA ?_ _)); refine blk_far ?_ NB456_460.out _; (with_reducible repeat (first | refine bN ?_ _ | refine bD ?_ | refine bA ?_ _)); exact BK456.out⟩, ⟨by (with_reducible repeat (first | refine bN ?_ _ | refine bD ?_ | refine bA ?_ _)); refine blk_put (cs := #[.int .i64 ((rd_T45 l0 x3_1).f0), .slice A459_1 ((rd_T45 l0 x3_1).f1).length c459_1, .slice none 0 0]) ?_ 2 _ rfl; (with_reducible repeat (first | refine bN ?_ _ | refine bD ?_ | refine bA ?_ _)); refine blk_put (cs := #[.int .i64 ((rd_T45 l0 x3_1).f0), .slice none 0 0, .slice none 0 0]) ?_ 1 _ rfl; (with_reducible repeat (first | refine bN ?_ _ | refine bD ?_ | refine bA ?_ _)); refine blk_put (cs := #[.int .i64 0, .slice none 0 0, .slice none 0 0]) ?_ 0 _ rfl; (with_reducible repeat (first | refine bN ?_ _ | refine bD ?_ | refine bA ?_ _)); exact BK460.out⟩, ⟨by repeat (first | (with_reducible first | exact HB.out | apply lA | apply lN | apply lD | refine lS ?_ GE456.out | refine lS ?_ GE460.out) | exact HB.out)⟩⟩
       rw [if_pos c25] at H
       have c25b0 : decide (0 ≤ ((rd_T45 l0 x3_1).f0)) = true := decide_eq_true c25
       clear c25
       have H' := aZ H
       clear H
       have hnb26 := NB460_456.out
       have hnc26 := NB456_460.out
       have hcz27_0 : w13.cell? ⟨gb460, 0, none⟩ = some (.int .i64 0) := (blk_cell BK460.out 0).trans rfl
       have hcz27_1 : w13.cell? ⟨gb460, 1, none⟩ = some (.slice none 0 0) := (blk_cell BK460.out 1).trans rfl
       have hcz27_2 : w13.cell? ⟨gb460, 2, none⟩ = some (.slice none 0 0) := (blk_cell BK460.out 2).trans rfl
       have hfz27_0 := blk_frozen BK460.out 0
       have hfz27_1 := blk_frozen BK460.out 1
       have hfz27_2 := blk_frozen BK460.out 2
       go_wp2
       go_meet
       case rel => exact ⟨_, (decide ((((rd_T45 l0 x3_1).f1).length : Int) > 0)), (by first | rfl | (simp; done) | (simp [*]; done) | (simp [i64_w]; done)), H', ⟨by have := HK1.out; first | omega | exact Nat.le_refl _⟩, ⟨by (with_reducible repeat (first | refine bN ?_ _ | refine bD ?_ | refine bA ?_ _)); refine blk_far ?_ NB456_460.out _; (with_reducible repeat (first | refine bN ?_ _ | refine bD ?_ | refine bA ?_ _)); refine blk_far ?_ NB456_460.out _; (with_reducible repeat (first | refine bN ?_ _ | refine bD ?_ | refine bA ?_ _)); refine blk_far ?_ NB456_460.out _; (with_reducible repeat (first | refine bN ?_ _ | refine bD ?_ | refine bA ?_ _)); exact BK456.out⟩, ⟨by (with_reducible repeat (first | refine bN ?_ _ | refine bD ?_ | refine bA ?_ _)); refine blk_put (cs := #[.int .i64 ((rd_T45 l0 x3_1).f0), .slice A459_1 ((rd_T45 l0 x3_1).f1).length c459_1, .slice none 0 0]) ?_ 2 _ rfl; (with_reducible repeat (first | refine bN ?_ _ | refine bD ?_ | refine bA ?_ _)); refine blk_put (cs := #[.int .i64 ((rd_T45 l0 x3_1).f0), .slice none 0 0, .slice none 0 0]) ?_ 1 _ rfl; (with_reducible repeat (first | refine bN ?_ _ | refine bD ?_ | refine bA ?_ _)); refine blk_put (cs := #[.int .i64 0, .slice none 0 0, .slice none 0 0]) ?_ 0 _ rfl; (with_reducible repeat (first | refine bN ?_ _ | refine bD ?_ | refine bA ?_ _)); exact BK460.out⟩, ⟨by repeat (first | (with_reducible first | exact HB.out | apply lA | apply lN | apply lD | refine lS ?_ GE456.out | refine lS ?_ GE460.out) | exact HB.out)⟩⟩
     rw [if_pos c16] at H
     have c16b0 : decide (((rd_T45 l0 x3_1).f0) < 0) = true := decide_eq_true c16
     clear c16
     (first | rw [c16b0] | (simp only [i64_w, i32_w]; rw [c16b0]) | skip)
     by_cases c17 : (((rd_T45 l0 x3_1).f2).length : Int) > 0
     · rw [if_pos c17] at H
       have c17b0 : decide (0 < (((rd_T45 l0 x3_1).f2).length : Int)) = true := decide_eq_true c17
       have c17b1 : decide (0 < ((rd_T45 l0 x3_1).f2).length) = true := decide_eq_true (by omega)
       clear c17
       have H' := aZ H
       clear H
       have hnb18 := NB460_456.out
       have hnc18 := NB456_460.out
       have hcz19_0 : w13.cell? ⟨gb460, 0, none⟩ = some (.int .i64 0) := (blk_cell BK460.out 0).trans rfl
       have hcz19_1 : w13.cell? ⟨gb460, 1, none⟩ = some (.slice none 0 0) := (blk_cell BK460.out 1).trans rfl
       have hcz19_2 : w13.cell? ⟨gb460, 2, none⟩ = some (.slice none 0 0) := (blk_cell BK460.out 2).trans rfl
       have hfz19_0 := blk_frozen BK460.out 0
       have hfz19_1 := blk_frozen BK460.out 1
       have hfz19_2 := blk_frozen BK460.out 2
       go_wp2
       go_meet
       case rel => exact ⟨_, (true), (by first | rfl | (simp; done) | (simp [*]; done) | (simp [i64_w]; done)), H', ⟨by have := HK1.out; first | omega | exact Nat.le_refl _⟩, ⟨by (with_reducible repeat (first | refine bN ?_ _ | refine bD ?_ | refine bA ?_ _)); refine blk_far ?_ NB456_460.out _; (with_reducible repeat (first | refine bN ?_ _ | refine bD ?_ | refine bA ?_ _)); refine blk_far ?_ NB456_460.out _; (with_reducible repeat (first | refine bN ?_ _ | refine bD ?_ | refine bA ?_ _)); refine blk_far ?_ NB456_460.out _; (with_reducible repeat (first | refine bN ?_ _ | refine bD ?_ | refine bA ?_ _)); exact BK456.out⟩, ⟨by (with_reducible repeat (first | refine bN ?_ _ | refine bD ?_ | refine bA ?_ _)); refine blk_put (cs := #[.int .i64 ((rd_T45 l0 x3_1).f0), .slice A459_1 ((rd_T45 l0 x3_1).f1).length c459_1, .slice none 0 0]) ?_ 2 _ rfl; (with_reducible repeat (first | refine bN ?_ _ | refine bD ?_ | refine bA ?_ _)); refine blk_put (cs := #[.int .i64 ((rd_T45 l0 x3_1).f0), .slice none 0 0, .slice none 0 0]) ?_ 1 _ rfl; (with_reducible repeat (first | refine bN ?_ _ | refine bD ?_ | refine bA ?_ _)); refine blk_put (cs := #[.int .i64 0, .slice none 0 0, .slice none 0 0]) ?_ 0 _ rfl; (with_reducible repeat (first | refine bN ?_ _ | refine bD ?_ | refine bA ?_ _)); exact BK460.out⟩, ⟨by repeat (first | (with_reducible first | exact HB.out | apply lA | apply lN | apply lD | refine lS ?_ GE456.out | refine lS ?_ GE460.out) | exact HB.out)⟩⟩
     rw [if_neg c17] at H
     have c17b0 : decide (0 < (((rd_T45 l0 x3_1).f2).length : Int)) = false := decide_eq_false c17
     have c17b1 : decide (0 < ((rd_T45 l0 x3_1).f2).length) = false := decide_eq_false (by omega)
     clear c17
     by_cases c20 : ((rd_T45 l0 x3_1).f0) ≥ 0
     rotate_left
     · rw [if_neg c20] at H
       have c20b0 : decide (0 ≤ ((rd_T45 l0 x3_1).f0)) = false := decide_eq_false c20
       clear c20
       have H' := aZ H
       clear H
       have hnb23 := NB460_456.out
       have hnc23 := NB456_460.out
       have hcz24_0 : w13.cell? ⟨gb460, 0, none⟩ = some (.int .i64 0) := (blk_cell BK460.out 0).trans rfl
       have hcz24_1 : w13.cell? ⟨gb460, 1, none⟩ = some (.slice none 0 0) := (blk_cell BK460.out 1).trans rfl
       have hcz24_2 : w13.cell? ⟨gb460, 2, none⟩ = some (.slice none 0 0) := (blk_cell BK460.out 2).trans rfl
       have hfz24_0 := blk_frozen BK460.out 0
       have hfz24_1 := blk_frozen BK460.out 1
       have hfz24_2 := blk_frozen BK460.out 2
       go_wp2
       go_meet
       case rel => exact ⟨_, (false), (by first | rfl | (simp; done) | (simp [*]; done) | (simp [i64_w]; done)), H', ⟨by have := HK1.out; first | omega | exact Nat.le_refl _⟩, ⟨by (with_reducible repeat (first | refine bN ?_ _ | refine bD ?_ | refine bA ?_ _)); refine blk_far ?_ NB456_460.out _; (with_reducible repeat (first | refine bN ?_ _ | refine bD ?_ | refine bA ?_ _)); refine blk_far ?_ NB456_460.out _; (with_reducible repeat (first | refine bN ?_ _ | refine bD ?_ | refine bA ?_ _)); refine blk_far ?_ NB456_460.out _; (with_reducible repeat (first | refine bN ?_ _ | refine bD ?_ | refine bA ?_ _)); exact BK456.out⟩, ⟨by (with_reducible repeat (first | refine bN ?_ _ | refine bD ?_ | refine bA ?_ _)); refine blk_put (cs := #[.int .i64 ((rd_T45 l0 x3_1).f0), .slice A459_1 ((rd_T45 l0 x3_1).f1).length c459_1, .slice none 0 0]) ?_ 2 _ rfl; (with_reducible repeat (first | refine bN ?_ _ | refine bD ?_ | refine bA ?_ _)); refine blk_put (cs := #[.int .i64 ((rd_T45 l0 x3_1).f0), .slice none 0 0, .slice none 0 0]) ?_ 1 _ rfl; (with_reducible repeat (first | refine bN ?_ _ | refine bD ?_ | refine bA ?_ _)); refine blk_put (cs := #[.int .i64 0, .slice none 0 0, .slice none 0 0]) ?_ 0 _ rfl; (with_reducible repeat (first | refine bN ?_ _ | refine bD ?_ | refine bA ?_ _)); exact BK460.out⟩, ⟨by repeat (first | (with_reducible first | exact HB.out | apply lA | apply lN | apply lD | refine lS ?_ GE456.out | refine lS ?_ GE460.out) | exact HB.out)⟩⟩
     rw [if_pos c20] at H
     have c20b0 : decide (0 ≤ ((rd_T45 l0 x3_1).f0)) = true := decide_eq_true c20
     clear c20
     have H' := aZ H
     clear H
     have hnb21 := NB460_456.out
     have hnc21 := NB456_460.out
     have hcz22_0 : w13.cell? ⟨gb460, 0, none⟩ = some (.int .i64 0) := (blk_cell BK460.out 0).trans rfl
     have hcz22_1 : w13.cell? ⟨gb460, 1, none⟩ = some (.slice none 0 0) := (blk_cell BK460.out 1).trans rfl
     have hcz22_2 : w13.cell? ⟨gb460, 2, none⟩ = some (.slice none 0 0) := (blk_cell BK460.out 2).trans rfl
     have hfz22_0 := blk_frozen BK460.out 0
     have hfz22_1 := blk_frozen BK460.out 1
     have hfz22_2 := blk_frozen BK460.out 2
     go_wp2
     go_meet
     case rel => exact ⟨_, (decide ((((rd_T45 l0 x3_1).f1).length : Int) > 0)), (by first | rfl | (simp; done) | (simp [*]; done) | (simp [i64_w]; done)), H', ⟨by have := HK1.out; first | omega | exact Nat.le_refl _⟩, ⟨by (with_reducible repeat (first | refine bN ?_ _ | refine bD ?_ | refine bA ?_ _)); refine blk_far ?_ NB456_460.out _; (with_reducible repeat (first | refine bN ?_ _ | refine bD ?_ | refine bA ?_ _)); refine blk_far ?_ NB456_460.out _; (with_reducible repeat (first | refine bN ?_ _ | refine bD ?_ | refine bA ?_ _)); refine blk_far ?_ NB456_460.out _; (with_reducible repeat (first | refine bN ?_ _ | refine bD ?_ | refine bA ?_ _)); exact BK456.out⟩, ⟨by (with_reducible repeat (first | refine bN ?_ _ | refine bD ?_ | refine bA ?_ _)); refine blk_put (cs := #[.int .i64 ((rd_T45 l0 x3_1).f0), .slice A459_1 ((rd_T45 l0 x3_1).f1).length c459_1, .slice none 0 0]) ?_ 2 _ rfl; (with_reducible repeat (first | refine bN ?_ _ | refine bD ?_ | refine bA ?_ _)); refine blk_put (cs := #[.int .i64 ((rd_T45 l0 x3_1).f0), .slice none 0 0, .slice none 0 0]) ?_ 1 _ rfl; (with_reducible repeat (first | refine bN ?_ _ | refine bD ?_ | refine bA ?_ _)); refine blk_put (cs := #[.int .i64 0, .slice none 0 0, .slice none 0 0]) ?_ 0 _ rfl; (with_reducible repeat (first | refine bN ?_ _ | refine bD ?_ | refine bA ?_ _)); exact BK460.out⟩, ⟨by repeat (first | (with_reducible first | exact HB.out | apply lA | apply lN | apply lD | refine lS ?_ GE456.out | refine lS ?_ GE460.out) | exact HB.out)⟩⟩
    case rest =>
     clear HC12
     (try clear c8); (try clear c8b0); (try clear c9); (try clear c9b0); (try clear c11); (try clear hcz15_0); (try clear hcz15_1); (try clear hcz15_2); (try clear hfz15_0); (try clear hfz15_1); (try clear hfz15_2); (try clear hx459_0); (try clear hx459_1); (try clear hx459_2); (try clear p459); (try clear q459)
     obtain ⟨kq, x48_11, rfl, HA, HJ11, BK456, BK460, HB⟩ := hcut
     cases kq with
     | zero => exact absurd HA.out (by simp [changeforgeref3_ChainFault.j1])
     | succ kj11 =>
      have H := HA.out
      clear HA
      simp only [changeforgeref3_ChainFault.j1] at H
      by_cases c30 : x48_11 = true
      · subst c30
        have H1 : ((changeforgeref3_Fault.f 5 x3_1).bind fun bt464 => (some (bt464.1, bt464.2))) = some (r1, r2) := by rw [if_pos rfl] at H; exact H
        clear H
        have H := H1
        clear H1
        replace H := Option.bind_eq_some_iff.mp H
        obtain ⟨⟨t464, t465⟩, A310, H⟩ := H
        replace H : (some (t464, t465)) = some (r1, r2) := H
        have A31 := aZ A310
        clear A310
        simp only [Option.some.injEq, Prod.mk.injEq] at H
        obtain ⟨rfl, rfl⟩ := H
        go_wp2_with (first | ((with_reducible refine gate_callee (f := 12) rfl ?_); refine goesL_ (some 50) rfl rfl Try.func12 (by kernel_rfl) rfl #[.int .i64 5, .int .i64 x3_1] rfl (by (try simp only [List.map_toArray, List.map_cons, List.map_nil]); first | done | rfl | (simp only [List.length_drop, List.length_take]; rfl)) ?_; (with_reducible refine (changeforgeref3_Fault.calls 5 x3_1 t464 t465 _ A31.out).mono ?_); rintro e w32 ⟨rfl, hb⟩; refine ⟨_, rfl, ?_⟩; have n0_ := aZ (blk_below (g := gb456) (o := .cells #[.int .i64 x457000_1, .int .i64 x457001_1] 26 (0, 0)) (by (with_reducible repeat (first | refine bN ?_ _ | refine bD ?_ | refine bA ?_ _)); exact BK456.out) hb); have n1_ := aZ (blk_below (g := gb460) (o := .cells #[.int .i64 ((rd_T45 l0 x3_1).f0), .slice A459_1 ((rd_T45 l0 x3_1).f1).length c459_1, .slice A459_2 ((rd_T45 l0 x3_1).f2).length c459_2] 45 (0, 0)) (by (with_reducible repeat (first | refine bN ?_ _ | refine bD ?_ | refine bA ?_ _)); exact BK460.out) hb); have n2_ := aZ (lT (by repeat (first | (with_reducible first | exact HB.out | apply lA | apply lN | apply lD | refine lS ?_ GE456.out | refine lS ?_ GE460.out) | exact HB.out)) hb); clear BK456; clear BK460; clear HB; have BK456 := n0_; have BK460 := n1_; have HB := n2_; clear n0_ n1_ n2_; (try clear hb); (try clear hb2); (try clear hk); (try clear hi); have hnb33 := NB456_460.out; have hnc33 := NB460_456.out; have hcz34_0 : w32.cell? ⟨gb456, 0, none⟩ = some (.int .i64 x457000_1) := (blk_cell BK456.out 0).trans rfl; have hcz34_1 : w32.cell? ⟨gb456, 1, none⟩ = some (.int .i64 x457001_1) := (blk_cell BK456.out 1).trans rfl; have hfz34_0 := blk_frozen BK456.out 0; have hfz34_1 := blk_frozen BK456.out 1))
        refine bodyPost_ret (results_cell_row rfl _ _ gb456 26 #[.int .i64 t464, .int .i64 t465] (0, 0) _ rfl (by (with_reducible repeat (first | refine bN ?_ _ | refine bD ?_ | refine bA ?_ _)); refine blk_put (cs := #[.int .i64 t464, .int .i64 x457001_1]) ?_ 1 _ rfl; (with_reducible repeat (first | refine bN ?_ _ | refine bD ?_ | refine bA ?_ _)); refine blk_put (cs := #[.int .i64 x457000_1, .int .i64 x457001_1]) ?_ 0 _ rfl; (with_reducible repeat (first | refine bN ?_ _ | refine bD ?_ | refine bA ?_ _)); exact BK456.out) Try.underlying26 rfl (by kernel_rfl)) rfl ?_
        exact ⟨by first | rfl | (simp [errW_none, errW_some] <;> rfl) | (simp [*, errW_none, errW_some] <;> rfl), by repeat (first | (with_reducible first | exact HB.out | apply lA | apply lN | apply lD | refine lS ?_ GE456.out | refine lS ?_ GE460.out) | exact HB.out)⟩
      replace c30 := Bool.eq_false_iff.mpr c30
      subst c30
      have H1 : (if (((rd_T45 l0 x3_1).f1).length : Int) > 1000 then ((changeforgeref3_Fault.f 10 x3_1).bind fun bt466 => (some (bt466.1, bt466.2))) else (if ((rd_T45 l0 x3_1).f0) ≥ 0 then ((changeforgeref3_ChainVersion.f kj11 l0 ((rd_T45 l0 x3_1).f0)).bind fun t468 => ((changeforgeref3_ApplyDelta.f kj11 t468 ((rd_T45 l0 x3_1).f2)).bind fun bt471 => (if bt471.2.1 = 0 then (changeforgeref3_ChainFault.l0 kj11 l0 (wrap64 (x3_1 + 1))) else ((changeforgeref3_Fault.f bt471.2.1 x3_1).bind fun bt477 => (some (bt477.1, bt477.2)))))) else (changeforgeref3_ChainFault.l0 kj11 l0 (wrap64 (x3_1 + 1))))) = some (r1, r2) := by rw [if_neg (show ¬ (false = true) by decide)] at H; exact H
      clear H
      have H := H1
      clear H1
      by_cases c35 : (((rd_T45 l0 x3_1).f1).length : Int) > 1000
      · rw [if_pos c35] at H
        have c35b0 : decide (1000 < (((rd_T45 l0 x3_1).f1).length : Int)) = true := decide_eq_true c35
        have c35b1 : decide (1000 < ((rd_T45 l0 x3_1).f1).length) = true := decide_eq_true (by omega)
        clear c35
        replace H := Option.bind_eq_some_iff.mp H
        obtain ⟨⟨t466, t467⟩, A360, H⟩ := H
        replace H : (some (t466, t467)) = some (r1, r2) := H
        have A36 := aZ A360
        clear A360
        simp only [Option.some.injEq, Prod.mk.injEq] at H
        obtain ⟨rfl, rfl⟩ := H
        have hnb37 := NB460_456.out
        have hnc37 := NB456_460.out
        have hcz38_0 : wc.cell? ⟨gb460, 0, none⟩ = some (.int .i64 ((rd_T45 l0 x3_1).f0)) := (blk_cell BK460.out 0).trans rfl
        have hcz38_1 : wc.cell? ⟨gb460, 1, none⟩ = some (.slice A459_1 ((rd_T45 l0 x3_1).f1).length c459_1) := (blk_cell BK460.out 1).trans rfl
        have hcz38_2 : wc.cell? ⟨gb460, 2, none⟩ = some (.slice A459_2 ((rd_T45 l0 x3_1).f2).length c459_2) := (blk_cell BK460.out 2).trans rfl
        have hfz38_0 := blk_frozen BK460.out 0
        have hfz38_1 := blk_frozen BK460.out 1
        have hfz38_2 := blk_frozen BK460.out 2
        go_wp2_with (first | ((with_reducible refine gate_callee (f := 12) rfl ?_); refine goesL_ (some 56) rfl rfl Try.func12 (by kernel_rfl) rfl #[.int .i64 10, .int .i64 x3_1] rfl (by (try simp only [List.map_toArray, List.map_cons, List.map_nil]); first | done | rfl | (simp only [List.length_drop, List.length_take]; rfl)) ?_; (with_reducible refine (changeforgeref3_Fault.calls 10 x3_1 t466 t467 _ A36.out).mono ?_); rintro e w39 ⟨rfl, hb⟩; refine ⟨_, rfl, ?_⟩; have n0_ := aZ (blk_below (g := gb456) (o := .cells #[.int .i64 x457000_1, .int .i64 x457001_1] 26 (0, 0)) (by (with_reducible repeat (first | refine bN ?_ _ | refine bD ?_ | refine bA ?_ _)); exact BK456.out) hb); have n1_ := aZ (blk_below (g := gb460) (o := .cells #[.int .i64 ((rd_T45 l0 x3_1).f0), .slice A459_1 ((rd_T45 l0 x3_1).f1).length c459_1, .slice A459_2 ((rd_T45 l0 x3_1).f2).length c459_2] 45 (0, 0)) (by (with_reducible repeat (first | refine bN ?_ _ | refine bD ?_ | refine bA ?_ _)); exact BK460.out) hb); have n2_ := aZ (lT (by repeat (first | (with_reducible first | exact HB.out | apply lA | apply lN | apply lD | refine lS ?_ GE456.out | refine lS ?_ GE460.out) | exact HB.out)) hb); clear BK456; clear BK460; clear HB; have BK456 := n0_; have BK460 := n1_; have HB := n2_; clear n0_ n1_ n2_; (try clear hb); (try clear hb2); (try clear hk); (try clear hi); have hcz40_0 : w39.cell? ⟨gb456, 0, none⟩ = some (.int .i64 x457000_1) := (blk_cell BK456.out 0).trans rfl; have hcz40_1 : w39.cell? ⟨gb456, 1, none⟩ = some (.int .i64 x457001_1) := (blk_cell BK456.out 1).trans rfl; have hfz40_0 := blk_frozen BK456.out 0; have hfz40_1 := blk_frozen BK456.out 1))
        refine bodyPost_ret (results_cell_row rfl _ _ gb456 26 #[.int .i64 t466, .int .i64 t467] (0, 0) _ rfl (by (with_reducible repeat (first | refine bN ?_ _ | refine bD ?_ | refine bA ?_ _)); refine blk_put (cs := #[.int .i64 t466, .int .i64 x457001_1]) ?_ 1 _ rfl; (with_reducible repeat (first | refine bN ?_ _ | refine bD ?_ | refine bA ?_ _)); refine blk_put (cs := #[.int .i64 x457000_1, .int .i64 x457001_1]) ?_ 0 _ rfl; (with_reducible repeat (first | refine bN ?_ _ | refine bD ?_ | refine bA ?_ _)); exact BK456.out) Try.underlying26 rfl (by kernel_rfl)) rfl ?_
        exact ⟨by first | rfl | (simp [errW_none, errW_some] <;> rfl) | (simp [*, errW_none, errW_some] <;> rfl), by repeat (first | (with_reducible first | exact HB.out | apply lA | apply lN | apply lD | refine lS ?_ GE456.out | refine lS ?_ GE460.out) | exact HB.out)⟩
      rw [if_neg c35] at H
      have c35b0 : decide (1000 < (((rd_T45 l0 x3_1).f1).length : Int)) = false := decide_eq_false c35
      have c35b1 : decide (1000 < ((rd_T45 l0 x3_1).f1).length) = false := decide_eq_false (by omega)
      clear c35
      by_cases c41 : ((rd_T45 l0 x3_1).f0) ≥ 0
      rotate_left
      · rw [if_neg c41] at H
        have c41b0 : decide (0 ≤ ((rd_T45 l0 x3_1).f0)) = false := decide_eq_false c41
        clear c41
        have H' := aZ H
        clear H
        have hnb74 := NB460_456.out
        have hnc74 := NB456_460.out
        have hcz75_0 : wc.cell? ⟨gb460, 0, none⟩ = some (.int .i64 ((rd_T45 l0 x3_1).f0)) := (blk_cell BK460.out 0).trans rfl
        have hcz75_1 : wc.cell? ⟨gb460, 1, none⟩ = some (.slice A459_1 ((rd_T45 l0 x3_1).f1).length c459_1) := (blk_cell BK460.out 1).trans rfl
        have hcz75_2 : wc.cell? ⟨gb460, 2, none⟩ = some (.slice A459_2 ((rd_T45 l0 x3_1).f2).length c459_2) := (blk_cell BK460.out 2).trans rfl
        have hfz75_0 := blk_frozen BK460.out 0
        have hfz75_1 := blk_frozen BK460.out 1
        have hfz75_2 := blk_frozen BK460.out 2
        go_wp2
        go_roundg kj11
        case measure => have := HK1.out; have := HJ11.out; omega
        case rel => exact ⟨(wrap64 (x3_1 + 1)), (x457000_1), (x457001_1), (by first | rfl | (simp; done) | (simp [*]; done) | (simp [i64_w]; done)), H', ⟨by have := HK1.out; have := HJ11.out; omega⟩, ⟨by (with_reducible repeat (first | refine bN ?_ _ | refine bD ?_ | refine bA ?_ _)); exact BK456.out⟩, ⟨by repeat (first | (with_reducible first | exact HB.out | apply lA | apply lN | apply lD | refine lS ?_ GE456.out | refine lS ?_ GE460.out) | exact HB.out)⟩⟩
      rw [if_pos c41] at H
      have c41b0 : decide (0 ≤ ((rd_T45 l0 x3_1).f0)) = true := decide_eq_true c41
      clear c41
      replace H := Option.bind_eq_some_iff.mp H
      obtain ⟨t468, A420, H⟩ := H
      replace H : ((changeforgeref3_ApplyDelta.f kj11 t468 ((rd_T45 l0 x3_1).f2)).bind fun bt471 => (if bt471.2.1 = 0 then (changeforgeref3_ChainFault.l0 kj11 l0 (wrap64 (x3_1 + 1))) else ((changeforgeref3_Fault.f bt471.2.1 x3_1).bind fun bt477 => (some (bt477.1, bt477.2))))) = some (r1, r2) := H
      have A42 := aZ A420
      clear A420
      replace H := Option.bind_eq_some_iff.mp H
      obtain ⟨⟨t471, t474, t475⟩, A430, H⟩ := H
      replace H : (if t474 = 0 then (changeforgeref3_ChainFault.l0 kj11 l0 (wrap64 (x3_1 + 1))) else ((changeforgeref3_Fault.f t474 x3_1).bind fun bt477 => (some (bt477.1, bt477.2)))) = some (r1, r2) := H
      have A43 := aZ A430
      clear A430
      by_cases c44 : t474 = 0
      · rw [if_pos c44] at H
        have c44b0 : (t474 == 0) = true := beq_iff_eq.mpr c44
        have c44b1 : (t474 != 0) = false := bne_eq_false_iff_eq.mpr c44
        clear c44
        have H' := aZ H
        clear H
        have hnb45 := NB460_456.out
        have hnc45 := NB456_460.out
        have hcz46_0 : wc.cell? ⟨gb460, 0, none⟩ = some (.int .i64 ((rd_T45 l0 x3_1).f0)) := (blk_cell BK460.out 0).trans rfl
        have hcz46_1 : wc.cell? ⟨gb460, 1, none⟩ = some (.slice A459_1 ((rd_T45 l0 x3_1).f1).length c459_1) := (blk_cell BK460.out 1).trans rfl
        have hcz46_2 : wc.cell? ⟨gb460, 2, none⟩ = some (.slice A459_2 ((rd_T45 l0 x3_1).f2).length c459_2) := (blk_cell BK460.out 2).trans rfl
        have hfz46_0 := blk_frozen BK460.out 0
        have hfz46_1 := blk_frozen BK460.out 1
        have hfz46_2 := blk_frozen BK460.out 2
        try go_wp2
        have n0_ := aZ (bD BK456.out)
        have n1_ := aZ (bD BK460.out)
        have n2_ := aZ (lD HB.out)
        clear BK456
        clear BK460
        clear HB
        have BK456 := n0_
        have BK460 := n1_
        have HB := n2_
        clear n0_ n1_ n2_
        refine start_ (n := 13) (S := fun w' => w'.cell? ⟨gb460, 0, none⟩ = some (.int .i64 ((rd_T45 l0 x3_1).f0)) ∧ w'.cell? ⟨gb460, 1, none⟩ = some (.slice A459_1 ((rd_T45 l0 x3_1).f1).length c459_1) ∧ w'.cell? ⟨gb460, 2, none⟩ = some (.slice A459_2 ((rd_T45 l0 x3_1).f2).length c459_2)) (ds := []) Z1 (by kernel_rfl) rfl rfl ⟨(blk_cell BK460.out 0).trans rfl, (blk_cell BK460.out 1).trans rfl, (blk_cell BK460.out 2).trans rfl⟩ (fun hHeld => ?_); refine with_tabW changeforgeref3_ChainFault.tab14 changeforgeref3_ChainFault.bits14 (fun HT_ HW_ => ?_)
        generalize wc.drew = w47 at BK456 BK460 HB hHeld ⊢
        refine pu 0 61 Z2 HT_ rfl rfl (h := ?_)
        refine pu 1 62 Z3 HT_ rfl rfl (h := ?_)
        refine pu 4 65 Z4 HT_ rfl rfl (h := ?_)
        refine tk 2 63 Z5 HT_ HW_ rfl rfl hHeld (by rintro w' ⟨s0, s1, s2⟩; go_simp; with_reducible rfl) (h := ?_)
        refine tk 5 66 Z6 HT_ HW_ rfl rfl hHeld (by rintro w' ⟨s0, s1, s2⟩; go_simp; with_reducible rfl) (h := ?_)
        refine join_ (σ := Value × Value × Nat) 2 Z7 (fun s_ => [(64, s_.1), (67, .tuple #[s_.2.1, .agg #[.int .i64 t474, .int .i64 t475]]), (6, .pointer (some ⟨s_.2.2, 0, none⟩)), (60, .tuple #[s_.2.1, .agg #[.int .i64 t474, .int .i64 t475]]), (68, s_.2.1), (69, .agg #[.int .i64 t474, .int .i64 t475])]) (fun s_ w' => (w'.cell? ⟨gb460, 0, none⟩ = some (.int .i64 ((rd_T45 l0 x3_1).f0)) ∧ w'.cell? ⟨gb460, 1, none⟩ = some (.slice A459_1 ((rd_T45 l0 x3_1).f1).length c459_1) ∧ w'.cell? ⟨gb460, 2, none⟩ = some (.slice A459_2 ((rd_T45 l0 x3_1).f2).length c459_2)) ∧ (Kd.V (Kd.int .u8) 5 w' w.heap.size (fun k_ => some k_ ≠ (s_.2.1 : Value).ownBlock ∧ k_ ≠ gb456 ∧ k_ ≠ gb460 ∧ k_ ≠ s_.2.2) s_.1 t468) ∧ (Kd.R (Kd.int .u8) 5 w' w.heap.size (fun _ => True) s_.2.1 t471) ∧ (w'.heap[gb456]? = some (.cells #[.int .i64 x457000_1, .int .i64 x457001_1] 26 (0, 0))) ∧ (w'.heap[gb460]? = some (.cells #[.int .i64 ((rd_T45 l0 x3_1).f0), .slice A459_1 ((rd_T45 l0 x3_1).f1).length c459_1, .slice A459_2 ((rd_T45 l0 x3_1).f2).length c459_2] 45 (0, 0))) ∧ (w'.heap[s_.2.2]? = some (.cells #[.int .i64 0, .int .i64 0] 26 (0, 0))) ∧ (w.heap.size ≤ s_.2.2) ∧ (w.heap.size ≤ s_.2.2) ∧ (gb456 ≠ s_.2.2) ∧ (s_.2.2 ≠ gb456) ∧ (gb460 ≠ s_.2.2) ∧ (s_.2.2 ≠ gb460) ∧ (Below w.heap.size w w')) ?_ ?_
        rotate_left
        · intro hCont
          refine two_ (i := 3) (j := 10) (Ni := some 64) (Nj := some 6) Z8 Z9 rfl rfl rfl rfl (two_of HT_.out (by kernel_rfl)) (by decide) (by decide) (fun K hK => ?_) (fun K hK => ?_)
          · skip
            refine goes_ Try.func23 (by kernel_rfl) rfl #[.slice (some ad459) l0.length c0, .int .i64 ((rd_T45 l0 x3_1).f0)] (by rfl) rfl rfl (by (try simp only [List.map_toArray, List.map_cons, List.map_nil]); first | done | rfl | (simp only [List.length_drop, List.length_take]; rfl)) ?_
            with_reducible refine (changeforgeref3_ChainVersion.calls kj11 (fun k_ => k_ < w.heap.size) _ _ l0 ((rd_T45 l0 x3_1).f0) t468 _ ?side1 A42.out).mono ?_
            (case side1 => exact Kd.V_mk HC0.out (Kd.F_below (Kd.C_F k45_heap HR0.out) (by repeat (first | (with_reducible first | exact HB.out | apply lA | apply lN | apply lD | refine lS ?_ GE456.out | refine lS ?_ GE460.out) | exact HB.out))))
            rintro e w48 ⟨v469, rfl, ho0, hb⟩
            refine ⟨_, rfl, ?_⟩
            have n0_ := aZ (Kd.V_lower (Kd.V_mono (ok' := fun k_ => k_ ≠ gb456 ∧ k_ ≠ gb460) ho0 (fun k_ hk_ => ⟨Or.elim hk_ (fun hs_ => fun e_ => Nat.not_le.2 hs_ (by rw [e_]; exact GW456.out)) (fun hn_ => (Kd.freshB (g := gb456) (o := .cells #[.int .i64 x457000_1, .int .i64 x457001_1] 26 (0, 0)) (by (with_reducible repeat (first | refine bN ?_ _ | refine bD ?_ | refine bA ?_ _)); exact BK456.out) k_ hn_)), Or.elim hk_ (fun hs_ => fun e_ => Nat.not_le.2 hs_ (by rw [e_]; exact GW460.out)) (fun hn_ => (Kd.freshB (g := gb460) (o := .cells #[.int .i64 ((rd_T45 l0 x3_1).f0), .slice A459_1 ((rd_T45 l0 x3_1).f1).length c459_1, .slice A459_2 ((rd_T45 l0 x3_1).f2).length c459_2] 45 (0, 0)) (by (with_reducible repeat (first | refine bN ?_ _ | refine bD ?_ | refine bA ?_ _)); exact BK460.out) k_ hn_))⟩)) (lZ (by repeat (first | (with_reducible first | exact HB.out | apply lA | apply lN | apply lD | refine lS ?_ GE456.out | refine lS ?_ GE460.out) | exact HB.out))))
            have n1_ := aZ (blk_below (g := gb456) (o := .cells #[.int .i64 x457000_1, .int .i64 x457001_1] 26 (0, 0)) (by (with_reducible repeat (first | refine bN ?_ _ | refine bD ?_ | refine bA ?_ _)); exact BK456.out) hb)
            have n2_ := aZ (blk_below (g := gb460) (o := .cells #[.int .i64 ((rd_T45 l0 x3_1).f0), .slice A459_1 ((rd_T45 l0 x3_1).f1).length c459_1, .slice A459_2 ((rd_T45 l0 x3_1).f2).length c459_2] 45 (0, 0)) (by (with_reducible repeat (first | refine bN ?_ _ | refine bD ?_ | refine bA ?_ _)); exact BK460.out) hb)
            have n3_ := aZ (lT (by repeat (first | (with_reducible first | exact HB.out | apply lA | apply lN | apply lD | refine lS ?_ GE456.out | refine lS ?_ GE460.out) | exact HB.out)) hb)
            clear BK456
            clear BK460
            clear HB
            have HO470 := n0_
            have BK456 := n1_
            have BK460 := n2_
            have HB := n3_
            clear n0_ n1_ n2_ n3_
            (try clear hb)
            (try clear hb2)
            (try clear hk)
            (try clear hi)
            (try clear ho0)
            obtain ⟨Ao49, co49, eo49⟩ := Kd.V_slice HO470.out
            (first | subst eo49 | (injection eo49 with f1_ f2_ f3_; have f4_ := f1_.symm; have f5_ := f3_.symm; clear f1_ f2_ f3_; subst f4_; subst f5_))
            refine hK.out _ _ ⟨(blk_cell BK460.out 0).trans rfl, (blk_cell BK460.out 1).trans rfl, (blk_cell BK460.out 2).trans rfl⟩ (fun hHeld => ?_)
            clear hK K
            refine norm_ (a' := ?_) ?_ ?_
            rotate_left
            · show Act.put _ (some 64) _ = _
              simp only [Act.put, List.setIfInBounds_toArray, List.set_cons_zero, List.set_cons_succ, i64_w, i32_w]
              rfl
            refine two_ (i := 6) (j := 10) (Ni := some 67) (Nj := some 6) Z10 Z11 rfl rfl rfl rfl (two_of HT_.out (by kernel_rfl)) (by decide) (by decide) (fun K hK => ?_) (fun K hK => ?_)
            · skip
              refine goes_ Try.func16 (by kernel_rfl) rfl #[.slice Ao49 t468.length co49, .slice A459_2 ((rd_T45 l0 x3_1).f2).length c459_2] (by rfl) rfl rfl (by (try simp only [List.map_toArray, List.map_cons, List.map_nil]); first | done | rfl | (simp only [List.length_drop, List.length_take]; rfl)) ?_
              with_reducible refine (changeforgeref3_ApplyDelta.calls kj11 _ _ t468 _ _ ((rd_T45 l0 x3_1).f2) t471 t474 t475 _ ?side1 ?side2 ?side3 ?side4 A43.out).mono ?_
              (case side1 => repeat (first | exact (Kd.V_reads' HO470.out).2.2 | (with_reducible refine Kd.C_alloc ?_ _) | (with_reducible refine Kd.C_drewN ?_ _) | (with_reducible refine Kd.C_drew ?_)))
              (case side2 => exact (Kd.V_reads' HO470.out).2.1)
              (case side3 => repeat (first | exact (Kd.C_below HR459_2.out HB.out) | (with_reducible refine Kd.C_alloc ?_ _) | (with_reducible refine Kd.C_drewN ?_ _) | (with_reducible refine Kd.C_drew ?_)))
              (case side4 => exact HC459_2.out)
              rintro e w50 ⟨v472, rfl, ho0, hb⟩
              refine ⟨_, rfl, ?_⟩
              have n0_ := aZ (Kd.V_elder' (by (with_reducible repeat (first | apply Kd.V_alloc | apply Kd.V_drewN | apply Kd.V_drew)); exact HO470.out) (Kd.R_base ho0) hb)
              have n1_ := aZ (Kd.R_lower ho0 (lZ (by repeat (first | (with_reducible first | exact HB.out | apply lA | apply lN | apply lD | refine lS ?_ GE456.out | refine lS ?_ GE460.out) | exact HB.out))))
              have n2_ := aZ (blk_below (g := gb456) (o := .cells #[.int .i64 x457000_1, .int .i64 x457001_1] 26 (0, 0)) (by (with_reducible repeat (first | refine bN ?_ _ | refine bD ?_ | refine bA ?_ _)); exact BK456.out) hb)
              have n3_ := aZ (blk_below (g := gb460) (o := .cells #[.int .i64 ((rd_T45 l0 x3_1).f0), .slice A459_1 ((rd_T45 l0 x3_1).f1).length c459_1, .slice A459_2 ((rd_T45 l0 x3_1).f2).length c459_2] 45 (0, 0)) (by (with_reducible repeat (first | refine bN ?_ _ | refine bD ?_ | refine bA ?_ _)); exact BK460.out) hb)
              have n4_ := aZ (lT (by repeat (first | (with_reducible first | exact HB.out | apply lA | apply lN | apply lD | refine lS ?_ GE456.out | refine lS ?_ GE460.out) | exact HB.out)) hb)
              clear HO470
              clear BK456
              clear BK460
              clear HB
              have HO470 := n0_
              have HO473 := n1_
              have BK456 := n2_
              have BK460 := n3_
              have HB := n4_
              clear n0_ n1_ n2_ n3_ n4_
              (try clear hb)
              (try clear hb2)
              (try clear hk)
              (try clear hi)
              (try clear ho0)
              refine hK.out _ _ ⟨(blk_cell BK460.out 0).trans rfl, (blk_cell BK460.out 1).trans rfl, (blk_cell BK460.out 2).trans rfl⟩ (fun hHeld => ?_)
              clear hK K
              refine norm_ (a' := ?_) ?_ ?_
              rotate_left
              · show Act.put _ (some 67) _ = _
                simp only [Act.put, List.setIfInBounds_toArray, List.set_cons_zero, List.set_cons_succ, i64_w, i32_w]
                rfl
              refine pu 7 60 Z12 HT_ rfl rfl (h := ?_)
              refine pu 8 68 Z13 HT_ rfl rfl (h := ?_)
              refine pu 9 69 Z14 HT_ rfl rfl (h := ?_)
              refine one_ (i := 10) (N := some 6) Z7 rfl rfl (one_of HT_.out (by kernel_rfl)) (by decide) (fun K hK => ?_)
              refine box_step ?hg (N := 6) ?hd (cs := #[.int .i64 0, .int .i64 0]) (t := 26) ?hr ?_; (case hd => rfl); (case hg => rfl); (case hr => first | (go_simp; done) | (go_simp; rfl))
              intro gb476 hg w51 hbox hb
              have n0_ := aZ (Kd.V_below (Kd.V_elderB (by (with_reducible repeat (first | apply Kd.V_alloc | apply Kd.V_drewN | apply Kd.V_drew)); exact HO470.out) gb476 (Nat.le_of_eq hg.symm)) hb)
              have n1_ := aZ (Kd.R_below (by (with_reducible repeat (first | apply Kd.rA | apply Kd.rN | apply Kd.rD)); exact HO473.out) hb)
              have n2_ := aZ (blk_below (g := gb456) (o := .cells #[.int .i64 x457000_1, .int .i64 x457001_1] 26 (0, 0)) (by (with_reducible repeat (first | refine bN ?_ _ | refine bD ?_ | refine bA ?_ _)); exact BK456.out) hb)
              have n3_ := aZ (blk_below (g := gb460) (o := .cells #[.int .i64 ((rd_T45 l0 x3_1).f0), .slice A459_1 ((rd_T45 l0 x3_1).f1).length c459_1, .slice A459_2 ((rd_T45 l0 x3_1).f2).length c459_2] 45 (0, 0)) (by (with_reducible repeat (first | refine bN ?_ _ | refine bD ?_ | refine bA ?_ _)); exact BK460.out) hb)
              have n4_ := aZ (lT (by repeat (first | (with_reducible first | exact HB.out | apply lA | apply lN | apply lD | refine lS ?_ GE456.out | refine lS ?_ GE460.out) | exact HB.out)) hb)
              have n5_ := aZ (hbox)
              have n6_ := aZ ((by rw [hg]; exact (lZ (by repeat (first | (with_reducible first | exact HB.out | apply lA | apply lN | apply lD | refine lS ?_ GE456.out | refine lS ?_ GE460.out) | exact HB.out))) : w.heap.size ≤ gb476))
              have n7_ := aZ ((by rw [hg]; exact (lZ (by repeat (first | (with_reducible first | exact HB.out | apply lA | apply lN | apply lD | refine lS ?_ GE456.out | refine lS ?_ GE460.out) | exact HB.out))) : w.heap.size ≤ gb476))
              have n8_ := aZ ((by rw [hg]; exact Nat.ne_of_lt (blk_lt (g := gb456) (o := .cells #[.int .i64 x457000_1, .int .i64 x457001_1] 26 (0, 0)) (by (with_reducible repeat (first | refine bN ?_ _ | refine bD ?_ | refine bA ?_ _)); exact BK456.out)) : gb456 ≠ gb476))
              have n9_ := aZ ((by rw [hg]; exact Nat.ne_of_gt (blk_lt (g := gb456) (o := .cells #[.int .i64 x457000_1, .int .i64 x457001_1] 26 (0, 0)) (by (with_reducible repeat (first | refine bN ?_ _ | refine bD ?_ | refine bA ?_ _)); exact BK456.out)) : gb476 ≠ gb456))
              have n10_ := aZ ((by rw [hg]; exact Nat.ne_of_lt (blk_lt (g := gb460) (o := .cells #[.int .i64 ((rd_T45 l0 x3_1).f0), .slice A459_1 ((rd_T45 l0 x3_1).f1).length c459_1, .slice A459_2 ((rd_T45 l0 x3_1).f2).length c459_2] 45 (0, 0)) (by (with_reducible repeat (first | refine bN ?_ _ | refine bD ?_ | refine bA ?_ _)); exact BK460.out)) : gb460 ≠ gb476))
              have n11_ := aZ ((by rw [hg]; exact Nat.ne_of_gt (blk_lt (g := gb460) (o := .cells #[.int .i64 ((rd_T45 l0 x3_1).f0), .slice A459_1 ((rd_T45 l0 x3_1).f1).length c459_1, .slice A459_2 ((rd_T45 l0 x3_1).f2).length c459_2] 45 (0, 0)) (by (with_reducible repeat (first | refine bN ?_ _ | refine bD ?_ | refine bA ?_ _)); exact BK460.out)) : gb476 ≠ gb460))
              clear HO470
              clear HO473
              clear BK456
              clear BK460
              clear HB
              have HO470 := n0_
              have HO473 := n1_
              have BK456 := n2_
              have BK460 := n3_
              have HB := n4_
              have BK476 := n5_
              have GW476 := n6_
              have GE476 := n7_
              have NB456_476 := n8_
              have NB476_456 := n9_
              have NB460_476 := n10_
              have NB476_460 := n11_
              clear n0_ n1_ n2_ n3_ n4_ n5_ n6_ n7_ n8_ n9_ n10_ n11_
              clear hb hbox hg
              refine hK.out _ _ ⟨(blk_cell BK460.out 0).trans rfl, (blk_cell BK460.out 1).trans rfl, (blk_cell BK460.out 2).trans rfl⟩ (fun hHeld => ?_)
              clear hK K
              refine norm_ (a' := ?_) ?_ ?_
              rotate_left
              · show Act.put _ (some 6) _ = _
                simp only [Act.put, List.setIfInBounds_toArray, List.set_cons_zero, List.set_cons_succ, i64_w, i32_w]
                rfl
              exact norm_ (by simp only [putAll, Act.put, List.setIfInBounds_toArray, List.set_cons_zero, List.set_cons_succ]) (hCont (.slice Ao49 t468.length co49, v472, gb476) _ ⟨hHeld, (by (with_reducible repeat (first | apply Kd.V_alloc | apply Kd.V_drewN | apply Kd.V_drew)); exact Kd.V_mono HO470.out (fun _ hk => ⟨hk.1.2, ⟨hk.1.1.1, ⟨hk.1.1.2, hk.2⟩⟩⟩)), (by (with_reducible repeat (first | apply Kd.rA | apply Kd.rN | apply Kd.rD)); exact HO473.out), (by (with_reducible repeat (first | refine bN ?_ _ | refine bD ?_ | refine bA ?_ _)); exact BK456.out), (by (with_reducible repeat (first | refine bN ?_ _ | refine bD ?_ | refine bA ?_ _)); exact BK460.out), (by (with_reducible repeat (first | refine bN ?_ _ | refine bD ?_ | refine bA ?_ _)); exact BK476.out), GW476.out, GE476.out, NB456_476.out, NB476_456.out, NB460_476.out, NB476_460.out, (by repeat (first | (with_reducible first | exact HB.out | apply lA | apply lN | apply lD | refine lS ?_ GE456.out | refine lS ?_ GE460.out | refine lS ?_ GE476.out) | exact HB.out))⟩)
            · skip
              refine box_step ?hg (N := 6) ?hd (cs := #[.int .i64 0, .int .i64 0]) (t := 26) ?hr ?_; (case hd => rfl); (case hg => rfl); (case hr => first | (go_simp; done) | (go_simp; rfl))
              intro gb476 hg w49 hbox hb
              have n0_ := aZ (Kd.V_below (Kd.V_elderB (by (with_reducible repeat (first | apply Kd.V_alloc | apply Kd.V_drewN | apply Kd.V_drew)); exact HO470.out) gb476 (Nat.le_of_eq hg.symm)) hb)
              have n1_ := aZ (blk_below (g := gb456) (o := .cells #[.int .i64 x457000_1, .int .i64 x457001_1] 26 (0, 0)) (by (with_reducible repeat (first | refine bN ?_ _ | refine bD ?_ | refine bA ?_ _)); exact BK456.out) hb)
              have n2_ := aZ (blk_below (g := gb460) (o := .cells #[.int .i64 ((rd_T45 l0 x3_1).f0), .slice A459_1 ((rd_T45 l0 x3_1).f1).length c459_1, .slice A459_2 ((rd_T45 l0 x3_1).f2).length c459_2] 45 (0, 0)) (by (with_reducible repeat (first | refine bN ?_ _ | refine bD ?_ | refine bA ?_ _)); exact BK460.out) hb)
              have n3_ := aZ (lT (by repeat (first | (with_reducible first | exact HB.out | apply lA | apply lN | apply lD | refine lS ?_ GE456.out | refine lS ?_ GE460.out) | exact HB.out)) hb)
              have n4_ := aZ (hbox)
              have n5_ := aZ ((by rw [hg]; exact (lZ (by repeat (first | (with_reducible first | exact HB.out | apply lA | apply lN | apply lD | refine lS ?_ GE456.out | refine lS ?_ GE460.out) | exact HB.out))) : w.heap.size ≤ gb476))
              have n6_ := aZ ((by rw [hg]; exact (lZ (by repeat (first | (with_reducible first | exact HB.out | apply lA | apply lN | apply lD | refine lS ?_ GE456.out | refine lS ?_ GE460.out) | exact HB.out))) : w.heap.size ≤ gb476))
              have n7_ := aZ ((by rw [hg]; exact Nat.ne_of_lt (blk_lt (g := gb456) (o := .cells #[.int .i64 x457000_1, .int .i64 x457001_1] 26 (0, 0)) (by (with_reducible repeat (first | refine bN ?_ _ | refine bD ?_ | refine bA ?_ _)); exact BK456.out)) : gb456 ≠ gb476))
              have n8_ := aZ ((by rw [hg]; exact Nat.ne_of_gt (blk_lt (g := gb456) (o := .cells #[.int .i64 x457000_1, .int .i64 x457001_1] 26 (0, 0)) (by (with_reducible repeat (first | refine bN ?_ _ | refine bD ?_ | refine bA ?_ _)); exact BK456.out)) : gb476 ≠ gb456))
              have n9_ := aZ ((by rw [hg]; exact Nat.ne_of_lt (blk_lt (g := gb460) (o := .cells #[.int .i64 ((rd_T45 l0 x3_1).f0), .slice A459_1 ((rd_T45 l0 x3_1).f1).length c459_1, .slice A459_2 ((rd_T45 l0 x3_1).f2).length c459_2] 45 (0, 0)) (by (with_reducible repeat (first | refine bN ?_ _ | refine bD ?_ | refine bA ?_ _)); exact BK460.out)) : gb460 ≠ gb476))
              have n10_ := aZ ((by rw [hg]; exact Nat.ne_of_gt (blk_lt (g := gb460) (o := .cells #[.int .i64 ((rd_T45 l0 x3_1).f0), .slice A459_1 ((rd_T45 l0 x3_1).f1).length c459_1, .slice A459_2 ((rd_T45 l0 x3_1).f2).length c459_2] 45 (0, 0)) (by (with_reducible repeat (first | refine bN ?_ _ | refine bD ?_ | refine bA ?_ _)); exact BK460.out)) : gb476 ≠ gb460))
              clear HO470
              clear BK456
              clear BK460
              clear HB
              have HO470 := n0_
              have BK456 := n1_
              have BK460 := n2_
              have HB := n3_
              have BK476 := n4_
              have GW476 := n5_
              have GE476 := n6_
              have NB456_476 := n7_
              have NB476_456 := n8_
              have NB460_476 := n9_
              have NB476_460 := n10_
              clear n0_ n1_ n2_ n3_ n4_ n5_ n6_ n7_ n8_ n9_ n10_
              clear hb hbox hg
              obtain ⟨Ao50, co50, eo50⟩ := Kd.V_slice HO470.out
              (first | subst eo50 | (injection eo50 with f1_ f2_ f3_; have f4_ := f1_.symm; have f5_ := f3_.symm; clear f1_ f2_ f3_; subst f4_; subst f5_))
              refine hK.out _ _ ⟨(blk_cell BK460.out 0).trans rfl, (blk_cell BK460.out 1).trans rfl, (blk_cell BK460.out 2).trans rfl⟩ (fun hHeld => ?_)
              clear hK K
              refine norm_ (a' := ?_) ?_ ?_
              rotate_left
              · show Act.put _ (some 6) _ = _
                simp only [Act.put, List.setIfInBounds_toArray, List.set_cons_zero, List.set_cons_succ, i64_w, i32_w]
                rfl
              refine one_ (i := 6) (N := some 67) Z15 rfl rfl (one_of HT_.out (by kernel_rfl)) (by decide) (fun K hK => ?_)
              refine goes_ Try.func16 (by kernel_rfl) rfl #[.slice Ao50 t468.length co50, .slice A459_2 ((rd_T45 l0 x3_1).f2).length c459_2] (by rfl) rfl rfl (by (try simp only [List.map_toArray, List.map_cons, List.map_nil]); first | done | rfl | (simp only [List.length_drop, List.length_take]; rfl)) ?_
              with_reducible refine (changeforgeref3_ApplyDelta.calls kj11 _ _ t468 _ _ ((rd_T45 l0 x3_1).f2) t471 t474 t475 _ ?side1 ?side2 ?side3 ?side4 A43.out).mono ?_
              (case side1 => repeat (first | exact (Kd.V_reads' HO470.out).2.2 | (with_reducible refine Kd.C_alloc ?_ _) | (with_reducible refine Kd.C_drewN ?_ _) | (with_reducible refine Kd.C_drew ?_)))
              (case side2 => exact (Kd.V_reads' HO470.out).2.1)
              (case side3 => repeat (first | exact (Kd.C_below HR459_2.out HB.out) | (with_reducible refine Kd.C_alloc ?_ _) | (with_reducible refine Kd.C_drewN ?_ _) | (with_reducible refine Kd.C_drew ?_)))
              (case side4 => exact HC459_2.out)
              rintro e w51 ⟨v472, rfl, ho0, hb⟩
              refine ⟨_, rfl, ?_⟩
              have n0_ := aZ (Kd.V_elder' (by (with_reducible repeat (first | apply Kd.V_alloc | apply Kd.V_drewN | apply Kd.V_drew)); exact HO470.out) (Kd.R_base ho0) hb)
              have n1_ := aZ (Kd.R_lower ho0 (lZ (by repeat (first | (with_reducible first | exact HB.out | apply lA | apply lN | apply lD | refine lS ?_ GE456.out | refine lS ?_ GE460.out | refine lS ?_ GE476.out) | exact HB.out))))
              have n2_ := aZ (blk_below (g := gb456) (o := .cells #[.int .i64 x457000_1, .int .i64 x457001_1] 26 (0, 0)) (by (with_reducible repeat (first | refine bN ?_ _ | refine bD ?_ | refine bA ?_ _)); exact BK456.out) hb)
              have n3_ := aZ (blk_below (g := gb460) (o := .cells #[.int .i64 ((rd_T45 l0 x3_1).f0), .slice A459_1 ((rd_T45 l0 x3_1).f1).length c459_1, .slice A459_2 ((rd_T45 l0 x3_1).f2).length c459_2] 45 (0, 0)) (by (with_reducible repeat (first | refine bN ?_ _ | refine bD ?_ | refine bA ?_ _)); exact BK460.out) hb)
              have n4_ := aZ (blk_below (g := gb476) (o := .cells #[.int .i64 0, .int .i64 0] 26 (0, 0)) (by (with_reducible repeat (first | refine bN ?_ _ | refine bD ?_ | refine bA ?_ _)); exact BK476.out) hb)
              have n5_ := aZ (lT (by repeat (first | (with_reducible first | exact HB.out | apply lA | apply lN | apply lD | refine lS ?_ GE456.out | refine lS ?_ GE460.out | refine lS ?_ GE476.out) | exact HB.out)) hb)
              clear HO470
              clear BK456
              clear BK460
              clear BK476
              clear HB
              have HO470 := n0_
              have HO473 := n1_
              have BK456 := n2_
              have BK460 := n3_
              have BK476 := n4_
              have HB := n5_
              clear n0_ n1_ n2_ n3_ n4_ n5_
              (try clear hb)
              (try clear hb2)
              (try clear hk)
              (try clear hi)
              (try clear ho0)
              refine hK.out _ _ ⟨(blk_cell BK460.out 0).trans rfl, (blk_cell BK460.out 1).trans rfl, (blk_cell BK460.out 2).trans rfl⟩ (fun hHeld => ?_)
              clear hK K
              refine norm_ (a' := ?_) ?_ ?_
              rotate_left
              · show Act.put _ (some 67) _ = _
                simp only [Act.put, List.setIfInBounds_toArray, List.set_cons_zero, List.set_cons_succ, i64_w, i32_w]
                rfl
              refine pu 7 60 Z16 HT_ rfl rfl (h := ?_)
              refine pu 8 68 Z17 HT_ rfl rfl (h := ?_)
              refine pu 9 69 Z7 HT_ rfl rfl (h := ?_)
              exact norm_ (by simp only [putAll, Act.put, List.setIfInBounds_toArray, List.set_cons_zero, List.set_cons_succ]) (hCont (.slice Ao50 t468.length co50, v472, gb476) _ ⟨hHeld, (by (with_reducible repeat (first | apply Kd.V_alloc | apply Kd.V_drewN | apply Kd.V_drew)); exact Kd.V_mono HO470.out (fun _ hk => ⟨hk.2, ⟨hk.1.1.1, ⟨hk.1.1.2, hk.1.2⟩⟩⟩)), (by (with_reducible repeat (first | apply Kd.rA | apply Kd.rN | apply Kd.rD)); exact HO473.out), (by (with_reducible repeat (first | refine bN ?_ _ | refine bD ?_ | refine bA ?_ _)); exact BK456.out), (by (with_reducible repeat (first | refine bN ?_ _ | refine bD ?_ | refine bA ?_ _)); exact BK460.out), (by (with_reducible repeat (first | refine bN ?_ _ | refine bD ?_ | refine bA ?_ _)); exact BK476.out), GW476.out, GE476.out, NB456_476.out, NB476_456.out, NB460_476.out, NB476_460.out, (by repeat (first | (with_reducible first | exact HB.out | apply lA | apply lN | apply lD | refine lS ?_ GE456.out | refine lS ?_ GE460.out | refine lS ?_ GE476.out) | exact HB.out))⟩)
          · skip
            refine box_step ?hg (N := 6) ?hd (cs := #[.int .i64 0, .int .i64 0]) (t := 26) ?hr ?_; (case hd => rfl); (case hg => rfl); (case hr => first | (go_simp; done) | (go_simp; rfl))
            intro gb476 hg w48 hbox hb
            have n0_ := aZ (blk_below (g := gb456) (o := .cells #[.int .i64 x457000_1, .int .i64 x457001_1] 26 (0, 0)) (by (with_reducible repeat (first | refine bN ?_ _ | refine bD ?_ | refine bA ?_ _)); exact BK456.out) hb)
            have n1_ := aZ (blk_below (g := gb460) (o := .cells #[.int .i64 ((rd_T45 l0 x3_1).f0), .slice A459_1 ((rd_T45 l0 x3_1).f1).length c459_1, .slice A459_2 ((rd_T45 l0 x3_1).f2).length c459_2] 45 (0, 0)) (by (with_reducible repeat (first | refine bN ?_ _ | refine bD ?_ | refine bA ?_ _)); exact BK460.out) hb)
            have n2_ := aZ (lT (by repeat (first | (with_reducible first | exact HB.out | apply lA | apply lN | apply lD | refine lS ?_ GE456.out | refine lS ?_ GE460.out) | exact HB.out)) hb)
            have n3_ := aZ (hbox)
            have n4_ := aZ ((by rw [hg]; exact (lZ (by repeat (first | (with_reducible first | exact HB.out | apply lA | apply lN | apply lD | refine lS ?_ GE456.out | refine lS ?_ GE460.out) | exact HB.out))) : w.heap.size ≤ gb476))
            have n5_ := aZ ((by rw [hg]; exact (lZ (by repeat (first | (with_reducible first | exact HB.out | apply lA | apply lN | apply lD | refine lS ?_ GE456.out | refine lS ?_ GE460.out) | exact HB.out))) : w.heap.size ≤ gb476))
            have n6_ := aZ ((by rw [hg]; exact Nat.ne_of_lt (blk_lt (g := gb456) (o := .cells #[.int .i64 x457000_1, .int .i64 x457001_1] 26 (0, 0)) (by (with_reducible repeat (first | refine bN ?_ _ | refine bD ?_ | refine bA ?_ _)); exact BK456.out)) : gb456 ≠ gb476))
            have n7_ := aZ ((by rw [hg]; exact Nat.ne_of_gt (blk_lt (g := gb456) (o := .cells #[.int .i64 x457000_1, .int .i64 x457001_1] 26 (0, 0)) (by (with_reducible repeat (first | refine bN ?_ _ | refine bD ?_ | refine bA ?_ _)); exact BK456.out)) : gb476 ≠ gb456))
            have n8_ := aZ ((by rw [hg]; exact Nat.ne_of_lt (blk_lt (g := gb460) (o := .cells #[.int .i64 ((rd_T45 l0 x3_1).f0), .slice A459_1 ((rd_T45 l0 x3_1).f1).length c459_1, .slice A459_2 ((rd_T45 l0 x3_1).f2).length c459_2] 45 (0, 0)) (by (with_reducible repeat (first | refine bN ?_ _ | refine bD ?_ | refine bA ?_ _)); exact BK460.out)) : gb460 ≠ gb476))
            have n9_ := aZ ((by rw [hg]; exact Nat.ne_of_gt (blk_lt (g := gb460) (o := .cells #[.int .i64 ((rd_T45 l0 x3_1).f0), .slice A459_1 ((rd_T45 l0 x3_1).f1).length c459_1, .slice A459_2 ((rd_T45 l0 x3_1).f2).length c459_2] 45 (0, 0)) (by (with_reducible repeat (first | refine bN ?_ _ | refine bD ?_ | refine bA ?_ _)); exact BK460.out)) : gb476 ≠ gb460))
            clear BK456
            clear BK460
            clear HB
            have BK456 := n0_
            have BK460 := n1_
            have HB := n2_
            have BK476 := n3_
            have GW476 := n4_
            have GE476 := n5_
            have NB456_476 := n6_
            have NB476_456 := n7_
            have NB460_476 := n8_
            have NB476_460 := n9_
            clear n0_ n1_ n2_ n3_ n4_ n5_ n6_ n7_ n8_ n9_
            clear hb hbox hg
            refine hK.out _ _ ⟨(blk_cell BK460.out 0).trans rfl, (blk_cell BK460.out 1).trans rfl, (blk_cell BK460.out 2).trans rfl⟩ (fun hHeld => ?_)
            clear hK K
            refine norm_ (a' := ?_) ?_ ?_
            rotate_left
            · show Act.put _ (some 6) _ = _
              simp only [Act.put, List.setIfInBounds_toArray, List.set_cons_zero, List.set_cons_succ, i64_w, i32_w]
              rfl
            refine one_ (i := 3) (N := some 64) Z11 rfl rfl (one_of HT_.out (by kernel_rfl)) (by decide) (fun K hK => ?_)
            refine goes_ Try.func23 (by kernel_rfl) rfl #[.slice (some ad459) l0.length c0, .int .i64 ((rd_T45 l0 x3_1).f0)] (by rfl) rfl rfl (by (try simp only [List.map_toArray, List.map_cons, List.map_nil]); first | done | rfl | (simp only [List.length_drop, List.length_take]; rfl)) ?_
            with_reducible refine (changeforgeref3_ChainVersion.calls kj11 (fun k_ => k_ < w.heap.size) _ _ l0 ((rd_T45 l0 x3_1).f0) t468 _ ?side1 A42.out).mono ?_
            (case side1 => exact Kd.V_mk HC0.out (Kd.F_below (Kd.C_F k45_heap HR0.out) (by repeat (first | (with_reducible first | exact HB.out | apply lA | apply lN | apply lD | refine lS ?_ GE456.out | refine lS ?_ GE460.out | refine lS ?_ GE476.out) | exact HB.out))))
            rintro e w49 ⟨v469, rfl, ho0, hb⟩
            refine ⟨_, rfl, ?_⟩
            have n0_ := aZ (Kd.V_lower (Kd.V_mono (ok' := fun k_ => k_ ≠ gb456 ∧ k_ ≠ gb460 ∧ k_ ≠ gb476) ho0 (fun k_ hk_ => ⟨Or.elim hk_ (fun hs_ => fun e_ => Nat.not_le.2 hs_ (by rw [e_]; exact GW456.out)) (fun hn_ => (Kd.freshB (g := gb456) (o := .cells #[.int .i64 x457000_1, .int .i64 x457001_1] 26 (0, 0)) (by (with_reducible repeat (first | refine bN ?_ _ | refine bD ?_ | refine bA ?_ _)); exact BK456.out) k_ hn_)), Or.elim hk_ (fun hs_ => fun e_ => Nat.not_le.2 hs_ (by rw [e_]; exact GW460.out)) (fun hn_ => (Kd.freshB (g := gb460) (o := .cells #[.int .i64 ((rd_T45 l0 x3_1).f0), .slice A459_1 ((rd_T45 l0 x3_1).f1).length c459_1, .slice A459_2 ((rd_T45 l0 x3_1).f2).length c459_2] 45 (0, 0)) (by (with_reducible repeat (first | refine bN ?_ _ | refine bD ?_ | refine bA ?_ _)); exact BK460.out) k_ hn_)), Or.elim hk_ (fun hs_ => fun e_ => Nat.not_le.2 hs_ (by rw [e_]; exact GW476.out)) (fun hn_ => (Kd.freshB (g := gb476) (o := .cells #[.int .i64 0, .int .i64 0] 26 (0, 0)) (by (with_reducible repeat (first | refine bN ?_ _ | refine bD ?_ | refine bA ?_ _)); exact BK476.out) k_ hn_))⟩)) (lZ (by repeat (first | (with_reducible first | exact HB.out | apply lA | apply lN | apply lD | refine lS ?_ GE456.out | refine lS ?_ GE460.out | refine lS ?_ GE476.out) | exact HB.out))))
            have n1_ := aZ (blk_below (g := gb456) (o := .cells #[.int .i64 x457000_1, .int .i64 x457001_1] 26 (0, 0)) (by (with_reducible repeat (first | refine bN ?_ _ | refine bD ?_ | refine bA ?_ _)); exact BK456.out) hb)
            have n2_ := aZ (blk_below (g := gb460) (o := .cells #[.int .i64 ((rd_T45 l0 x3_1).f0), .slice A459_1 ((rd_T45 l0 x3_1).f1).length c459_1, .slice A459_2 ((rd_T45 l0 x3_1).f2).length c459_2] 45 (0, 0)) (by (with_reducible repeat (first | refine bN ?_ _ | refine bD ?_ | refine bA ?_ _)); exact BK460.out) hb)
            have n3_ := aZ (blk_below (g := gb476) (o := .cells #[.int .i64 0, .int .i64 0] 26 (0, 0)) (by (with_reducible repeat (first | refine bN ?_ _ | refine bD ?_ | refine bA ?_ _)); exact BK476.out) hb)
            have n4_ := aZ (lT (by repeat (first | (with_reducible first | exact HB.out | apply lA | apply lN | apply lD | refine lS ?_ GE456.out | refine lS ?_ GE460.out | refine lS ?_ GE476.out) | exact HB.out)) hb)
            clear BK456
            clear BK460
            clear BK476
            clear HB
            have HO470 := n0_
            have BK456 := n1_
            have BK460 := n2_
            have BK476 := n3_
            have HB := n4_
            clear n0_ n1_ n2_ n3_ n4_
            (try clear hb)
            (try clear hb2)
            (try clear hk)
            (try clear hi)
            (try clear ho0)
            obtain ⟨Ao50, co50, eo50⟩ := Kd.V_slice HO470.out
            (first | subst eo50 | (injection eo50 with f1_ f2_ f3_; have f4_ := f1_.symm; have f5_ := f3_.symm; clear f1_ f2_ f3_; subst f4_; subst f5_))
            refine hK.out _ _ ⟨(blk_cell BK460.out 0).trans rfl, (blk_cell BK460.out 1).trans rfl, (blk_cell BK460.out 2).trans rfl⟩ (fun hHeld => ?_)
            clear hK K
            refine norm_ (a' := ?_) ?_ ?_
            rotate_left
            · show Act.put _ (some 64) _ = _
              simp only [Act.put, List.setIfInBounds_toArray, List.set_cons_zero, List.set_cons_succ, i64_w, i32_w]
              rfl
            refine one_ (i := 6) (N := some 67) Z15 rfl rfl (one_of HT_.out (by kernel_rfl)) (by decide) (fun K hK => ?_)
            refine goes_ Try.func16 (by kernel_rfl) rfl #[.slice Ao50 t468.length co50, .slice A459_2 ((rd_T45 l0 x3_1).f2).length c459_2] (by rfl) rfl rfl (by (try simp only [List.map_toArray, List.map_cons, List.map_nil]); first | done | rfl | (simp only [List.length_drop, List.length_take]; rfl)) ?_
            with_reducible refine (changeforgeref3_ApplyDelta.calls kj11 _ _ t468 _ _ ((rd_T45 l0 x3_1).f2) t471 t474 t475 _ ?side1 ?side2 ?side3 ?side4 A43.out).mono ?_
            (case side1 => repeat (first | exact (Kd.V_reads' HO470.out).2.2 | (with_reducible refine Kd.C_alloc ?_ _) | (with_reducible refine Kd.C_drewN ?_ _) | (with_reducible refine Kd.C_drew ?_)))
            (case side2 => exact (Kd.V_reads' HO470.out).2.1)
            (case side3 => repeat (first | exact (Kd.C_below HR459_2.out HB.out) | (with_reducible refine Kd.C_alloc ?_ _) | (with_reducible refine Kd.C_drewN ?_ _) | (with_reducible refine Kd.C_drew ?_)))
            (case side4 => exact HC459_2.out)
            rintro e w51 ⟨v472, rfl, ho0, hb⟩
            refine ⟨_, rfl, ?_⟩
            have n0_ := aZ (Kd.V_elder' (by (with_reducible repeat (first | apply Kd.V_alloc | apply Kd.V_drewN | apply Kd.V_drew)); exact HO470.out) (Kd.R_base ho0) hb)
            have n1_ := aZ (Kd.R_lower ho0 (lZ (by repeat (first | (with_reducible first | exact HB.out | apply lA | apply lN | apply lD | refine lS ?_ GE456.out | refine lS ?_ GE460.out | refine lS ?_ GE476.out) | exact HB.out))))
            have n2_ := aZ (blk_below (g := gb456) (o := .cells #[.int .i64 x457000_1, .int .i64 x457001_1] 26 (0, 0)) (by (with_reducible repeat (first | refine bN ?_ _ | refine bD ?_ | refine bA ?_ _)); exact BK456.out) hb)
            have n3_ := aZ (blk_below (g := gb460) (o := .cells #[.int .i64 ((rd_T45 l0 x3_1).f0), .slice A459_1 ((rd_T45 l0 x3_1).f1).length c459_1, .slice A459_2 ((rd_T45 l0 x3_1).f2).length c459_2] 45 (0, 0)) (by (with_reducible repeat (first | refine bN ?_ _ | refine bD ?_ | refine bA ?_ _)); exact BK460.out) hb)
            have n4_ := aZ (blk_below (g := gb476) (o := .cells #[.int .i64 0, .int .i64 0] 26 (0, 0)) (by (with_reducible repeat (first | refine bN ?_ _ | refine bD ?_ | refine bA ?_ _)); exact BK476.out) hb)
            have n5_ := aZ (lT (by repeat (first | (with_reducible first | exact HB.out | apply lA | apply lN | apply lD | refine lS ?_ GE456.out | refine lS ?_ GE460.out | refine lS ?_ GE476.out) | exact HB.out)) hb)
            clear HO470
            clear BK456
            clear BK460
            clear BK476
            clear HB
            have HO470 := n0_
            have HO473 := n1_
            have BK456 := n2_
            have BK460 := n3_
            have BK476 := n4_
            have HB := n5_
            clear n0_ n1_ n2_ n3_ n4_ n5_
            (try clear hb)
            (try clear hb2)
            (try clear hk)
            (try clear hi)
            (try clear ho0)
            refine hK.out _ _ ⟨(blk_cell BK460.out 0).trans rfl, (blk_cell BK460.out 1).trans rfl, (blk_cell BK460.out 2).trans rfl⟩ (fun hHeld => ?_)
            clear hK K
            refine norm_ (a' := ?_) ?_ ?_
            rotate_left
            · show Act.put _ (some 67) _ = _
              simp only [Act.put, List.setIfInBounds_toArray, List.set_cons_zero, List.set_cons_succ, i64_w, i32_w]
              rfl
            refine pu 7 60 Z16 HT_ rfl rfl (h := ?_)
            refine pu 8 68 Z17 HT_ rfl rfl (h := ?_)
            refine pu 9 69 Z7 HT_ rfl rfl (h := ?_)
            exact norm_ (by simp only [putAll, Act.put, List.setIfInBounds_toArray, List.set_cons_zero, List.set_cons_succ]) (hCont (.slice Ao50 t468.length co50, v472, gb476) _ ⟨hHeld, (by (with_reducible repeat (first | apply Kd.V_alloc | apply Kd.V_drewN | apply Kd.V_drew)); exact Kd.V_mono HO470.out (fun _ hk => ⟨hk.2, ⟨hk.1.1, ⟨hk.1.2.1, hk.1.2.2⟩⟩⟩)), (by (with_reducible repeat (first | apply Kd.rA | apply Kd.rN | apply Kd.rD)); exact HO473.out), (by (with_reducible repeat (first | refine bN ?_ _ | refine bD ?_ | refine bA ?_ _)); exact BK456.out), (by (with_reducible repeat (first | refine bN ?_ _ | refine bD ?_ | refine bA ?_ _)); exact BK460.out), (by (with_reducible repeat (first | refine bN ?_ _ | refine bD ?_ | refine bA ?_ _)); exact BK476.out), GW476.out, GE476.out, NB456_476.out, NB476_456.out, NB460_476.out, NB476_460.out, (by repeat (first | (with_reducible first | exact HB.out | apply lA | apply lN | apply lD | refine lS ?_ GE456.out | refine lS ?_ GE460.out | refine lS ?_ GE476.out) | exact HB.out))⟩)
        rintro ⟨v469, v472, gb476⟩ w52 ⟨hS_, h0_, h1_, h2_, h3_, h4_, h5_, h6_, h7_, h8_, h9_, h10_, h11_⟩
        have n0_ : Aside0 (Kd.V (Kd.int .u8) 5 w52 w.heap.size (fun k_ => some k_ ≠ (v472 : Value).ownBlock ∧ k_ ≠ gb456 ∧ k_ ≠ gb460 ∧ k_ ≠ gb476) v469 t468) := ⟨h0_⟩
        have n1_ : Aside0 (Kd.R (Kd.int .u8) 5 w52 w.heap.size (fun _ => True) v472 t471) := ⟨h1_⟩
        have n2_ : Aside0 (w52.heap[gb456]? = some (.cells #[.int .i64 x457000_1, .int .i64 x457001_1] 26 (0, 0))) := ⟨h2_⟩
        have n3_ : Aside0 (w52.heap[gb460]? = some (.cells #[.int .i64 ((rd_T45 l0 x3_1).f0), .slice A459_1 ((rd_T45 l0 x3_1).f1).length c459_1, .slice A459_2 ((rd_T45 l0 x3_1).f2).length c459_2] 45 (0, 0))) := ⟨h3_⟩
        have n4_ : Aside0 (w52.heap[gb476]? = some (.cells #[.int .i64 0, .int .i64 0] 26 (0, 0))) := ⟨h4_⟩
        have n5_ : Aside0 (w.heap.size ≤ gb476) := ⟨h5_⟩
        have n6_ : Aside0 (w.heap.size ≤ gb476) := ⟨h6_⟩
        have n7_ : Aside0 (gb456 ≠ gb476) := ⟨h7_⟩
        have n8_ : Aside0 (gb476 ≠ gb456) := ⟨h8_⟩
        have n9_ : Aside0 (gb460 ≠ gb476) := ⟨h9_⟩
        have n10_ : Aside0 (gb476 ≠ gb460) := ⟨h10_⟩
        have n11_ : Aside0 (Below w.heap.size w w52) := ⟨h11_⟩
        clear BK456
        clear BK460
        clear HB
        clear h0_ h1_ h2_ h3_ h4_ h5_ h6_ h7_ h8_ h9_ h10_ h11_
        have HO470 := n0_
        have HO473 := n1_
        have BK456 := n2_
        have BK460 := n3_
        have BK476 := n4_
        have GW476 := n5_
        have GE476 := n6_
        have NB456_476 := n7_
        have NB476_456 := n8_
        have NB460_476 := n9_
        have NB476_460 := n10_
        have HB := n11_
        clear n0_ n1_ n2_ n3_ n4_ n5_ n6_ n7_ n8_ n9_ n10_ n11_
        have hHeld : w52.cell? ⟨gb460, 0, none⟩ = some (.int .i64 ((rd_T45 l0 x3_1).f0)) ∧ w52.cell? ⟨gb460, 1, none⟩ = some (.slice A459_1 ((rd_T45 l0 x3_1).f1).length c459_1) ∧ w52.cell? ⟨gb460, 2, none⟩ = some (.slice A459_2 ((rd_T45 l0 x3_1).f2).length c459_2) := hS_
        refine norm_ (a' := ?_) ?_ ?_
        rotate_left
        · simp only [putAll, Act.put, List.setIfInBounds_toArray, List.set_cons_zero, List.set_cons_succ]
          rfl
        refine pu 11 5 Z18 HT_ rfl rfl (h := ?_)
        refine one_ (i := 12) (N := none) Z19 rfl rfl (one_of HT_.out (by kernel_rfl)) (by decide) (fun K hK => ?_)
        have hs53 : w52.cell? ⟨gb476, 0, none⟩ = some (.int .i64 0) := (blk_cell BK476.out 0).trans rfl
        have hfs53 := blk_frozen BK476.out 0
        have hns53_0 := NB456_476.out
        have hns53_1 := NB460_476.out
        have hms53_0 := NB476_456.out
        have hms53_1 := NB476_460.out
        have hs54 : w52.cell? ⟨gb476, 1, none⟩ = some (.int .i64 0) := (blk_cell BK476.out 1).trans rfl
        have hfs54 := blk_frozen BK476.out 1
        have hns54_0 := NB456_476.out
        have hns54_1 := NB460_476.out
        have hms54_0 := NB476_456.out
        have hms54_1 := NB476_460.out
        refine skip_ (w1 := ?_) (by rfl) rfl ?_ ?_
        rotate_left
        · go_simp
          rfl
        refine hK.out _ _ ⟨((cell_far (p := ⟨gb476, _, none⟩) NB460_476.out _).trans (((cell_far (p := ⟨gb476, _, none⟩) NB460_476.out _).trans (hHeld.1)))), ((cell_far (p := ⟨gb476, _, none⟩) NB460_476.out _).trans (((cell_far (p := ⟨gb476, _, none⟩) NB460_476.out _).trans (hHeld.2.1)))), ((cell_far (p := ⟨gb476, _, none⟩) NB460_476.out _).trans (((cell_far (p := ⟨gb476, _, none⟩) NB460_476.out _).trans (hHeld.2.2))))⟩ (fun hHeld => ?_)
        clear hK K
        refine done_ (done_of HT_.out (by kernel_rfl)) ?_
        have hnb55 := NB476_456.out
        have hnc55 := NB456_476.out
        have hnb56 := NB476_460.out
        have hnc56 := NB460_476.out
        have hcz57_0 : w52.cell? ⟨gb476, 0, none⟩ = some (.int .i64 0) := (blk_cell BK476.out 0).trans rfl
        have hcz57_1 : w52.cell? ⟨gb476, 1, none⟩ = some (.int .i64 0) := (blk_cell BK476.out 1).trans rfl
        have hfz57_0 := blk_frozen BK476.out 0
        have hfz57_1 := blk_frozen BK476.out 1
        try go_wp2
        go_roundg kj11
        case measure => have := HK1.out; have := HJ11.out; omega
        case rel => exact ⟨(wrap64 (x3_1 + 1)), (x457000_1), (x457001_1), (by first | rfl | (simp; done) | (simp [*]; done) | (simp [i64_w]; done)), H', ⟨by have := HK1.out; have := HJ11.out; omega⟩, ⟨by (with_reducible repeat (first | refine bN ?_ _ | refine bD ?_ | refine bA ?_ _)); refine blk_far ?_ NB456_476.out _; (with_reducible repeat (first | refine bN ?_ _ | refine bD ?_ | refine bA ?_ _)); refine blk_far ?_ NB456_476.out _; (with_reducible repeat (first | refine bN ?_ _ | refine bD ?_ | refine bA ?_ _)); exact BK456.out⟩, ⟨by repeat (first | (with_reducible first | exact HB.out | apply lA | apply lN | apply lD | refine lS ?_ GE456.out | refine lS ?_ GE460.out | refine lS ?_ GE476.out) | exact HB.out)⟩⟩
      rw [if_neg c44] at H
      have c44b0 : (t474 == 0) = false := beq_eq_false_iff_ne.mpr c44
      have c44b1 : (t474 != 0) = true := bne_iff_ne.mpr c44
      replace H := Option.bind_eq_some_iff.mp H
      obtain ⟨⟨t477, t478⟩, A580, H⟩ := H
      replace H : (some (t477, t478)) = some (r1, r2) := H
      have A58 := aZ A580
      clear A580
      simp only [Option.some.injEq, Prod.mk.injEq] at H
      obtain ⟨rfl, rfl⟩ := H
      have hnb59 := NB460_456.out
      have hnc59 := NB456_460.out
      have hcz60_0 : wc.cell? ⟨gb460, 0, none⟩ = some (.int .i64 ((rd_T45 l0 x3_1).f0)) := (blk_cell BK460.out 0).trans rfl
      have hcz60_1 : wc.cell? ⟨gb460, 1, none⟩ = some (.slice A459_1 ((rd_T45 l0 x3_1).f1).length c459_1) := (blk_cell BK460.out 1).trans rfl
      have hcz60_2 : wc.cell? ⟨gb460, 2, none⟩ = some (.slice A459_2 ((rd_T45 l0 x3_1).f2).length c459_2) := (blk_cell BK460.out 2).trans rfl
      have hfz60_0 := blk_frozen BK460.out 0
      have hfz60_1 := blk_frozen BK460.out 1
      have hfz60_2 := blk_frozen BK460.out 2
      try go_wp2
      have n0_ := aZ (bD BK456.out)
      have n1_ := aZ (bD BK460.out)
      have n2_ := aZ (lD HB.out)
      clear BK456
      clear BK460
      clear HB
      have BK456 := n0_
      have BK460 := n1_
      have HB := n2_
      clear n0_ n1_ n2_
      refine start_ (n := 13) (S := fun w' => w'.cell? ⟨gb460, 0, none⟩ = some (.int .i64 ((rd_T45 l0 x3_1).f0)) ∧ w'.cell? ⟨gb460, 1, none⟩ = some (.slice A459_1 ((rd_T45 l0 x3_1).f1).length c459_1) ∧ w'.cell? ⟨gb460, 2, none⟩ = some (.slice A459_2 ((rd_T45 l0 x3_1).f2).length c459_2)) (ds := []) Z1 (by kernel_rfl) rfl rfl ⟨(blk_cell BK460.out 0).trans rfl, (blk_cell BK460.out 1).trans rfl, (blk_cell BK460.out 2).trans rfl⟩ (fun hHeld => ?_); refine with_tabW changeforgeref3_ChainFault.tab14 changeforgeref3_ChainFault.bits14 (fun HT_ HW_ => ?_)
      generalize wc.drew = w61 at BK456 BK460 HB hHeld ⊢
      refine pu 0 61 Z2 HT_ rfl rfl (h := ?_)
      refine pu 1 62 Z3 HT_ rfl rfl (h := ?_)
      refine pu 4 65 Z4 HT_ rfl rfl (h := ?_)
      refine tk 2 63 Z5 HT_ HW_ rfl rfl hHeld (by rintro w' ⟨s0, s1, s2⟩; go_simp; with_reducible rfl) (h := ?_)
      refine tk 5 66 Z6 HT_ HW_ rfl rfl hHeld (by rintro w' ⟨s0, s1, s2⟩; go_simp; with_reducible rfl) (h := ?_)
      refine join_ (σ := Value × Value × Nat) 2 Z7 (fun s_ => [(64, s_.1), (67, .tuple #[s_.2.1, .agg #[.int .i64 t474, .int .i64 t475]]), (6, .pointer (some ⟨s_.2.2, 0, none⟩)), (60, .tuple #[s_.2.1, .agg #[.int .i64 t474, .int .i64 t475]]), (68, s_.2.1), (69, .agg #[.int .i64 t474, .int .i64 t475])]) (fun s_ w' => (w'.cell? ⟨gb460, 0, none⟩ = some (.int .i64 ((rd_T45 l0 x3_1).f0)) ∧ w'.cell? ⟨gb460, 1, none⟩ = some (.slice A459_1 ((rd_T45 l0 x3_1).f1).length c459_1) ∧ w'.cell? ⟨gb460, 2, none⟩ = some (.slice A459_2 ((rd_T45 l0 x3_1).f2).length c459_2)) ∧ (Kd.V (Kd.int .u8) 5 w' w.heap.size (fun k_ => some k_ ≠ (s_.2.1 : Value).ownBlock ∧ k_ ≠ gb456 ∧ k_ ≠ gb460 ∧ k_ ≠ s_.2.2) s_.1 t468) ∧ (Kd.R (Kd.int .u8) 5 w' w.heap.size (fun _ => True) s_.2.1 t471) ∧ (w'.heap[gb456]? = some (.cells #[.int .i64 x457000_1, .int .i64 x457001_1] 26 (0, 0))) ∧ (w'.heap[gb460]? = some (.cells #[.int .i64 ((rd_T45 l0 x3_1).f0), .slice A459_1 ((rd_T45 l0 x3_1).f1).length c459_1, .slice A459_2 ((rd_T45 l0 x3_1).f2).length c459_2] 45 (0, 0))) ∧ (w'.heap[s_.2.2]? = some (.cells #[.int .i64 0, .int .i64 0] 26 (0, 0))) ∧ (w.heap.size ≤ s_.2.2) ∧ (w.heap.size ≤ s_.2.2) ∧ (gb456 ≠ s_.2.2) ∧ (s_.2.2 ≠ gb456) ∧ (gb460 ≠ s_.2.2) ∧ (s_.2.2 ≠ gb460) ∧ (Below w.heap.size w w')) ?_ ?_
      rotate_left
      · intro hCont
        refine two_ (i := 3) (j := 10) (Ni := some 64) (Nj := some 6) Z8 Z9 rfl rfl rfl rfl (two_of HT_.out (by kernel_rfl)) (by decide) (by decide) (fun K hK => ?_) (fun K hK => ?_)
        · skip
          refine goes_ Try.func23 (by kernel_rfl) rfl #[.slice (some ad459) l0.length c0, .int .i64 ((rd_T45 l0 x3_1).f0)] (by rfl) rfl rfl (by (try simp only [List.map_toArray, List.map_cons, List.map_nil]); first | done | rfl | (simp only [List.length_drop, List.length_take]; rfl)) ?_
          with_reducible refine (changeforgeref3_ChainVersion.calls kj11 (fun k_ => k_ < w.heap.size) _ _ l0 ((rd_T45 l0 x3_1).f0) t468 _ ?side1 A42.out).mono ?_
          (case side1 => exact Kd.V_mk HC0.out (Kd.F_below (Kd.C_F k45_heap HR0.out) (by repeat (first | (with_reducible first | exact HB.out | apply lA | apply lN | apply lD | refine lS ?_ GE456.out | refine lS ?_ GE460.out) | exact HB.out))))
          rintro e w62 ⟨v469, rfl, ho0, hb⟩
          refine ⟨_, rfl, ?_⟩
          have n0_ := aZ (Kd.V_lower (Kd.V_mono (ok' := fun k_ => k_ ≠ gb456 ∧ k_ ≠ gb460) ho0 (fun k_ hk_ => ⟨Or.elim hk_ (fun hs_ => fun e_ => Nat.not_le.2 hs_ (by rw [e_]; exact GW456.out)) (fun hn_ => (Kd.freshB (g := gb456) (o := .cells #[.int .i64 x457000_1, .int .i64 x457001_1] 26 (0, 0)) (by (with_reducible repeat (first | refine bN ?_ _ | refine bD ?_ | refine bA ?_ _)); exact BK456.out) k_ hn_)), Or.elim hk_ (fun hs_ => fun e_ => Nat.not_le.2 hs_ (by rw [e_]; exact GW460.out)) (fun hn_ => (Kd.freshB (g := gb460) (o := .cells #[.int .i64 ((rd_T45 l0 x3_1).f0), .slice A459_1 ((rd_T45 l0 x3_1).f1).length c459_1, .slice A459_2 ((rd_T45 l0 x3_1).f2).length c459_2] 45 (0, 0)) (by (with_reducible repeat (first | refine bN ?_ _ | refine bD ?_ | refine bA ?_ _)); exact BK460.out) k_ hn_))⟩)) (lZ (by repeat (first | (with_reducible first | exact HB.out | apply lA | apply lN | apply lD | refine lS ?_ GE456.out | refine lS ?_ GE460.out) | exact HB.out))))
          have n1_ := aZ (blk_below (g := gb456) (o := .cells #[.int .i64 x457000_1, .int .i64 x457001_1] 26 (0, 0)) (by (with_reducible repeat (first | refine bN ?_ _ | refine bD ?_ | refine bA ?_ _)); exact BK456.out) hb)
          have n2_ := aZ (blk_below (g := gb460) (o := .cells #[.int .i64 ((rd_T45 l0 x3_1).f0), .slice A459_1 ((rd_T45 l0 x3_1).f1).length c459_1, .slice A459_2 ((rd_T45 l0 x3_1).f2).length c459_2] 45 (0, 0)) (by (with_reducible repeat (first | refine bN ?_ _ | refine bD ?_ | refine bA ?_ _)); exact BK460.out) hb)
          have n3_ := aZ (lT (by repeat (first | (with_reducible first | exact HB.out | apply lA | apply lN | apply lD | refine lS ?_ GE456.out | refine lS ?_ GE460.out) | exact HB.out)) hb)
          clear BK456
          clear BK460
          clear HB
          have HO470 := n0_
          have BK456 := n1_
          have BK460 := n2_
          have HB := n3_
          clear n0_ n1_ n2_ n3_
          (try clear hb)
          (try clear hb2)
          (try clear hk)
          (try clear hi)
          (try clear ho0)
          obtain ⟨Ao63, co63, eo63⟩ := Kd.V_slice HO470.out
          (first | subst eo63 | (injection eo63 with f1_ f2_ f3_; have f4_ := f1_.symm; have f5_ := f3_.symm; clear f1_ f2_ f3_; subst f4_; subst f5_))
          refine hK.out _ _ ⟨(blk_cell BK460.out 0).trans rfl, (blk_cell BK460.out 1).trans rfl, (blk_cell BK460.out 2).trans rfl⟩ (fun hHeld => ?_)
          clear hK K
          refine norm_ (a' := ?_) ?_ ?_
          rotate_left
          · show Act.put _ (some 64) _ = _
            simp only [Act.put, List.setIfInBounds_toArray, List.set_cons_zero, List.set_cons_succ, i64_w, i32_w]
            rfl
          refine two_ (i := 6) (j := 10) (Ni := some 67) (Nj := some 6) Z10 Z11 rfl rfl rfl rfl (two_of HT_.out (by kernel_rfl)) (by decide) (by decide) (fun K hK => ?_) (fun K hK => ?_)
          · skip
            refine goes_ Try.func16 (by kernel_rfl) rfl #[.slice Ao63 t468.length co63, .slice A459_2 ((rd_T45 l0 x3_1).f2).length c459_2] (by rfl) rfl rfl (by (try simp only [List.map_toArray, List.map_cons, List.map_nil]); first | done | rfl | (simp only [List.length_drop, List.length_take]; rfl)) ?_
            with_reducible refine (changeforgeref3_ApplyDelta.calls kj11 _ _ t468 _ _ ((rd_T45 l0 x3_1).f2) t471 t474 t475 _ ?side1 ?side2 ?side3 ?side4 A43.out).mono ?_
            (case side1 => repeat (first | exact (Kd.V_reads' HO470.out).2.2 | (with_reducible refine Kd.C_alloc ?_ _) | (with_reducible refine Kd.C_drewN ?_ _) | (with_reducible refine Kd.C_drew ?_)))
            (case side2 => exact (Kd.V_reads' HO470.out).2.1)
            (case side3 => repeat (first | exact (Kd.C_below HR459_2.out HB.out) | (with_reducible refine Kd.C_alloc ?_ _) | (with_reducible refine Kd.C_drewN ?_ _) | (with_reducible refine Kd.C_drew ?_)))
            (case side4 => exact HC459_2.out)
            rintro e w64 ⟨v472, rfl, ho0, hb⟩
            refine ⟨_, rfl, ?_⟩
            have n0_ := aZ (Kd.V_elder' (by (with_reducible repeat (first | apply Kd.V_alloc | apply Kd.V_drewN | apply Kd.V_drew)); exact HO470.out) (Kd.R_base ho0) hb)
            have n1_ := aZ (Kd.R_lower ho0 (lZ (by repeat (first | (with_reducible first | exact HB.out | apply lA | apply lN | apply lD | refine lS ?_ GE456.out | refine lS ?_ GE460.out) | exact HB.out))))
            have n2_ := aZ (blk_below (g := gb456) (o := .cells #[.int .i64 x457000_1, .int .i64 x457001_1] 26 (0, 0)) (by (with_reducible repeat (first | refine bN ?_ _ | refine bD ?_ | refine bA ?_ _)); exact BK456.out) hb)
            have n3_ := aZ (blk_below (g := gb460) (o := .cells #[.int .i64 ((rd_T45 l0 x3_1).f0), .slice A459_1 ((rd_T45 l0 x3_1).f1).length c459_1, .slice A459_2 ((rd_T45 l0 x3_1).f2).length c459_2] 45 (0, 0)) (by (with_reducible repeat (first | refine bN ?_ _ | refine bD ?_ | refine bA ?_ _)); exact BK460.out) hb)
            have n4_ := aZ (lT (by repeat (first | (with_reducible first | exact HB.out | apply lA | apply lN | apply lD | refine lS ?_ GE456.out | refine lS ?_ GE460.out) | exact HB.out)) hb)
            clear HO470
            clear BK456
            clear BK460
            clear HB
            have HO470 := n0_
            have HO473 := n1_
            have BK456 := n2_
            have BK460 := n3_
            have HB := n4_
            clear n0_ n1_ n2_ n3_ n4_
            (try clear hb)
            (try clear hb2)
            (try clear hk)
            (try clear hi)
            (try clear ho0)
            refine hK.out _ _ ⟨(blk_cell BK460.out 0).trans rfl, (blk_cell BK460.out 1).trans rfl, (blk_cell BK460.out 2).trans rfl⟩ (fun hHeld => ?_)
            clear hK K
            refine norm_ (a' := ?_) ?_ ?_
            rotate_left
            · show Act.put _ (some 67) _ = _
              simp only [Act.put, List.setIfInBounds_toArray, List.set_cons_zero, List.set_cons_succ, i64_w, i32_w]
              rfl
            refine pu 7 60 Z12 HT_ rfl rfl (h := ?_)
            refine pu 8 68 Z13 HT_ rfl rfl (h := ?_)
            refine pu 9 69 Z14 HT_ rfl rfl (h := ?_)
            refine one_ (i := 10) (N := some 6) Z7 rfl rfl (one_of HT_.out (by kernel_rfl)) (by decide) (fun K hK => ?_)
            refine box_step ?hg (N := 6) ?hd (cs := #[.int .i64 0, .int .i64 0]) (t := 26) ?hr ?_; (case hd => rfl); (case hg => rfl); (case hr => first | (go_simp; done) | (go_simp; rfl))
            intro gb476 hg w65 hbox hb
            have n0_ := aZ (Kd.V_below (Kd.V_elderB (by (with_reducible repeat (first | apply Kd.V_alloc | apply Kd.V_drewN | apply Kd.V_drew)); exact HO470.out) gb476 (Nat.le_of_eq hg.symm)) hb)
            have n1_ := aZ (Kd.R_below (by (with_reducible repeat (first | apply Kd.rA | apply Kd.rN | apply Kd.rD)); exact HO473.out) hb)
            have n2_ := aZ (blk_below (g := gb456) (o := .cells #[.int .i64 x457000_1, .int .i64 x457001_1] 26 (0, 0)) (by (with_reducible repeat (first | refine bN ?_ _ | refine bD ?_ | refine bA ?_ _)); exact BK456.out) hb)
            have n3_ := aZ (blk_below (g := gb460) (o := .cells #[.int .i64 ((rd_T45 l0 x3_1).f0), .slice A459_1 ((rd_T45 l0 x3_1).f1).length c459_1, .slice A459_2 ((rd_T45 l0 x3_1).f2).length c459_2] 45 (0, 0)) (by (with_reducible repeat (first | refine bN ?_ _ | refine bD ?_ | refine bA ?_ _)); exact BK460.out) hb)
            have n4_ := aZ (lT (by repeat (first | (with_reducible first | exact HB.out | apply lA | apply lN | apply lD | refine lS ?_ GE456.out | refine lS ?_ GE460.out) | exact HB.out)) hb)
            have n5_ := aZ (hbox)
            have n6_ := aZ ((by rw [hg]; exact (lZ (by repeat (first | (with_reducible first | exact HB.out | apply lA | apply lN | apply lD | refine lS ?_ GE456.out | refine lS ?_ GE460.out) | exact HB.out))) : w.heap.size ≤ gb476))
            have n7_ := aZ ((by rw [hg]; exact (lZ (by repeat (first | (with_reducible first | exact HB.out | apply lA | apply lN | apply lD | refine lS ?_ GE456.out | refine lS ?_ GE460.out) | exact HB.out))) : w.heap.size ≤ gb476))
            have n8_ := aZ ((by rw [hg]; exact Nat.ne_of_lt (blk_lt (g := gb456) (o := .cells #[.int .i64 x457000_1, .int .i64 x457001_1] 26 (0, 0)) (by (with_reducible repeat (first | refine bN ?_ _ | refine bD ?_ | refine bA ?_ _)); exact BK456.out)) : gb456 ≠ gb476))
            have n9_ := aZ ((by rw [hg]; exact Nat.ne_of_gt (blk_lt (g := gb456) (o := .cells #[.int .i64 x457000_1, .int .i64 x457001_1] 26 (0, 0)) (by (with_reducible repeat (first | refine bN ?_ _ | refine bD ?_ | refine bA ?_ _)); exact BK456.out)) : gb476 ≠ gb456))
            have n10_ := aZ ((by rw [hg]; exact Nat.ne_of_lt (blk_lt (g := gb460) (o := .cells #[.int .i64 ((rd_T45 l0 x3_1).f0), .slice A459_1 ((rd_T45 l0 x3_1).f1).length c459_1, .slice A459_2 ((rd_T45 l0 x3_1).f2).length c459_2] 45 (0, 0)) (by (with_reducible repeat (first | refine bN ?_ _ | refine bD ?_ | refine bA ?_ _)); exact BK460.out)) : gb460 ≠ gb476))
            have n11_ := aZ ((by rw [hg]; exact Nat.ne_of_gt (blk_lt (g := gb460) (o := .cells #[.int .i64 ((rd_T45 l0 x3_1).f0), .slice A459_1 ((rd_T45 l0 x3_1).f1).length c459_1, .slice A459_2 ((rd_T45 l0 x3_1).f2).length c459_2] 45 (0, 0)) (by (with_reducible repeat (first | refine bN ?_ _ | refine bD ?_ | refine bA ?_ _)); exact BK460.out)) : gb476 ≠ gb460))
            clear HO470
            clear HO473
            clear BK456
            clear BK460
            clear HB
            have HO470 := n0_
            have HO473 := n1_
            have BK456 := n2_
            have BK460 := n3_
            have HB := n4_
            have BK476 := n5_
            have GW476 := n6_
            have GE476 := n7_
            have NB456_476 := n8_
            have NB476_456 := n9_
            have NB460_476 := n10_
            have NB476_460 := n11_
            clear n0_ n1_ n2_ n3_ n4_ n5_ n6_ n7_ n8_ n9_ n10_ n11_
            clear hb hbox hg
            refine hK.out _ _ ⟨(blk_cell BK460.out 0).trans rfl, (blk_cell BK460.out 1).trans rfl, (blk_cell BK460.out 2).trans rfl⟩ (fun hHeld => ?_)
            clear hK K
            refine norm_ (a' := ?_) ?_ ?_
            rotate_left
            · show Act.put _ (some 6) _ = _
              simp only [Act.put, List.setIfInBounds_toArray, List.set_cons_zero, List.set_cons_succ, i64_w, i32_w]
              rfl
            exact norm_ (by simp only [putAll, Act.put, List.setIfInBounds_toArray, List.set_cons_zero, List.set_cons_succ]) (hCont (.slice Ao63 t468.length co63, v472, gb476) _ ⟨hHeld, (by (with_reducible repeat (first | apply Kd.V_alloc | apply Kd.V_drewN | apply Kd.V_drew)); exact Kd.V_mono HO470.out (fun _ hk => ⟨hk.1.2, ⟨hk.1.1.1, ⟨hk.1.1.2, hk.2⟩⟩⟩)), (by (with_reducible repeat (first | apply Kd.rA | apply Kd.rN | apply Kd.rD)); exact HO473.out), (by (with_reducible repeat (first | refine bN ?_ _ | refine bD ?_ | refine bA ?_ _)); exact BK456.out), (by (with_reducible repeat (first | refine bN ?_ _ | refine bD ?_ | refine bA ?_ _)); exact BK460.out), (by (with_reducible repeat (first | refine bN ?_ _ | refine bD ?_ | refine bA ?_ _)); exact BK476.out), GW476.out, GE476.out, NB456_476.out, NB476_456.out, NB460_476.out, NB476_460.out, (by repeat (first | (with_reducible first | exact HB.out | apply lA | apply lN | apply lD | refine lS ?_ GE456.out | refine lS ?_ GE460.out | refine lS ?_ GE476.out) | exact HB.out))⟩)
          · skip
            refine box_step ?hg (N := 6) ?hd (cs := #[.int .i64 0, .int .i64 0]) (t := 26) ?hr ?_; (case hd => rfl); (case hg => rfl); (case hr => first | (go_simp; done) | (go_simp; rfl))
            intro gb476 hg w63 hbox hb
            have n0_ := aZ (Kd.V_below (Kd.V_elderB (by (with_reducible repeat (first | apply Kd.V_alloc | apply Kd.V_drewN | apply Kd.V_drew)); exact HO470.out) gb476 (Nat.le_of_eq hg.symm)) hb)
            have n1_ := aZ (blk_below (g := gb456) (o := .cells #[.int .i64 x457000_1, .int .i64 x457001_1] 26 (0, 0)) (by (with_reducible repeat (first | refine bN ?_ _ | refine bD ?_ | refine bA ?_ _)); exact BK456.out) hb)
            have n2_ := aZ (blk_below (g := gb460) (o := .cells #[.int .i64 ((rd_T45 l0 x3_1).f0), .slice A459_1 ((rd_T45 l0 x3_1).f1).length c459_1, .slice A459_2 ((rd_T45 l0 x3_1).f2).length c459_2] 45 (0, 0)) (by (with_reducible repeat (first | refine bN ?_ _ | refine bD ?_ | refine bA ?_ _)); exact BK460.out) hb)
            have n3_ := aZ (lT (by repeat (first | (with_reducible first | exact HB.out | apply lA | apply lN | apply lD | refine lS ?_ GE456.out | refine lS ?_ GE460.out) | exact HB.out)) hb)
            have n4_ := aZ (hbox)
            have n5_ := aZ ((by rw [hg]; exact (lZ (by repeat (first | (with_reducible first | exact HB.out | apply lA | apply lN | apply lD | refine lS ?_ GE456.out | refine lS ?_ GE460.out) | exact HB.out))) : w.heap.size ≤ gb476))
            have n6_ := aZ ((by rw [hg]; exact (lZ (by repeat (first | (with_reducible first | exact HB.out | apply lA | apply lN | apply lD | refine lS ?_ GE456.out | refine lS ?_ GE460.out) | exact HB.out))) : w.heap.size ≤ gb476))
            have n7_ := aZ ((by rw [hg]; exact Nat.ne_of_lt (blk_lt (g := gb456) (o := .cells #[.int .i64 x457000_1, .int .i64 x457001_1] 26 (0, 0)) (by (with_reducible repeat (first | refine bN ?_ _ | refine bD ?_ | refine bA ?_ _)); exact BK456.out)) : gb456 ≠ gb476))
            have n8_ := aZ ((by rw [hg]; exact Nat.ne_of_gt (blk_lt (g := gb456) (o := .cells #[.int .i64 x457000_1, .int .i64 x457001_1] 26 (0, 0)) (by (with_reducible repeat (first | refine bN ?_ _ | refine bD ?_ | refine bA ?_ _)); exact BK456.out)) : gb476 ≠ gb456))
            have n9_ := aZ ((by rw [hg]; exact Nat.ne_of_lt (blk_lt (g := gb460) (o := .cells #[.int .i64 ((rd_T45 l0 x3_1).f0), .slice A459_1 ((rd_T45 l0 x3_1).f1).length c459_1, .slice A459_2 ((rd_T45 l0 x3_1).f2).length c459_2] 45 (0, 0)) (by (with_reducible repeat (first | refine bN ?_ _ | refine bD ?_ | refine bA ?_ _)); exact BK460.out)) : gb460 ≠ gb476))
            have n10_ := aZ ((by rw [hg]; exact Nat.ne_of_gt (blk_lt (g := gb460) (o := .cells #[.int .i64 ((rd_T45 l0 x3_1).f0), .slice A459_1 ((rd_T45 l0 x3_1).f1).length c459_1, .slice A459_2 ((rd_T45 l0 x3_1).f2).length c459_2] 45 (0, 0)) (by (with_reducible repeat (first | refine bN ?_ _ | refine bD ?_ | refine bA ?_ _)); exact BK460.out)) : gb476 ≠ gb460))
            clear HO470
            clear BK456
            clear BK460
            clear HB
            have HO470 := n0_
            have BK456 := n1_
            have BK460 := n2_
            have HB := n3_
            have BK476 := n4_
            have GW476 := n5_
            have GE476 := n6_
            have NB456_476 := n7_
            have NB476_456 := n8_
            have NB460_476 := n9_
            have NB476_460 := n10_
            clear n0_ n1_ n2_ n3_ n4_ n5_ n6_ n7_ n8_ n9_ n10_
            clear hb hbox hg
            obtain ⟨Ao64, co64, eo64⟩ := Kd.V_slice HO470.out
            (first | subst eo64 | (injection eo64 with f1_ f2_ f3_; have f4_ := f1_.symm; have f5_ := f3_.symm; clear f1_ f2_ f3_; subst f4_; subst f5_))
            refine hK.out _ _ ⟨(blk_cell BK460.out 0).trans rfl, (blk_cell BK460.out 1).trans rfl, (blk_cell BK460.out 2).trans rfl⟩ (fun hHeld => ?_)
            clear hK K
            refine norm_ (a' := ?_) ?_ ?_
            rotate_left
            · show Act.put _ (some 6) _ = _
              simp only [Act.put, List.setIfInBounds_toArray, List.set_cons_zero, List.set_cons_succ, i64_w, i32_w]
              rfl
            refine one_ (i := 6) (N := some 67) Z15 rfl rfl (one_of HT_.out (by kernel_rfl)) (by decide) (fun K hK => ?_)
            refine goes_ Try.func16 (by kernel_rfl) rfl #[.slice Ao64 t468.length co64, .slice A459_2 ((rd_T45 l0 x3_1).f2).length c459_2] (by rfl) rfl rfl (by (try simp only [List.map_toArray, List.map_cons, List.map_nil]); first | done | rfl | (simp only [List.length_drop, List.length_take]; rfl)) ?_
            with_reducible refine (changeforgeref3_ApplyDelta.calls kj11 _ _ t468 _ _ ((rd_T45 l0 x3_1).f2) t471 t474 t475 _ ?side1 ?side2 ?side3 ?side4 A43.out).mono ?_
            (case side1 => repeat (first | exact (Kd.V_reads' HO470.out).2.2 | (with_reducible refine Kd.C_alloc ?_ _) | (with_reducible refine Kd.C_drewN ?_ _) | (with_reducible refine Kd.C_drew ?_)))
            (case side2 => exact (Kd.V_reads' HO470.out).2.1)
            (case side3 => repeat (first | exact (Kd.C_below HR459_2.out HB.out) | (with_reducible refine Kd.C_alloc ?_ _) | (with_reducible refine Kd.C_drewN ?_ _) | (with_reducible refine Kd.C_drew ?_)))
            (case side4 => exact HC459_2.out)
            rintro e w65 ⟨v472, rfl, ho0, hb⟩
            refine ⟨_, rfl, ?_⟩
            have n0_ := aZ (Kd.V_elder' (by (with_reducible repeat (first | apply Kd.V_alloc | apply Kd.V_drewN | apply Kd.V_drew)); exact HO470.out) (Kd.R_base ho0) hb)
            have n1_ := aZ (Kd.R_lower ho0 (lZ (by repeat (first | (with_reducible first | exact HB.out | apply lA | apply lN | apply lD | refine lS ?_ GE456.out | refine lS ?_ GE460.out | refine lS ?_ GE476.out) | exact HB.out))))
            have n2_ := aZ (blk_below (g := gb456) (o := .cells #[.int .i64 x457000_1, .int .i64 x457001_1] 26 (0, 0)) (by (with_reducible repeat (first | refine bN ?_ _ | refine bD ?_ | refine bA ?_ _)); exact BK456.out) hb)
            have n3_ := aZ (blk_below (g := gb460) (o := .cells #[.int .i64 ((rd_T45 l0 x3_1).f0), .slice A459_1 ((rd_T45 l0 x3_1).f1).length c459_1, .slice A459_2 ((rd_T45 l0 x3_1).f2).length c459_2] 45 (0, 0)) (by (with_reducible repeat (first | refine bN ?_ _ | refine bD ?_ | refine bA ?_ _)); exact BK460.out) hb)
            have n4_ := aZ (blk_below (g := gb476) (o := .cells #[.int .i64 0, .int .i64 0] 26 (0, 0)) (by (with_reducible repeat (first | refine bN ?_ _ | refine bD ?_ | refine bA ?_ _)); exact BK476.out) hb)
            have n5_ := aZ (lT (by repeat (first | (with_reducible first | exact HB.out | apply lA | apply lN | apply lD | refine lS ?_ GE456.out | refine lS ?_ GE460.out | refine lS ?_ GE476.out) | exact HB.out)) hb)
            clear HO470
            clear BK456
            clear BK460
            clear BK476
            clear HB
            have HO470 := n0_
            have HO473 := n1_
            have BK456 := n2_
            have BK460 := n3_
            have BK476 := n4_
            have HB := n5_
            clear n0_ n1_ n2_ n3_ n4_ n5_
            (try clear hb)
            (try clear hb2)
            (try clear hk)
            (try clear hi)
            (try clear ho0)
            refine hK.out _ _ ⟨(blk_cell BK460.out 0).trans rfl, (blk_cell BK460.out 1).trans rfl, (blk_cell BK460.out 2).trans rfl⟩ (fun hHeld => ?_)
            clear hK K
            refine norm_ (a' := ?_) ?_ ?_
            rotate_left
            · show Act.put _ (some 67) _ = _
              simp only [Act.put, List.setIfInBounds_toArray, List.set_cons_zero, List.set_cons_succ, i64_w, i32_w]
              rfl
            refine pu 7 60 Z16 HT_ rfl rfl (h := ?_)
            refine pu 8 68 Z17 HT_ rfl rfl (h := ?_)
            refine pu 9 69 Z7 HT_ rfl rfl (h := ?_)
            exact norm_ (by simp only [putAll, Act.put, List.setIfInBounds_toArray, List.set_cons_zero, List.set_cons_succ]) (hCont (.slice Ao64 t468.length co64, v472, gb476) _ ⟨hHeld, (by (with_reducible repeat (first | apply Kd.V_alloc | apply Kd.V_drewN | apply Kd.V_drew)); exact Kd.V_mono HO470.out (fun _ hk => ⟨hk.2, ⟨hk.1.1.1, ⟨hk.1.1.2, hk.1.2⟩⟩⟩)), (by (with_reducible repeat (first | apply Kd.rA | apply Kd.rN | apply Kd.rD)); exact HO473.out), (by (with_reducible repeat (first | refine bN ?_ _ | refine bD ?_ | refine bA ?_ _)); exact BK456.out), (by (with_reducible repeat (first | refine bN ?_ _ | refine bD ?_ | refine bA ?_ _)); exact BK460.out), (by (with_reducible repeat (first | refine bN ?_ _ | refine bD ?_ | refine bA ?_ _)); exact BK476.out), GW476.out, GE476.out, NB456_476.out, NB476_456.out, NB460_476.out, NB476_460.out, (by repeat (first | (with_reducible first | exact HB.out | apply lA | apply lN | apply lD | refine lS ?_ GE456.out | refine lS ?_ GE460.out | refine lS ?_ GE476.out) | exact HB.out))⟩)
        · skip
          refine box_step ?hg (N := 6) ?hd (cs := #[.int .i64 0, .int .i64 0]) (t := 26) ?hr ?_; (case hd => rfl); (case hg => rfl); (case hr => first | (go_simp; done) | (go_simp; rfl))
          intro gb476 hg w62 hbox hb
          have n0_ := aZ (blk_below (g := gb456) (o := .cells #[.int .i64 x457000_1, .int .i64 x457001_1] 26 (0, 0)) (by (with_reducible repeat (first | refine bN ?_ _ | refine bD ?_ | refine bA ?_ _)); exact BK456.out) hb)
          have n1_ := aZ (blk_below (g := gb460) (o := .cells #[.int .i64 ((rd_T45 l0 x3_1).f0), .slice A459_1 ((rd_T45 l0 x3_1).f1).length c459_1, .slice A459_2 ((rd_T45 l0 x3_1).f2).length c459_2] 45 (0, 0)) (by (with_reducible repeat (first | refine bN ?_ _ | refine bD ?_ | refine bA ?_ _)); exact BK460.out) hb)
          have n2_ := aZ (lT (by repeat (first | (with_reducible first | exact HB.out | apply lA | apply lN | apply lD | refine lS ?_ GE456.out | refine lS ?_ GE460.out) | exact HB.out)) hb)
          have n3_ := aZ (hbox)
          have n4_ := aZ ((by rw [hg]; exact (lZ (by repeat (first | (with_reducible first | exact HB.out | apply lA | apply lN | apply lD | refine lS ?_ GE456.out | refine lS ?_ GE460.out) | exact HB.out))) : w.heap.size ≤ gb476))
          have n5_ := aZ ((by rw [hg]; exact (lZ (by repeat (first | (with_reducible first | exact HB.out | apply lA | apply lN | apply lD | refine lS ?_ GE456.out | refine lS ?_ GE460.out) | exact HB.out))) : w.heap.size ≤ gb476))
          have n6_ := aZ ((by rw [hg]; exact Nat.ne_of_lt (blk_lt (g := gb456) (o := .cells #[.int .i64 x457000_1, .int .i64 x457001_1] 26 (0, 0)) (by (with_reducible repeat (first | refine bN ?_ _ | refine bD ?_ | refine bA ?_ _)); exact BK456.out)) : gb456 ≠ gb476))
          have n7_ := aZ ((by rw [hg]; exact Nat.ne_of_gt (blk_lt (g := gb456) (o := .cells #[.int .i64 x457000_1, .int .i64 x457001_1] 26 (0, 0)) (by (with_reducible repeat (first | refine bN ?_ _ | refine bD ?_ | refine bA ?_ _)); exact BK456.out)) : gb476 ≠ gb456))
          have n8_ := aZ ((by rw [hg]; exact Nat.ne_of_lt (blk_lt (g := gb460) (o := .cells #[.int .i64 ((rd_T45 l0 x3_1).f0), .slice A459_1 ((rd_T45 l0 x3_1).f1).length c459_1, .slice A459_2 ((rd_T45 l0 x3_1).f2).length c459_2] 45 (0, 0)) (by (with_reducible repeat (first | refine bN ?_ _ | refine bD ?_ | refine bA ?_ _)); exact BK460.out)) : gb460 ≠ gb476))
          have n9_ := aZ ((by rw [hg]; exact Nat.ne_of_gt (blk_lt (g := gb460) (o := .cells #[.int .i64 ((rd_T45 l0 x3_1).f0), .slice A459_1 ((rd_T45 l0 x3_1).f1).length c459_1, .slice A459_2 ((rd_T45 l0 x3_1).f2).length c459_2] 45 (0, 0)) (by (with_reducible repeat (first | refine bN ?_ _ | refine bD ?_ | refine bA ?_ _)); exact BK460.out)) : gb476 ≠ gb460))
          clear BK456
          clear BK460
          clear HB
          have BK456 := n0_
          have BK460 := n1_
          have HB := n2_
          have BK476 := n3_
          have GW476 := n4_
          have GE476 := n5_
          have NB456_476 := n6_
          have NB476_456 := n7_
          have NB460_476 := n8_
          have NB476_460 := n9_
          clear n0_ n1_ n2_ n3_ n4_ n5_ n6_ n7_ n8_ n9_
          clear hb hbox hg
          refine hK.out _ _ ⟨(blk_cell BK460.out 0).trans rfl, (blk_cell BK460.out 1).trans rfl, (blk_cell BK460.out 2).trans rfl⟩ (fun hHeld => ?_)
          clear hK K
          refine norm_ (a' := ?_) ?_ ?_
          rotate_left
          · show Act.put _ (some 6) _ = _
            simp only [Act.put, List.setIfInBounds_toArray, List.set_cons_zero, List.set_cons_succ, i64_w, i32_w]
            rfl
          refine one_ (i := 3) (N := some 64) Z11 rfl rfl (one_of HT_.out (by kernel_rfl)) (by decide) (fun K hK => ?_)
          refine goes_ Try.func23 (by kernel_rfl) rfl #[.slice (some ad459) l0.length c0, .int .i64 ((rd_T45 l0 x3_1).f0)] (by rfl) rfl rfl (by (try simp only [List.map_toArray, List.map_cons, List.map_nil]); first | done | rfl | (simp only [List.length_drop, List.length_take]; rfl)) ?_
          with_reducible refine (changeforgeref3_ChainVersion.calls kj11 (fun k_ => k_ < w.heap.size) _ _ l0 ((rd_T45 l0 x3_1).f0) t468 _ ?side1 A42.out).mono ?_
          (case side1 => exact Kd.V_mk HC0.out (Kd.F_below (Kd.C_F k45_heap HR0.out) (by repeat (first | (with_reducible first | exact HB.out | apply lA | apply lN | apply lD | refine lS ?_ GE456.out | refine lS ?_ GE460.out | refine lS ?_ GE476.out) | exact HB.out))))
          rintro e w63 ⟨v469, rfl, ho0, hb⟩
          refine ⟨_, rfl, ?_⟩
          have n0_ := aZ (Kd.V_lower (Kd.V_mono (ok' := fun k_ => k_ ≠ gb456 ∧ k_ ≠ gb460 ∧ k_ ≠ gb476) ho0 (fun k_ hk_ => ⟨Or.elim hk_ (fun hs_ => fun e_ => Nat.not_le.2 hs_ (by rw [e_]; exact GW456.out)) (fun hn_ => (Kd.freshB (g := gb456) (o := .cells #[.int .i64 x457000_1, .int .i64 x457001_1] 26 (0, 0)) (by (with_reducible repeat (first | refine bN ?_ _ | refine bD ?_ | refine bA ?_ _)); exact BK456.out) k_ hn_)), Or.elim hk_ (fun hs_ => fun e_ => Nat.not_le.2 hs_ (by rw [e_]; exact GW460.out)) (fun hn_ => (Kd.freshB (g := gb460) (o := .cells #[.int .i64 ((rd_T45 l0 x3_1).f0), .slice A459_1 ((rd_T45 l0 x3_1).f1).length c459_1, .slice A459_2 ((rd_T45 l0 x3_1).f2).length c459_2] 45 (0, 0)) (by (with_reducible repeat (first | refine bN ?_ _ | refine bD ?_ | refine bA ?_ _)); exact BK460.out) k_ hn_)), Or.elim hk_ (fun hs_ => fun e_ => Nat.not_le.2 hs_ (by rw [e_]; exact GW476.out)) (fun hn_ => (Kd.freshB (g := gb476) (o := .cells #[.int .i64 0, .int .i64 0] 26 (0, 0)) (by (with_reducible repeat (first | refine bN ?_ _ | refine bD ?_ | refine bA ?_ _)); exact BK476.out) k_ hn_))⟩)) (lZ (by repeat (first | (with_reducible first | exact HB.out | apply lA | apply lN | apply lD | refine lS ?_ GE456.out | refine lS ?_ GE460.out | refine lS ?_ GE476.out) | exact HB.out))))
          have n1_ := aZ (blk_below (g := gb456) (o := .cells #[.int .i64 x457000_1, .int .i64 x457001_1] 26 (0, 0)) (by (with_reducible repeat (first | refine bN ?_ _ | refine bD ?_ | refine bA ?_ _)); exact BK456.out) hb)
          have n2_ := aZ (blk_below (g := gb460) (o := .cells #[.int .i64 ((rd_T45 l0 x3_1).f0), .slice A459_1 ((rd_T45 l0 x3_1).f1).length c459_1, .slice A459_2 ((rd_T45 l0 x3_1).f2).length c459_2] 45 (0, 0)) (by (with_reducible repeat (first | refine bN ?_ _ | refine bD ?_ | refine bA ?_ _)); exact BK460.out) hb)
          have n3_ := aZ (blk_below (g := gb476) (o := .cells #[.int .i64 0, .int .i64 0] 26 (0, 0)) (by (with_reducible repeat (first | refine bN ?_ _ | refine bD ?_ | refine bA ?_ _)); exact BK476.out) hb)
          have n4_ := aZ (lT (by repeat (first | (with_reducible first | exact HB.out | apply lA | apply lN | apply lD | refine lS ?_ GE456.out | refine lS ?_ GE460.out | refine lS ?_ GE476.out) | exact HB.out)) hb)
          clear BK456
          clear BK460
          clear BK476
          clear HB
          have HO470 := n0_
          have BK456 := n1_
          have BK460 := n2_
          have BK476 := n3_
          have HB := n4_
          clear n0_ n1_ n2_ n3_ n4_
          (try clear hb)
          (try clear hb2)
          (try clear hk)
          (try clear hi)
          (try clear ho0)
          obtain ⟨Ao64, co64, eo64⟩ := Kd.V_slice HO470.out
          (first | subst eo64 | (injection eo64 with f1_ f2_ f3_; have f4_ := f1_.symm; have f5_ := f3_.symm; clear f1_ f2_ f3_; subst f4_; subst f5_))
          refine hK.out _ _ ⟨(blk_cell BK460.out 0).trans rfl, (blk_cell BK460.out 1).trans rfl, (blk_cell BK460.out 2).trans rfl⟩ (fun hHeld => ?_)
          clear hK K
          refine norm_ (a' := ?_) ?_ ?_
          rotate_left
          · show Act.put _ (some 64) _ = _
            simp only [Act.put, List.setIfInBounds_toArray, List.set_cons_zero, List.set_cons_succ, i64_w, i32_w]
            rfl
          refine one_ (i := 6) (N := some 67) Z15 rfl rfl (one_of HT_.out (by kernel_rfl)) (by decide) (fun K hK => ?_)
          refine goes_ Try.func16 (by kernel_rfl) rfl #[.slice Ao64 t468.length co64, .slice A459_2 ((rd_T45 l0 x3_1).f2).length c459_2] (by rfl) rfl rfl (by (try simp only [List.map_toArray, List.map_cons, List.map_nil]); first | done | rfl | (simp only [List.length_drop, List.length_take]; rfl)) ?_
          with_reducible refine (changeforgeref3_ApplyDelta.calls kj11 _ _ t468 _ _ ((rd_T45 l0 x3_1).f2) t471 t474 t475 _ ?side1 ?side2 ?side3 ?side4 A43.out).mono ?_
          (case side1 => repeat (first | exact (Kd.V_reads' HO470.out).2.2 | (with_reducible refine Kd.C_alloc ?_ _) | (with_reducible refine Kd.C_drewN ?_ _) | (with_reducible refine Kd.C_drew ?_)))
          (case side2 => exact (Kd.V_reads' HO470.out).2.1)
          (case side3 => repeat (first | exact (Kd.C_below HR459_2.out HB.out) | (with_reducible refine Kd.C_alloc ?_ _) | (with_reducible refine Kd.C_drewN ?_ _) | (with_reducible refine Kd.C_drew ?_)))
          (case side4 => exact HC459_2.out)
          rintro e w65 ⟨v472, rfl, ho0, hb⟩
          refine ⟨_, rfl, ?_⟩
          have n0_ := aZ (Kd.V_elder' (by (with_reducible repeat (first | apply Kd.V_alloc | apply Kd.V_drewN | apply Kd.V_drew)); exact HO470.out) (Kd.R_base ho0) hb)
          have n1_ := aZ (Kd.R_lower ho0 (lZ (by repeat (first | (with_reducible first | exact HB.out | apply lA | apply lN | apply lD | refine lS ?_ GE456.out | refine lS ?_ GE460.out | refine lS ?_ GE476.out) | exact HB.out))))
          have n2_ := aZ (blk_below (g := gb456) (o := .cells #[.int .i64 x457000_1, .int .i64 x457001_1] 26 (0, 0)) (by (with_reducible repeat (first | refine bN ?_ _ | refine bD ?_ | refine bA ?_ _)); exact BK456.out) hb)
          have n3_ := aZ (blk_below (g := gb460) (o := .cells #[.int .i64 ((rd_T45 l0 x3_1).f0), .slice A459_1 ((rd_T45 l0 x3_1).f1).length c459_1, .slice A459_2 ((rd_T45 l0 x3_1).f2).length c459_2] 45 (0, 0)) (by (with_reducible repeat (first | refine bN ?_ _ | refine bD ?_ | refine bA ?_ _)); exact BK460.out) hb)
          have n4_ := aZ (blk_below (g := gb476) (o := .cells #[.int .i64 0, .int .i64 0] 26 (0, 0)) (by (with_reducible repeat (first | refine bN ?_ _ | refine bD ?_ | refine bA ?_ _)); exact BK476.out) hb)
          have n5_ := aZ (lT (by repeat (first | (with_reducible first | exact HB.out | apply lA | apply lN | apply lD | refine lS ?_ GE456.out | refine lS ?_ GE460.out | refine lS ?_ GE476.out) | exact HB.out)) hb)
          clear HO470
          clear BK456
          clear BK460
          clear BK476
          clear HB
          have HO470 := n0_
          have HO473 := n1_
          have BK456 := n2_
          have BK460 := n3_
          have BK476 := n4_
          have HB := n5_
          clear n0_ n1_ n2_ n3_ n4_ n5_
          (try clear hb)
          (try clear hb2)
          (try clear hk)
          (try clear hi)
          (try clear ho0)
          refine hK.out _ _ ⟨(blk_cell BK460.out 0).trans rfl, (blk_cell BK460.out 1).trans rfl, (blk_cell BK460.out 2).trans rfl⟩ (fun hHeld => ?_)
          clear hK K
          refine norm_ (a' := ?_) ?_ ?_
          rotate_left
          · show Act.put _ (some 67) _ = _
            simp only [Act.put, List.setIfInBounds_toArray, List.set_cons_zero, List.set_cons_succ, i64_w, i32_w]
            rfl
          refine pu 7 60 Z16 HT_ rfl rfl (h := ?_)
          refine pu 8 68 Z17 HT_ rfl rfl (h := ?_)
          refine pu 9 69 Z7 HT_ rfl rfl (h := ?_)
          exact norm_ (by simp only [putAll, Act.put, List.setIfInBounds_toArray, List.set_cons_zero, List.set_cons_succ]) (hCont (.slice Ao64 t468.length co64, v472, gb476) _ ⟨hHeld, (by (with_reducible repeat (first | apply Kd.V_alloc | apply Kd.V_drewN | apply Kd.V_drew)); exact Kd.V_mono HO470.out (fun _ hk => ⟨hk.2, ⟨hk.1.1, ⟨hk.1.2.1, hk.1.2.2⟩⟩⟩)), (by (with_reducible repeat (first | apply Kd.rA | apply Kd.rN | apply Kd.rD)); exact HO473.out), (by (with_reducible repeat (first | refine bN ?_ _ | refine bD ?_ | refine bA ?_ _)); exact BK456.out), (by (with_reducible repeat (first | refine bN ?_ _ | refine bD ?_ | refine bA ?_ _)); exact BK460.out), (by (with_reducible repeat (first | refine bN ?_ _ | refine bD ?_ | refine bA ?_ _)); exact BK476.out), GW476.out, GE476.out, NB456_476.out, NB476_456.out, NB460_476.out, NB476_460.out, (by repeat (first | (with_reducible first | exact HB.out | apply lA | apply lN | apply lD | refine lS ?_ GE456.out | refine lS ?_ GE460.out | refine lS ?_ GE476.out) | exact HB.out))⟩)
      rintro ⟨v469, v472, gb476⟩ w66 ⟨hS_, h0_, h1_, h2_, h3_, h4_, h5_, h6_, h7_, h8_, h9_, h10_, h11_⟩
      have n0_ : Aside0 (Kd.V (Kd.int .u8) 5 w66 w.heap.size (fun k_ => some k_ ≠ (v472 : Value).ownBlock ∧ k_ ≠ gb456 ∧ k_ ≠ gb460 ∧ k_ ≠ gb476) v469 t468) := ⟨h0_⟩
      have n1_ : Aside0 (Kd.R (Kd.int .u8) 5 w66 w.heap.size (fun _ => True) v472 t471) := ⟨h1_⟩
      have n2_ : Aside0 (w66.heap[gb456]? = some (.cells #[.int .i64 x457000_1, .int .i64 x457001_1] 26 (0, 0))) := ⟨h2_⟩
      have n3_ : Aside0 (w66.heap[gb460]? = some (.cells #[.int .i64 ((rd_T45 l0 x3_1).f0), .slice A459_1 ((rd_T45 l0 x3_1).f1).length c459_1, .slice A459_2 ((rd_T45 l0 x3_1).f2).length c459_2] 45 (0, 0))) := ⟨h3_⟩
      have n4_ : Aside0 (w66.heap[gb476]? = some (.cells #[.int .i64 0, .int .i64 0] 26 (0, 0))) := ⟨h4_⟩
      have n5_ : Aside0 (w.heap.size ≤ gb476) := ⟨h5_⟩
      have n6_ : Aside0 (w.heap.size ≤ gb476) := ⟨h6_⟩
      have n7_ : Aside0 (gb456 ≠ gb476) := ⟨h7_⟩
      have n8_ : Aside0 (gb476 ≠ gb456) := ⟨h8_⟩
      have n9_ : Aside0 (gb460 ≠ gb476) := ⟨h9_⟩
      have n10_ : Aside0 (gb476 ≠ gb460) := ⟨h10_⟩
      have n11_ : Aside0 (Below w.heap.size w w66) := ⟨h11_⟩
      clear BK456
      clear BK460
      clear HB
      clear h0_ h1_ h2_ h3_ h4_ h5_ h6_ h7_ h8_ h9_ h10_ h11_
      have HO470 := n0_
      have HO473 := n1_
      have BK456 := n2_
      have BK460 := n3_
      have BK476 := n4_
      have GW476 := n5_
      have GE476 := n6_
      have NB456_476 := n7_
      have NB476_456 := n8_
      have NB460_476 := n9_
      have NB476_460 := n10_
      have HB := n11_
      clear n0_ n1_ n2_ n3_ n4_ n5_ n6_ n7_ n8_ n9_ n10_ n11_
      have hHeld : w66.cell? ⟨gb460, 0, none⟩ = some (.int .i64 ((rd_T45 l0 x3_1).f0)) ∧ w66.cell? ⟨gb460, 1, none⟩ = some (.slice A459_1 ((rd_T45 l0 x3_1).f1).length c459_1) ∧ w66.cell? ⟨gb460, 2, none⟩ = some (.slice A459_2 ((rd_T45 l0 x3_1).f2).length c459_2) := hS_
      refine norm_ (a' := ?_) ?_ ?_
      rotate_left
      · simp only [putAll, Act.put, List.setIfInBounds_toArray, List.set_cons_zero, List.set_cons_succ]
        rfl
      refine pu 11 5 Z18 HT_ rfl rfl (h := ?_)
      refine one_ (i := 12) (N := none) Z19 rfl rfl (one_of HT_.out (by kernel_rfl)) (by decide) (fun K hK => ?_)
      have hs67 : w66.cell? ⟨gb476, 0, none⟩ = some (.int .i64 0) := (blk_cell BK476.out 0).trans rfl
      have hfs67 := blk_frozen BK476.out 0
      have hns67_0 := NB456_476.out
      have hns67_1 := NB460_476.out
      have hms67_0 := NB476_456.out
      have hms67_1 := NB476_460.out
      have hs68 : w66.cell? ⟨gb476, 1, none⟩ = some (.int .i64 0) := (blk_cell BK476.out 1).trans rfl
      have hfs68 := blk_frozen BK476.out 1
      have hns68_0 := NB456_476.out
      have hns68_1 := NB460_476.out
      have hms68_0 := NB476_456.out
      have hms68_1 := NB476_460.out
      refine skip_ (w1 := ?_) (by rfl) rfl ?_ ?_
      rotate_left
      · go_simp
        rfl
      refine hK.out _ _ ⟨((cell_far (p := ⟨gb476, _, none⟩) NB460_476.out _).trans (((cell_far (p := ⟨gb476, _, none⟩) NB460_476.out _).trans (hHeld.1)))), ((cell_far (p := ⟨gb476, _, none⟩) NB460_476.out _).trans (((cell_far (p := ⟨gb476, _, none⟩) NB460_476.out _).trans (hHeld.2.1)))), ((cell_far (p := ⟨gb476, _, none⟩) NB460_476.out _).trans (((cell_far (p := ⟨gb476, _, none⟩) NB460_476.out _).trans (hHeld.2.2))))⟩ (fun hHeld => ?_)
      clear hK K
      refine done_ (done_of HT_.out (by kernel_rfl)) ?_
      have hnb69 := NB476_456.out
      have hnc69 := NB456_476.out
      have hnb70 := NB476_460.out
      have hnc70 := NB460_476.out
      have hcz71_0 : w66.cell? ⟨gb476, 0, none⟩ = some (.int .i64 0) := (blk_cell BK476.out 0).trans rfl
      have hcz71_1 : w66.cell? ⟨gb476, 1, none⟩ = some (.int .i64 0) := (blk_cell BK476.out 1).trans rfl
      have hfz71_0 := blk_frozen BK476.out 0
      have hfz71_1 := blk_frozen BK476.out 1
      try go_wp2_with (first | ((with_reducible refine gate_callee (f := 12) rfl ?_); refine goesL_ (some 76) rfl rfl Try.func12 (by kernel_rfl) rfl #[.int .i64 t474, .int .i64 x3_1] rfl (by (try simp only [List.map_toArray, List.map_cons, List.map_nil]); first | done | rfl | (simp only [List.length_drop, List.length_take]; rfl)) ?_; (with_reducible refine (changeforgeref3_Fault.calls t474 x3_1 t477 t478 _ A58.out).mono ?_); rintro e w72 ⟨rfl, hb⟩; refine ⟨_, rfl, ?_⟩; have n0_ := aZ (Kd.V_below (by (with_reducible repeat (first | apply Kd.V_alloc | apply Kd.V_drewN | apply Kd.V_drew)); exact (Kd.V_mono (Kd.V_far (p := ⟨gb476, 1, none⟩) (Kd.V_far (p := ⟨gb476, 0, none⟩) (Kd.V_mono HO470.out (fun k_ hk => (⟨hk, hk.2.2.2⟩ : _ ∧ k_ ≠ gb476))) (fun _ hk => hk.2) (.int .i64 t474)) (fun _ hk => hk.2) (.int .i64 t475)) (fun _ h_ => h_.1))) hb); have n1_ := aZ (Kd.R_below (by (with_reducible repeat (first | apply Kd.rA | apply Kd.rN | apply Kd.rD)); exact (Kd.R_mono (Kd.R_far (p := ⟨gb476, 1, none⟩) (Kd.R_far (p := ⟨gb476, 0, none⟩) (Kd.R_types HO473.out BK476.out (by decide)) (fun _ hk => hk.2) (.int .i64 t474)) (fun _ hk => hk.2) (.int .i64 t475)) (fun _ h_ => h_.1))) hb); have n2_ := aZ (blk_below (g := gb456) (o := .cells #[.int .i64 x457000_1, .int .i64 x457001_1] 26 (0, 0)) (by (with_reducible repeat (first | refine bN ?_ _ | refine bD ?_ | refine bA ?_ _)); refine blk_far ?_ NB456_476.out _; (with_reducible repeat (first | refine bN ?_ _ | refine bD ?_ | refine bA ?_ _)); refine blk_far ?_ NB456_476.out _; (with_reducible repeat (first | refine bN ?_ _ | refine bD ?_ | refine bA ?_ _)); exact BK456.out) hb); have n3_ := aZ (blk_below (g := gb460) (o := .cells #[.int .i64 ((rd_T45 l0 x3_1).f0), .slice A459_1 ((rd_T45 l0 x3_1).f1).length c459_1, .slice A459_2 ((rd_T45 l0 x3_1).f2).length c459_2] 45 (0, 0)) (by (with_reducible repeat (first | refine bN ?_ _ | refine bD ?_ | refine bA ?_ _)); refine blk_far ?_ NB460_476.out _; (with_reducible repeat (first | refine bN ?_ _ | refine bD ?_ | refine bA ?_ _)); refine blk_far ?_ NB460_476.out _; (with_reducible repeat (first | refine bN ?_ _ | refine bD ?_ | refine bA ?_ _)); exact BK460.out) hb); have n4_ := aZ (blk_below (g := gb476) (o := .cells #[.int .i64 t474, .int .i64 t475] 26 (0, 0)) (by (with_reducible repeat (first | refine bN ?_ _ | refine bD ?_ | refine bA ?_ _)); refine blk_put (cs := #[.int .i64 t474, .int .i64 0]) ?_ 1 _ rfl; (with_reducible repeat (first | refine bN ?_ _ | refine bD ?_ | refine bA ?_ _)); refine blk_put (cs := #[.int .i64 0, .int .i64 0]) ?_ 0 _ rfl; (with_reducible repeat (first | refine bN ?_ _ | refine bD ?_ | refine bA ?_ _)); exact BK476.out) hb); have n5_ := aZ (lT (by repeat (first | (with_reducible first | exact HB.out | apply lA | apply lN | apply lD | refine lS ?_ GE456.out | refine lS ?_ GE460.out | refine lS ?_ GE476.out) | exact HB.out)) hb); clear HO470; clear HO473; clear BK456; clear BK460; clear BK476; clear HB; have HO470 := n0_; have HO473 := n1_; have BK456 := n2_; have BK460 := n3_; have BK476 := n4_; have HB := n5_; clear n0_ n1_ n2_ n3_ n4_ n5_; (try clear hb); (try clear hb2); (try clear hk); (try clear hi); have hcz73_0 : w72.cell? ⟨gb456, 0, none⟩ = some (.int .i64 x457000_1) := (blk_cell BK456.out 0).trans rfl; have hcz73_1 : w72.cell? ⟨gb456, 1, none⟩ = some (.int .i64 x457001_1) := (blk_cell BK456.out 1).trans rfl; have hfz73_0 := blk_frozen BK456.out 0; have hfz73_1 := blk_frozen BK456.out 1))
      refine bodyPost_ret (results_cell_row rfl _ _ gb456 26 #[.int .i64 t477, .int .i64 t478] (0, 0) _ rfl (by (with_reducible repeat (first | refine bN ?_ _ | refine bD ?_ | refine bA ?_ _)); refine blk_put (cs := #[.int .i64 t477, .int .i64 x457001_1]) ?_ 1 _ rfl; (with_reducible repeat (first | refine bN ?_ _ | refine bD ?_ | refine bA ?_ _)); refine blk_put (cs := #[.int .i64 x457000_1, .int .i64 x457001_1]) ?_ 0 _ rfl; (with_reducible repeat (first | refine bN ?_ _ | refine bD ?_ | refine bA ?_ _)); exact BK456.out) Try.underlying26 rfl (by kernel_rfl)) rfl ?_
      exact ⟨by first | rfl | (simp [errW_none, errW_some] <;> rfl) | (simp [*, errW_none, errW_some] <;> rfl), by repeat (first | (with_reducible first | exact HB.out | apply lA | apply lN | apply lD | refine lS ?_ GE456.out | refine lS ?_ GE460.out | refine lS ?_ GE476.out) | exact HB.out)⟩
end Go.Proofs.Ytgmpnghgmcgghaa.P
