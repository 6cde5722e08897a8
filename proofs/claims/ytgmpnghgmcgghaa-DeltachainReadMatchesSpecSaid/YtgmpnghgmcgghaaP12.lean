/- What the Go functions of this seat compute, and that they do: printed by a program over the kit's print. -/
import Derived.Test.YtgmpnghgmcgghaaP0
import Derived.Test.YtgmpnghgmcgghaaP7
import Derived.Test.YtgmpnghgmcgghaaP11
namespace Go.Proofs.Ytgmpnghgmcgghaa.P
open Go.RowKit Go.Proofs.YtgmpnghgmcgghaaW.PrintWords Go.Proofs.YtgmpnghgmcgghaaW.PrintLast Go.Proofs.YtgmpnghgmcgghaaW.PrintMore
attribute [local go_sem] max2_int min2_int max_two min_two max_three min_three max_four min_four   -- for this text's walks alone
set_option linter.unusedVariables false
set_option linter.unusedSimpArgs false

/-! ### changeforgeref3_ApplyDelta: function 16 -/
mutual
def changeforgeref3_ApplyDelta.l0 : Nat → List Int → List (S37) → List Int → Int → Option (List Int × Int × Int)
  | 0, _, _, _, _ => none
  | k + 1, x0, x1, x6, x7 => if x7 < (x1.length : Int) then (if 0 ≤ x7 then (if ((rd_T37 x1 x7).f1) < 0 then ((changeforgeref3_Fault.f 3 x7).bind fun bt269 => (some (([] : List Int), bt269.1, bt269.2))) else (if ((rd_T37 x1 x7).f1) > 0 then ((changeforgeref3_In.f ((rd_T37 x1 x7).f0) 0 (x0.length : Int)).bind fun t271 => (if t271 = true then (changeforgeref3_ApplyDelta.j1 k x0 x1 x6 x7 (decide (((rd_T37 x1 x7).f1) > (wrap64 ((x0.length : Int) - ((rd_T37 x1 x7).f0))))) ((rd_T37 x1 x7).f0) ((rd_T37 x1 x7).f1) ((rd_T37 x1 x7).f2)) else (changeforgeref3_ApplyDelta.j1 k x0 x1 x6 x7 true ((rd_T37 x1 x7).f0) ((rd_T37 x1 x7).f1) ((rd_T37 x1 x7).f2)))) else (changeforgeref3_ApplyDelta.j1 k x0 x1 x6 x7 false ((rd_T37 x1 x7).f0) ((rd_T37 x1 x7).f1) ((rd_T37 x1 x7).f2)))) else (none)) else (some (x6, 0, 0))
def changeforgeref3_ApplyDelta.j1 : Nat → List Int → List (S37) → List Int → Int → Bool → Int → Int → List Int → Option (List Int × Int × Int)
  | 0, _, _, _, _, _, _, _, _ => none
  | k + 1, x0, x1, x6, x7, x54, x269000, x269001, x269002 => if x54 = true then ((changeforgeref3_Fault.f 3 x7).bind fun bt272 => (some (([] : List Int), bt272.1, bt272.2))) else (if ((decide (x269001 > 0)) == (decide ((x269002.length : Int) > 0))) = true then (changeforgeref3_ApplyDelta.j2 k x0 x1 x6 x7 true x269000 x269001 x269002) else (if x269001 = 0 then (changeforgeref3_ApplyDelta.j2 k x0 x1 x6 x7 (x269000 != 0) x269000 x269001 x269002) else (changeforgeref3_ApplyDelta.j2 k x0 x1 x6 x7 false x269000 x269001 x269002)))
def changeforgeref3_ApplyDelta.j2 : Nat → List Int → List (S37) → List Int → Int → Bool → Int → Int → List Int → Option (List Int × Int × Int)
  | 0, _, _, _, _, _, _, _, _ => none
  | k + 1, x0, x1, x6, x7, x74, x269000, x269001, x269002 => if x74 = true then ((changeforgeref3_Fault.f 5 x7).bind fun bt274 => (some (([] : List Int), bt274.1, bt274.2))) else (changeforgeref3_ApplyDelta.l1 k x0 x1 x6 x7 0 x269000 x269001 x269002)
def changeforgeref3_ApplyDelta.l1 : Nat → List Int → List (S37) → List Int → Int → Int → Int → Int → List Int → Option (List Int × Int × Int)
  | 0, _, _, _, _, _, _, _, _ => none
  | k + 1, x0, x1, x6, x7, x9, x269000, x269001, x269002 => if x9 < x269001 then (if 0 ≤ (wrap64 (x269000 + x9)) then (if (wrap64 (x269000 + x9)) < (x0.length : Int) then (if x6.length < 140737488355328 then (changeforgeref3_ApplyDelta.l1 k x0 x1 (x6 ++ [rd x0 (wrap64 (x269000 + x9))]) x7 (wrap64 (x9 + 1)) x269000 x269001 x269002) else (none)) else (none)) else (none)) else (changeforgeref3_ApplyDelta.l2 k x0 x1 x6 x7 0 x269000 x269001 x269002)
def changeforgeref3_ApplyDelta.l2 : Nat → List Int → List (S37) → List Int → Int → Int → Int → Int → List Int → Option (List Int × Int × Int)
  | 0, _, _, _, _, _, _, _, _ => none
  | k + 1, x0, x1, x6, x7, x10, x269000, x269001, x269002 => if x10 < (x269002.length : Int) then (if 0 ≤ x10 then (if x6.length < 140737488355328 then (changeforgeref3_ApplyDelta.l2 k x0 x1 (x6 ++ [rd x269002 x10]) x7 (wrap64 (x10 + 1)) x269000 x269001 x269002) else (none)) else (none)) else (if (x6.length : Int) > 1000 then ((changeforgeref3_Fault.f 10 x7).bind fun bt284 => (some (([] : List Int), bt284.1, bt284.2))) else (changeforgeref3_ApplyDelta.l0 k x0 x1 x6 (wrap64 (x7 + 1))))
end
def changeforgeref3_ApplyDelta.f (k : Nat) (l0 : List Int) (l1 : List (S37)) : Option (List Int × Int × Int) := if (l0.length : Int) > 1000 then ((changeforgeref3_Fault.f 10 (-1)).bind fun bt263 => (some (([] : List Int), bt263.1, bt263.2))) else (if (l1.length : Int) > 1000 then ((changeforgeref3_Fault.f 2 (-1)).bind fun bt265 => (some (([] : List Int), bt265.1, bt265.2))) else (changeforgeref3_ApplyDelta.l0 k l0 l1 ([] : List Int) 0))
theorem changeforgeref3_ApplyDelta.mono_l : ∀ k, (∀ y0 y1 y2 y3, LeO (changeforgeref3_ApplyDelta.l0 k y0 y1 y2 y3) (changeforgeref3_ApplyDelta.l0 (k + 1) y0 y1 y2 y3)) ∧ (∀ y0 y1 y2 y3 y4 y5 y6 y7, LeO (changeforgeref3_ApplyDelta.j1 k y0 y1 y2 y3 y4 y5 y6 y7) (changeforgeref3_ApplyDelta.j1 (k + 1) y0 y1 y2 y3 y4 y5 y6 y7)) ∧ (∀ y0 y1 y2 y3 y4 y5 y6 y7, LeO (changeforgeref3_ApplyDelta.j2 k y0 y1 y2 y3 y4 y5 y6 y7) (changeforgeref3_ApplyDelta.j2 (k + 1) y0 y1 y2 y3 y4 y5 y6 y7)) ∧ (∀ y0 y1 y2 y3 y4 y5 y6 y7, LeO (changeforgeref3_ApplyDelta.l1 k y0 y1 y2 y3 y4 y5 y6 y7) (changeforgeref3_ApplyDelta.l1 (k + 1) y0 y1 y2 y3 y4 y5 y6 y7)) ∧ (∀ y0 y1 y2 y3 y4 y5 y6 y7, LeO (changeforgeref3_ApplyDelta.l2 k y0 y1 y2 y3 y4 y5 y6 y7) (changeforgeref3_ApplyDelta.l2 (k + 1) y0 y1 y2 y3 y4 y5 y6 y7))
  | 0 => ⟨fun _ _ _ _ r h => by simp [changeforgeref3_ApplyDelta.l0] at h, fun _ _ _ _ _ _ _ _ r h => by simp [changeforgeref3_ApplyDelta.j1] at h, fun _ _ _ _ _ _ _ _ r h => by simp [changeforgeref3_ApplyDelta.j2] at h, fun _ _ _ _ _ _ _ _ r h => by simp [changeforgeref3_ApplyDelta.l1] at h, fun _ _ _ _ _ _ _ _ r h => by simp [changeforgeref3_ApplyDelta.l2] at h⟩
  | k + 1 => by
    obtain ⟨ih0, ih1, ih2, ih3, ih4⟩ := changeforgeref3_ApplyDelta.mono_l k
    refine ⟨?_, ?_, ?_, ?_, ?_⟩
    · intro y0 y1 y2 y3
      unfold changeforgeref3_ApplyDelta.l0
      repeat' first
      | (with_reducible exact ih0 _ _ _ _)
      | (with_reducible exact ih1 _ _ _ _ _ _ _ _)
      | (with_reducible exact ih2 _ _ _ _ _ _ _ _)
      | (with_reducible exact ih3 _ _ _ _ _ _ _ _)
      | (with_reducible exact ih4 _ _ _ _ _ _ _ _)
      | (with_reducible exact LeO.refl _)
      | (with_reducible exact LeO.none _)
      | (with_reducible refine LeO.ite ?_ ?_)
      | (with_reducible refine LeO.bind ?_ (fun _ => ?_))
      | exact ih0 _ _ _ _
      | exact ih1 _ _ _ _ _ _ _ _
      | exact ih2 _ _ _ _ _ _ _ _
      | exact ih3 _ _ _ _ _ _ _ _
      | exact ih4 _ _ _ _ _ _ _ _
      | exact LeO.none _
      | refine LeO.ite ?_ ?_
      | refine LeO.bind ?_ (fun _ => ?_)
    · intro y0 y1 y2 y3 y4 y5 y6 y7
      unfold changeforgeref3_ApplyDelta.j1
      repeat' first
      | (with_reducible exact ih0 _ _ _ _)
      | (with_reducible exact ih1 _ _ _ _ _ _ _ _)
      | (with_reducible exact ih2 _ _ _ _ _ _ _ _)
      | (with_reducible exact ih3 _ _ _ _ _ _ _ _)
      | (with_reducible exact ih4 _ _ _ _ _ _ _ _)
      | (with_reducible exact LeO.refl _)
      | (with_reducible exact LeO.none _)
      | (with_reducible refine LeO.ite ?_ ?_)
      | (with_reducible refine LeO.bind ?_ (fun _ => ?_))
      | exact ih0 _ _ _ _
      | exact ih1 _ _ _ _ _ _ _ _
      | exact ih2 _ _ _ _ _ _ _ _
      | exact ih3 _ _ _ _ _ _ _ _
      | exact ih4 _ _ _ _ _ _ _ _
      | exact LeO.none _
      | refine LeO.ite ?_ ?_
      | refine LeO.bind ?_ (fun _ => ?_)
    · intro y0 y1 y2 y3 y4 y5 y6 y7
      unfold changeforgeref3_ApplyDelta.j2
      repeat' first
      | (with_reducible exact ih0 _ _ _ _)
      | (with_reducible exact ih1 _ _ _ _ _ _ _ _)
      | (with_reducible exact ih2 _ _ _ _ _ _ _ _)
      | (with_reducible exact ih3 _ _ _ _ _ _ _ _)
      | (with_reducible exact ih4 _ _ _ _ _ _ _ _)
      | (with_reducible exact LeO.refl _)
      | (with_reducible exact LeO.none _)
      | (with_reducible refine LeO.ite ?_ ?_)
      | (with_reducible refine LeO.bind ?_ (fun _ => ?_))
      | exact ih0 _ _ _ _
      | exact ih1 _ _ _ _ _ _ _ _
      | exact ih2 _ _ _ _ _ _ _ _
      | exact ih3 _ _ _ _ _ _ _ _
      | exact ih4 _ _ _ _ _ _ _ _
      | exact LeO.none _
      | refine LeO.ite ?_ ?_
      | refine LeO.bind ?_ (fun _ => ?_)
    · intro y0 y1 y2 y3 y4 y5 y6 y7
      unfold changeforgeref3_ApplyDelta.l1
      repeat' first
      | (with_reducible exact ih0 _ _ _ _)
      | (with_reducible exact ih1 _ _ _ _ _ _ _ _)
      | (with_reducible exact ih2 _ _ _ _ _ _ _ _)
      | (with_reducible exact ih3 _ _ _ _ _ _ _ _)
      | (with_reducible exact ih4 _ _ _ _ _ _ _ _)
      | (with_reducible exact LeO.refl _)
      | (with_reducible exact LeO.none _)
      | (with_reducible refine LeO.ite ?_ ?_)
      | (with_reducible refine LeO.bind ?_ (fun _ => ?_))
      | exact ih0 _ _ _ _
      | exact ih1 _ _ _ _ _ _ _ _
      | exact ih2 _ _ _ _ _ _ _ _
      | exact ih3 _ _ _ _ _ _ _ _
      | exact ih4 _ _ _ _ _ _ _ _
      | exact LeO.none _
      | refine LeO.ite ?_ ?_
      | refine LeO.bind ?_ (fun _ => ?_)
    · intro y0 y1 y2 y3 y4 y5 y6 y7
      unfold changeforgeref3_ApplyDelta.l2
      repeat' first
      | (with_reducible exact ih0 _ _ _ _)
      | (with_reducible exact ih1 _ _ _ _ _ _ _ _)
      | (with_reducible exact ih2 _ _ _ _ _ _ _ _)
      | (with_reducible exact ih3 _ _ _ _ _ _ _ _)
      | (with_reducible exact ih4 _ _ _ _ _ _ _ _)
      | (with_reducible exact LeO.refl _)
      | (with_reducible exact LeO.none _)
      | (with_reducible refine LeO.ite ?_ ?_)
      | (with_reducible refine LeO.bind ?_ (fun _ => ?_))
      | exact ih0 _ _ _ _
      | exact ih1 _ _ _ _ _ _ _ _
      | exact ih2 _ _ _ _ _ _ _ _
      | exact ih3 _ _ _ _ _ _ _ _
      | exact ih4 _ _ _ _ _ _ _ _
      | exact LeO.none _
      | refine LeO.ite ?_ ?_
      | refine LeO.bind ?_ (fun _ => ?_)
theorem changeforgeref3_ApplyDelta.mono : ∀ a0 a1 k, LeO (changeforgeref3_ApplyDelta.f k a0 a1) (changeforgeref3_ApplyDelta.f (k + 1) a0 a1) := by
  intro a0 a1 k
  obtain ⟨ih0, ih1, ih2, ih3, ih4⟩ := changeforgeref3_ApplyDelta.mono_l k
  unfold changeforgeref3_ApplyDelta.f
  repeat' first
      | (with_reducible exact ih0 _ _ _ _)
      | (with_reducible exact ih1 _ _ _ _ _ _ _ _)
      | (with_reducible exact ih2 _ _ _ _ _ _ _ _)
      | (with_reducible exact ih3 _ _ _ _ _ _ _ _)
      | (with_reducible exact ih4 _ _ _ _ _ _ _ _)
      | (with_reducible exact LeO.refl _)
      | (with_reducible exact LeO.none _)
      | (with_reducible refine LeO.ite ?_ ?_)
      | (with_reducible refine LeO.bind ?_ (fun _ => ?_))
      | exact ih0 _ _ _ _
      | exact ih1 _ _ _ _ _ _ _ _
      | exact ih2 _ _ _ _ _ _ _ _
      | exact ih3 _ _ _ _ _ _ _ _
      | exact ih4 _ _ _ _ _ _ _ _
      | exact LeO.none _
      | refine LeO.ite ?_ ?_
      | refine LeO.bind ?_ (fun _ => ?_)
set_option maxHeartbeats 8000000 in
set_option maxRecDepth 100000 in
theorem changeforgeref3_ApplyDelta.calls (k : Nat) (A0 : Option Addr) (c0 : Nat) (l0 : List Int) (A1 : Option Addr) (c1 : Nat) (l1 : List (S37)) (r1 : List Int) (r2 : Int) (r3 : Int) (w : World) (hr0 : Kd.C (Kd.int .u8) w A0 l0.length l0) (hc0 : l0.length ≤ c0) (hr1 : Kd.C k37 w A1 l1.length l1) (hc1 : l1.length ≤ c1) (h : changeforgeref3_ApplyDelta.f k l0 l1 = some (r1, r2, r3)) :
  Calls Try.prog 16 #[.slice A0 l0.length c0, .slice A1 l1.length c1] w fun e w' => ∃ v0_ : Value, e = .returned (.tuple #[v0_, .agg #[.int .i64 r2, .int .i64 r3]]) ∧ Kd.R (Kd.int .u8) 5 w' w.heap.size (fun _ => True) v0_ r1 ∧ Below w.heap.size w w' := by
  have hu26 := Try.underlying26
  have hu37 := Try.underlying37
  have HR0 := aZ hr0
  have HC0 := aZ hc0
  clear hr0 hc0
  have HR1 := aZ hr1
  have HC1 := aZ hc1
  clear hr1 hc1
  have HB := aZ (Below.refl w.heap.size w)
  have H : (if (l0.length : Int) > 1000 then ((changeforgeref3_Fault.f 10 (-1)).bind fun bt263 => (some (([] : List Int), bt263.1, bt263.2))) else (if (l1.length : Int) > 1000 then ((changeforgeref3_Fault.f 2 (-1)).bind fun bt265 => (some (([] : List Int), bt265.1, bt265.2))) else (changeforgeref3_ApplyDelta.l0 k l0 l1 ([] : List Int) 0))) = some (r1, r2, r3) := h
  clear h
  by_cases c3 : (l0.length : Int) > 1000
  · rw [if_pos c3] at H
    have c3b0 : decide (1000 < (l0.length : Int)) = true := decide_eq_true c3
    have c3b1 : decide (1000 < l0.length) = true := decide_eq_true (by omega)
    clear c3
    replace H := Option.bind_eq_some_iff.mp H
    obtain ⟨⟨t263, t264⟩, A40, H⟩ := H
    replace H : (some (([] : List Int), t263, t264)) = some (r1, r2, r3) := H
    have A4 := aZ A40
    clear A40
    simp only [Option.some.injEq, Prod.mk.injEq] at H
    obtain ⟨rfl, rfl, rfl⟩ := H
    go_enter Try.func16, Try.ntmps16
    go_wp2_with (first | ((with_reducible refine gate_dst (N := 5) rfl ?_); (try (refine gate_guard (by rfl) ?_; dsimp only)); refine box_event ?hg (N := 5) ?hd (cs := #[.int .i64 0, .int .i64 0]) (t := 26) ?hr ?_; (case hd => rfl); (case hg => rfl); (case hr => first | (go_simp; done) | (go_simp; rfl)); intro gb262 hg w5 hbox hb; have n0_ := aZ (lT (by repeat (first | (with_reducible first | exact HB.out | apply lA | apply lN | apply lD) | exact HB.out)) hb); have n1_ := aZ (hbox); have n2_ := aZ ((by rw [hg]; exact (lZ (by repeat (first | (with_reducible first | exact HB.out | apply lA | apply lN | apply lD) | exact HB.out))) : w.heap.size ≤ gb262)); have n3_ := aZ ((by rw [hg]; exact (lZ (by repeat (first | (with_reducible first | exact HB.out | apply lA | apply lN | apply lD) | exact HB.out))) : w.heap.size ≤ gb262)); clear HB; have HB := n0_; have BK262 := n1_; have GW262 := n2_; have GE262 := n3_; clear n0_ n1_ n2_ n3_; clear hb hbox hg) | ((with_reducible refine gate_callee (f := 12) rfl ?_); refine goesL_ (some 14) rfl rfl Try.func12 (by kernel_rfl) rfl #[.int .i64 10, .int .i64 (-1)] rfl (by (try simp only [List.map_toArray, List.map_cons, List.map_nil]); first | done | rfl | (simp only [List.length_drop, List.length_take]; rfl)) ?_; (with_reducible refine (changeforgeref3_Fault.calls 10 (-1) t263 t264 _ A4.out).mono ?_); rintro e w6 ⟨rfl, hb⟩; refine ⟨_, rfl, ?_⟩; have n0_ := aZ (blk_below (g := gb262) (o := .cells #[.int .i64 0, .int .i64 0] 26 (0, 0)) (by (with_reducible repeat (first | refine bN ?_ _ | refine bD ?_ | refine bA ?_ _)); exact BK262.out) hb); have n1_ := aZ (lT (by repeat (first | (with_reducible first | exact HB.out | apply lA | apply lN | apply lD | refine lS ?_ GE262.out) | exact HB.out)) hb); clear BK262; clear HB; have BK262 := n0_; have HB := n1_; clear n0_ n1_; (try clear hb); (try clear hb2); (try clear hk); (try clear hi); have hcz7_0 : w6.cell? ⟨gb262, 0, none⟩ = some (.int .i64 0) := (blk_cell BK262.out 0).trans rfl; have hcz7_1 : w6.cell? ⟨gb262, 1, none⟩ = some (.int .i64 0) := (blk_cell BK262.out 1).trans rfl; have hfz7_0 := blk_frozen BK262.out 0; have hfz7_1 := blk_frozen BK262.out 1))
    refine bodyPost_ret (results_tc rfl _ _ gb262 26 #[.int .i64 t263, .int .i64 t264] (0, 0) _ rfl (by (with_reducible repeat (first | refine bN ?_ _ | refine bD ?_ | refine bA ?_ _)); refine blk_put (cs := #[.int .i64 t263, .int .i64 0]) ?_ 1 _ rfl; (with_reducible repeat (first | refine bN ?_ _ | refine bD ?_ | refine bA ?_ _)); refine blk_put (cs := #[.int .i64 0, .int .i64 0]) ?_ 0 _ rfl; (with_reducible repeat (first | refine bN ?_ _ | refine bD ?_ | refine bA ?_ _)); exact BK262.out) Try.underlying26 rfl (by kernel_rfl)) rfl ?_
    exact ⟨_, by first | rfl | (simp [errW_none, errW_some] <;> rfl) | (simp [*, errW_none, errW_some] <;> rfl), by first | exact Kd.R_nil _ _ _ _ _ | exact Kd.N_nil _ _ _ _ _ | exact Kd.V_nil _ _ _ _ _ | exact Kd.Q_nil _ _ _ _ _ | exact Kd.S_nil _ _ _ _ _, by repeat (first | (with_reducible first | exact HB.out | apply lA | apply lN | apply lD | refine lS ?_ GE262.out) | exact HB.out)⟩
  rw [if_neg c3] at H
  have c3b0 : decide (1000 < (l0.length : Int)) = false := decide_eq_false c3
  have c3b1 : decide (1000 < l0.length) = false := decide_eq_false (by omega)
  clear c3
  by_cases c8 : (l1.length : Int) > 1000
  · rw [if_pos c8] at H
    have c8b0 : decide (1000 < (l1.length : Int)) = true := decide_eq_true c8
    have c8b1 : decide (1000 < l1.length) = true := decide_eq_true (by omega)
    clear c8
    replace H := Option.bind_eq_some_iff.mp H
    obtain ⟨⟨t265, t266⟩, A90, H⟩ := H
    replace H : (some (([] : List Int), t265, t266)) = some (r1, r2, r3) := H
    have A9 := aZ A90
    clear A90
    simp only [Option.some.injEq, Prod.mk.injEq] at H
    obtain ⟨rfl, rfl, rfl⟩ := H
    go_enter Try.func16, Try.ntmps16
    go_wp2_with (first | ((with_reducible refine gate_dst (N := 5) rfl ?_); (try (refine gate_guard (by rfl) ?_; dsimp only)); refine box_event ?hg (N := 5) ?hd (cs := #[.int .i64 0, .int .i64 0]) (t := 26) ?hr ?_; (case hd => rfl); (case hg => rfl); (case hr => first | (go_simp; done) | (go_simp; rfl)); intro gb262 hg w10 hbox hb; have n0_ := aZ (lT (by repeat (first | (with_reducible first | exact HB.out | apply lA | apply lN | apply lD) | exact HB.out)) hb); have n1_ := aZ (hbox); have n2_ := aZ ((by rw [hg]; exact (lZ (by repeat (first | (with_reducible first | exact HB.out | apply lA | apply lN | apply lD) | exact HB.out))) : w.heap.size ≤ gb262)); have n3_ := aZ ((by rw [hg]; exact (lZ (by repeat (first | (with_reducible first | exact HB.out | apply lA | apply lN | apply lD) | exact HB.out))) : w.heap.size ≤ gb262)); clear HB; have HB := n0_; have BK262 := n1_; have GW262 := n2_; have GE262 := n3_; clear n0_ n1_ n2_ n3_; clear hb hbox hg) | ((with_reducible refine gate_callee (f := 12) rfl ?_); refine goesL_ (some 18) rfl rfl Try.func12 (by kernel_rfl) rfl #[.int .i64 2, .int .i64 (-1)] rfl (by (try simp only [List.map_toArray, List.map_cons, List.map_nil]); first | done | rfl | (simp only [List.length_drop, List.length_take]; rfl)) ?_; (with_reducible refine (changeforgeref3_Fault.calls 2 (-1) t265 t266 _ A9.out).mono ?_); rintro e w11 ⟨rfl, hb⟩; refine ⟨_, rfl, ?_⟩; have n0_ := aZ (blk_below (g := gb262) (o := .cells #[.int .i64 0, .int .i64 0] 26 (0, 0)) (by (with_reducible repeat (first | refine bN ?_ _ | refine bD ?_ | refine bA ?_ _)); exact BK262.out) hb); have n1_ := aZ (lT (by repeat (first | (with_reducible first | exact HB.out | apply lA | apply lN | apply lD | refine lS ?_ GE262.out) | exact HB.out)) hb); clear BK262; clear HB; have BK262 := n0_; have HB := n1_; clear n0_ n1_; (try clear hb); (try clear hb2); (try clear hk); (try clear hi); have hcz12_0 : w11.cell? ⟨gb262, 0, none⟩ = some (.int .i64 0) := (blk_cell BK262.out 0).trans rfl; have hcz12_1 : w11.cell? ⟨gb262, 1, none⟩ = some (.int .i64 0) := (blk_cell BK262.out 1).trans rfl; have hfz12_0 := blk_frozen BK262.out 0; have hfz12_1 := blk_frozen BK262.out 1))
    refine bodyPost_ret (results_tc rfl _ _ gb262 26 #[.int .i64 t265, .int .i64 t266] (0, 0) _ rfl (by (with_reducible repeat (first | refine bN ?_ _ | refine bD ?_ | refine bA ?_ _)); refine blk_put (cs := #[.int .i64 t265, .int .i64 0]) ?_ 1 _ rfl; (with_reducible repeat (first | refine bN ?_ _ | refine bD ?_ | refine bA ?_ _)); refine blk_put (cs := #[.int .i64 0, .int .i64 0]) ?_ 0 _ rfl; (with_reducible repeat (first | refine bN ?_ _ | refine bD ?_ | refine bA ?_ _)); exact BK262.out) Try.underlying26 rfl (by kernel_rfl)) rfl ?_
    exact ⟨_, by first | rfl | (simp [errW_none, errW_some] <;> rfl) | (simp [*, errW_none, errW_some] <;> rfl), by first | exact Kd.R_nil _ _ _ _ _ | exact Kd.N_nil _ _ _ _ _ | exact Kd.V_nil _ _ _ _ _ | exact Kd.Q_nil _ _ _ _ _ | exact Kd.S_nil _ _ _ _ _, by repeat (first | (with_reducible first | exact HB.out | apply lA | apply lN | apply lD | refine lS ?_ GE262.out) | exact HB.out)⟩
  rw [if_neg c8] at H
  have c8b0 : decide (1000 < (l1.length : Int)) = false := decide_eq_false c8
  have c8b1 : decide (1000 < l1.length) = false := decide_eq_false (by omega)
  clear c8
  have H' := aZ H
  clear H
  go_enter Try.func16, Try.ntmps16
  go_wp2_with (first | ((with_reducible refine gate_dst (N := 5) rfl ?_); (try (refine gate_guard (by rfl) ?_; dsimp only)); refine box_event ?hg (N := 5) ?hd (cs := #[.int .i64 0, .int .i64 0]) (t := 26) ?hr ?_; (case hd => rfl); (case hg => rfl); (case hr => first | (go_simp; done) | (go_simp; rfl)); intro gb262 hg w13 hbox hb; have n0_ := aZ (lT (by repeat (first | (with_reducible first | exact HB.out | apply lA | apply lN | apply lD) | exact HB.out)) hb); have n1_ := aZ (hbox); have n2_ := aZ ((by rw [hg]; exact (lZ (by repeat (first | (with_reducible first | exact HB.out | apply lA | apply lN | apply lD) | exact HB.out))) : w.heap.size ≤ gb262)); have n3_ := aZ ((by rw [hg]; exact (lZ (by repeat (first | (with_reducible first | exact HB.out | apply lA | apply lN | apply lD) | exact HB.out))) : w.heap.size ≤ gb262)); clear HB; have HB := n0_; have BK262 := n1_; have GW262 := n2_; have GE262 := n3_; clear n0_ n1_ n2_ n3_; clear hb hbox hg))
  go_loopg [6, 7] k (fun kq v6 v7 w' => ∃ (x6_1 : List Int) (x7_1 : Int) (x263000_1 : Int) (x263001_1 : Int), v7 = .int .i64 x7_1 ∧ Aside0 (changeforgeref3_ApplyDelta.l0 kq l0 l1 x6_1 x7_1 = some (r1, r2, r3)) ∧ Aside0 (kq ≤ k) ∧ Aside0 (Kd.R (Kd.int .u8) 5 w' w.heap.size (fun _ => True) v6 x6_1) ∧ Aside0 (w'.heap[gb262]? = some (.cells #[.int .i64 x263000_1, .int .i64 x263001_1] 26 (0, 0))) ∧ Aside0 (Below w.heap.size w w'))
  case atStart => exact ⟨(([] : List Int)), (0), (0), (0), (by first | rfl | (simp; done) | (simp [*]; done) | (simp [i64_w]; done)), H', ⟨Nat.le_refl _⟩, ⟨by first | exact Kd.R_nil _ _ _ _ _ | exact Kd.N_nil _ _ _ _ _ | exact Kd.V_nil _ _ _ _ _ | exact Kd.Q_nil _ _ _ _ _ | exact Kd.S_nil _ _ _ _ _⟩, ⟨by (with_reducible repeat (first | refine bN ?_ _ | refine bD ?_ | refine bA ?_ _)); exact BK262.out⟩, ⟨by repeat (first | (with_reducible first | exact HB.out | apply lA | apply lN | apply lD | refine lS ?_ GE262.out) | exact HB.out)⟩⟩
  case round =>
   clear H'
   (try clear c1); (try clear c3); (try clear c3b0); (try clear c3b1); (try clear c8); (try clear c8b0); (try clear c8b1)
   obtain ⟨x6_1, x7_1, x263000_1, x263001_1, rfl, HA, HK1, HO_6, BK262, HB⟩ := hrel
   cases gk with
   | zero => exact absurd HA.out (by simp [changeforgeref3_ApplyDelta.l0])
   | succ k1 =>
    have H := HA.out
    clear HA
    simp only [changeforgeref3_ApplyDelta.l0] at H
    by_cases c14 : x7_1 < (l1.length : Int)
    rotate_left
    · rw [if_neg c14] at H
      have c14b0 : decide (x7_1 < (l1.length : Int)) = false := decide_eq_false c14
      clear c14
      simp only [Option.some.injEq, Prod.mk.injEq] at H
      obtain ⟨rfl, rfl, rfl⟩ := H
      have hcz81_0 : wr.cell? ⟨gb262, 0, none⟩ = some (.int .i64 x263000_1) := (blk_cell BK262.out 0).trans rfl
      have hcz81_1 : wr.cell? ⟨gb262, 1, none⟩ = some (.int .i64 x263001_1) := (blk_cell BK262.out 1).trans rfl
      have hfz81_0 := blk_frozen BK262.out 0
      have hfz81_1 := blk_frozen BK262.out 1
      go_wp2
      refine bodyPost_ret (results_tc rfl _ _ gb262 26 #[.int .i64 0, .int .i64 0] (0, 0) _ rfl (by (with_reducible repeat (first | refine bN ?_ _ | refine bD ?_ | refine bA ?_ _)); refine blk_put (cs := #[.int .i64 0, .int .i64 x263001_1]) ?_ 1 _ rfl; (with_reducible repeat (first | refine bN ?_ _ | refine bD ?_ | refine bA ?_ _)); refine blk_put (cs := #[.int .i64 x263000_1, .int .i64 x263001_1]) ?_ 0 _ rfl; (with_reducible repeat (first | refine bN ?_ _ | refine bD ?_ | refine bA ?_ _)); exact BK262.out) Try.underlying26 rfl (by kernel_rfl)) rfl ?_
      exact ⟨_, by first | rfl | (simp [errW_none, errW_some] <;> rfl) | (simp [*, errW_none, errW_some] <;> rfl), by (with_reducible repeat (first | apply Kd.rA | apply Kd.rN | apply Kd.rD)); exact Kd.R_mono (Kd.R_far (p := ⟨gb262, 1, none⟩) (Kd.R_far (p := ⟨gb262, 0, none⟩) (Kd.R_types HO_6.out BK262.out (by decide)) (fun _ hk => hk.2) (.int .i64 0)) (fun _ hk => hk.2) (.int .i64 0)) (fun _ hk => trivial), by repeat (first | (with_reducible first | exact HB.out | apply lA | apply lN | apply lD | refine lS ?_ GE262.out) | exact HB.out)⟩

    rw [if_pos c14] at H
    have c14b0 : decide (x7_1 < (l1.length : Int)) = true := decide_eq_true c14
    clear c14
    by_cases c15 : 0 ≤ x7_1
    rotate_left
    · rw [if_neg c15] at H
      exact absurd H (by simp)
    rw [if_pos c15] at H
    have c15b0 : decide (0 ≤ x7_1) = true := decide_eq_true c15
    clear c15
    by_cases c16 : ((rd_T37 l1 x7_1).f1) < 0
    · rw [if_pos c16] at H
      have c16b0 : decide (((rd_T37 l1 x7_1).f1) < 0) = true := decide_eq_true c16
      clear c16
      replace H := Option.bind_eq_some_iff.mp H
      obtain ⟨⟨t269, t270⟩, A170, H⟩ := H
      replace H : (some (([] : List Int), t269, t270)) = some (r1, r2, r3) := H
      have A17 := aZ A170
      clear A170
      simp only [Option.some.injEq, Prod.mk.injEq] at H
      obtain ⟨rfl, rfl, rfl⟩ := H
      have p267 : 0 ≤ (x7_1 : Int) := of_decide_eq_true (by first | (with_reducible assumption) | assumption)
      have q267 : x7_1 < (l1.length : Int) := of_decide_eq_true (by first | (with_reducible assumption) | assumption)
      obtain ⟨ad267, A267_2, c267_2, e267, hx267_0, hx267_1, hx267_2, hl267_2, hi267_2⟩ := at_T37 HR1.out x7_1 p267 q267
      cases e267
      replace hx267_0 := (HB.out.cell (World.block_lt_of_cell? w _ hx267_0)).trans hx267_0
      replace hx267_1 := (HB.out.cell (World.block_lt_of_cell? w _ hx267_1)).trans hx267_1
      replace hx267_2 := (HB.out.cell (World.block_lt_of_cell? w _ hx267_2)).trans hx267_2
      have HR267_2 := aZ hi267_2
      have HC267_2 := aZ hl267_2
      clear hi267_2 hl267_2
      replace p267 := eq_true p267
      replace q267 := eq_true q267
      go_wp2_with (first | ((with_reducible refine gate_dst (N := 8) rfl ?_); (try (refine gate_guard (by rfl) ?_; dsimp only)); refine box_event ?hg (N := 8) ?hd (cs := #[.int .i64 0, .int .i64 0, .slice none 0 0]) (t := 37) ?hr ?_; (case hd => rfl); (case hg => rfl); (case hr => first | (go_simp; done) | (go_simp; rfl)); intro gb268 hg w18 hbox hb; have n0_ := aZ (Kd.R_below (by (with_reducible repeat (first | apply Kd.rA | apply Kd.rN | apply Kd.rD)); exact HO_6.out) hb); have n1_ := aZ (blk_below (g := gb262) (o := .cells #[.int .i64 x263000_1, .int .i64 x263001_1] 26 (0, 0)) (by (with_reducible repeat (first | refine bN ?_ _ | refine bD ?_ | refine bA ?_ _)); exact BK262.out) hb); have n2_ := aZ (lT (by repeat (first | (with_reducible first | exact HB.out | apply lA | apply lN | apply lD | refine lS ?_ GE262.out) | exact HB.out)) hb); have n3_ := aZ (hbox); have n4_ := aZ ((by rw [hg]; exact (lZ (by repeat (first | (with_reducible first | exact HB.out | apply lA | apply lN | apply lD | refine lS ?_ GE262.out) | exact HB.out))) : w.heap.size ≤ gb268)); have n5_ := aZ ((by rw [hg]; exact (lZ (by repeat (first | (with_reducible first | exact HB.out | apply lA | apply lN | apply lD | refine lS ?_ GE262.out) | exact HB.out))) : w.heap.size ≤ gb268)); have n6_ := aZ ((by rw [hg]; exact Nat.ne_of_lt (blk_lt (g := gb262) (o := .cells #[.int .i64 x263000_1, .int .i64 x263001_1] 26 (0, 0)) (by (with_reducible repeat (first | refine bN ?_ _ | refine bD ?_ | refine bA ?_ _)); exact BK262.out)) : gb262 ≠ gb268)); have n7_ := aZ ((by rw [hg]; exact Nat.ne_of_gt (blk_lt (g := gb262) (o := .cells #[.int .i64 x263000_1, .int .i64 x263001_1] 26 (0, 0)) (by (with_reducible repeat (first | refine bN ?_ _ | refine bD ?_ | refine bA ?_ _)); exact BK262.out)) : gb268 ≠ gb262)); clear HO_6; clear BK262; clear HB; have HO_6 := n0_; have BK262 := n1_; have HB := n2_; have BK268 := n3_; have GW268 := n4_; have GE268 := n5_; have NB262_268 := n6_; have NB268_262 := n7_; clear n0_ n1_ n2_ n3_ n4_ n5_ n6_ n7_; clear hb hbox hg; have hnb19 := NB268_262.out; have hnc19 := NB262_268.out; have hcz20_0 : w18.cell? ⟨gb268, 0, none⟩ = some (.int .i64 0) := (blk_cell BK268.out 0).trans rfl; have hcz20_1 : w18.cell? ⟨gb268, 1, none⟩ = some (.int .i64 0) := (blk_cell BK268.out 1).trans rfl; have hcz20_2 : w18.cell? ⟨gb268, 2, none⟩ = some (.slice none 0 0) := (blk_cell BK268.out 2).trans rfl; have hfz20_0 := blk_frozen BK268.out 0; have hfz20_1 := blk_frozen BK268.out 1; have hfz20_2 := blk_frozen BK268.out 2) | ((with_reducible refine gate_callee (f := 12) rfl ?_); refine goesL_ (some 33) rfl rfl Try.func12 (by kernel_rfl) rfl #[.int .i64 3, .int .i64 x7_1] rfl (by (try simp only [List.map_toArray, List.map_cons, List.map_nil]); first | done | rfl | (simp only [List.length_drop, List.length_take]; rfl)) ?_; (with_reducible refine (changeforgeref3_Fault.calls 3 x7_1 t269 t270 _ A17.out).mono ?_); rintro e w21 ⟨rfl, hb⟩; refine ⟨_, rfl, ?_⟩; have n0_ := aZ (Kd.R_below (by (with_reducible repeat (first | apply Kd.rA | apply Kd.rN | apply Kd.rD)); exact (Kd.R_mono (Kd.R_far (p := ⟨gb268, 2, none⟩) (Kd.R_far (p := ⟨gb268, 1, none⟩) (Kd.R_far (p := ⟨gb268, 0, none⟩) (Kd.R_types HO_6.out BK268.out (by decide)) (fun _ hk => hk.2) (.int .i64 ((rd_T37 l1 x7_1).f0))) (fun _ hk => hk.2) (.int .i64 ((rd_T37 l1 x7_1).f1))) (fun _ hk => hk.2) (.slice A267_2 ((rd_T37 l1 x7_1).f2).length c267_2)) (fun _ h_ => h_.1))) hb); have n1_ := aZ (blk_below (g := gb262) (o := .cells #[.int .i64 x263000_1, .int .i64 x263001_1] 26 (0, 0)) (by (with_reducible repeat (first | refine bN ?_ _ | refine bD ?_ | refine bA ?_ _)); refine blk_far ?_ NB262_268.out _; (with_reducible repeat (first | refine bN ?_ _ | refine bD ?_ | refine bA ?_ _)); refine blk_far ?_ NB262_268.out _; (with_reducible repeat (first | refine bN ?_ _ | refine bD ?_ | refine bA ?_ _)); refine blk_far ?_ NB262_268.out _; (with_reducible repeat (first | refine bN ?_ _ | refine bD ?_ | refine bA ?_ _)); exact BK262.out) hb); have n2_ := aZ (blk_below (g := gb268) (o := .cells #[.int .i64 ((rd_T37 l1 x7_1).f0), .int .i64 ((rd_T37 l1 x7_1).f1), .slice A267_2 ((rd_T37 l1 x7_1).f2).length c267_2] 37 (0, 0)) (by (with_reducible repeat (first | refine bN ?_ _ | refine bD ?_ | refine bA ?_ _)); refine blk_put (cs := #[.int .i64 ((rd_T37 l1 x7_1).f0), .int .i64 ((rd_T37 l1 x7_1).f1), .slice none 0 0]) ?_ 2 _ rfl; (with_reducible repeat (first | refine bN ?_ _ | refine bD ?_ | refine bA ?_ _)); refine blk_put (cs := #[.int .i64 ((rd_T37 l1 x7_1).f0), .int .i64 0, .slice none 0 0]) ?_ 1 _ rfl; (with_reducible repeat (first | refine bN ?_ _ | refine bD ?_ | refine bA ?_ _)); refine blk_put (cs := #[.int .i64 0, .int .i64 0, .slice none 0 0]) ?_ 0 _ rfl; (with_reducible repeat (first | refine bN ?_ _ | refine bD ?_ | refine bA ?_ _)); exact BK268.out) hb); have n3_ := aZ (lT (by repeat (first | (with_reducible first | exact HB.out | apply lA | apply lN | apply lD | refine lS ?_ GE262.out | refine lS ?_ GE268.out) | exact HB.out)) hb); clear HO_6; clear BK262; clear BK268; clear HB; have HO_6 := n0_; have BK262 := n1_; have BK268 := n2_; have HB := n3_; clear n0_ n1_ n2_ n3_; (try clear hb); (try clear hb2); (try clear hk); (try clear hi); have hcz22_0 : w21.cell? ⟨gb262, 0, none⟩ = some (.int .i64 x263000_1) := (blk_cell BK262.out 0).trans rfl; have hcz22_1 : w21.cell? ⟨gb262, 1, none⟩ = some (.int .i64 x263001_1) := (blk_cell BK262.out 1).trans rfl; have hfz22_0 := blk_frozen BK262.out 0; have hfz22_1 := blk_frozen BK262.out 1))
      refine bodyPost_ret (results_tc rfl _ _ gb262 26 #[.int .i64 t269, .int .i64 t270] (0, 0) _ rfl (by (with_reducible repeat (first | refine bN ?_ _ | refine bD ?_ | refine bA ?_ _)); refine blk_put (cs := #[.int .i64 t269, .int .i64 x263001_1]) ?_ 1 _ rfl; (with_reducible repeat (first | refine bN ?_ _ | refine bD ?_ | refine bA ?_ _)); refine blk_put (cs := #[.int .i64 x263000_1, .int .i64 x263001_1]) ?_ 0 _ rfl; (with_reducible repeat (first | refine bN ?_ _ | refine bD ?_ | refine bA ?_ _)); exact BK262.out) Try.underlying26 rfl (by kernel_rfl)) rfl ?_
      exact ⟨_, by first | rfl | (simp [errW_none, errW_some] <;> rfl) | (simp [*, errW_none, errW_some] <;> rfl), by first | exact Kd.R_nil _ _ _ _ _ | exact Kd.N_nil _ _ _ _ _ | exact Kd.V_nil _ _ _ _ _ | exact Kd.Q_nil _ _ _ _ _ | exact Kd.S_nil _ _ _ _ _, by repeat (first | (with_reducible first | exact HB.out | apply lA | apply lN | apply lD | refine lS ?_ GE262.out | refine lS ?_ GE268.out) | exact HB.out)⟩
    rw [if_neg c16] at H
    have c16b0 : decide (((rd_T37 l1 x7_1).f1) < 0) = false := decide_eq_false c16
    clear c16
    have HC23 := aZ H
    clear H
    have p267 : 0 ≤ (x7_1 : Int) := of_decide_eq_true (by first | (with_reducible assumption) | assumption)
    have q267 : x7_1 < (l1.length : Int) := of_decide_eq_true (by first | (with_reducible assumption) | assumption)
    obtain ⟨ad267, A267_2, c267_2, e267, hx267_0, hx267_1, hx267_2, hl267_2, hi267_2⟩ := at_T37 HR1.out x7_1 p267 q267
    cases e267
    replace hx267_0 := (HB.out.cell (World.block_lt_of_cell? w _ hx267_0)).trans hx267_0
    replace hx267_1 := (HB.out.cell (World.block_lt_of_cell? w _ hx267_1)).trans hx267_1
    replace hx267_2 := (HB.out.cell (World.block_lt_of_cell? w _ hx267_2)).trans hx267_2
    have HR267_2 := aZ hi267_2
    have HC267_2 := aZ hl267_2
    clear hi267_2 hl267_2
    replace p267 := eq_true p267
    replace q267 := eq_true q267
    go_upto_region 12 with (first | ((with_reducible refine gate_dst (N := 8) rfl ?_); (try (refine gate_guard (by rfl) ?_; dsimp only)); refine box_event ?hg (N := 8) ?hd (cs := #[.int .i64 0, .int .i64 0, .slice none 0 0]) (t := 37) ?hr ?_; (case hd => rfl); (case hg => rfl); (case hr => first | (go_simp; done) | (go_simp; rfl)); intro gb268 hg w24 hbox hb; have n0_ := aZ (Kd.R_below (by (with_reducible repeat (first | apply Kd.rA | apply Kd.rN | apply Kd.rD)); exact HO_6.out) hb); have n1_ := aZ (blk_below (g := gb262) (o := .cells #[.int .i64 x263000_1, .int .i64 x263001_1] 26 (0, 0)) (by (with_reducible repeat (first | refine bN ?_ _ | refine bD ?_ | refine bA ?_ _)); exact BK262.out) hb); have n2_ := aZ (lT (by repeat (first | (with_reducible first | exact HB.out | apply lA | apply lN | apply lD | refine lS ?_ GE262.out) | exact HB.out)) hb); have n3_ := aZ (hbox); have n4_ := aZ ((by rw [hg]; exact (lZ (by repeat (first | (with_reducible first | exact HB.out | apply lA | apply lN | apply lD | refine lS ?_ GE262.out) | exact HB.out))) : w.heap.size ≤ gb268)); have n5_ := aZ ((by rw [hg]; exact (lZ (by repeat (first | (with_reducible first | exact HB.out | apply lA | apply lN | apply lD | refine lS ?_ GE262.out) | exact HB.out))) : w.heap.size ≤ gb268)); have n6_ := aZ ((by rw [hg]; exact Nat.ne_of_lt (blk_lt (g := gb262) (o := .cells #[.int .i64 x263000_1, .int .i64 x263001_1] 26 (0, 0)) (by (with_reducible repeat (first | refine bN ?_ _ | refine bD ?_ | refine bA ?_ _)); exact BK262.out)) : gb262 ≠ gb268)); have n7_ := aZ ((by rw [hg]; exact Nat.ne_of_gt (blk_lt (g := gb262) (o := .cells #[.int .i64 x263000_1, .int .i64 x263001_1] 26 (0, 0)) (by (with_reducible repeat (first | refine bN ?_ _ | refine bD ?_ | refine bA ?_ _)); exact BK262.out)) : gb268 ≠ gb262)); clear HO_6; clear BK262; clear HB; have HO_6 := n0_; have BK262 := n1_; have HB := n2_; have BK268 := n3_; have GW268 := n4_; have GE268 := n5_; have NB262_268 := n6_; have NB268_262 := n7_; clear n0_ n1_ n2_ n3_ n4_ n5_ n6_ n7_; clear hb hbox hg; have hnb25 := NB268_262.out; have hnc25 := NB262_268.out; have hcz26_0 : w24.cell? ⟨gb268, 0, none⟩ = some (.int .i64 0) := (blk_cell BK268.out 0).trans rfl; have hcz26_1 : w24.cell? ⟨gb268, 1, none⟩ = some (.int .i64 0) := (blk_cell BK268.out 1).trans rfl; have hcz26_2 : w24.cell? ⟨gb268, 2, none⟩ = some (.slice none 0 0) := (blk_cell BK268.out 2).trans rfl; have hfz26_0 := blk_frozen BK268.out 0; have hfz26_1 := blk_frozen BK268.out 1; have hfz26_2 := blk_frozen BK268.out 2))
    (try simp only [Act.put, List.setIfInBounds_toArray, List.set_cons_zero, List.set_cons_succ])
    go_cut [54] (fun v54 wc => ∃ (kq : Nat) (x54_22 : Bool), v54 = .bool x54_22 ∧ Aside0 (changeforgeref3_ApplyDelta.j1 kq l0 l1 x6_1 x7_1 x54_22 ((rd_T37 l1 x7_1).f0) ((rd_T37 l1 x7_1).f1) ((rd_T37 l1 x7_1).f2) = some (r1, r2, r3)) ∧ Aside0 (kq ≤ k1) ∧ Aside0 (Kd.R (Kd.int .u8) 5 wc w.heap.size (fun _ => True) u6 x6_1) ∧ Aside0 (wc.heap[gb262]? = some (.cells #[.int .i64 x263000_1, .int .i64 x263001_1] 26 (0, 0))) ∧ Aside0 (wc.heap[gb268]? = some (.cells #[.int .i64 ((rd_T37 l1 x7_1).f0), .int .i64 ((rd_T37 l1 x7_1).f1), (.slice A267_2 ((rd_T37 l1 x7_1).f2).length c267_2)] 37 (0, 0))) ∧ Aside0 (Below w.heap.size w wc))
    case first =>
     have H := HC23.out
     clear HC23
     by_cases c27 : ((rd_T37 l1 x7_1).f1) > 0
     rotate_left
     · rw [if_neg c27] at H
       have c27b0 : decide (0 < ((rd_T37 l1 x7_1).f1)) = false := decide_eq_false c27
       clear c27
       (first | rw [c27b0] | (simp only [i64_w, i32_w]; rw [c27b0]) | skip)
       have H' := aZ H
       clear H
       have hnb34 := NB268_262.out
       have hnc34 := NB262_268.out
       have hcz35_0 : w24.cell? ⟨gb268, 0, none⟩ = some (.int .i64 0) := (blk_cell BK268.out 0).trans rfl
       have hcz35_1 : w24.cell? ⟨gb268, 1, none⟩ = some (.int .i64 0) := (blk_cell BK268.out 1).trans rfl
       have hcz35_2 : w24.cell? ⟨gb268, 2, none⟩ = some (.slice none 0 0) := (blk_cell BK268.out 2).trans rfl
       have hfz35_0 := blk_frozen BK268.out 0
       have hfz35_1 := blk_frozen BK268.out 1
       have hfz35_2 := blk_frozen BK268.out 2
       go_wp2
       go_meet
       case rel => exact ⟨_, (false), (by first | rfl | (simp; done) | (simp [*]; done) | (simp [i64_w]; done)), H', ⟨by have := HK1.out; first | omega | exact Nat.le_refl _⟩, ⟨by (with_reducible repeat (first | apply Kd.rA | apply Kd.rN | apply Kd.rD)); exact Kd.R_mono (Kd.R_far (p := ⟨gb268, 2, none⟩) (Kd.R_far (p := ⟨gb268, 1, none⟩) (Kd.R_far (p := ⟨gb268, 0, none⟩) (Kd.R_types HO_6.out BK268.out (by decide)) (fun _ hk => hk.2) (.int .i64 ((rd_T37 l1 x7_1).f0))) (fun _ hk => hk.2) (.int .i64 ((rd_T37 l1 x7_1).f1))) (fun _ hk => hk.2) (.slice A267_2 ((rd_T37 l1 x7_1).f2).length c267_2)) (fun _ hk => trivial)⟩, ⟨by (with_reducible repeat (first | refine bN ?_ _ | refine bD ?_ | refine bA ?_ _)); refine blk_far ?_ NB262_268.out _; (with_reducible repeat (first | refine bN ?_ _ | refine bD ?_ | refine bA ?_ _)); refine blk_far ?_ NB262_268.out _; (with_reducible repeat (first | refine bN ?_ _ | refine bD ?_ | refine bA ?_ _)); refine blk_far ?_ NB262_268.out _; (with_reducible repeat (first | refine bN ?_ _ | refine bD ?_ | refine bA ?_ _)); exact BK262.out⟩, ⟨by (with_reducible repeat (first | refine bN ?_ _ | refine bD ?_ | refine bA ?_ _)); refine blk_put (cs := #[.int .i64 ((rd_T37 l1 x7_1).f0), .int .i64 ((rd_T37 l1 x7_1).f1), .slice none 0 0]) ?_ 2 _ rfl; (with_reducible repeat (first | refine bN ?_ _ | refine bD ?_ | refine bA ?_ _)); refine blk_put (cs := #[.int .i64 ((rd_T37 l1 x7_1).f0), .int .i64 0, .slice none 0 0]) ?_ 1 _ rfl; (with_reducible repeat (first | refine bN ?_ _ | refine bD ?_ | refine bA ?_ _)); refine blk_put (cs := #[.int .i64 0, .int .i64 0, .slice none 0 0]) ?_ 0 _ rfl; (with_reducible repeat (first | refine bN ?_ _ | refine bD ?_ | refine bA ?_ _)); exact BK268.out⟩, ⟨by repeat (first | (with_reducible first | exact HB.out | apply lA | apply lN | apply lD | refine lS ?_ GE262.out | refine lS ?_ GE268.out) | exact HB.out)⟩⟩
     rw [if_pos c27] at H
     have c27b0 : decide (0 < ((rd_T37 l1 x7_1).f1)) = true := decide_eq_true c27
     clear c27
     (first | rw [c27b0] | (simp only [i64_w, i32_w]; rw [c27b0]) | skip)
     replace H := Option.bind_eq_some_iff.mp H
     obtain ⟨t271, A280, H⟩ := H
     replace H : (if t271 = true then (changeforgeref3_ApplyDelta.j1 k1 l0 l1 x6_1 x7_1 (decide (((rd_T37 l1 x7_1).f1) > (wrap64 ((l0.length : Int) - ((rd_T37 l1 x7_1).f0))))) ((rd_T37 l1 x7_1).f0) ((rd_T37 l1 x7_1).f1) ((rd_T37 l1 x7_1).f2)) else (changeforgeref3_ApplyDelta.j1 k1 l0 l1 x6_1 x7_1 true ((rd_T37 l1 x7_1).f0) ((rd_T37 l1 x7_1).f1) ((rd_T37 l1 x7_1).f2))) = some (r1, r2, r3) := H
     have A28 := aZ A280
     clear A280
     by_cases c29 : t271 = true
     rotate_left
     · replace c29 := Bool.eq_false_iff.mpr c29
       subst c29
       have H1 : (changeforgeref3_ApplyDelta.j1 k1 l0 l1 x6_1 x7_1 true ((rd_T37 l1 x7_1).f0) ((rd_T37 l1 x7_1).f1) ((rd_T37 l1 x7_1).f2)) = some (r1, r2, r3) := by rw [if_neg (show ¬ (false = true) by decide)] at H; exact H
       clear H
       have H := H1
       clear H1
       have H' := aZ H
       clear H
       have hnb32 := NB268_262.out
       have hnc32 := NB262_268.out
       have hcz33_0 : w24.cell? ⟨gb268, 0, none⟩ = some (.int .i64 0) := (blk_cell BK268.out 0).trans rfl
       have hcz33_1 : w24.cell? ⟨gb268, 1, none⟩ = some (.int .i64 0) := (blk_cell BK268.out 1).trans rfl
       have hcz33_2 : w24.cell? ⟨gb268, 2, none⟩ = some (.slice none 0 0) := (blk_cell BK268.out 2).trans rfl
       have hfz33_0 := blk_frozen BK268.out 0
       have hfz33_1 := blk_frozen BK268.out 1
       have hfz33_2 := blk_frozen BK268.out 2
       go_wp2_with (first | (go_at_call 18; (with_reducible refine (changeforgeref3_In.calls ((rd_T37 l1 x7_1).f0) 0 (l0.length : Int) false _ A28.out).mono ?_); rintro e w' ⟨rfl, ⟨nd, rfl⟩⟩))
       go_meet
       case rel => exact ⟨_, (true), (by first | rfl | (simp; done) | (simp [*]; done) | (simp [i64_w]; done)), H', ⟨by have := HK1.out; first | omega | exact Nat.le_refl _⟩, ⟨by (with_reducible repeat (first | apply Kd.rA | apply Kd.rN | apply Kd.rD)); exact Kd.R_mono (Kd.R_far (p := ⟨gb268, 2, none⟩) (Kd.R_far (p := ⟨gb268, 1, none⟩) (Kd.R_far (p := ⟨gb268, 0, none⟩) (Kd.R_types HO_6.out BK268.out (by decide)) (fun _ hk => hk.2) (.int .i64 ((rd_T37 l1 x7_1).f0))) (fun _ hk => hk.2) (.int .i64 ((rd_T37 l1 x7_1).f1))) (fun _ hk => hk.2) (.slice A267_2 ((rd_T37 l1 x7_1).f2).length c267_2)) (fun _ hk => trivial)⟩, ⟨by (with_reducible repeat (first | refine bN ?_ _ | refine bD ?_ | refine bA ?_ _)); refine blk_far ?_ NB262_268.out _; (with_reducible repeat (first | refine bN ?_ _ | refine bD ?_ | refine bA ?_ _)); refine blk_far ?_ NB262_268.out _; (with_reducible repeat (first | refine bN ?_ _ | refine bD ?_ | refine bA ?_ _)); refine blk_far ?_ NB262_268.out _; (with_reducible repeat (first | refine bN ?_ _ | refine bD ?_ | refine bA ?_ _)); exact BK262.out⟩, ⟨by (with_reducible repeat (first | refine bN ?_ _ | refine bD ?_ | refine bA ?_ _)); refine blk_put (cs := #[.int .i64 ((rd_T37 l1 x7_1).f0), .int .i64 ((rd_T37 l1 x7_1).f1), .slice none 0 0]) ?_ 2 _ rfl; (with_reducible repeat (first | refine bN ?_ _ | refine bD ?_ | refine bA ?_ _)); refine blk_put (cs := #[.int .i64 ((rd_T37 l1 x7_1).f0), .int .i64 0, .slice none 0 0]) ?_ 1 _ rfl; (with_reducible repeat (first | refine bN ?_ _ | refine bD ?_ | refine bA ?_ _)); refine blk_put (cs := #[.int .i64 0, .int .i64 0, .slice none 0 0]) ?_ 0 _ rfl; (with_reducible repeat (first | refine bN ?_ _ | refine bD ?_ | refine bA ?_ _)); exact BK268.out⟩, ⟨by repeat (first | (with_reducible first | exact HB.out | apply lA | apply lN | apply lD | refine lS ?_ GE262.out | refine lS ?_ GE268.out) | exact HB.out)⟩⟩
     subst c29
     have H1 : (changeforgeref3_ApplyDelta.j1 k1 l0 l1 x6_1 x7_1 (decide (((rd_T37 l1 x7_1).f1) > (wrap64 ((l0.length : Int) - ((rd_T37 l1 x7_1).f0))))) ((rd_T37 l1 x7_1).f0) ((rd_T37 l1 x7_1).f1) ((rd_T37 l1 x7_1).f2)) = some (r1, r2, r3) := by rw [if_pos rfl] at H; exact H
     clear H
     have H := H1
     clear H1
     have H' := aZ H
     clear H
     have hnb30 := NB268_262.out
     have hnc30 := NB262_268.out
     have hcz31_0 : w24.cell? ⟨gb268, 0, none⟩ = some (.int .i64 0) := (blk_cell BK268.out 0).trans rfl
     have hcz31_1 : w24.cell? ⟨gb268, 1, none⟩ = some (.int .i64 0) := (blk_cell BK268.out 1).trans rfl
     have hcz31_2 : w24.cell? ⟨gb268, 2, none⟩ = some (.slice none 0 0) := (blk_cell BK268.out 2).trans rfl
     have hfz31_0 := blk_frozen BK268.out 0
     have hfz31_1 := blk_frozen BK268.out 1
     have hfz31_2 := blk_frozen BK268.out 2
     go_wp2_with (first | (go_at_call 18; (with_reducible refine (changeforgeref3_In.calls ((rd_T37 l1 x7_1).f0) 0 (l0.length : Int) true _ A28.out).mono ?_); rintro e w' ⟨rfl, ⟨nd, rfl⟩⟩))
     go_meet
     case rel => exact ⟨_, (decide (((rd_T37 l1 x7_1).f1) > (wrap64 ((l0.length : Int) - ((rd_T37 l1 x7_1).f0))))), (by first | rfl | (simp; done) | (simp [*]; done) | (simp [i64_w]; done)), H', ⟨by have := HK1.out; first | omega | exact Nat.le_refl _⟩, ⟨by (with_reducible repeat (first | apply Kd.rA | apply Kd.rN | apply Kd.rD)); exact Kd.R_mono (Kd.R_far (p := ⟨gb268, 2, none⟩) (Kd.R_far (p := ⟨gb268, 1, none⟩) (Kd.R_far (p := ⟨gb268, 0, none⟩) (Kd.R_types HO_6.out BK268.out (by decide)) (fun _ hk => hk.2) (.int .i64 ((rd_T37 l1 x7_1).f0))) (fun _ hk => hk.2) (.int .i64 ((rd_T37 l1 x7_1).f1))) (fun _ hk => hk.2) (.slice A267_2 ((rd_T37 l1 x7_1).f2).length c267_2)) (fun _ hk => trivial)⟩, ⟨by (with_reducible repeat (first | refine bN ?_ _ | refine bD ?_ | refine bA ?_ _)); refine blk_far ?_ NB262_268.out _; (with_reducible repeat (first | refine bN ?_ _ | refine bD ?_ | refine bA ?_ _)); refine blk_far ?_ NB262_268.out _; (with_reducible repeat (first | refine bN ?_ _ | refine bD ?_ | refine bA ?_ _)); refine blk_far ?_ NB262_268.out _; (with_reducible repeat (first | refine bN ?_ _ | refine bD ?_ | refine bA ?_ _)); exact BK262.out⟩, ⟨by (with_reducible repeat (first | refine bN ?_ _ | refine bD ?_ | refine bA ?_ _)); refine blk_put (cs := #[.int .i64 ((rd_T37 l1 x7_1).f0), .int .i64 ((rd_T37 l1 x7_1).f1), .slice none 0 0]) ?_ 2 _ rfl; (with_reducible repeat (first | refine bN ?_ _ | refine bD ?_ | refine bA ?_ _)); refine blk_put (cs := #[.int .i64 ((rd_T37 l1 x7_1).f0), .int .i64 0, .slice none 0 0]) ?_ 1 _ rfl; (with_reducible repeat (first | refine bN ?_ _ | refine bD ?_ | refine bA ?_ _)); refine blk_put (cs := #[.int .i64 0, .int .i64 0, .slice none 0 0]) ?_ 0 _ rfl; (with_reducible repeat (first | refine bN ?_ _ | refine bD ?_ | refine bA ?_ _)); exact BK268.out⟩, ⟨by repeat (first | (with_reducible first | exact HB.out | apply lA | apply lN | apply lD | refine lS ?_ GE262.out | refine lS ?_ GE268.out) | exact HB.out)⟩⟩
    case rest =>
     clear HC23
     (try clear c14); (try clear c14b0); (try clear c15); (try clear c15b0); (try clear c16); (try clear c16b0); (try clear hcz26_0); (try clear hcz26_1); (try clear hcz26_2); (try clear hfz26_0); (try clear hfz26_1); (try clear hfz26_2); (try clear hx267_0); (try clear hx267_1); (try clear hx267_2); (try clear p267); (try clear q267)
     obtain ⟨kq, x54_22, rfl, HA, HJ22, HO_6, BK262, BK268, HB⟩ := hcut
     cases kq with
     | zero => exact absurd HA.out (by simp [changeforgeref3_ApplyDelta.j1])
     | succ kj22 =>
      have H := HA.out
      clear HA
      simp only [changeforgeref3_ApplyDelta.j1] at H
      by_cases c36 : x54_22 = true
      · subst c36
        have H1 : ((changeforgeref3_Fault.f 3 x7_1).bind fun bt272 => (some (([] : List Int), bt272.1, bt272.2))) = some (r1, r2, r3) := by rw [if_pos rfl] at H; exact H
        clear H
        have H := H1
        clear H1
        replace H := Option.bind_eq_some_iff.mp H
        obtain ⟨⟨t272, t273⟩, A370, H⟩ := H
        replace H : (some (([] : List Int), t272, t273)) = some (r1, r2, r3) := H
        have A37 := aZ A370
        clear A370
        simp only [Option.some.injEq, Prod.mk.injEq] at H
        obtain ⟨rfl, rfl, rfl⟩ := H
        go_wp2_with (first | ((with_reducible refine gate_callee (f := 12) rfl ?_); refine goesL_ (some 56) rfl rfl Try.func12 (by kernel_rfl) rfl #[.int .i64 3, .int .i64 x7_1] rfl (by (try simp only [List.map_toArray, List.map_cons, List.map_nil]); first | done | rfl | (simp only [List.length_drop, List.length_take]; rfl)) ?_; (with_reducible refine (changeforgeref3_Fault.calls 3 x7_1 t272 t273 _ A37.out).mono ?_); rintro e w38 ⟨rfl, hb⟩; refine ⟨_, rfl, ?_⟩; have n0_ := aZ (Kd.R_below (by (with_reducible repeat (first | apply Kd.rA | apply Kd.rN | apply Kd.rD)); exact HO_6.out) hb); have n1_ := aZ (blk_below (g := gb262) (o := .cells #[.int .i64 x263000_1, .int .i64 x263001_1] 26 (0, 0)) (by (with_reducible repeat (first | refine bN ?_ _ | refine bD ?_ | refine bA ?_ _)); exact BK262.out) hb); have n2_ := aZ (blk_below (g := gb268) (o := .cells #[.int .i64 ((rd_T37 l1 x7_1).f0), .int .i64 ((rd_T37 l1 x7_1).f1), .slice A267_2 ((rd_T37 l1 x7_1).f2).length c267_2] 37 (0, 0)) (by (with_reducible repeat (first | refine bN ?_ _ | refine bD ?_ | refine bA ?_ _)); exact BK268.out) hb); have n3_ := aZ (lT (by repeat (first | (with_reducible first | exact HB.out | apply lA | apply lN | apply lD | refine lS ?_ GE262.out | refine lS ?_ GE268.out) | exact HB.out)) hb); clear HO_6; clear BK262; clear BK268; clear HB; have HO_6 := n0_; have BK262 := n1_; have BK268 := n2_; have HB := n3_; clear n0_ n1_ n2_ n3_; (try clear hb); (try clear hb2); (try clear hk); (try clear hi); have hnb39 := NB262_268.out; have hnc39 := NB268_262.out; have hcz40_0 : w38.cell? ⟨gb262, 0, none⟩ = some (.int .i64 x263000_1) := (blk_cell BK262.out 0).trans rfl; have hcz40_1 : w38.cell? ⟨gb262, 1, none⟩ = some (.int .i64 x263001_1) := (blk_cell BK262.out 1).trans rfl; have hfz40_0 := blk_frozen BK262.out 0; have hfz40_1 := blk_frozen BK262.out 1))
        refine bodyPost_ret (results_tc rfl _ _ gb262 26 #[.int .i64 t272, .int .i64 t273] (0, 0) _ rfl (by (with_reducible repeat (first | refine bN ?_ _ | refine bD ?_ | refine bA ?_ _)); refine blk_put (cs := #[.int .i64 t272, .int .i64 x263001_1]) ?_ 1 _ rfl; (with_reducible repeat (first | refine bN ?_ _ | refine bD ?_ | refine bA ?_ _)); refine blk_put (cs := #[.int .i64 x263000_1, .int .i64 x263001_1]) ?_ 0 _ rfl; (with_reducible repeat (first | refine bN ?_ _ | refine bD ?_ | refine bA ?_ _)); exact BK262.out) Try.underlying26 rfl (by kernel_rfl)) rfl ?_
        exact ⟨_, by first | rfl | (simp [errW_none, errW_some] <;> rfl) | (simp [*, errW_none, errW_some] <;> rfl), by first | exact Kd.R_nil _ _ _ _ _ | exact Kd.N_nil _ _ _ _ _ | exact Kd.V_nil _ _ _ _ _ | exact Kd.Q_nil _ _ _ _ _ | exact Kd.S_nil _ _ _ _ _, by repeat (first | (with_reducible first | exact HB.out | apply lA | apply lN | apply lD | refine lS ?_ GE262.out | refine lS ?_ GE268.out) | exact HB.out)⟩
      replace c36 := Bool.eq_false_iff.mpr c36
      subst c36
      have H1 : (if ((decide (((rd_T37 l1 x7_1).f1) > 0)) == (decide ((((rd_T37 l1 x7_1).f2).length : Int) > 0))) = true then (changeforgeref3_ApplyDelta.j2 kj22 l0 l1 x6_1 x7_1 true ((rd_T37 l1 x7_1).f0) ((rd_T37 l1 x7_1).f1) ((rd_T37 l1 x7_1).f2)) else (if ((rd_T37 l1 x7_1).f1) = 0 then (changeforgeref3_ApplyDelta.j2 kj22 l0 l1 x6_1 x7_1 (((rd_T37 l1 x7_1).f0) != 0) ((rd_T37 l1 x7_1).f0) ((rd_T37 l1 x7_1).f1) ((rd_T37 l1 x7_1).f2)) else (changeforgeref3_ApplyDelta.j2 kj22 l0 l1 x6_1 x7_1 false ((rd_T37 l1 x7_1).f0) ((rd_T37 l1 x7_1).f1) ((rd_T37 l1 x7_1).f2)))) = some (r1, r2, r3) := by rw [if_neg (show ¬ (false = true) by decide)] at H; exact H
      clear H
      have H := H1
      clear H1
      have HC41 := aZ H
      clear H
      go_upto_region 14 with (fail)
      go_cut [74] (fun v74 wc => ∃ (kq : Nat) (x74_40 : Bool), v74 = .bool x74_40 ∧ Aside0 (changeforgeref3_ApplyDelta.j2 kq l0 l1 x6_1 x7_1 x74_40 ((rd_T37 l1 x7_1).f0) ((rd_T37 l1 x7_1).f1) ((rd_T37 l1 x7_1).f2) = some (r1, r2, r3)) ∧ Aside0 (kq ≤ kj22) ∧ Aside0 (Kd.R (Kd.int .u8) 5 wc w.heap.size (fun _ => True) u6 x6_1) ∧ Aside0 (wc.heap[gb262]? = some (.cells #[.int .i64 x263000_1, .int .i64 x263001_1] 26 (0, 0))) ∧ Aside0 (wc.heap[gb268]? = some (.cells #[.int .i64 ((rd_T37 l1 x7_1).f0), .int .i64 ((rd_T37 l1 x7_1).f1), (.slice A267_2 ((rd_T37 l1 x7_1).f2).length c267_2)] 37 (0, 0))) ∧ Aside0 (Below w.heap.size w wc))
      case first =>
       have H := HC41.out
       clear HC41
       by_cases c42 : ((decide (((rd_T37 l1 x7_1).f1) > 0)) == (decide ((((rd_T37 l1 x7_1).f2).length : Int) > 0))) = true
       · rw [if_pos c42] at H
         have c42b0 : ((decide (((rd_T37 l1 x7_1).f1) > 0)) == (decide ((((rd_T37 l1 x7_1).f2).length : Int) > 0))) = true := c42
         have c42i : (0 < ((rd_T37 l1 x7_1).f1) ↔ 0 < ((rd_T37 l1 x7_1).f2).length) = True := eq_true (by have h_ := c42b0; rw [beq_iff_eq, decide_eq_decide] at h_; omega)
         (try (have c42b1 : decide ((decide (((rd_T37 l1 x7_1).f1) > 0)) = (decide ((((rd_T37 l1 x7_1).f2).length : Int) > 0))) = true := by simpa using c42))
         (try (have c42b2 : ((decide (((rd_T37 l1 x7_1).f1) > 0)) == (decide ((((rd_T37 l1 x7_1).f2).length : Int) > 0))) = true := by simpa using c42))
         clear c42
         (first | rw [c42b0] | (simp only [i64_w, i32_w]; rw [c42b0]) | skip)
         have H' := aZ H
         clear H
         have hnb43 := NB268_262.out
         have hnc43 := NB262_268.out
         have hcz44_0 : wc.cell? ⟨gb268, 0, none⟩ = some (.int .i64 ((rd_T37 l1 x7_1).f0)) := (blk_cell BK268.out 0).trans rfl
         have hcz44_1 : wc.cell? ⟨gb268, 1, none⟩ = some (.int .i64 ((rd_T37 l1 x7_1).f1)) := (blk_cell BK268.out 1).trans rfl
         have hcz44_2 : wc.cell? ⟨gb268, 2, none⟩ = some (.slice A267_2 ((rd_T37 l1 x7_1).f2).length c267_2) := (blk_cell BK268.out 2).trans rfl
         have hfz44_0 := blk_frozen BK268.out 0
         have hfz44_1 := blk_frozen BK268.out 1
         have hfz44_2 := blk_frozen BK268.out 2
         go_wp2
         go_meet
         case rel => exact ⟨_, (true), (by first | rfl | (simp; done) | (simp [*]; done) | (simp [i64_w]; done)), H', ⟨by have := HK1.out; have := HJ22.out; first | omega | exact Nat.le_refl _⟩, ⟨by (with_reducible repeat (first | apply Kd.rA | apply Kd.rN | apply Kd.rD)); exact HO_6.out⟩, ⟨by (with_reducible repeat (first | refine bN ?_ _ | refine bD ?_ | refine bA ?_ _)); exact BK262.out⟩, ⟨by (with_reducible repeat (first | refine bN ?_ _ | refine bD ?_ | refine bA ?_ _)); exact BK268.out⟩, ⟨by repeat (first | (with_reducible first | exact HB.out | apply lA | apply lN | apply lD | refine lS ?_ GE262.out | refine lS ?_ GE268.out) | exact HB.out)⟩⟩
       rw [if_neg c42] at H
       have c42b0 : ((decide (((rd_T37 l1 x7_1).f1) > 0)) == (decide ((((rd_T37 l1 x7_1).f2).length : Int) > 0))) = false := by simpa using c42
       have c42i : (0 < ((rd_T37 l1 x7_1).f1) ↔ 0 < ((rd_T37 l1 x7_1).f2).length) = False := eq_false (by have h_ := c42b0; rw [beq_eq_false_iff_ne, Ne, decide_eq_decide] at h_; omega)
       (try (have c42b1 : decide ((decide (((rd_T37 l1 x7_1).f1) > 0)) = (decide ((((rd_T37 l1 x7_1).f2).length : Int) > 0))) = false := by simpa using c42))
       (try (have c42b2 : ((decide (((rd_T37 l1 x7_1).f1) > 0)) == (decide ((((rd_T37 l1 x7_1).f2).length : Int) > 0))) = false := by simpa using c42))
       (try (have c42b3 : ¬ ((decide (((rd_T37 l1 x7_1).f1) > 0)) = (decide ((((rd_T37 l1 x7_1).f2).length : Int) > 0))) := by simpa using c42))
       clear c42
       (first | rw [c42b0] | (simp only [i64_w, i32_w]; rw [c42b0]) | skip)
       by_cases c45 : ((rd_T37 l1 x7_1).f1) = 0
       rotate_left
       · rw [if_neg c45] at H
         have c45b0 : (((rd_T37 l1 x7_1).f1) == 0) = false := beq_eq_false_iff_ne.mpr c45
         have c45b1 : (((rd_T37 l1 x7_1).f1) != 0) = true := bne_iff_ne.mpr c45
         have H' := aZ H
         clear H
         have hnb48 := NB268_262.out
         have hnc48 := NB262_268.out
         have hcz49_0 : wc.cell? ⟨gb268, 0, none⟩ = some (.int .i64 ((rd_T37 l1 x7_1).f0)) := (blk_cell BK268.out 0).trans rfl
         have hcz49_1 : wc.cell? ⟨gb268, 1, none⟩ = some (.int .i64 ((rd_T37 l1 x7_1).f1)) := (blk_cell BK268.out 1).trans rfl
         have hcz49_2 : wc.cell? ⟨gb268, 2, none⟩ = some (.slice A267_2 ((rd_T37 l1 x7_1).f2).length c267_2) := (blk_cell BK268.out 2).trans rfl
         have hfz49_0 := blk_frozen BK268.out 0
         have hfz49_1 := blk_frozen BK268.out 1
         have hfz49_2 := blk_frozen BK268.out 2
         go_wp2
         go_meet
         case rel => exact ⟨_, (false), (by first | rfl | (simp; done) | (simp [*]; done) | (simp [i64_w]; done)), H', ⟨by have := HK1.out; have := HJ22.out; first | omega | exact Nat.le_refl _⟩, ⟨by (with_reducible repeat (first | apply Kd.rA | apply Kd.rN | apply Kd.rD)); exact HO_6.out⟩, ⟨by (with_reducible repeat (first | refine bN ?_ _ | refine bD ?_ | refine bA ?_ _)); exact BK262.out⟩, ⟨by (with_reducible repeat (first | refine bN ?_ _ | refine bD ?_ | refine bA ?_ _)); exact BK268.out⟩, ⟨by repeat (first | (with_reducible first | exact HB.out | apply lA | apply lN | apply lD | refine lS ?_ GE262.out | refine lS ?_ GE268.out) | exact HB.out)⟩⟩
       rw [if_pos c45] at H
       have c45b0 : (((rd_T37 l1 x7_1).f1) == 0) = true := beq_iff_eq.mpr c45
       have c45b1 : (((rd_T37 l1 x7_1).f1) != 0) = false := bne_eq_false_iff_eq.mpr c45
       clear c45
       have H' := aZ H
       clear H
       have hnb46 := NB268_262.out
       have hnc46 := NB262_268.out
       have hcz47_0 : wc.cell? ⟨gb268, 0, none⟩ = some (.int .i64 ((rd_T37 l1 x7_1).f0)) := (blk_cell BK268.out 0).trans rfl
       have hcz47_1 : wc.cell? ⟨gb268, 1, none⟩ = some (.int .i64 ((rd_T37 l1 x7_1).f1)) := (blk_cell BK268.out 1).trans rfl
       have hcz47_2 : wc.cell? ⟨gb268, 2, none⟩ = some (.slice A267_2 ((rd_T37 l1 x7_1).f2).length c267_2) := (blk_cell BK268.out 2).trans rfl
       have hfz47_0 := blk_frozen BK268.out 0
       have hfz47_1 := blk_frozen BK268.out 1
       have hfz47_2 := blk_frozen BK268.out 2
       go_wp2
       go_meet
       case rel => exact ⟨_, ((((rd_T37 l1 x7_1).f0) != 0)), (by first | rfl | (simp; done) | (simp [*]; done) | (simp [i64_w]; done)), H', ⟨by have := HK1.out; have := HJ22.out; first | omega | exact Nat.le_refl _⟩, ⟨by (with_reducible repeat (first | apply Kd.rA | apply Kd.rN | apply Kd.rD)); exact HO_6.out⟩, ⟨by (with_reducible repeat (first | refine bN ?_ _ | refine bD ?_ | refine bA ?_ _)); exact BK262.out⟩, ⟨by (with_reducible repeat (first | refine bN ?_ _ | refine bD ?_ | refine bA ?_ _)); exact BK268.out⟩, ⟨by repeat (first | (with_reducible first | exact HB.out | apply lA | apply lN | apply lD | refine lS ?_ GE262.out | refine lS ?_ GE268.out) | exact HB.out)⟩⟩
      case rest =>
       clear HC41
       (try clear c36)
       obtain ⟨kq, x74_40, rfl, HA, HJ40, HO_6, BK262, BK268, HB⟩ := hcut
       cases kq with
       | zero => exact absurd HA.out (by simp [changeforgeref3_ApplyDelta.j2])
       | succ kj40 =>
        have H := HA.out
        clear HA
        simp only [changeforgeref3_ApplyDelta.j2] at H
        by_cases c50 : x74_40 = true
        · subst c50
          have H1 : ((changeforgeref3_Fault.f 5 x7_1).bind fun bt274 => (some (([] : List Int), bt274.1, bt274.2))) = some (r1, r2, r3) := by rw [if_pos rfl] at H; exact H
          clear H
          have H := H1
          clear H1
          replace H := Option.bind_eq_some_iff.mp H
          obtain ⟨⟨t274, t275⟩, A510, H⟩ := H
          replace H : (some (([] : List Int), t274, t275)) = some (r1, r2, r3) := H
          have A51 := aZ A510
          clear A510
          simp only [Option.some.injEq, Prod.mk.injEq] at H
          obtain ⟨rfl, rfl, rfl⟩ := H
          go_wp2_with (first | ((with_reducible refine gate_callee (f := 12) rfl ?_); refine goesL_ (some 76) rfl rfl Try.func12 (by kernel_rfl) rfl #[.int .i64 5, .int .i64 x7_1] rfl (by (try simp only [List.map_toArray, List.map_cons, List.map_nil]); first | done | rfl | (simp only [List.length_drop, List.length_take]; rfl)) ?_; (with_reducible refine (changeforgeref3_Fault.calls 5 x7_1 t274 t275 _ A51.out).mono ?_); rintro e w52 ⟨rfl, hb⟩; refine ⟨_, rfl, ?_⟩; have n0_ := aZ (Kd.R_below (by (with_reducible repeat (first | apply Kd.rA | apply Kd.rN | apply Kd.rD)); exact HO_6.out) hb); have n1_ := aZ (blk_below (g := gb262) (o := .cells #[.int .i64 x263000_1, .int .i64 x263001_1] 26 (0, 0)) (by (with_reducible repeat (first | refine bN ?_ _ | refine bD ?_ | refine bA ?_ _)); exact BK262.out) hb); have n2_ := aZ (blk_below (g := gb268) (o := .cells #[.int .i64 ((rd_T37 l1 x7_1).f0), .int .i64 ((rd_T37 l1 x7_1).f1), .slice A267_2 ((rd_T37 l1 x7_1).f2).length c267_2] 37 (0, 0)) (by (with_reducible repeat (first | refine bN ?_ _ | refine bD ?_ | refine bA ?_ _)); exact BK268.out) hb); have n3_ := aZ (lT (by repeat (first | (with_reducible first | exact HB.out | apply lA | apply lN | apply lD | refine lS ?_ GE262.out | refine lS ?_ GE268.out) | exact HB.out)) hb); clear HO_6; clear BK262; clear BK268; clear HB; have HO_6 := n0_; have BK262 := n1_; have BK268 := n2_; have HB := n3_; clear n0_ n1_ n2_ n3_; (try clear hb); (try clear hb2); (try clear hk); (try clear hi); have hnb53 := NB262_268.out; have hnc53 := NB268_262.out; have hcz54_0 : w52.cell? ⟨gb262, 0, none⟩ = some (.int .i64 x263000_1) := (blk_cell BK262.out 0).trans rfl; have hcz54_1 : w52.cell? ⟨gb262, 1, none⟩ = some (.int .i64 x263001_1) := (blk_cell BK262.out 1).trans rfl; have hfz54_0 := blk_frozen BK262.out 0; have hfz54_1 := blk_frozen BK262.out 1))
          refine bodyPost_ret (results_tc rfl _ _ gb262 26 #[.int .i64 t274, .int .i64 t275] (0, 0) _ rfl (by (with_reducible repeat (first | refine bN ?_ _ | refine bD ?_ | refine bA ?_ _)); refine blk_put (cs := #[.int .i64 t274, .int .i64 x263001_1]) ?_ 1 _ rfl; (with_reducible repeat (first | refine bN ?_ _ | refine bD ?_ | refine bA ?_ _)); refine blk_put (cs := #[.int .i64 x263000_1, .int .i64 x263001_1]) ?_ 0 _ rfl; (with_reducible repeat (first | refine bN ?_ _ | refine bD ?_ | refine bA ?_ _)); exact BK262.out) Try.underlying26 rfl (by kernel_rfl)) rfl ?_
          exact ⟨_, by first | rfl | (simp [errW_none, errW_some] <;> rfl) | (simp [*, errW_none, errW_some] <;> rfl), by first | exact Kd.R_nil _ _ _ _ _ | exact Kd.N_nil _ _ _ _ _ | exact Kd.V_nil _ _ _ _ _ | exact Kd.Q_nil _ _ _ _ _ | exact Kd.S_nil _ _ _ _ _, by repeat (first | (with_reducible first | exact HB.out | apply lA | apply lN | apply lD | refine lS ?_ GE262.out | refine lS ?_ GE268.out) | exact HB.out)⟩
        replace c50 := Bool.eq_false_iff.mpr c50
        subst c50
        have H1 : (changeforgeref3_ApplyDelta.l1 kj40 l0 l1 x6_1 x7_1 0 ((rd_T37 l1 x7_1).f0) ((rd_T37 l1 x7_1).f1) ((rd_T37 l1 x7_1).f2)) = some (r1, r2, r3) := by rw [if_neg (show ¬ (false = true) by decide)] at H; exact H
        clear H
        have H := H1
        clear H1
        have H' := aZ H
        clear H
        go_wp2
        go_loopg [6, 9] kj40 (fun kq v6 v9 w' => ∃ (x6_4 : List Int) (x9_4 : Int), v9 = .int .i64 x9_4 ∧ Aside0 (changeforgeref3_ApplyDelta.l1 kq l0 l1 x6_4 x7_1 x9_4 ((rd_T37 l1 x7_1).f0) ((rd_T37 l1 x7_1).f1) ((rd_T37 l1 x7_1).f2) = some (r1, r2, r3)) ∧ Aside0 (kq ≤ kj40) ∧ Aside0 (Kd.R (Kd.int .u8) 5 w' w.heap.size (fun _ => True) v6 x6_4) ∧ Aside0 (w'.heap[gb262]? = some (.cells #[.int .i64 x263000_1, .int .i64 x263001_1] 26 (0, 0))) ∧ Aside0 (w'.heap[gb268]? = some (.cells #[.int .i64 ((rd_T37 l1 x7_1).f0), .int .i64 ((rd_T37 l1 x7_1).f1), (.slice A267_2 ((rd_T37 l1 x7_1).f2).length c267_2)] 37 (0, 0))) ∧ Aside0 (Below w.heap.size w w'))
        case atStart => exact ⟨(x6_1), (0), (by first | rfl | (simp; done) | (simp [*]; done) | (simp [i64_w]; done)), H', ⟨Nat.le_refl _⟩, ⟨by (with_reducible repeat (first | apply Kd.rA | apply Kd.rN | apply Kd.rD)); exact HO_6.out⟩, ⟨by (with_reducible repeat (first | refine bN ?_ _ | refine bD ?_ | refine bA ?_ _)); exact BK262.out⟩, ⟨by (with_reducible repeat (first | refine bN ?_ _ | refine bD ?_ | refine bA ?_ _)); exact BK268.out⟩, ⟨by repeat (first | (with_reducible first | exact HB.out | apply lA | apply lN | apply lD | refine lS ?_ GE262.out | refine lS ?_ GE268.out) | exact HB.out)⟩⟩
        case round =>
         clear H'
         (try clear c50)
         obtain ⟨x6_4, x9_4, rfl, HA, HK4, HO_6, BK262, BK268, HB⟩ := hrel
         cases gk with
         | zero => exact absurd HA.out (by simp [changeforgeref3_ApplyDelta.l1])
         | succ k4 =>
          have H := HA.out
          clear HA
          simp only [changeforgeref3_ApplyDelta.l1] at H
          by_cases c55 : x9_4 < ((rd_T37 l1 x7_1).f1)
          · rw [if_pos c55] at H
            have c55b0 : decide (x9_4 < ((rd_T37 l1 x7_1).f1)) = true := decide_eq_true c55
            clear c55
            obtain ⟨ji56, hji56⟩ : ∃ j_ : Int, (wrap64 (((rd_T37 l1 x7_1).f0) + x9_4)) = j_ := ⟨_, rfl⟩
            replace H : (if 0 ≤ (ji56) then (if (ji56) < (l0.length : Int) then (if x6_4.length < 140737488355328 then (changeforgeref3_ApplyDelta.l1 k4 l0 l1 (x6_4 ++ [rd l0 (ji56)]) x7_1 (wrap64 (x9_4 + 1)) ((rd_T37 l1 x7_1).f0) ((rd_T37 l1 x7_1).f1) ((rd_T37 l1 x7_1).f2)) else (none)) else (none)) else (none)) = some (r1, r2, r3) := by first | (rw [hji56] at H; exact H) | (simp only [hji56] at H ⊢; exact H)
            have hji56w : (IntKind.i64.wrap (((rd_T37 l1 x7_1).f0) + x9_4)) = ji56 := (i64_w _).trans hji56
            by_cases c57 : 0 ≤ (ji56)
            rotate_left
            · rw [if_neg c57] at H
              exact absurd H (by simp)
            rw [if_pos c57] at H
            have c57b0 : decide (0 ≤ (ji56)) = true := decide_eq_true c57
            clear c57
            by_cases c58 : (ji56) < (l0.length : Int)
            rotate_left
            · rw [if_neg c58] at H
              exact absurd H (by simp)
            rw [if_pos c58] at H
            have c58b0 : decide ((ji56) < (l0.length : Int)) = true := decide_eq_true c58
            clear c58
            by_cases c59 : x6_4.length < 140737488355328
            rotate_left
            · rw [if_neg c59] at H
              exact absurd H (by simp)
            rw [if_pos c59] at H
            have LMc59 := aZ c59
            clear c59
            obtain ⟨y277, hy277⟩ : ∃ y_ : List Int, y_ = (x6_4 ++ [rd l0 (ji56)]) := ⟨_, rfl⟩
            replace H : (changeforgeref3_ApplyDelta.l1 k4 l0 l1 y277 x7_1 (wrap64 (x9_4 + 1)) ((rd_T37 l1 x7_1).f0) ((rd_T37 l1 x7_1).f1) ((rd_T37 l1 x7_1).f2)) = some (r1, r2, r3) := by first | (rw [hy277]; with_reducible exact H) | (have H2_ := (Option.bind_some _ _).symm.trans H; rw [hy277]; with_reducible exact H2_) | (have H2_ := (Option.bind_some _ _).symm.trans H; with_reducible exact H2_) | with_reducible exact H | (rw [hy277]; exact H) | exact H
            have Ny277 := aZ hy277
            clear hy277
            have H' := aZ H
            clear H
            have hnb60 := NB268_262.out
            have hnc60 := NB262_268.out
            have hcz61_0 : wr.cell? ⟨gb268, 0, none⟩ = some (.int .i64 ((rd_T37 l1 x7_1).f0)) := (blk_cell BK268.out 0).trans rfl
            have hcz61_1 : wr.cell? ⟨gb268, 1, none⟩ = some (.int .i64 ((rd_T37 l1 x7_1).f1)) := (blk_cell BK268.out 1).trans rfl
            have hcz61_2 : wr.cell? ⟨gb268, 2, none⟩ = some (.slice A267_2 ((rd_T37 l1 x7_1).f2).length c267_2) := (blk_cell BK268.out 2).trans rfl
            have hfz61_0 := blk_frozen BK268.out 0
            have hfz61_1 := blk_frozen BK268.out 1
            have hfz61_2 := blk_frozen BK268.out 2
            have p276 : 0 ≤ ((ji56) : Int) := of_decide_eq_true (by first | (with_reducible assumption) | assumption)
            have q276 : (ji56) < (l0.length : Int) := of_decide_eq_true (by first | (with_reducible assumption) | assumption)
            obtain ⟨ad276, e276, hx276_0⟩ := Kd.at_int HR0.out (ji56) p276 q276
            cases e276
            replace hx276_0 := (HB.out.cell (World.block_lt_of_cell? w _ hx276_0)).trans hx276_0
            replace p276 := eq_true p276
            replace q276 := eq_true q276
            go_wp2_with (first | ((with_reducible refine gate_builtin (b := .append) (xs := #[.tmp 83, .tmp 91]) rfl ?_); (try (refine gate_guard (by rfl) ?_; dsimp only)); at_builtin; refine Kd.R_append (Kd.int .u8) (w0 := w) w.heap.size rfl (.tmp 83) (.tmp 91) 22 5 (.int .u8 0) 1 rfl Try.underlying22 info5 rfl (by decide) (by omega) u6 x6_4 (rd l0 (ji56)) [.int .u8 (rd l0 (ji56))] (fun _ => True) (fun _ => False) rfl rfl ?aP (fun _ hk => hk.elim) ?aF ?aO ?aB ?aS ?aL ?_; (case aP => exact rfl); (case aB => exact (by repeat (first | (with_reducible first | exact HB.out | apply lA | apply lN | apply lD | refine lS ?_ GE262.out | refine lS ?_ GE268.out) | exact HB.out))); (case aF => exact (fun _ _ => trivial)); (case aO => exact (by (with_reducible repeat (first | apply Kd.rA | apply Kd.rN | apply Kd.rD)); exact HO_6.out)); (case aS => exact (lZ (by repeat (first | (with_reducible first | exact HB.out | apply lA | apply lN | apply lD | refine lS ?_ GE262.out | refine lS ?_ GE268.out) | exact HB.out)))); (case aL => have := LMc59.out; omega); intro v278 w62 ho hb hg hat; rw [← Ny277.out] at ho; have n0_ := aZ (blk_grown (g := gb262) (o := .cells #[.int .i64 x263000_1, .int .i64 x263001_1] 26 (0, 0)) (by (with_reducible repeat (first | refine bN ?_ _ | refine bD ?_ | refine bA ?_ _)); exact BK262.out) hg (Kd.R_ne HO_6.out BK262.out (by decide))); have n1_ := aZ (blk_grown (g := gb268) (o := .cells #[.int .i64 ((rd_T37 l1 x7_1).f0), .int .i64 ((rd_T37 l1 x7_1).f1), .slice A267_2 ((rd_T37 l1 x7_1).f2).length c267_2] 37 (0, 0)) (by (with_reducible repeat (first | refine bN ?_ _ | refine bD ?_ | refine bA ?_ _)); exact BK268.out) hg (Kd.R_ne HO_6.out BK268.out (by decide))); have n2_ := aZ (hb); have n3_ := aZ (ho); clear BK262; clear BK268; clear HB; clear HO_6; have BK262 := n0_; have BK268 := n1_; have HB := n2_; have HO279 := n3_; clear n0_ n1_ n2_ n3_; clear ho hb hg hat))
            go_roundg k4
            case measure => have := HK1.out; have := HJ22.out; have := HJ40.out; have := HK4.out; omega
            case rel => exact ⟨(y277), (wrap64 (x9_4 + 1)), (by first | rfl | (simp; done) | (simp [*]; done) | (simp [i64_w]; done)), H', ⟨by have := HK1.out; have := HJ22.out; have := HJ40.out; have := HK4.out; omega⟩, ⟨by (with_reducible repeat (first | apply Kd.rA | apply Kd.rN | apply Kd.rD)); exact HO279.out⟩, ⟨by (with_reducible repeat (first | refine bN ?_ _ | refine bD ?_ | refine bA ?_ _)); exact BK262.out⟩, ⟨by (with_reducible repeat (first | refine bN ?_ _ | refine bD ?_ | refine bA ?_ _)); exact BK268.out⟩, ⟨by repeat (first | (with_reducible first | exact HB.out | apply lA | apply lN | apply lD | refine lS ?_ GE262.out | refine lS ?_ GE268.out) | exact HB.out)⟩⟩
          rw [if_neg c55] at H
          have c55b0 : decide (x9_4 < ((rd_T37 l1 x7_1).f1)) = false := decide_eq_false c55
          clear c55
          have H' := aZ H
          clear H
          have hnb63 := NB268_262.out
          have hnc63 := NB262_268.out
          have hcz64_0 : wr.cell? ⟨gb268, 0, none⟩ = some (.int .i64 ((rd_T37 l1 x7_1).f0)) := (blk_cell BK268.out 0).trans rfl
          have hcz64_1 : wr.cell? ⟨gb268, 1, none⟩ = some (.int .i64 ((rd_T37 l1 x7_1).f1)) := (blk_cell BK268.out 1).trans rfl
          have hcz64_2 : wr.cell? ⟨gb268, 2, none⟩ = some (.slice A267_2 ((rd_T37 l1 x7_1).f2).length c267_2) := (blk_cell BK268.out 2).trans rfl
          have hfz64_0 := blk_frozen BK268.out 0
          have hfz64_1 := blk_frozen BK268.out 1
          have hfz64_2 := blk_frozen BK268.out 2
          go_wp2
          go_loopg [6, 10] k4 (fun kq v6 v10 w' => ∃ (x6_5 : List Int) (x10_5 : Int), v10 = .int .i64 x10_5 ∧ Aside0 (changeforgeref3_ApplyDelta.l2 kq l0 l1 x6_5 x7_1 x10_5 ((rd_T37 l1 x7_1).f0) ((rd_T37 l1 x7_1).f1) ((rd_T37 l1 x7_1).f2) = some (r1, r2, r3)) ∧ Aside0 (kq ≤ k4) ∧ Aside0 (Kd.R (Kd.int .u8) 5 w' w.heap.size (fun _ => True) v6 x6_5) ∧ Aside0 (w'.heap[gb262]? = some (.cells #[.int .i64 x263000_1, .int .i64 x263001_1] 26 (0, 0))) ∧ Aside0 (w'.heap[gb268]? = some (.cells #[.int .i64 ((rd_T37 l1 x7_1).f0), .int .i64 ((rd_T37 l1 x7_1).f1), (.slice A267_2 ((rd_T37 l1 x7_1).f2).length c267_2)] 37 (0, 0))) ∧ Aside0 (Below w.heap.size w w'))
          case atStart => exact ⟨(x6_4), (0), (by first | rfl | (simp; done) | (simp [*]; done) | (simp [i64_w]; done)), H', ⟨Nat.le_refl _⟩, ⟨by (with_reducible repeat (first | apply Kd.rA | apply Kd.rN | apply Kd.rD)); exact HO_6.out⟩, ⟨by (with_reducible repeat (first | refine bN ?_ _ | refine bD ?_ | refine bA ?_ _)); exact BK262.out⟩, ⟨by (with_reducible repeat (first | refine bN ?_ _ | refine bD ?_ | refine bA ?_ _)); exact BK268.out⟩, ⟨by repeat (first | (with_reducible first | exact HB.out | apply lA | apply lN | apply lD | refine lS ?_ GE262.out | refine lS ?_ GE268.out) | exact HB.out)⟩⟩
          case round =>
           clear H'
           (try clear c55); (try clear c55b0); (try clear hcz64_0); (try clear hcz64_1); (try clear hcz64_2); (try clear hfz64_0); (try clear hfz64_1); (try clear hfz64_2)
           obtain ⟨x6_5, x10_5, rfl, HA, HK5, HO_6, BK262, BK268, HB⟩ := hrel
           cases gk with
           | zero => exact absurd HA.out (by simp [changeforgeref3_ApplyDelta.l2])
           | succ k5 =>
            have H := HA.out
            clear HA
            simp only [changeforgeref3_ApplyDelta.l2] at H
            by_cases c65 : x10_5 < (((rd_T37 l1 x7_1).f2).length : Int)
            · rw [if_pos c65] at H
              have c65b0 : decide (x10_5 < (((rd_T37 l1 x7_1).f2).length : Int)) = true := decide_eq_true c65
              clear c65
              by_cases c66 : 0 ≤ x10_5
              rotate_left
              · rw [if_neg c66] at H
                exact absurd H (by simp)
              rw [if_pos c66] at H
              have c66b0 : decide (0 ≤ x10_5) = true := decide_eq_true c66
              clear c66
              by_cases c67 : x6_5.length < 140737488355328
              rotate_left
              · rw [if_neg c67] at H
                exact absurd H (by simp)
              rw [if_pos c67] at H
              have LMc67 := aZ c67
              clear c67
              obtain ⟨y281, hy281⟩ : ∃ y_ : List Int, y_ = (x6_5 ++ [rd ((rd_T37 l1 x7_1).f2) x10_5]) := ⟨_, rfl⟩
              replace H : (changeforgeref3_ApplyDelta.l2 k5 l0 l1 y281 x7_1 (wrap64 (x10_5 + 1)) ((rd_T37 l1 x7_1).f0) ((rd_T37 l1 x7_1).f1) ((rd_T37 l1 x7_1).f2)) = some (r1, r2, r3) := by first | (rw [hy281]; with_reducible exact H) | (have H2_ := (Option.bind_some _ _).symm.trans H; rw [hy281]; with_reducible exact H2_) | (have H2_ := (Option.bind_some _ _).symm.trans H; with_reducible exact H2_) | with_reducible exact H | (rw [hy281]; exact H) | exact H
              have Ny281 := aZ hy281
              clear hy281
              have H' := aZ H
              clear H
              have hnb68 := NB268_262.out
              have hnc68 := NB262_268.out
              have hcz69_0 : wr.cell? ⟨gb268, 0, none⟩ = some (.int .i64 ((rd_T37 l1 x7_1).f0)) := (blk_cell BK268.out 0).trans rfl
              have hcz69_1 : wr.cell? ⟨gb268, 1, none⟩ = some (.int .i64 ((rd_T37 l1 x7_1).f1)) := (blk_cell BK268.out 1).trans rfl
              have hcz69_2 : wr.cell? ⟨gb268, 2, none⟩ = some (.slice A267_2 ((rd_T37 l1 x7_1).f2).length c267_2) := (blk_cell BK268.out 2).trans rfl
              have hfz69_0 := blk_frozen BK268.out 0
              have hfz69_1 := blk_frozen BK268.out 1
              have hfz69_2 := blk_frozen BK268.out 2
              have p280 : 0 ≤ (x10_5 : Int) := of_decide_eq_true (by first | (with_reducible assumption) | assumption)
              have q280 : x10_5 < (((rd_T37 l1 x7_1).f2).length : Int) := of_decide_eq_true (by first | (with_reducible assumption) | assumption)
              obtain ⟨ad280, e280, hx280_0⟩ := Kd.at_int HR267_2.out x10_5 p280 q280
              cases e280
              replace hx280_0 := (HB.out.cell (World.block_lt_of_cell? w _ hx280_0)).trans hx280_0
              replace p280 := eq_true p280
              replace q280 := eq_true q280
              go_wp2_with (first | ((with_reducible refine gate_builtin (b := .append) (xs := #[.tmp 100, .tmp 106]) rfl ?_); (try (refine gate_guard (by rfl) ?_; dsimp only)); at_builtin; refine Kd.R_append (Kd.int .u8) (w0 := w) w.heap.size rfl (.tmp 100) (.tmp 106) 22 5 (.int .u8 0) 1 rfl Try.underlying22 info5 rfl (by decide) (by omega) u6 x6_5 (rd ((rd_T37 l1 x7_1).f2) x10_5) [.int .u8 (rd ((rd_T37 l1 x7_1).f2) x10_5)] (fun _ => True) (fun _ => False) rfl rfl ?aP (fun _ hk => hk.elim) ?aF ?aO ?aB ?aS ?aL ?_; (case aP => exact rfl); (case aB => exact (by repeat (first | (with_reducible first | exact HB.out | apply lA | apply lN | apply lD | refine lS ?_ GE262.out | refine lS ?_ GE268.out) | exact HB.out))); (case aF => exact (fun _ _ => trivial)); (case aO => exact (by (with_reducible repeat (first | apply Kd.rA | apply Kd.rN | apply Kd.rD)); exact HO_6.out)); (case aS => exact (lZ (by repeat (first | (with_reducible first | exact HB.out | apply lA | apply lN | apply lD | refine lS ?_ GE262.out | refine lS ?_ GE268.out) | exact HB.out)))); (case aL => have := LMc67.out; omega); intro v282 w70 ho hb hg hat; rw [← Ny281.out] at ho; have n0_ := aZ (blk_grown (g := gb262) (o := .cells #[.int .i64 x263000_1, .int .i64 x263001_1] 26 (0, 0)) (by (with_reducible repeat (first | refine bN ?_ _ | refine bD ?_ | refine bA ?_ _)); exact BK262.out) hg (Kd.R_ne HO_6.out BK262.out (by decide))); have n1_ := aZ (blk_grown (g := gb268) (o := .cells #[.int .i64 ((rd_T37 l1 x7_1).f0), .int .i64 ((rd_T37 l1 x7_1).f1), .slice (some ad280) ((rd_T37 l1 x7_1).f2).length c267_2] 37 (0, 0)) (by (with_reducible repeat (first | refine bN ?_ _ | refine bD ?_ | refine bA ?_ _)); exact BK268.out) hg (Kd.R_ne HO_6.out BK268.out (by decide))); have n2_ := aZ (hb); have n3_ := aZ (ho); clear BK262; clear BK268; clear HB; clear HO_6; have BK262 := n0_; have BK268 := n1_; have HB := n2_; have HO283 := n3_; clear n0_ n1_ n2_ n3_; clear ho hb hg hat))
              go_roundg k5
              case measure => have := HK1.out; have := HJ22.out; have := HJ40.out; have := HK4.out; have := HK5.out; omega
              case rel => exact ⟨(y281), (wrap64 (x10_5 + 1)), (by first | rfl | (simp; done) | (simp [*]; done) | (simp [i64_w]; done)), H', ⟨by have := HK1.out; have := HJ22.out; have := HJ40.out; have := HK4.out; have := HK5.out; omega⟩, ⟨by (with_reducible repeat (first | apply Kd.rA | apply Kd.rN | apply Kd.rD)); exact HO283.out⟩, ⟨by (with_reducible repeat (first | refine bN ?_ _ | refine bD ?_ | refine bA ?_ _)); exact BK262.out⟩, ⟨by (with_reducible repeat (first | refine bN ?_ _ | refine bD ?_ | refine bA ?_ _)); exact BK268.out⟩, ⟨by repeat (first | (with_reducible first | exact HB.out | apply lA | apply lN | apply lD | refine lS ?_ GE262.out | refine lS ?_ GE268.out) | exact HB.out)⟩⟩
            rw [if_neg c65] at H
            have c65b0 : decide (x10_5 < (((rd_T37 l1 x7_1).f2).length : Int)) = false := decide_eq_false c65
            clear c65
            by_cases c71 : (x6_5.length : Int) > 1000
            rotate_left
            · rw [if_neg c71] at H
              have c71b0 : decide (1000 < (x6_5.length : Int)) = false := decide_eq_false c71
              have c71b1 : decide (1000 < x6_5.length) = false := decide_eq_false (by omega)
              clear c71
              have H' := aZ H
              clear H
              have hnb78 := NB268_262.out
              have hnc78 := NB262_268.out
              have hcz79_0 : wr.cell? ⟨gb268, 0, none⟩ = some (.int .i64 ((rd_T37 l1 x7_1).f0)) := (blk_cell BK268.out 0).trans rfl
              have hcz79_1 : wr.cell? ⟨gb268, 1, none⟩ = some (.int .i64 ((rd_T37 l1 x7_1).f1)) := (blk_cell BK268.out 1).trans rfl
              have hcz79_2 : wr.cell? ⟨gb268, 2, none⟩ = some (.slice A267_2 ((rd_T37 l1 x7_1).f2).length c267_2) := (blk_cell BK268.out 2).trans rfl
              have hfz79_0 := blk_frozen BK268.out 0
              have hfz79_1 := blk_frozen BK268.out 1
              have hfz79_2 := blk_frozen BK268.out 2
              obtain ⟨Ao80, co80, eo80⟩ := Kd.R_slice HO_6.out
              subst eo80
              go_wp2
              go_roundg k5
              case measure => have := HK1.out; have := HJ22.out; have := HJ40.out; have := HK4.out; have := HK5.out; omega
              case rel => exact ⟨(x6_5), (wrap64 (x7_1 + 1)), (x263000_1), (x263001_1), (by first | rfl | (simp; done) | (simp [*]; done) | (simp [i64_w]; done)), H', ⟨by have := HK1.out; have := HJ22.out; have := HJ40.out; have := HK4.out; have := HK5.out; omega⟩, ⟨by (with_reducible repeat (first | apply Kd.rA | apply Kd.rN | apply Kd.rD)); exact HO_6.out⟩, ⟨by (with_reducible repeat (first | refine bN ?_ _ | refine bD ?_ | refine bA ?_ _)); exact BK262.out⟩, ⟨by repeat (first | (with_reducible first | exact HB.out | apply lA | apply lN | apply lD | refine lS ?_ GE262.out | refine lS ?_ GE268.out) | exact HB.out)⟩⟩
            rw [if_pos c71] at H
            have c71b0 : decide (1000 < (x6_5.length : Int)) = true := decide_eq_true c71
            have c71b1 : decide (1000 < x6_5.length) = true := decide_eq_true (by omega)
            clear c71
            replace H := Option.bind_eq_some_iff.mp H
            obtain ⟨⟨t284, t285⟩, A720, H⟩ := H
            replace H : (some (([] : List Int), t284, t285)) = some (r1, r2, r3) := H
            have A72 := aZ A720
            clear A720
            simp only [Option.some.injEq, Prod.mk.injEq] at H
            obtain ⟨rfl, rfl, rfl⟩ := H
            have hnb73 := NB268_262.out
            have hnc73 := NB262_268.out
            have hcz74_0 : wr.cell? ⟨gb268, 0, none⟩ = some (.int .i64 ((rd_T37 l1 x7_1).f0)) := (blk_cell BK268.out 0).trans rfl
            have hcz74_1 : wr.cell? ⟨gb268, 1, none⟩ = some (.int .i64 ((rd_T37 l1 x7_1).f1)) := (blk_cell BK268.out 1).trans rfl
            have hcz74_2 : wr.cell? ⟨gb268, 2, none⟩ = some (.slice A267_2 ((rd_T37 l1 x7_1).f2).length c267_2) := (blk_cell BK268.out 2).trans rfl
            have hfz74_0 := blk_frozen BK268.out 0
            have hfz74_1 := blk_frozen BK268.out 1
            have hfz74_2 := blk_frozen BK268.out 2
            obtain ⟨Ao75, co75, eo75⟩ := Kd.R_slice HO_6.out
            subst eo75
            go_wp2_with (first | ((with_reducible refine gate_callee (f := 12) rfl ?_); refine goesL_ (some 112) rfl rfl Try.func12 (by kernel_rfl) rfl #[.int .i64 10, .int .i64 x7_1] rfl (by (try simp only [List.map_toArray, List.map_cons, List.map_nil]); first | done | rfl | (simp only [List.length_drop, List.length_take]; rfl)) ?_; (with_reducible refine (changeforgeref3_Fault.calls 10 x7_1 t284 t285 _ A72.out).mono ?_); rintro e w76 ⟨rfl, hb⟩; refine ⟨_, rfl, ?_⟩; have n0_ := aZ (Kd.R_below (by (with_reducible repeat (first | apply Kd.rA | apply Kd.rN | apply Kd.rD)); exact HO_6.out) hb); have n1_ := aZ (blk_below (g := gb262) (o := .cells #[.int .i64 x263000_1, .int .i64 x263001_1] 26 (0, 0)) (by (with_reducible repeat (first | refine bN ?_ _ | refine bD ?_ | refine bA ?_ _)); exact BK262.out) hb); have n2_ := aZ (blk_below (g := gb268) (o := .cells #[.int .i64 ((rd_T37 l1 x7_1).f0), .int .i64 ((rd_T37 l1 x7_1).f1), .slice A267_2 ((rd_T37 l1 x7_1).f2).length c267_2] 37 (0, 0)) (by (with_reducible repeat (first | refine bN ?_ _ | refine bD ?_ | refine bA ?_ _)); exact BK268.out) hb); have n3_ := aZ (lT (by repeat (first | (with_reducible first | exact HB.out | apply lA | apply lN | apply lD | refine lS ?_ GE262.out | refine lS ?_ GE268.out) | exact HB.out)) hb); clear HO_6; clear BK262; clear BK268; clear HB; have HO_6 := n0_; have BK262 := n1_; have BK268 := n2_; have HB := n3_; clear n0_ n1_ n2_ n3_; (try clear hb); (try clear hb2); (try clear hk); (try clear hi); have hcz77_0 : w76.cell? ⟨gb262, 0, none⟩ = some (.int .i64 x263000_1) := (blk_cell BK262.out 0).trans rfl; have hcz77_1 : w76.cell? ⟨gb262, 1, none⟩ = some (.int .i64 x263001_1) := (blk_cell BK262.out 1).trans rfl; have hfz77_0 := blk_frozen BK262.out 0; have hfz77_1 := blk_frozen BK262.out 1))
            refine bodyPost_ret (results_tc rfl _ _ gb262 26 #[.int .i64 t284, .int .i64 t285] (0, 0) _ rfl (by (with_reducible repeat (first | refine bN ?_ _ | refine bD ?_ | refine bA ?_ _)); refine blk_put (cs := #[.int .i64 t284, .int .i64 x263001_1]) ?_ 1 _ rfl; (with_reducible repeat (first | refine bN ?_ _ | refine bD ?_ | refine bA ?_ _)); refine blk_put (cs := #[.int .i64 x263000_1, .int .i64 x263001_1]) ?_ 0 _ rfl; (with_reducible repeat (first | refine bN ?_ _ | refine bD ?_ | refine bA ?_ _)); exact BK262.out) Try.underlying26 rfl (by kernel_rfl)) rfl ?_
            exact ⟨_, by first | rfl | (simp [errW_none, errW_some] <;> rfl) | (simp [*, errW_none, errW_some] <;> rfl), by first | exact Kd.R_nil _ _ _ _ _ | exact Kd.N_nil _ _ _ _ _ | exact Kd.V_nil _ _ _ _ _ | exact Kd.Q_nil _ _ _ _ _ | exact Kd.S_nil _ _ _ _ _, by repeat (first | (with_reducible first | exact HB.out | apply lA | apply lN | apply lD | refine lS ?_ GE262.out | refine lS ?_ GE268.out) | exact HB.out)⟩
end Go.Proofs.Ytgmpnghgmcgghaa.P
