/- What the Go functions of this seat compute, and that they do: printed by a program over the kit's print. -/
import Derived.Test.YtojhnjgnpjoacaaP0
import Derived.Test.YtojhnjgnpjoacaaP1
import Derived.Test.YtojhnjgnpjoacaaP2
import Derived.Test.YtojhnjgnpjoacaaP19
import Derived.Test.YtojhnjgnpjoacaaP20
namespace Go.Proofs.Ytojhnjgnpjoacaa.P
open Go.RowKit Go.Proofs.YtojhnjgnpjoacaaW.PrintWords Go.Proofs.YtojhnjgnpjoacaaW.PrintLast Go.Proofs.YtojhnjgnpjoacaaW.PrintMore
attribute [local go_sem] max2_int min2_int max_two min_two max_three min_three max_four min_four   -- for this text's walks alone
set_option linter.unusedVariables false
set_option linter.unusedSimpArgs false

attribute [local go_sem high] eqA26
/-! ### history_Order: function 27 -/
mutual
def history_Order.l0 : Nat → List Int → List (S49) → Int → Int → List (S49) → Option (List Int × Int × Int)
  | 0, _, _, _, _, _ => none
  | k + 1, x5, x26, x27, x28, x389000 => if x28 < x27 then (if 0 ≤ x28 then (if x28 < (x26.length : Int) then (history_Order.l1 k x5 x26 x27 x28 ((rd_T49 x26 x28).f0) (((rd_T49 x26 x28).f0).length : Int) 0 x389000) else (none)) else (none)) else (history_Order.l2 k x5 ([] : List Int) x5 (x5.length : Int) 0 x389000)
def history_Order.l1 : Nat → List Int → List (S49) → Int → Int → List Int → Int → Int → List (S49) → Option (List Int × Int × Int)
  | 0, _, _, _, _, _, _, _, _ => none
  | k + 1, x5, x26, x27, x28, x33, x34, x35, x389000 => if x35 < x34 then (if 0 ≤ x35 then (if x35 < (x33.length : Int) then (if 0 ≤ (rd x33 x35) then (if (rd x33 x35) < (x5.length : Int) then (history_Order.l1 k (x5.set ((rd x33 x35) : Int).toNat (wrap64 ((rd x5 (rd x33 x35)) + 1))) x26 x27 x28 x33 x34 (wrap64 (x35 + 1)) x389000) else (none)) else (none)) else (none)) else (none)) else (history_Order.l0 k x5 x26 x27 (wrap64 (x28 + 1)) x389000)
def history_Order.l2 : Nat → List Int → List Int → List Int → Int → Int → List (S49) → Option (List Int × Int × Int)
  | 0, _, _, _, _, _, _ => none
  | k + 1, x5, x10, x47, x48, x49, x389000 => if x49 < x48 then (if 0 ≤ x49 then (if x49 < (x47.length : Int) then (if (rd x47 x49) = 0 then (if x10.length < 17592186044416 then (history_Order.l2 k x5 (x10 ++ [x49]) x47 x48 (wrap64 (x49 + 1)) x389000) else (none)) else (history_Order.l2 k x5 x10 x47 x48 (wrap64 (x49 + 1)) x389000)) else (none)) else (none)) else (history_Order.l3 k x5 x10 ([] : List Int) x389000)
def history_Order.l3 : Nat → List Int → List Int → List Int → List (S49) → Option (List Int × Int × Int)
  | 0, _, _, _, _ => none
  | k + 1, x5, x10, x11, x389000 => if (x10.length : Int) > 0 then ((slices_MaxFunc_int_int.f x10 x389000).bind fun bt405 => ((slices_DeleteFunc_int_int.f bt405.2 bt405.1).bind fun t408 => (if x11.length < 17592186044416 then (if 0 ≤ bt405.1 then (if bt405.1 < (x389000.length : Int) then (history_Order.l4 k x5 t408 (x11 ++ [bt405.1]) ((rd_T49 x389000 bt405.1).f0) (((rd_T49 x389000 bt405.1).f0).length : Int) 0 x389000) else (none)) else (none)) else (none)))) else (some (x11, 0, 0))
def history_Order.l4 : Nat → List Int → List Int → List Int → List Int → Int → Int → List (S49) → Option (List Int × Int × Int)
  | 0, _, _, _, _, _, _, _ => none
  | k + 1, x5, x10, x11, x78, x79, x80, x389000 => if x80 < x79 then (if 0 ≤ x80 then (if x80 < (x78.length : Int) then (if 0 ≤ (rd x78 x80) then (if (rd x78 x80) < (x5.length : Int) then ((some (x5.set ((rd x78 x80) : Int).toNat (wrap64 ((rd x5 (rd x78 x80)) - 1)) : List Int)).bind fun y417 => (if (rd y417 (rd x78 x80)) = 0 then (if x10.length < 17592186044416 then (history_Order.l4 k y417 (x10 ++ [rd x78 x80]) x11 x78 x79 (wrap64 (x80 + 1)) x389000) else (none)) else (history_Order.l4 k y417 x10 x11 x78 x79 (wrap64 (x80 + 1)) x389000))) else (none)) else (none)) else (none)) else (none)) else (history_Order.l3 k x5 x10 x11 x389000)
end
def history_Order.f (k : Nat) (l0 : List (S49)) : Option (List Int × Int × Int) := (history_Validate.f k l0).bind fun bt390 => (if (!(bt390.1 == 0) || (!(bt390.2 == 0))) = true then (some (([] : List Int), bt390.1, bt390.2)) else (if 0 ≤ (l0.length : Int) then (if ((l0.length : Int) : Int).toNat ≤ 35184372088832 then (history_Order.l0 k (List.replicate ((l0.length : Int) : Int).toNat 0) l0 (l0.length : Int) 0 l0) else (none)) else (none)))
theorem history_Order.mono_l : ∀ k, (∀ y0 y1 y2 y3 y4, LeO (history_Order.l0 k y0 y1 y2 y3 y4) (history_Order.l0 (k + 1) y0 y1 y2 y3 y4)) ∧ (∀ y0 y1 y2 y3 y4 y5 y6 y7, LeO (history_Order.l1 k y0 y1 y2 y3 y4 y5 y6 y7) (history_Order.l1 (k + 1) y0 y1 y2 y3 y4 y5 y6 y7)) ∧ (∀ y0 y1 y2 y3 y4 y5, LeO (history_Order.l2 k y0 y1 y2 y3 y4 y5) (history_Order.l2 (k + 1) y0 y1 y2 y3 y4 y5)) ∧ (∀ y0 y1 y2 y3, LeO (history_Order.l3 k y0 y1 y2 y3) (history_Order.l3 (k + 1) y0 y1 y2 y3)) ∧ (∀ y0 y1 y2 y3 y4 y5 y6, LeO (history_Order.l4 k y0 y1 y2 y3 y4 y5 y6) (history_Order.l4 (k + 1) y0 y1 y2 y3 y4 y5 y6))
  | 0 => ⟨fun _ _ _ _ _ r h => by simp [history_Order.l0] at h, fun _ _ _ _ _ _ _ _ r h => by simp [history_Order.l1] at h, fun _ _ _ _ _ _ r h => by simp [history_Order.l2] at h, fun _ _ _ _ r h => by simp [history_Order.l3] at h, fun _ _ _ _ _ _ _ r h => by simp [history_Order.l4] at h⟩
  | k + 1 => by
    obtain ⟨ih0, ih1, ih2, ih3, ih4⟩ := history_Order.mono_l k
    refine ⟨?_, ?_, ?_, ?_, ?_⟩
    · intro y0 y1 y2 y3 y4
      unfold history_Order.l0
      repeat' first
      | (with_reducible exact ih0 _ _ _ _ _)
      | (with_reducible exact ih1 _ _ _ _ _ _ _ _)
      | (with_reducible exact ih2 _ _ _ _ _ _)
      | (with_reducible exact ih3 _ _ _ _)
      | (with_reducible exact ih4 _ _ _ _ _ _ _)
      | (with_reducible exact history_Validate.mono _ _)
      | (with_reducible exact LeO.refl _)
      | (with_reducible exact LeO.none _)
      | (with_reducible refine LeO.ite ?_ ?_)
      | (with_reducible refine LeO.bind ?_ (fun _ => ?_))
      | exact ih0 _ _ _ _ _
      | exact ih1 _ _ _ _ _ _ _ _
      | exact ih2 _ _ _ _ _ _
      | exact ih3 _ _ _ _
      | exact ih4 _ _ _ _ _ _ _
      | exact history_Validate.mono _ _
      | exact LeO.none _
      | refine LeO.ite ?_ ?_
      | refine LeO.bind ?_ (fun _ => ?_)
    · intro y0 y1 y2 y3 y4 y5 y6 y7
      unfold history_Order.l1
      repeat' first
      | (with_reducible exact ih0 _ _ _ _ _)
      | (with_reducible exact ih1 _ _ _ _ _ _ _ _)
      | (with_reducible exact ih2 _ _ _ _ _ _)
      | (with_reducible exact ih3 _ _ _ _)
      | (with_reducible exact ih4 _ _ _ _ _ _ _)
      | (with_reducible exact history_Validate.mono _ _)
      | (with_reducible exact LeO.refl _)
      | (with_reducible exact LeO.none _)
      | (with_reducible refine LeO.ite ?_ ?_)
      | (with_reducible refine LeO.bind ?_ (fun _ => ?_))
      | exact ih0 _ _ _ _ _
      | exact ih1 _ _ _ _ _ _ _ _
      | exact ih2 _ _ _ _ _ _
      | exact ih3 _ _ _ _
      | exact ih4 _ _ _ _ _ _ _
      | exact history_Validate.mono _ _
      | exact LeO.none _
      | refine LeO.ite ?_ ?_
      | refine LeO.bind ?_ (fun _ => ?_)
    · intro y0 y1 y2 y3 y4 y5
      unfold history_Order.l2
      repeat' first
      | (with_reducible exact ih0 _ _ _ _ _)
      | (with_reducible exact ih1 _ _ _ _ _ _ _ _)
      | (with_reducible exact ih2 _ _ _ _ _ _)
      | (with_reducible exact ih3 _ _ _ _)
      | (with_reducible exact ih4 _ _ _ _ _ _ _)
      | (with_reducible exact history_Validate.mono _ _)
      | (with_reducible exact LeO.refl _)
      | (with_reducible exact LeO.none _)
      | (with_reducible refine LeO.ite ?_ ?_)
      | (with_reducible refine LeO.bind ?_ (fun _ => ?_))
      | exact ih0 _ _ _ _ _
      | exact ih1 _ _ _ _ _ _ _ _
      | exact ih2 _ _ _ _ _ _
      | exact ih3 _ _ _ _
      | exact ih4 _ _ _ _ _ _ _
      | exact history_Validate.mono _ _
      | exact LeO.none _
      | refine LeO.ite ?_ ?_
      | refine LeO.bind ?_ (fun _ => ?_)
    · intro y0 y1 y2 y3
      unfold history_Order.l3
      repeat' first
      | (with_reducible exact ih0 _ _ _ _ _)
      | (with_reducible exact ih1 _ _ _ _ _ _ _ _)
      | (with_reducible exact ih2 _ _ _ _ _ _)
      | (with_reducible exact ih3 _ _ _ _)
      | (with_reducible exact ih4 _ _ _ _ _ _ _)
      | (with_reducible exact history_Validate.mono _ _)
      | (with_reducible exact LeO.refl _)
      | (with_reducible exact LeO.none _)
      | (with_reducible refine LeO.ite ?_ ?_)
      | (with_reducible refine LeO.bind ?_ (fun _ => ?_))
      | exact ih0 _ _ _ _ _
      | exact ih1 _ _ _ _ _ _ _ _
      | exact ih2 _ _ _ _ _ _
      | exact ih3 _ _ _ _
      | exact ih4 _ _ _ _ _ _ _
      | exact history_Validate.mono _ _
      | exact LeO.none _
      | refine LeO.ite ?_ ?_
      | refine LeO.bind ?_ (fun _ => ?_)
    · intro y0 y1 y2 y3 y4 y5 y6
      unfold history_Order.l4
      repeat' first
      | (with_reducible exact ih0 _ _ _ _ _)
      | (with_reducible exact ih1 _ _ _ _ _ _ _ _)
      | (with_reducible exact ih2 _ _ _ _ _ _)
      | (with_reducible exact ih3 _ _ _ _)
      | (with_reducible exact ih4 _ _ _ _ _ _ _)
      | (with_reducible exact history_Validate.mono _ _)
      | (with_reducible exact LeO.refl _)
      | (with_reducible exact LeO.none _)
      | (with_reducible refine LeO.ite ?_ ?_)
      | (with_reducible refine LeO.bind ?_ (fun _ => ?_))
      | exact ih0 _ _ _ _ _
      | exact ih1 _ _ _ _ _ _ _ _
      | exact ih2 _ _ _ _ _ _
      | exact ih3 _ _ _ _
      | exact ih4 _ _ _ _ _ _ _
      | exact history_Validate.mono _ _
      | exact LeO.none _
      | refine LeO.ite ?_ ?_
      | refine LeO.bind ?_ (fun _ => ?_)
theorem history_Order.mono : ∀ a0 k, LeO (history_Order.f k a0) (history_Order.f (k + 1) a0) := by
  intro a0 k
  obtain ⟨ih0, ih1, ih2, ih3, ih4⟩ := history_Order.mono_l k
  unfold history_Order.f
  repeat' first
      | (with_reducible exact ih0 _ _ _ _ _)
      | (with_reducible exact ih1 _ _ _ _ _ _ _ _)
      | (with_reducible exact ih2 _ _ _ _ _ _)
      | (with_reducible exact ih3 _ _ _ _)
      | (with_reducible exact ih4 _ _ _ _ _ _ _)
      | (with_reducible exact history_Validate.mono _ _)
      | (with_reducible exact LeO.refl _)
      | (with_reducible exact LeO.none _)
      | (with_reducible refine LeO.ite ?_ ?_)
      | (with_reducible refine LeO.bind ?_ (fun _ => ?_))
      | exact ih0 _ _ _ _ _
      | exact ih1 _ _ _ _ _ _ _ _
      | exact ih2 _ _ _ _ _ _
      | exact ih3 _ _ _ _
      | exact ih4 _ _ _ _ _ _ _
      | exact history_Validate.mono _ _
      | exact LeO.none _
      | refine LeO.ite ?_ ?_
      | refine LeO.bind ?_ (fun _ => ?_)
set_option maxHeartbeats 8000000 in
set_option maxRecDepth 100000 in
theorem history_Order.calls (k : Nat) (A0 : Option Addr) (c0 : Nat) (l0 : List (S49)) (r1 : List Int) (r2 : Int) (r3 : Int) (w : World) (hr0 : Kd.C k49 w A0 l0.length l0) (hc0 : l0.length ≤ c0) (h : history_Order.f k l0 = some (r1, r2, r3)) :
  Calls Try.prog 27 #[.slice A0 l0.length c0] w fun e w' => ∃ v0_ : Value, e = .returned (.tuple #[v0_, .agg #[.int .i64 r2, .int .i64 r3]]) ∧ Kd.R (Kd.int .i64) 3 w' w.heap.size (fun _ => True) v0_ r1 ∧ Below w.heap.size w w' := by
  have hu26 := Try.underlying26
  have hu49 := Try.underlying49
  have HR0 := aZ hr0
  have HC0 := aZ hc0
  clear hr0 hc0
  have HB := aZ (Below.refl w.heap.size w)
  have H : ((history_Validate.f k l0).bind fun bt390 => (if (!(bt390.1 == 0) || (!(bt390.2 == 0))) = true then (some (([] : List Int), bt390.1, bt390.2)) else (if 0 ≤ (l0.length : Int) then (if ((l0.length : Int) : Int).toNat ≤ 35184372088832 then (history_Order.l0 k (List.replicate ((l0.length : Int) : Int).toNat 0) l0 (l0.length : Int) 0 l0) else (none)) else (none)))) = some (r1, r2, r3) := h
  clear h
  replace H := Option.bind_eq_some_iff.mp H
  obtain ⟨⟨t390, t391⟩, A20, H⟩ := H
  replace H : (if (!(t390 == 0) || (!(t391 == 0))) = true then (some (([] : List Int), t390, t391)) else (if 0 ≤ (l0.length : Int) then (if ((l0.length : Int) : Int).toNat ≤ 35184372088832 then (history_Order.l0 k (List.replicate ((l0.length : Int) : Int).toNat 0) l0 (l0.length : Int) 0 l0) else (none)) else (none))) = some (r1, r2, r3) := H
  have A2 := aZ A20
  clear A20
  by_cases c3 : (!(t390 == 0) || (!(t391 == 0))) = true
  · rw [if_pos c3] at H
    have c3b0 : (!(t390 == 0) || (!(t391 == 0))) = true := c3
    clear c3
    simp only [Option.some.injEq, Prod.mk.injEq] at H
    obtain ⟨rfl, rfl, rfl⟩ := H
    go_enter Try.func27, Try.ntmps27
    try go_wp2_with (first | ((with_reducible refine gate_dst (N := 1) rfl ?_); refine box_event ?hg (N := 1) ?hd (cs := #[.slice A0 l0.length c0]) (t := 22) ?hr ?_; (case hd => rfl); (case hg => rfl); (case hr => first | (go_simp; done) | (go_simp; rfl)); intro gb388 hg w4 hbox hb; have n0_ := aZ (lT (by repeat (first | (with_reducible first | exact HB.out | apply lA | apply lN | apply lD) | exact HB.out)) hb); have n1_ := aZ (hbox); have n2_ := aZ ((by rw [hg]; exact (lZ (by repeat (first | (with_reducible first | exact HB.out | apply lA | apply lN | apply lD) | exact HB.out))) : w.heap.size ≤ gb388)); have n3_ := aZ ((by rw [hg]; exact (lZ (by repeat (first | (with_reducible first | exact HB.out | apply lA | apply lN | apply lD) | exact HB.out))) : w.heap.size ≤ gb388)); clear HB; have HB := n0_; have BK388 := n1_; have GW388 := n2_; have GE388 := n3_; clear n0_ n1_ n2_ n3_; clear hb hbox hg) | ((with_reducible refine gate_dst (N := 3) rfl ?_); refine box_event ?hg (N := 3) ?hd (cs := #[.int .i64 0, .int .i64 0]) (t := 26) ?hr ?_; (case hd => rfl); (case hg => rfl); (case hr => first | (go_simp; done) | (go_simp; rfl)); intro gb389 hg w5 hbox hb; have n0_ := aZ (blk_below (g := gb388) (o := .cells #[.slice A0 l0.length c0] 22 (0, 0)) (by (with_reducible repeat (first | refine bN ?_ _ | refine bD ?_ | refine bA ?_ _)); exact BK388.out) hb); have n1_ := aZ (lT (by repeat (first | (with_reducible first | exact HB.out | apply lA | apply lN | apply lD | refine lS ?_ GE388.out) | exact HB.out)) hb); have n2_ := aZ (hbox); have n3_ := aZ ((by rw [hg]; exact (lZ (by repeat (first | (with_reducible first | exact HB.out | apply lA | apply lN | apply lD | refine lS ?_ GE388.out) | exact HB.out))) : w.heap.size ≤ gb389)); have n4_ := aZ ((by rw [hg]; exact (lZ (by repeat (first | (with_reducible first | exact HB.out | apply lA | apply lN | apply lD | refine lS ?_ GE388.out) | exact HB.out))) : w.heap.size ≤ gb389)); have n5_ := aZ ((by rw [hg]; exact Nat.ne_of_lt (blk_lt (g := gb388) (o := .cells #[.slice A0 l0.length c0] 22 (0, 0)) (by (with_reducible repeat (first | refine bN ?_ _ | refine bD ?_ | refine bA ?_ _)); exact BK388.out)) : gb388 ≠ gb389)); have n6_ := aZ ((by rw [hg]; exact Nat.ne_of_gt (blk_lt (g := gb388) (o := .cells #[.slice A0 l0.length c0] 22 (0, 0)) (by (with_reducible repeat (first | refine bN ?_ _ | refine bD ?_ | refine bA ?_ _)); exact BK388.out)) : gb389 ≠ gb388)); clear BK388; clear HB; have BK388 := n0_; have HB := n1_; have BK389 := n2_; have GW389 := n3_; have GE389 := n4_; have NB388_389 := n5_; have NB389_388 := n6_; clear n0_ n1_ n2_ n3_ n4_ n5_ n6_; clear hb hbox hg; have hnb6 := NB388_389.out; have hnc6 := NB389_388.out; have hcz7_0 : w5.cell? ⟨gb388, 0, none⟩ = some (.slice A0 l0.length c0) := (blk_cell BK388.out 0).trans rfl; have hfz7_0 := blk_frozen BK388.out 0) | ((with_reducible refine gate_callee (f := 25) rfl ?_); refine goesL_ (some 18) rfl rfl Try.func25 (by kernel_rfl) rfl #[.slice A0 l0.length c0] rfl (by (try simp only [List.map_toArray, List.map_cons, List.map_nil]); first | done | rfl | (simp only [List.length_drop, List.length_take]; rfl)) ?_; (with_reducible refine (history_Validate.calls k _ _ l0 t390 t391 _ ?side1 ?side2 A2.out).mono ?_); (case side1 => repeat (first | exact (Kd.C_below HR0.out HB.out) | (with_reducible refine Kd.C_alloc ?_ _) | (with_reducible refine Kd.C_drewN ?_ _) | (with_reducible refine Kd.C_drew ?_))); (case side2 => exact HC0.out); rintro e w8 ⟨rfl, hb⟩; refine ⟨_, rfl, ?_⟩; have n0_ := aZ (blk_below (g := gb388) (o := .cells #[.slice A0 l0.length c0] 22 (0, 0)) (by (with_reducible repeat (first | refine bN ?_ _ | refine bD ?_ | refine bA ?_ _)); exact BK388.out) hb); have n1_ := aZ (blk_below (g := gb389) (o := .cells #[.int .i64 0, .int .i64 0] 26 (0, 0)) (by (with_reducible repeat (first | refine bN ?_ _ | refine bD ?_ | refine bA ?_ _)); exact BK389.out) hb); have n2_ := aZ (lT (by repeat (first | (with_reducible first | exact HB.out | apply lA | apply lN | apply lD | refine lS ?_ GE388.out | refine lS ?_ GE389.out) | exact HB.out)) hb); clear BK388; clear BK389; clear HB; have BK388 := n0_; have BK389 := n1_; have HB := n2_; clear n0_ n1_ n2_; (try clear hb); (try clear hb2); (try clear hk); (try clear hi)) | ((with_reducible refine gate_dst (N := 4) rfl ?_); refine box_event ?hg (N := 4) ?hd (cs := #[.int .i64 0, .int .i64 0]) (t := 26) ?hr ?_; (case hd => rfl); (case hg => rfl); (case hr => first | (go_simp; done) | (go_simp; rfl)); intro gb392 hg w9 hbox hb; have n0_ := aZ (blk_below (g := gb388) (o := .cells #[.slice A0 l0.length c0] 22 (0, 0)) (by (with_reducible repeat (first | refine bN ?_ _ | refine bD ?_ | refine bA ?_ _)); exact BK388.out) hb); have n1_ := aZ (blk_below (g := gb389) (o := .cells #[.int .i64 0, .int .i64 0] 26 (0, 0)) (by (with_reducible repeat (first | refine bN ?_ _ | refine bD ?_ | refine bA ?_ _)); exact BK389.out) hb); have n2_ := aZ (lT (by repeat (first | (with_reducible first | exact HB.out | apply lA | apply lN | apply lD | refine lS ?_ GE388.out | refine lS ?_ GE389.out) | exact HB.out)) hb); have n3_ := aZ (hbox); have n4_ := aZ ((by rw [hg]; exact (lZ (by repeat (first | (with_reducible first | exact HB.out | apply lA | apply lN | apply lD | refine lS ?_ GE388.out | refine lS ?_ GE389.out) | exact HB.out))) : w.heap.size ≤ gb392)); have n5_ := aZ ((by rw [hg]; exact (lZ (by repeat (first | (with_reducible first | exact HB.out | apply lA | apply lN | apply lD | refine lS ?_ GE388.out | refine lS ?_ GE389.out) | exact HB.out))) : w.heap.size ≤ gb392)); have n6_ := aZ ((by rw [hg]; exact Nat.ne_of_lt (blk_lt (g := gb388) (o := .cells #[.slice A0 l0.length c0] 22 (0, 0)) (by (with_reducible repeat (first | refine bN ?_ _ | refine bD ?_ | refine bA ?_ _)); exact BK388.out)) : gb388 ≠ gb392)); have n7_ := aZ ((by rw [hg]; exact Nat.ne_of_gt (blk_lt (g := gb388) (o := .cells #[.slice A0 l0.length c0] 22 (0, 0)) (by (with_reducible repeat (first | refine bN ?_ _ | refine bD ?_ | refine bA ?_ _)); exact BK388.out)) : gb392 ≠ gb388)); have n8_ := aZ ((by rw [hg]; exact Nat.ne_of_lt (blk_lt (g := gb389) (o := .cells #[.int .i64 0, .int .i64 0] 26 (0, 0)) (by (with_reducible repeat (first | refine bN ?_ _ | refine bD ?_ | refine bA ?_ _)); exact BK389.out)) : gb389 ≠ gb392)); have n9_ := aZ ((by rw [hg]; exact Nat.ne_of_gt (blk_lt (g := gb389) (o := .cells #[.int .i64 0, .int .i64 0] 26 (0, 0)) (by (with_reducible repeat (first | refine bN ?_ _ | refine bD ?_ | refine bA ?_ _)); exact BK389.out)) : gb392 ≠ gb389)); clear BK388; clear BK389; clear HB; have BK388 := n0_; have BK389 := n1_; have HB := n2_; have BK392 := n3_; have GW392 := n4_; have GE392 := n5_; have NB388_392 := n6_; have NB392_388 := n7_; have NB389_392 := n8_; have NB392_389 := n9_; clear n0_ n1_ n2_ n3_ n4_ n5_ n6_ n7_ n8_ n9_; clear hb hbox hg; have hnb10 := NB392_388.out; have hnc10 := NB388_392.out; have hnb11 := NB392_389.out; have hnc11 := NB389_392.out; have hcz12_0 : w9.cell? ⟨gb392, 0, none⟩ = some (.int .i64 0) := (blk_cell BK392.out 0).trans rfl; have hcz12_1 : w9.cell? ⟨gb392, 1, none⟩ = some (.int .i64 0) := (blk_cell BK392.out 1).trans rfl; have hfz12_0 := blk_frozen BK392.out 0; have hfz12_1 := blk_frozen BK392.out 1))
    have n0_ : Aside0 (((w9.setCell ⟨gb392, 0, none⟩ (.int .i64 t390)).setCell ⟨gb392, 1, none⟩ (.int .i64 t391)).heap[gb388]? = some (.cells #[.slice A0 l0.length c0] 22 (0, 0))) := ⟨by (with_reducible repeat (first | refine bN ?_ _ | refine bD ?_ | refine bA ?_ _)); refine blk_far ?_ NB388_392.out _; (with_reducible repeat (first | refine bN ?_ _ | refine bD ?_ | refine bA ?_ _)); refine blk_far ?_ NB388_392.out _; (with_reducible repeat (first | refine bN ?_ _ | refine bD ?_ | refine bA ?_ _)); exact BK388.out⟩
    have n1_ : Aside0 (((w9.setCell ⟨gb392, 0, none⟩ (.int .i64 t390)).setCell ⟨gb392, 1, none⟩ (.int .i64 t391)).heap[gb389]? = some (.cells #[.int .i64 0, .int .i64 0] 26 (0, 0))) := ⟨by (with_reducible repeat (first | refine bN ?_ _ | refine bD ?_ | refine bA ?_ _)); refine blk_far ?_ NB389_392.out _; (with_reducible repeat (first | refine bN ?_ _ | refine bD ?_ | refine bA ?_ _)); refine blk_far ?_ NB389_392.out _; (with_reducible repeat (first | refine bN ?_ _ | refine bD ?_ | refine bA ?_ _)); exact BK389.out⟩
    have n2_ : Aside0 (((w9.setCell ⟨gb392, 0, none⟩ (.int .i64 t390)).setCell ⟨gb392, 1, none⟩ (.int .i64 t391)).heap[gb392]? = some (.cells #[.int .i64 t390, .int .i64 t391] 26 (0, 0))) := ⟨by (with_reducible repeat (first | refine bN ?_ _ | refine bD ?_ | refine bA ?_ _)); refine blk_put (cs := #[.int .i64 t390, .int .i64 0]) ?_ 1 _ rfl; (with_reducible repeat (first | refine bN ?_ _ | refine bD ?_ | refine bA ?_ _)); refine blk_put (cs := #[.int .i64 0, .int .i64 0]) ?_ 0 _ rfl; (with_reducible repeat (first | refine bN ?_ _ | refine bD ?_ | refine bA ?_ _)); exact BK392.out⟩
    have n3_ : Aside0 (Below w.heap.size w ((w9.setCell ⟨gb392, 0, none⟩ (.int .i64 t390)).setCell ⟨gb392, 1, none⟩ (.int .i64 t391))) := ⟨by repeat (first | (with_reducible first | exact HB.out | apply lA | apply lN | apply lD | refine lS ?_ GE388.out | refine lS ?_ GE389.out | refine lS ?_ GE392.out) | exact HB.out)⟩
    (try clear BK388)
    (try clear BK389)
    (try clear BK392)
    (try clear HB)
    generalize ((w9.setCell ⟨gb392, 0, none⟩ (.int .i64 t390)).setCell ⟨gb392, 1, none⟩ (.int .i64 t391)) = w13 at n0_ n1_ n2_ n3_ ⊢
    have BK388 := n0_
    have BK389 := n1_
    have BK392 := n2_
    have HB := n3_
    clear n0_ n1_ n2_ n3_
    have n0_ := aZ (bD BK388.out)
    have n1_ := aZ (bD BK389.out)
    have n2_ := aZ (bD BK392.out)
    have n3_ := aZ (lD HB.out)
    clear BK388
    clear BK389
    clear BK392
    clear HB
    have BK388 := n0_
    have BK389 := n1_
    have BK392 := n2_
    have HB := n3_
    clear n0_ n1_ n2_ n3_
    refine start_ (n := 3) (S := fun w' => w'.cell? ⟨gb392, 0, none⟩ = some (.int .i64 t390) ∧ w'.cell? ⟨gb392, 1, none⟩ = some (.int .i64 t391)) (ds := []) #[false, false, false] (by kernel_rfl) rfl rfl ⟨(blk_cell BK392.out 0).trans rfl, (blk_cell BK392.out 1).trans rfl⟩ (fun hHeld => ?_)
    generalize w13.drew = w14 at BK388 BK389 BK392 HB hHeld ⊢
    refine pure_ (i := 1) (N := some 2) (v := ?_) (a' := ?_) #[false, true, false] rfl rfl (by kernel_rfl) (fun _ _ _ h => h) (Or.inl ⟨by rfl, ?_⟩) ?_ ?_
    rotate_left
    · intro w'
      go_simp
      with_reducible rfl
    rotate_left
    · simp only [Act.put, List.setIfInBounds_toArray, List.set_cons_zero, List.set_cons_succ, i64_w, i32_w]
      rfl
    refine take_ (i := 0) (N := some 22) (v := ?_) (a' := ?_) #[true, true, false] rfl rfl (by kernel_rfl) (fun _ _ _ h => h) (Or.inl ⟨by rfl, ?_⟩) hHeld ?_ ?_
    rotate_left
    · rintro w' ⟨s0, s1⟩
      go_simp
      with_reducible rfl
    rotate_left
    · simp only [Act.put, List.setIfInBounds_toArray, List.set_cons_zero, List.set_cons_succ, i64_w, i32_w]
      rfl
    refine one_ (i := 2) (N := none) #[true, true, true] rfl rfl (by kernel_rfl) (by decide) (fun K hK => ?_)
    have hs15 : w14.cell? ⟨gb389, 0, none⟩ = some (.int .i64 0) := (blk_cell BK389.out 0).trans rfl
    have hfs15 := blk_frozen BK389.out 0
    have hns15_0 := NB388_389.out
    have hns15_2 := NB392_389.out
    have hms15_0 := NB389_388.out
    have hms15_2 := NB389_392.out
    have hs16 : w14.cell? ⟨gb389, 1, none⟩ = some (.int .i64 0) := (blk_cell BK389.out 1).trans rfl
    have hfs16 := blk_frozen BK389.out 1
    have hns16_0 := NB388_389.out
    have hns16_2 := NB392_389.out
    have hms16_0 := NB389_388.out
    have hms16_2 := NB389_392.out
    refine skip_ (w1 := ?_) (by rfl) rfl ?_ ?_
    rotate_left
    · go_simp
      rfl
    refine hK.out _ _ ⟨((cell_far (p := ⟨gb389, _, none⟩) NB392_389.out _).trans (((cell_far (p := ⟨gb389, _, none⟩) NB392_389.out _).trans (hHeld.1)))), ((cell_far (p := ⟨gb389, _, none⟩) NB392_389.out _).trans (((cell_far (p := ⟨gb389, _, none⟩) NB392_389.out _).trans (hHeld.2))))⟩ (fun hHeld => ?_)
    clear hK K
    refine done_ (by kernel_rfl) ?_
    try go_wp2
    refine bodyPost_ret (results_tc rfl _ _ gb389 26 #[.int .i64 t390, .int .i64 t391] (0, 0) _ rfl (by (with_reducible repeat (first | refine bN ?_ _ | refine bD ?_ | refine bA ?_ _)); refine blk_put (cs := #[.int .i64 t390, .int .i64 0]) ?_ 1 _ rfl; (with_reducible repeat (first | refine bN ?_ _ | refine bD ?_ | refine bA ?_ _)); refine blk_put (cs := #[.int .i64 0, .int .i64 0]) ?_ 0 _ rfl; (with_reducible repeat (first | refine bN ?_ _ | refine bD ?_ | refine bA ?_ _)); exact BK389.out) Try.underlying26 rfl (by kernel_rfl)) rfl ?_
    exact ⟨_, by first | rfl | (simp [errW_none, errW_some] <;> rfl) | (simp [*, errW_none, errW_some] <;> rfl), by first | exact Kd.R_nil _ _ _ _ _ | exact Kd.N_nil _ _ _ _ _ | exact Kd.V_nil _ _ _ _ _ | exact Kd.Q_nil _ _ _ _ _ | exact Kd.S_nil _ _ _ _ _, by repeat (first | (with_reducible first | exact HB.out | apply lA | apply lN | apply lD | refine lS ?_ GE388.out | refine lS ?_ GE389.out | refine lS ?_ GE392.out) | exact HB.out)⟩
  rw [if_neg c3] at H
  have c3b0 : (!(t390 == 0) || (!(t391 == 0))) = false := by simpa using c3
  clear c3
  by_cases c17 : 0 ≤ (l0.length : Int)
  rotate_left
  · rw [if_neg c17] at H
    exact absurd H (by simp)

  rw [if_pos c17] at H
  have c17b0 := eq_true c17
  have c17b1 : decide (0 ≤ (l0.length : Int)) = true := decide_eq_true c17
  clear c17
  by_cases c18 : ((l0.length : Int) : Int).toNat ≤ 35184372088832
  rotate_left
  · rw [if_neg c18] at H
    exact absurd H (by simp)
  rw [if_pos c18] at H
  have c18b0 := eq_true c18
  have c18b1 : decide (((l0.length : Int) : Int).toNat ≤ 35184372088832) = true := decide_eq_true c18
  clear c18
  obtain ⟨y393, hy393⟩ : ∃ y_ : List Int, y_ = (List.replicate ((l0.length : Int) : Int).toNat 0) := ⟨_, rfl⟩
  replace H : (history_Order.l0 k y393 l0 (l0.length : Int) 0 l0) = some (r1, r2, r3) := by first | (rw [hy393]; with_reducible exact H) | (have H2_ := (Option.bind_some _ _).symm.trans H; rw [hy393]; with_reducible exact H2_) | (have H2_ := (Option.bind_some _ _).symm.trans H; with_reducible exact H2_) | with_reducible exact H | (rw [hy393]; exact H) | exact H
  have Ny393 := aZ hy393
  clear hy393
  have H' := aZ H
  clear H
  go_enter Try.func27, Try.ntmps27
  go_wp2_with (first | ((with_reducible refine gate_dst (N := 1) rfl ?_); refine box_event ?hg (N := 1) ?hd (cs := #[.slice A0 l0.length c0]) (t := 22) ?hr ?_; (case hd => rfl); (case hg => rfl); (case hr => first | (go_simp; done) | (go_simp; rfl)); intro gb388 hg w19 hbox hb; have n0_ := aZ (lT (by repeat (first | (with_reducible first | exact HB.out | apply lA | apply lN | apply lD) | exact HB.out)) hb); have n1_ := aZ (hbox); have n2_ := aZ ((by rw [hg]; exact (lZ (by repeat (first | (with_reducible first | exact HB.out | apply lA | apply lN | apply lD) | exact HB.out))) : w.heap.size ≤ gb388)); have n3_ := aZ ((by rw [hg]; exact (lZ (by repeat (first | (with_reducible first | exact HB.out | apply lA | apply lN | apply lD) | exact HB.out))) : w.heap.size ≤ gb388)); clear HB; have HB := n0_; have BK388 := n1_; have GW388 := n2_; have GE388 := n3_; clear n0_ n1_ n2_ n3_; clear hb hbox hg) | ((with_reducible refine gate_dst (N := 3) rfl ?_); refine box_event ?hg (N := 3) ?hd (cs := #[.int .i64 0, .int .i64 0]) (t := 26) ?hr ?_; (case hd => rfl); (case hg => rfl); (case hr => first | (go_simp; done) | (go_simp; rfl)); intro gb389 hg w20 hbox hb; have n0_ := aZ (blk_below (g := gb388) (o := .cells #[.slice A0 l0.length c0] 22 (0, 0)) (by (with_reducible repeat (first | refine bN ?_ _ | refine bD ?_ | refine bA ?_ _)); exact BK388.out) hb); have n1_ := aZ (lT (by repeat (first | (with_reducible first | exact HB.out | apply lA | apply lN | apply lD | refine lS ?_ GE388.out) | exact HB.out)) hb); have n2_ := aZ (hbox); have n3_ := aZ ((by rw [hg]; exact (lZ (by repeat (first | (with_reducible first | exact HB.out | apply lA | apply lN | apply lD | refine lS ?_ GE388.out) | exact HB.out))) : w.heap.size ≤ gb389)); have n4_ := aZ ((by rw [hg]; exact (lZ (by repeat (first | (with_reducible first | exact HB.out | apply lA | apply lN | apply lD | refine lS ?_ GE388.out) | exact HB.out))) : w.heap.size ≤ gb389)); have n5_ := aZ ((by rw [hg]; exact Nat.ne_of_lt (blk_lt (g := gb388) (o := .cells #[.slice A0 l0.length c0] 22 (0, 0)) (by (with_reducible repeat (first | refine bN ?_ _ | refine bD ?_ | refine bA ?_ _)); exact BK388.out)) : gb388 ≠ gb389)); have n6_ := aZ ((by rw [hg]; exact Nat.ne_of_gt (blk_lt (g := gb388) (o := .cells #[.slice A0 l0.length c0] 22 (0, 0)) (by (with_reducible repeat (first | refine bN ?_ _ | refine bD ?_ | refine bA ?_ _)); exact BK388.out)) : gb389 ≠ gb388)); clear BK388; clear HB; have BK388 := n0_; have HB := n1_; have BK389 := n2_; have GW389 := n3_; have GE389 := n4_; have NB388_389 := n5_; have NB389_388 := n6_; clear n0_ n1_ n2_ n3_ n4_ n5_ n6_; clear hb hbox hg; have hnb21 := NB388_389.out; have hnc21 := NB389_388.out; have hcz22_0 : w20.cell? ⟨gb388, 0, none⟩ = some (.slice A0 l0.length c0) := (blk_cell BK388.out 0).trans rfl; have hfz22_0 := blk_frozen BK388.out 0) | ((with_reducible refine gate_callee (f := 25) rfl ?_); refine goesL_ (some 18) rfl rfl Try.func25 (by kernel_rfl) rfl #[.slice A0 l0.length c0] rfl (by (try simp only [List.map_toArray, List.map_cons, List.map_nil]); first | done | rfl | (simp only [List.length_drop, List.length_take]; rfl)) ?_; (with_reducible refine (history_Validate.calls k _ _ l0 t390 t391 _ ?side1 ?side2 A2.out).mono ?_); (case side1 => repeat (first | exact (Kd.C_below HR0.out HB.out) | (with_reducible refine Kd.C_alloc ?_ _) | (with_reducible refine Kd.C_drewN ?_ _) | (with_reducible refine Kd.C_drew ?_))); (case side2 => exact HC0.out); rintro e w23 ⟨rfl, hb⟩; refine ⟨_, rfl, ?_⟩; have n0_ := aZ (blk_below (g := gb388) (o := .cells #[.slice A0 l0.length c0] 22 (0, 0)) (by (with_reducible repeat (first | refine bN ?_ _ | refine bD ?_ | refine bA ?_ _)); exact BK388.out) hb); have n1_ := aZ (blk_below (g := gb389) (o := .cells #[.int .i64 0, .int .i64 0] 26 (0, 0)) (by (with_reducible repeat (first | refine bN ?_ _ | refine bD ?_ | refine bA ?_ _)); exact BK389.out) hb); have n2_ := aZ (lT (by repeat (first | (with_reducible first | exact HB.out | apply lA | apply lN | apply lD | refine lS ?_ GE388.out | refine lS ?_ GE389.out) | exact HB.out)) hb); clear BK388; clear BK389; clear HB; have BK388 := n0_; have BK389 := n1_; have HB := n2_; clear n0_ n1_ n2_; (try clear hb); (try clear hb2); (try clear hk); (try clear hi)) | ((with_reducible refine gate_dst (N := 4) rfl ?_); refine box_event ?hg (N := 4) ?hd (cs := #[.int .i64 0, .int .i64 0]) (t := 26) ?hr ?_; (case hd => rfl); (case hg => rfl); (case hr => first | (go_simp; done) | (go_simp; rfl)); intro gb392 hg w24 hbox hb; have n0_ := aZ (blk_below (g := gb388) (o := .cells #[.slice A0 l0.length c0] 22 (0, 0)) (by (with_reducible repeat (first | refine bN ?_ _ | refine bD ?_ | refine bA ?_ _)); exact BK388.out) hb); have n1_ := aZ (blk_below (g := gb389) (o := .cells #[.int .i64 0, .int .i64 0] 26 (0, 0)) (by (with_reducible repeat (first | refine bN ?_ _ | refine bD ?_ | refine bA ?_ _)); exact BK389.out) hb); have n2_ := aZ (lT (by repeat (first | (with_reducible first | exact HB.out | apply lA | apply lN | apply lD | refine lS ?_ GE388.out | refine lS ?_ GE389.out) | exact HB.out)) hb); have n3_ := aZ (hbox); have n4_ := aZ ((by rw [hg]; exact (lZ (by repeat (first | (with_reducible first | exact HB.out | apply lA | apply lN | apply lD | refine lS ?_ GE388.out | refine lS ?_ GE389.out) | exact HB.out))) : w.heap.size ≤ gb392)); have n5_ := aZ ((by rw [hg]; exact (lZ (by repeat (first | (with_reducible first | exact HB.out | apply lA | apply lN | apply lD | refine lS ?_ GE388.out | refine lS ?_ GE389.out) | exact HB.out))) : w.heap.size ≤ gb392)); have n6_ := aZ ((by rw [hg]; exact Nat.ne_of_lt (blk_lt (g := gb388) (o := .cells #[.slice A0 l0.length c0] 22 (0, 0)) (by (with_reducible repeat (first | refine bN ?_ _ | refine bD ?_ | refine bA ?_ _)); exact BK388.out)) : gb388 ≠ gb392)); have n7_ := aZ ((by rw [hg]; exact Nat.ne_of_gt (blk_lt (g := gb388) (o := .cells #[.slice A0 l0.length c0] 22 (0, 0)) (by (with_reducible repeat (first | refine bN ?_ _ | refine bD ?_ | refine bA ?_ _)); exact BK388.out)) : gb392 ≠ gb388)); have n8_ := aZ ((by rw [hg]; exact Nat.ne_of_lt (blk_lt (g := gb389) (o := .cells #[.int .i64 0, .int .i64 0] 26 (0, 0)) (by (with_reducible repeat (first | refine bN ?_ _ | refine bD ?_ | refine bA ?_ _)); exact BK389.out)) : gb389 ≠ gb392)); have n9_ := aZ ((by rw [hg]; exact Nat.ne_of_gt (blk_lt (g := gb389) (o := .cells #[.int .i64 0, .int .i64 0] 26 (0, 0)) (by (with_reducible repeat (first | refine bN ?_ _ | refine bD ?_ | refine bA ?_ _)); exact BK389.out)) : gb392 ≠ gb389)); clear BK388; clear BK389; clear HB; have BK388 := n0_; have BK389 := n1_; have HB := n2_; have BK392 := n3_; have GW392 := n4_; have GE392 := n5_; have NB388_392 := n6_; have NB392_388 := n7_; have NB389_392 := n8_; have NB392_389 := n9_; clear n0_ n1_ n2_ n3_ n4_ n5_ n6_ n7_ n8_ n9_; clear hb hbox hg; have hnb25 := NB392_388.out; have hnc25 := NB388_392.out; have hnb26 := NB392_389.out; have hnc26 := NB389_392.out; have hcz27_0 : w24.cell? ⟨gb392, 0, none⟩ = some (.int .i64 0) := (blk_cell BK392.out 0).trans rfl; have hcz27_1 : w24.cell? ⟨gb392, 1, none⟩ = some (.int .i64 0) := (blk_cell BK392.out 1).trans rfl; have hfz27_0 := blk_frozen BK392.out 0; have hfz27_1 := blk_frozen BK392.out 1; have hcz28_0 : w24.cell? ⟨gb388, 0, none⟩ = some (.slice A0 l0.length c0) := (blk_cell BK388.out 0).trans rfl; have hfz28_0 := blk_frozen BK388.out 0) | ((with_reducible refine gate_dst (N := 25) rfl ?_); refine Kd.R_make (Kd.int .i64) _ 3 rfl (N := 25) rfl 23 _ _ rfl (l0.length : Int) rfl rfl Try.underlying23 (.int .i64 0) 8 info3 rfl (by decide) (by omega) 0 (ok := fun _ => True) (okp := fun _ => True) rfl (fun _ hk => hk) trivial (of_decide_eq_true (by first | (with_reducible assumption) | assumption)) (Nat.le_trans (Nat.mul_le_mul_right _ (of_decide_eq_true (by first | (with_reducible assumption) | assumption) : (l0.length : Int).toNat ≤ 35184372088832)) (by omega)) (Below.refl _ _) (Nat.le_refl _) ?_; intro v394 w29 ho30 hb hg_ hnew_; clear hg_ hnew_; (first | rw [← Ny393.out] at ho30 | (simp only [Int.reduceToNat] at ho30; rw [← Ny393.out] at ho30)); have n0_ := aZ (Kd.R_lower ho30 (lZ (by repeat (first | (with_reducible first | exact HB.out | apply lA | apply lN | apply lD | refine lS ?_ GE388.out | refine lS ?_ GE389.out | refine lS ?_ GE392.out) | exact HB.out)))); have n1_ := aZ (blk_below (g := gb388) (o := .cells #[.slice A0 l0.length c0] 22 (0, 0)) (by (with_reducible repeat (first | refine bN ?_ _ | refine bD ?_ | refine bA ?_ _)); refine blk_far ?_ NB388_392.out _; (with_reducible repeat (first | refine bN ?_ _ | refine bD ?_ | refine bA ?_ _)); refine blk_far ?_ NB388_392.out _; (with_reducible repeat (first | refine bN ?_ _ | refine bD ?_ | refine bA ?_ _)); exact BK388.out) hb); have n2_ := aZ (blk_below (g := gb389) (o := .cells #[.int .i64 0, .int .i64 0] 26 (0, 0)) (by (with_reducible repeat (first | refine bN ?_ _ | refine bD ?_ | refine bA ?_ _)); refine blk_far ?_ NB389_392.out _; (with_reducible repeat (first | refine bN ?_ _ | refine bD ?_ | refine bA ?_ _)); refine blk_far ?_ NB389_392.out _; (with_reducible repeat (first | refine bN ?_ _ | refine bD ?_ | refine bA ?_ _)); exact BK389.out) hb); have n3_ := aZ (blk_below (g := gb392) (o := .cells #[.int .i64 t390, .int .i64 t391] 26 (0, 0)) (by (with_reducible repeat (first | refine bN ?_ _ | refine bD ?_ | refine bA ?_ _)); refine blk_put (cs := #[.int .i64 t390, .int .i64 0]) ?_ 1 _ rfl; (with_reducible repeat (first | refine bN ?_ _ | refine bD ?_ | refine bA ?_ _)); refine blk_put (cs := #[.int .i64 0, .int .i64 0]) ?_ 0 _ rfl; (with_reducible repeat (first | refine bN ?_ _ | refine bD ?_ | refine bA ?_ _)); exact BK392.out) hb); have n4_ := aZ (lT (by repeat (first | (with_reducible first | exact HB.out | apply lA | apply lN | apply lD | refine lS ?_ GE388.out | refine lS ?_ GE389.out | refine lS ?_ GE392.out) | exact HB.out)) hb); clear BK388; clear BK389; clear BK392; clear HB; have HO395 := n0_; have BK388 := n1_; have BK389 := n2_; have BK392 := n3_; have HB := n4_; clear n0_ n1_ n2_ n3_ n4_; clear hb ho30; have hcz31_0 : w29.cell? ⟨gb388, 0, none⟩ = some (.slice A0 l0.length c0) := (blk_cell BK388.out 0).trans rfl; have hfz31_0 := blk_frozen BK388.out 0))
  go_loopg [28] k (fun kq v28 w' => ∃ (x5_1 : List Int) (x28_1 : Int), v28 = .int .i64 x28_1 ∧ Aside0 (history_Order.l0 kq x5_1 l0 (l0.length : Int) x28_1 l0 = some (r1, r2, r3)) ∧ Aside0 (kq ≤ k) ∧ Aside0 (Kd.R (Kd.int .i64) 3 w' w.heap.size (fun _ => True) v394 x5_1) ∧ Aside0 (w'.heap[gb388]? = some (.cells #[(.slice A0 l0.length c0)] 22 (0, 0))) ∧ Aside0 (w'.heap[gb389]? = some (.cells #[.int .i64 0, .int .i64 0] 26 (0, 0))) ∧ Aside0 (w'.heap[gb392]? = some (.cells #[.int .i64 t390, .int .i64 t391] 26 (0, 0))) ∧ Aside0 (Below w.heap.size w w'))
  case atStart => exact ⟨(y393), (0), (by first | rfl | (simp; done) | (simp [*]; done) | (simp [i64_w]; done)), H', ⟨Nat.le_refl _⟩, ⟨by (with_reducible repeat (first | apply Kd.rA | apply Kd.rN | apply Kd.rD)); exact HO395.out⟩, ⟨by (with_reducible repeat (first | refine bN ?_ _ | refine bD ?_ | refine bA ?_ _)); exact BK388.out⟩, ⟨by (with_reducible repeat (first | refine bN ?_ _ | refine bD ?_ | refine bA ?_ _)); exact BK389.out⟩, ⟨by (with_reducible repeat (first | refine bN ?_ _ | refine bD ?_ | refine bA ?_ _)); exact BK392.out⟩, ⟨by repeat (first | (with_reducible first | exact HB.out | apply lA | apply lN | apply lD | refine lS ?_ GE388.out | refine lS ?_ GE389.out | refine lS ?_ GE392.out) | exact HB.out)⟩⟩
  case round =>
   clear H'
   (try clear c3); (try clear c3b0); (try clear c17); (try clear c17b0); (try clear c17b1); (try clear c18); (try clear c18b0); (try clear c18b1); (try clear hcz22_0); (try clear hcz27_0); (try clear hcz27_1); (try clear hcz28_0); (try clear hcz31_0); (try clear hfz22_0); (try clear hfz27_0); (try clear hfz27_1); (try clear hfz28_0); (try clear hfz31_0)
   obtain ⟨x5_1, x28_1, rfl, HA, HK1, HO_5, BK388, BK389, BK392, HB⟩ := hrel
   cases gk with
   | zero => exact absurd HA.out (by simp [history_Order.l0])
   | succ k1 =>
    have H := HA.out
    clear HA
    simp only [history_Order.l0] at H
    by_cases c32 : x28_1 < (l0.length : Int)
    · rw [if_pos c32] at H
      have c32b0 : decide (x28_1 < (l0.length : Int)) = true := decide_eq_true c32
      clear c32
      by_cases c33 : 0 ≤ x28_1
      rotate_left
      · rw [if_neg c33] at H
        exact absurd H (by simp)
      rw [if_pos c33] at H
      have c33b0 : decide (0 ≤ x28_1) = true := decide_eq_true c33
      clear c33
      by_cases c34 : x28_1 < (l0.length : Int)
      rotate_left
      · rw [if_neg c34] at H
        exact absurd H (by simp)
      rw [if_pos c34] at H
      have c34b0 : decide (x28_1 < (l0.length : Int)) = true := decide_eq_true c34
      clear c34
      have H' := aZ H
      clear H
      have p396 : 0 ≤ (x28_1 : Int) := of_decide_eq_true (by first | (with_reducible assumption) | assumption)
      have q396 : x28_1 < (l0.length : Int) := of_decide_eq_true (by first | (with_reducible assumption) | assumption)
      obtain ⟨ad396, A396_0, c396_0, e396, hx396_0, hx396_1, hx396_2, hx396_3, hx396_4, hl396_0, hi396_0⟩ := at_T49 HR0.out x28_1 p396 q396
      cases e396
      replace hx396_0 := (HB.out.cell (World.block_lt_of_cell? w _ hx396_0)).trans hx396_0
      replace hx396_1 := (HB.out.cell (World.block_lt_of_cell? w _ hx396_1)).trans hx396_1
      replace hx396_2 := (HB.out.cell (World.block_lt_of_cell? w _ hx396_2)).trans hx396_2
      replace hx396_3 := (HB.out.cell (World.block_lt_of_cell? w _ hx396_3)).trans hx396_3
      replace hx396_4 := (HB.out.cell (World.block_lt_of_cell? w _ hx396_4)).trans hx396_4
      have HR396_0 := aZ hi396_0
      have HC396_0 := aZ hl396_0
      clear hi396_0 hl396_0
      replace p396 := eq_true p396
      replace q396 := eq_true q396
      go_wp2_with (first | ((with_reducible refine gate_dst (N := 7) rfl ?_); refine box_event ?hg (N := 7) ?hd (cs := #[.slice none 0 0, .int .i64 0, .int .i64 0, .int .i64 0, .string (⟨#[]⟩ : ByteArray)]) (t := 49) ?hr ?_; (case hd => rfl); (case hg => rfl); (case hr => first | (go_simp; done) | (go_simp; rfl)); intro gb397 hg w35 hbox hb; have n0_ := aZ (Kd.R_below (by (with_reducible repeat (first | apply Kd.rA | apply Kd.rN | apply Kd.rD)); exact HO_5.out) hb); have n1_ := aZ (blk_below (g := gb388) (o := .cells #[.slice (some ad396) l0.length c0] 22 (0, 0)) (by (with_reducible repeat (first | refine bN ?_ _ | refine bD ?_ | refine bA ?_ _)); exact BK388.out) hb); have n2_ := aZ (blk_below (g := gb389) (o := .cells #[.int .i64 0, .int .i64 0] 26 (0, 0)) (by (with_reducible repeat (first | refine bN ?_ _ | refine bD ?_ | refine bA ?_ _)); exact BK389.out) hb); have n3_ := aZ (blk_below (g := gb392) (o := .cells #[.int .i64 t390, .int .i64 t391] 26 (0, 0)) (by (with_reducible repeat (first | refine bN ?_ _ | refine bD ?_ | refine bA ?_ _)); exact BK392.out) hb); have n4_ := aZ (lT (by repeat (first | (with_reducible first | exact HB.out | apply lA | apply lN | apply lD | refine lS ?_ GE388.out | refine lS ?_ GE389.out | refine lS ?_ GE392.out) | exact HB.out)) hb); have n5_ := aZ (hbox); have n6_ := aZ ((by rw [hg]; exact (lZ (by repeat (first | (with_reducible first | exact HB.out | apply lA | apply lN | apply lD | refine lS ?_ GE388.out | refine lS ?_ GE389.out | refine lS ?_ GE392.out) | exact HB.out))) : w.heap.size ≤ gb397)); have n7_ := aZ ((by rw [hg]; exact (lZ (by repeat (first | (with_reducible first | exact HB.out | apply lA | apply lN | apply lD | refine lS ?_ GE388.out | refine lS ?_ GE389.out | refine lS ?_ GE392.out) | exact HB.out))) : w.heap.size ≤ gb397)); have n8_ := aZ ((by rw [hg]; exact Nat.ne_of_lt (blk_lt (g := gb388) (o := .cells #[.slice (some ad396) l0.length c0] 22 (0, 0)) (by (with_reducible repeat (first | refine bN ?_ _ | refine bD ?_ | refine bA ?_ _)); exact BK388.out)) : gb388 ≠ gb397)); have n9_ := aZ ((by rw [hg]; exact Nat.ne_of_gt (blk_lt (g := gb388) (o := .cells #[.slice (some ad396) l0.length c0] 22 (0, 0)) (by (with_reducible repeat (first | refine bN ?_ _ | refine bD ?_ | refine bA ?_ _)); exact BK388.out)) : gb397 ≠ gb388)); have n10_ := aZ ((by rw [hg]; exact Nat.ne_of_lt (blk_lt (g := gb389) (o := .cells #[.int .i64 0, .int .i64 0] 26 (0, 0)) (by (with_reducible repeat (first | refine bN ?_ _ | refine bD ?_ | refine bA ?_ _)); exact BK389.out)) : gb389 ≠ gb397)); have n11_ := aZ ((by rw [hg]; exact Nat.ne_of_gt (blk_lt (g := gb389) (o := .cells #[.int .i64 0, .int .i64 0] 26 (0, 0)) (by (with_reducible repeat (first | refine bN ?_ _ | refine bD ?_ | refine bA ?_ _)); exact BK389.out)) : gb397 ≠ gb389)); have n12_ := aZ ((by rw [hg]; exact Nat.ne_of_lt (blk_lt (g := gb392) (o := .cells #[.int .i64 t390, .int .i64 t391] 26 (0, 0)) (by (with_reducible repeat (first | refine bN ?_ _ | refine bD ?_ | refine bA ?_ _)); exact BK392.out)) : gb392 ≠ gb397)); have n13_ := aZ ((by rw [hg]; exact Nat.ne_of_gt (blk_lt (g := gb392) (o := .cells #[.int .i64 t390, .int .i64 t391] 26 (0, 0)) (by (with_reducible repeat (first | refine bN ?_ _ | refine bD ?_ | refine bA ?_ _)); exact BK392.out)) : gb397 ≠ gb392)); clear HO_5; clear BK388; clear BK389; clear BK392; clear HB; have HO_5 := n0_; have BK388 := n1_; have BK389 := n2_; have BK392 := n3_; have HB := n4_; have BK397 := n5_; have GW397 := n6_; have GE397 := n7_; have NB388_397 := n8_; have NB397_388 := n9_; have NB389_397 := n10_; have NB397_389 := n11_; have NB392_397 := n12_; have NB397_392 := n13_; clear n0_ n1_ n2_ n3_ n4_ n5_ n6_ n7_ n8_ n9_ n10_ n11_ n12_ n13_; clear hb hbox hg; have hnb36 := NB397_388.out; have hnc36 := NB388_397.out; have hnb37 := NB397_389.out; have hnc37 := NB389_397.out; have hnb38 := NB397_392.out; have hnc38 := NB392_397.out; have hcz39_0 : w35.cell? ⟨gb397, 0, none⟩ = some (.slice none 0 0) := (blk_cell BK397.out 0).trans rfl; have hcz39_1 : w35.cell? ⟨gb397, 1, none⟩ = some (.int .i64 0) := (blk_cell BK397.out 1).trans rfl; have hcz39_2 : w35.cell? ⟨gb397, 2, none⟩ = some (.int .i64 0) := (blk_cell BK397.out 2).trans rfl; have hcz39_3 : w35.cell? ⟨gb397, 3, none⟩ = some (.int .i64 0) := (blk_cell BK397.out 3).trans rfl; have hcz39_4 : w35.cell? ⟨gb397, 4, none⟩ = some (.string (⟨#[]⟩ : ByteArray)) := (blk_cell BK397.out 4).trans rfl; have hfz39_0 := blk_frozen BK397.out 0; have hfz39_1 := blk_frozen BK397.out 1; have hfz39_2 := blk_frozen BK397.out 2; have hfz39_3 := blk_frozen BK397.out 3; have hfz39_4 := blk_frozen BK397.out 4))
      go_loopg [35] k1 (fun kq v35 w' => ∃ (x5_2 : List Int) (x35_2 : Int), v35 = .int .i64 x35_2 ∧ Aside0 (history_Order.l1 kq x5_2 l0 (l0.length : Int) x28_1 ((rd_T49 l0 x28_1).f0) (((rd_T49 l0 x28_1).f0).length : Int) x35_2 l0 = some (r1, r2, r3)) ∧ Aside0 (kq ≤ k1) ∧ Aside0 (Kd.R (Kd.int .i64) 3 w' w.heap.size (fun _ => True) v394 x5_2) ∧ Aside0 (w'.heap[gb388]? = some (.cells #[(.slice (some ad396) l0.length c0)] 22 (0, 0))) ∧ Aside0 (w'.heap[gb389]? = some (.cells #[.int .i64 0, .int .i64 0] 26 (0, 0))) ∧ Aside0 (w'.heap[gb392]? = some (.cells #[.int .i64 t390, .int .i64 t391] 26 (0, 0))) ∧ Aside0 (w'.heap[gb397]? = some (.cells #[(.slice A396_0 ((rd_T49 l0 x28_1).f0).length c396_0), .int .i64 ((rd_T49 l0 x28_1).f1), .int .i64 ((rd_T49 l0 x28_1).f2), .int .i64 ((rd_T49 l0 x28_1).f3), .string ((rd_T49 l0 x28_1).f4)] 49 (0, 0))) ∧ Aside0 (Below w.heap.size w w'))
      case atStart => exact ⟨(x5_1), (0), (by first | rfl | (simp; done) | (simp [*]; done) | (simp [i64_w]; done)), H', ⟨Nat.le_refl _⟩, ⟨by (with_reducible repeat (first | apply Kd.rA | apply Kd.rN | apply Kd.rD)); exact Kd.R_mono (Kd.R_far (p := ⟨gb397, 4, none⟩) (Kd.R_far (p := ⟨gb397, 3, none⟩) (Kd.R_far (p := ⟨gb397, 2, none⟩) (Kd.R_far (p := ⟨gb397, 1, none⟩) (Kd.R_far (p := ⟨gb397, 0, none⟩) (Kd.R_types HO_5.out BK397.out (by decide)) (fun _ hk => hk.2) (.slice A396_0 ((rd_T49 l0 x28_1).f0).length c396_0)) (fun _ hk => hk.2) (.int .i64 ((rd_T49 l0 x28_1).f1))) (fun _ hk => hk.2) (.int .i64 ((rd_T49 l0 x28_1).f2))) (fun _ hk => hk.2) (.int .i64 ((rd_T49 l0 x28_1).f3))) (fun _ hk => hk.2) (.string ((rd_T49 l0 x28_1).f4))) (fun _ hk => trivial)⟩, ⟨by (with_reducible repeat (first | refine bN ?_ _ | refine bD ?_ | refine bA ?_ _)); refine blk_far ?_ NB388_397.out _; (with_reducible repeat (first | refine bN ?_ _ | refine bD ?_ | refine bA ?_ _)); refine blk_far ?_ NB388_397.out _; (with_reducible repeat (first | refine bN ?_ _ | refine bD ?_ | refine bA ?_ _)); refine blk_far ?_ NB388_397.out _; (with_reducible repeat (first | refine bN ?_ _ | refine bD ?_ | refine bA ?_ _)); refine blk_far ?_ NB388_397.out _; (with_reducible repeat (first | refine bN ?_ _ | refine bD ?_ | refine bA ?_ _)); refine blk_far ?_ NB388_397.out _; (with_reducible repeat (first | refine bN ?_ _ | refine bD ?_ | refine bA ?_ _)); exact BK388.out⟩, ⟨by (with_reducible repeat (first | refine bN ?_ _ | refine bD ?_ | refine bA ?_ _)); refine blk_far ?_ NB389_397.out _; (with_reducible repeat (first | refine bN ?_ _ | refine bD ?_ | refine bA ?_ _)); refine blk_far ?_ NB389_397.out _; (with_reducible repeat (first | refine bN ?_ _ | refine bD ?_ | refine bA ?_ _)); refine blk_far ?_ NB389_397.out _; (with_reducible repeat (first | refine bN ?_ _ | refine bD ?_ | refine bA ?_ _)); refine blk_far ?_ NB389_397.out _; (with_reducible repeat (first | refine bN ?_ _ | refine bD ?_ | refine bA ?_ _)); refine blk_far ?_ NB389_397.out _; (with_reducible repeat (first | refine bN ?_ _ | refine bD ?_ | refine bA ?_ _)); exact BK389.out⟩, ⟨by (with_reducible repeat (first | refine bN ?_ _ | refine bD ?_ | refine bA ?_ _)); refine blk_far ?_ NB392_397.out _; (with_reducible repeat (first | refine bN ?_ _ | refine bD ?_ | refine bA ?_ _)); refine blk_far ?_ NB392_397.out _; (with_reducible repeat (first | refine bN ?_ _ | refine bD ?_ | refine bA ?_ _)); refine blk_far ?_ NB392_397.out _; (with_reducible repeat (first | refine bN ?_ _ | refine bD ?_ | refine bA ?_ _)); refine blk_far ?_ NB392_397.out _; (with_reducible repeat (first | refine bN ?_ _ | refine bD ?_ | refine bA ?_ _)); refine blk_far ?_ NB392_397.out _; (with_reducible repeat (first | refine bN ?_ _ | refine bD ?_ | refine bA ?_ _)); exact BK392.out⟩, ⟨by (with_reducible repeat (first | refine bN ?_ _ | refine bD ?_ | refine bA ?_ _)); refine blk_put (cs := #[.slice A396_0 ((rd_T49 l0 x28_1).f0).length c396_0, .int .i64 ((rd_T49 l0 x28_1).f1), .int .i64 ((rd_T49 l0 x28_1).f2), .int .i64 ((rd_T49 l0 x28_1).f3), .string (⟨#[]⟩ : ByteArray)]) ?_ 4 _ rfl; (with_reducible repeat (first | refine bN ?_ _ | refine bD ?_ | refine bA ?_ _)); refine blk_put (cs := #[.slice A396_0 ((rd_T49 l0 x28_1).f0).length c396_0, .int .i64 ((rd_T49 l0 x28_1).f1), .int .i64 ((rd_T49 l0 x28_1).f2), .int .i64 0, .string (⟨#[]⟩ : ByteArray)]) ?_ 3 _ rfl; (with_reducible repeat (first | refine bN ?_ _ | refine bD ?_ | refine bA ?_ _)); refine blk_put (cs := #[.slice A396_0 ((rd_T49 l0 x28_1).f0).length c396_0, .int .i64 ((rd_T49 l0 x28_1).f1), .int .i64 0, .int .i64 0, .string (⟨#[]⟩ : ByteArray)]) ?_ 2 _ rfl; (with_reducible repeat (first | refine bN ?_ _ | refine bD ?_ | refine bA ?_ _)); refine blk_put (cs := #[.slice A396_0 ((rd_T49 l0 x28_1).f0).length c396_0, .int .i64 0, .int .i64 0, .int .i64 0, .string (⟨#[]⟩ : ByteArray)]) ?_ 1 _ rfl; (with_reducible repeat (first | refine bN ?_ _ | refine bD ?_ | refine bA ?_ _)); refine blk_put (cs := #[.slice none 0 0, .int .i64 0, .int .i64 0, .int .i64 0, .string (⟨#[]⟩ : ByteArray)]) ?_ 0 _ rfl; (with_reducible repeat (first | refine bN ?_ _ | refine bD ?_ | refine bA ?_ _)); exact BK397.out⟩, ⟨by repeat (first | (with_reducible first | exact HB.out | apply lA | apply lN | apply lD | refine lS ?_ GE388.out | refine lS ?_ GE389.out | refine lS ?_ GE392.out | refine lS ?_ GE397.out) | exact HB.out)⟩⟩
      case round =>
       clear H'
       (try clear c32); (try clear c32b0); (try clear c33); (try clear c33b0); (try clear c34); (try clear c34b0); (try clear hcz39_0); (try clear hcz39_1); (try clear hcz39_2); (try clear hcz39_3); (try clear hcz39_4); (try clear hfz39_0); (try clear hfz39_1); (try clear hfz39_2); (try clear hfz39_3); (try clear hfz39_4); (try clear hx396_0); (try clear hx396_1); (try clear hx396_2); (try clear hx396_3); (try clear hx396_4); (try clear p396); (try clear q396)
       obtain ⟨x5_2, x35_2, rfl, HA, HK2, HO_5, BK388, BK389, BK392, BK397, HB⟩ := hrel
       cases gk with
       | zero => exact absurd HA.out (by simp [history_Order.l1])
       | succ k2 =>
        have H := HA.out
        clear HA
        simp only [history_Order.l1] at H
        by_cases c40 : x35_2 < (((rd_T49 l0 x28_1).f0).length : Int)
        rotate_left
        · rw [if_neg c40] at H
          have c40b0 : decide (x35_2 < (((rd_T49 l0 x28_1).f0).length : Int)) = false := decide_eq_false c40
          clear c40
          have H' := aZ H
          clear H
          go_wp2
          go_roundg k2
          case measure => have := HK1.out; have := HK2.out; omega
          case rel => exact ⟨(x5_2), (wrap64 (x28_1 + 1)), (by first | rfl | (simp; done) | (simp [*]; done) | (simp [i64_w]; done)), H', ⟨by have := HK1.out; have := HK2.out; omega⟩, ⟨by (with_reducible repeat (first | apply Kd.rA | apply Kd.rN | apply Kd.rD)); exact HO_5.out⟩, ⟨by (with_reducible repeat (first | refine bN ?_ _ | refine bD ?_ | refine bA ?_ _)); exact BK388.out⟩, ⟨by (with_reducible repeat (first | refine bN ?_ _ | refine bD ?_ | refine bA ?_ _)); exact BK389.out⟩, ⟨by (with_reducible repeat (first | refine bN ?_ _ | refine bD ?_ | refine bA ?_ _)); exact BK392.out⟩, ⟨by repeat (first | (with_reducible first | exact HB.out | apply lA | apply lN | apply lD | refine lS ?_ GE388.out | refine lS ?_ GE389.out | refine lS ?_ GE392.out | refine lS ?_ GE397.out) | exact HB.out)⟩⟩
        rw [if_pos c40] at H
        have c40b0 : decide (x35_2 < (((rd_T49 l0 x28_1).f0).length : Int)) = true := decide_eq_true c40
        clear c40
        by_cases c41 : 0 ≤ x35_2
        rotate_left
        · rw [if_neg c41] at H
          exact absurd H (by simp)
        rw [if_pos c41] at H
        have c41b0 : decide (0 ≤ x35_2) = true := decide_eq_true c41
        clear c41
        by_cases c42 : x35_2 < (((rd_T49 l0 x28_1).f0).length : Int)
        rotate_left
        · rw [if_neg c42] at H
          exact absurd H (by simp)
        rw [if_pos c42] at H
        have c42b0 : decide (x35_2 < (((rd_T49 l0 x28_1).f0).length : Int)) = true := decide_eq_true c42
        clear c42
        by_cases c43 : 0 ≤ (rd ((rd_T49 l0 x28_1).f0) x35_2)
        rotate_left
        · rw [if_neg c43] at H
          exact absurd H (by simp)
        rw [if_pos c43] at H
        have c43b0 : decide (0 ≤ (rd ((rd_T49 l0 x28_1).f0) x35_2)) = true := decide_eq_true c43
        clear c43
        by_cases c44 : (rd ((rd_T49 l0 x28_1).f0) x35_2) < (x5_2.length : Int)
        rotate_left
        · rw [if_neg c44] at H
          exact absurd H (by simp)
        rw [if_pos c44] at H
        have c44b0 : decide ((rd ((rd_T49 l0 x28_1).f0) x35_2) < (x5_2.length : Int)) = true := decide_eq_true c44
        clear c44
        obtain ⟨y400, hy400⟩ : ∃ y_ : List Int, y_ = (x5_2.set ((rd ((rd_T49 l0 x28_1).f0) x35_2) : Int).toNat (wrap64 ((rd x5_2 (rd ((rd_T49 l0 x28_1).f0) x35_2)) + 1))) := ⟨_, rfl⟩
        replace H : (history_Order.l1 k2 y400 l0 (l0.length : Int) x28_1 ((rd_T49 l0 x28_1).f0) (((rd_T49 l0 x28_1).f0).length : Int) (wrap64 (x35_2 + 1)) l0) = some (r1, r2, r3) := by first | (rw [hy400]; with_reducible exact H) | (have H2_ := (Option.bind_some _ _).symm.trans H; rw [hy400]; with_reducible exact H2_) | (have H2_ := (Option.bind_some _ _).symm.trans H; with_reducible exact H2_) | with_reducible exact H | (rw [hy400]; exact H) | exact H
        have Ny400 := aZ hy400
        clear hy400
        have H' := aZ H
        clear H
        have p398 : 0 ≤ (x35_2 : Int) := of_decide_eq_true (by first | (with_reducible assumption) | assumption)
        have q398 : x35_2 < (((rd_T49 l0 x28_1).f0).length : Int) := of_decide_eq_true (by first | (with_reducible assumption) | assumption)
        obtain ⟨ad398, e398, hx398_0⟩ := Kd.at_int HR396_0.out x35_2 p398 q398
        cases e398
        replace hx398_0 := (HB.out.cell (World.block_lt_of_cell? w _ hx398_0)).trans hx398_0
        replace p398 := eq_true p398
        replace q398 := eq_true q398
        obtain ⟨Ao46, co46, eo46⟩ := Kd.R_slice HO_5.out
        subst eo46
        have p399 : 0 ≤ ((rd ((rd_T49 l0 x28_1).f0) x35_2) : Int) := of_decide_eq_true (by first | (with_reducible assumption) | assumption)
        have q399 : (rd ((rd_T49 l0 x28_1).f0) x35_2) < (x5_2.length : Int) := of_decide_eq_true (by first | (with_reducible assumption) | assumption)
        obtain ⟨ad399, e399, hx399_0⟩ := Kd.at_int (Kd.R_reads' HO_5.out).2.2 (rd ((rd_T49 l0 x28_1).f0) x35_2) p399 q399
        cases e399
        replace p399 := eq_true p399
        replace q399 := eq_true q399
        have p45 : 0 ≤ ((rd ((rd_T49 l0 x28_1).f0) x35_2) : Int) := of_decide_eq_true (by first | (with_reducible assumption) | assumption)
        have q45 : ((rd ((rd_T49 l0 x28_1).f0) x35_2) : Int) < ((x5_2.length : Int) : Int) := of_decide_eq_true (by first | (with_reducible assumption) | assumption)
        obtain ⟨go45, co45, eo45, gb45, gl45, cl45, HG45⟩ := Kd.R_form HO_5.out (by omega)
        (first | cases eo45 | (injection eo45 with ea_ en_ ec_; (first | subst ea_ | (injection ea_ with ea_; subst ea_)); subst ec_; clear en_))
        have GB45 := aZ gb45
        have GG45 := aZ HG45
        clear gb45 gl45 HG45
        (first | simp only [add_plain] at hx399_0 | skip)
        obtain ⟨hx45_0, hf45_0⟩ := Kd.R_celln 0 HO_5.out ((rd ((rd_T49 l0 x28_1).f0) x35_2) : Int) p45 q45
        replace p45 := eq_true p45
        replace q45 := eq_true q45
        have HP47 := Kd.R_putg HO_5.out ((rd ((rd_T49 l0 x28_1).f0) x35_2) : Int) (wrap64 ((rd x5_2 (rd ((rd_T49 l0 x28_1).f0) x35_2)) + 1))
        go_wp2_with (first | ((with_reducible refine gate_store (t := 3) (p := 44) rfl ?_); refine store_event (t := 3) (p := 44) (v := ?vo_w48) (w1 := (wr.setCell ⟨go45, ((rd ((rd_T49 l0 x28_1).f0) x35_2) : Int).toNat, none⟩ (.int .i64 (wrap64 ((rd x5_2 (rd ((rd_T49 l0 x28_1).f0) x35_2)) + 1))))) ?hg ?ho ?hn ?hr ?_; (case ho => rfl); (case hg => rfl); (case hn => rfl); (case hr => first | (go_simp; done) | (go_simp; rfl)); intro w48 hw; have hg : wr.grownBy w48 (some go45) := (by rw [hw]; exact HP47.2); have hp_ : Kd.R (Kd.int .i64) 3 w48 w.heap.size (fun _ => True) (.slice (some ⟨go45, 0, none⟩) x5_2.length co46) y400 := (by rw [hw, Ny400.out]; exact HP47.1); clear HP47; have n0_ := aZ (hp_); have n1_ := aZ (blk_grown (g := gb388) (o := .cells #[.slice (some ad396) l0.length c0] 22 (0, 0)) (by (with_reducible repeat (first | refine bN ?_ _ | refine bD ?_ | refine bA ?_ _)); exact BK388.out) hg (Kd.R_ne HO_5.out BK388.out (by decide))); have n2_ := aZ (blk_grown (g := gb389) (o := .cells #[.int .i64 0, .int .i64 0] 26 (0, 0)) (by (with_reducible repeat (first | refine bN ?_ _ | refine bD ?_ | refine bA ?_ _)); exact BK389.out) hg (Kd.R_ne HO_5.out BK389.out (by decide))); have n3_ := aZ (blk_grown (g := gb392) (o := .cells #[.int .i64 t390, .int .i64 t391] 26 (0, 0)) (by (with_reducible repeat (first | refine bN ?_ _ | refine bD ?_ | refine bA ?_ _)); exact BK392.out) hg (Kd.R_ne HO_5.out BK392.out (by decide))); have n4_ := aZ (blk_grown (g := gb397) (o := .cells #[.slice (some ad398) ((rd_T49 l0 x28_1).f0).length c396_0, .int .i64 ((rd_T49 l0 x28_1).f1), .int .i64 ((rd_T49 l0 x28_1).f2), .int .i64 ((rd_T49 l0 x28_1).f3), .string ((rd_T49 l0 x28_1).f4)] 49 (0, 0)) (by (with_reducible repeat (first | refine bN ?_ _ | refine bD ?_ | refine bA ?_ _)); exact BK397.out) hg (Kd.R_ne HO_5.out BK397.out (by decide))); have n5_ := aZ ((by rw [hw]; exact lS (HB.out) GB45.out : Below w.heap.size w w48)); clear HO_5; clear BK388; clear BK389; clear BK392; clear BK397; clear HB; have HO_5 := n0_; have BK388 := n1_; have BK389 := n2_; have BK392 := n3_; have BK397 := n4_; have HB := n5_; clear n0_ n1_ n2_ n3_ n4_ n5_; clear hg hw hp_))
        go_roundg k2
        case measure => have := HK1.out; have := HK2.out; omega
        case rel => exact ⟨(y400), (wrap64 (x35_2 + 1)), (by first | rfl | (simp; done) | (simp [*]; done) | (simp [i64_w]; done)), H', ⟨by have := HK1.out; have := HK2.out; omega⟩, ⟨by (with_reducible repeat (first | apply Kd.rA | apply Kd.rN | apply Kd.rD)); exact HO_5.out⟩, ⟨by (with_reducible repeat (first | refine bN ?_ _ | refine bD ?_ | refine bA ?_ _)); exact BK388.out⟩, ⟨by (with_reducible repeat (first | refine bN ?_ _ | refine bD ?_ | refine bA ?_ _)); exact BK389.out⟩, ⟨by (with_reducible repeat (first | refine bN ?_ _ | refine bD ?_ | refine bA ?_ _)); exact BK392.out⟩, ⟨by (with_reducible repeat (first | refine bN ?_ _ | refine bD ?_ | refine bA ?_ _)); exact BK397.out⟩, ⟨by repeat (first | (with_reducible first | exact HB.out | apply lA | apply lN | apply lD | refine lS ?_ GE388.out | refine lS ?_ GE389.out | refine lS ?_ GE392.out | refine lS ?_ GE397.out) | exact HB.out)⟩⟩
    rw [if_neg c32] at H
    have c32b0 : decide (x28_1 < (l0.length : Int)) = false := decide_eq_false c32
    clear c32
    have H' := aZ H
    clear H
    obtain ⟨Ao49, co49, eo49⟩ := Kd.R_slice HO_5.out
    subst eo49
    go_wp2
    go_loopg [10, 49] k1 (fun kq v10 v49 w' => ∃ (x10_2 : List Int) (x49_2 : Int), v49 = .int .i64 x49_2 ∧ Aside0 (history_Order.l2 kq x5_1 x10_2 x5_1 (x5_1.length : Int) x49_2 l0 = some (r1, r2, r3)) ∧ Aside0 (kq ≤ k1) ∧ Aside0 (Kd.R (Kd.int .i64) 3 w' w.heap.size (fun k_ => some k_ ≠ (v10 : Value).ownBlock) (.slice Ao49 x5_1.length co49) x5_1) ∧ Aside0 (Kd.R (Kd.int .i64) 3 w' w.heap.size (fun k_ => some k_ ≠ ((.slice Ao49 x5_1.length co49) : Value).ownBlock ∧ some k_ ≠ ((.slice Ao49 x5_1.length co49) : Value).ownBlock) v10 x10_2) ∧ Aside0 (Kd.R (Kd.int .i64) 3 w' w.heap.size (fun k_ => some k_ ≠ (v10 : Value).ownBlock) (.slice Ao49 x5_1.length co49) x5_1) ∧ Aside0 (w'.heap[gb388]? = some (.cells #[(.slice A0 l0.length c0)] 22 (0, 0))) ∧ Aside0 (w'.heap[gb389]? = some (.cells #[.int .i64 0, .int .i64 0] 26 (0, 0))) ∧ Aside0 (w'.heap[gb392]? = some (.cells #[.int .i64 t390, .int .i64 t391] 26 (0, 0))) ∧ Aside0 (Below w.heap.size w w'))
    case atStart => exact ⟨(([] : List Int)), (0), (by first | rfl | (simp; done) | (simp [*]; done) | (simp [i64_w]; done)), H', ⟨Nat.le_refl _⟩, ⟨by (with_reducible repeat (first | apply Kd.rA | apply Kd.rN | apply Kd.rD)); exact Kd.R_mono HO_5.out (fun _ hk => (by simp [Value.ownBlock]))⟩, ⟨by first | exact Kd.R_nil _ _ _ _ _ | exact Kd.N_nil _ _ _ _ _ | exact Kd.V_nil _ _ _ _ _ | exact Kd.Q_nil _ _ _ _ _ | exact Kd.S_nil _ _ _ _ _⟩, ⟨by (with_reducible repeat (first | apply Kd.rA | apply Kd.rN | apply Kd.rD)); exact Kd.R_mono HO_5.out (fun _ hk => (by simp [Value.ownBlock]))⟩, ⟨by (with_reducible repeat (first | refine bN ?_ _ | refine bD ?_ | refine bA ?_ _)); exact BK388.out⟩, ⟨by (with_reducible repeat (first | refine bN ?_ _ | refine bD ?_ | refine bA ?_ _)); exact BK389.out⟩, ⟨by (with_reducible repeat (first | refine bN ?_ _ | refine bD ?_ | refine bA ?_ _)); exact BK392.out⟩, ⟨by repeat (first | (with_reducible first | exact HB.out | apply lA | apply lN | apply lD | refine lS ?_ GE388.out | refine lS ?_ GE389.out | refine lS ?_ GE392.out) | exact HB.out)⟩⟩
    case round =>
     clear H'
     (try clear c32); (try clear c32b0)
     obtain ⟨x10_2, x49_2, rfl, HA, HK2, HO_5, HO_10, HO_47, BK388, BK389, BK392, HB⟩ := hrel
     cases gk with
     | zero => exact absurd HA.out (by simp [history_Order.l2])
     | succ k2 =>
      have H := HA.out
      clear HA
      simp only [history_Order.l2] at H
      by_cases c50 : x49_2 < (x5_1.length : Int)
      · rw [if_pos c50] at H
        have c50b0 : decide (x49_2 < (x5_1.length : Int)) = true := decide_eq_true c50
        clear c50
        by_cases c51 : 0 ≤ x49_2
        rotate_left
        · rw [if_neg c51] at H
          exact absurd H (by simp)
        rw [if_pos c51] at H
        have c51b0 : decide (0 ≤ x49_2) = true := decide_eq_true c51
        clear c51
        by_cases c52 : x49_2 < (x5_1.length : Int)
        rotate_left
        · rw [if_neg c52] at H
          exact absurd H (by simp)
        rw [if_pos c52] at H
        have c52b0 : decide (x49_2 < (x5_1.length : Int)) = true := decide_eq_true c52
        clear c52
        by_cases c53 : (rd x5_1 x49_2) = 0
        rotate_left
        · rw [if_neg c53] at H
          have c53b0 : ((rd x5_1 x49_2) == 0) = false := beq_eq_false_iff_ne.mpr c53
          have c53b1 : ((rd x5_1 x49_2) != 0) = true := bne_iff_ne.mpr c53
          have H' := aZ H
          clear H
          have p401 : 0 ≤ (x49_2 : Int) := of_decide_eq_true (by first | (with_reducible assumption) | assumption)
          have q401 : x49_2 < (x5_1.length : Int) := of_decide_eq_true (by first | (with_reducible assumption) | assumption)
          obtain ⟨ad401, e401, hx401_0⟩ := Kd.at_int (Kd.R_reads' HO_47.out).2.2 x49_2 p401 q401
          cases e401
          replace p401 := eq_true p401
          replace q401 := eq_true q401
          go_wp2
          go_roundg k2
          case measure => have := HK1.out; have := HK2.out; omega
          case rel => exact ⟨(x10_2), (wrap64 (x49_2 + 1)), (by first | rfl | (simp; done) | (simp [*]; done) | (simp [i64_w]; done)), H', ⟨by have := HK1.out; have := HK2.out; omega⟩, ⟨by (with_reducible repeat (first | apply Kd.rA | apply Kd.rN | apply Kd.rD)); exact HO_5.out⟩, ⟨by (with_reducible repeat (first | apply Kd.rA | apply Kd.rN | apply Kd.rD)); exact HO_10.out⟩, ⟨by (with_reducible repeat (first | apply Kd.rA | apply Kd.rN | apply Kd.rD)); exact HO_47.out⟩, ⟨by (with_reducible repeat (first | refine bN ?_ _ | refine bD ?_ | refine bA ?_ _)); exact BK388.out⟩, ⟨by (with_reducible repeat (first | refine bN ?_ _ | refine bD ?_ | refine bA ?_ _)); exact BK389.out⟩, ⟨by (with_reducible repeat (first | refine bN ?_ _ | refine bD ?_ | refine bA ?_ _)); exact BK392.out⟩, ⟨by repeat (first | (with_reducible first | exact HB.out | apply lA | apply lN | apply lD | refine lS ?_ GE388.out | refine lS ?_ GE389.out | refine lS ?_ GE392.out) | exact HB.out)⟩⟩
        rw [if_pos c53] at H
        have c53b0 : ((rd x5_1 x49_2) == 0) = true := beq_iff_eq.mpr c53
        have c53b1 : ((rd x5_1 x49_2) != 0) = false := bne_eq_false_iff_eq.mpr c53
        clear c53
        by_cases c54 : x10_2.length < 17592186044416
        rotate_left
        · rw [if_neg c54] at H
          exact absurd H (by simp)
        rw [if_pos c54] at H
        have LMc54 := aZ c54
        clear c54
        obtain ⟨y402, hy402⟩ : ∃ y_ : List Int, y_ = (x10_2 ++ [x49_2]) := ⟨_, rfl⟩
        replace H : (history_Order.l2 k2 x5_1 y402 x5_1 (x5_1.length : Int) (wrap64 (x49_2 + 1)) l0) = some (r1, r2, r3) := by first | (rw [hy402]; with_reducible exact H) | (have H2_ := (Option.bind_some _ _).symm.trans H; rw [hy402]; with_reducible exact H2_) | (have H2_ := (Option.bind_some _ _).symm.trans H; with_reducible exact H2_) | with_reducible exact H | (rw [hy402]; exact H) | exact H
        have Ny402 := aZ hy402
        clear hy402
        have H' := aZ H
        clear H
        have p401 : 0 ≤ (x49_2 : Int) := of_decide_eq_true (by first | (with_reducible assumption) | assumption)
        have q401 : x49_2 < (x5_1.length : Int) := of_decide_eq_true (by first | (with_reducible assumption) | assumption)
        obtain ⟨ad401, e401, hx401_0⟩ := Kd.at_int (Kd.R_reads' HO_47.out).2.2 x49_2 p401 q401
        cases e401
        replace p401 := eq_true p401
        replace q401 := eq_true q401
        go_wp2_with (first | ((with_reducible refine gate_builtin (b := .append) (xs := #[.tmp 56, .tmp 58]) rfl ?_); at_builtin; refine Kd.R_append (Kd.int .i64) (w0 := w) w.heap.size rfl (.tmp 56) (.tmp 58) 23 3 (.int .i64 0) 8 rfl Try.underlying23 info3 rfl (by decide) (by omega) u10 x10_2 x49_2 [.int .i64 x49_2] (fun k_ => some k_ ≠ (.slice (some ad401) x5_1.length co49 : Value).ownBlock ∧ some k_ ≠ (.slice (some ad401) x5_1.length co49 : Value).ownBlock) (fun _ => False) rfl rfl ?aP (fun _ hk => hk.elim) ?aF ?aO ?aB ?aS ?aL ?_; (case aP => exact rfl); (case aB => exact (by repeat (first | (with_reducible first | exact HB.out | apply lA | apply lN | apply lD | refine lS ?_ GE388.out | refine lS ?_ GE389.out | refine lS ?_ GE392.out) | exact HB.out))); (case aF => exact (fun k_ hk => ⟨Kd.fresh' (Kd.R_lt (by (with_reducible repeat (first | apply Kd.rA | apply Kd.rN | apply Kd.rD)); exact HO_5.out)) k_ hk, Kd.fresh' (Kd.R_lt (by (with_reducible repeat (first | apply Kd.rA | apply Kd.rN | apply Kd.rD)); exact HO_47.out)) k_ hk⟩)); (case aO => exact (by (with_reducible repeat (first | apply Kd.rA | apply Kd.rN | apply Kd.rD)); exact HO_10.out)); (case aS => exact (lZ (by repeat (first | (with_reducible first | exact HB.out | apply lA | apply lN | apply lD | refine lS ?_ GE388.out | refine lS ?_ GE389.out | refine lS ?_ GE392.out) | exact HB.out)))); (case aL => have := LMc54.out; omega); intro v403 w55 ho hb hg hat; rw [← Ny402.out] at ho; have n0_ := aZ (Kd.R_after (ok := (fun _ => True)) (by (with_reducible repeat (first | apply Kd.rA | apply Kd.rN | apply Kd.rD)); exact Kd.R_mono HO_5.out (fun _ hk => ⟨trivial, hk⟩)) hg hat); have n1_ := aZ (Kd.R_after (ok := (fun _ => True)) (by (with_reducible repeat (first | apply Kd.rA | apply Kd.rN | apply Kd.rD)); exact Kd.R_mono HO_47.out (fun _ hk => ⟨trivial, hk⟩)) hg hat); have n2_ := aZ (blk_grown (g := gb388) (o := .cells #[.slice A0 l0.length c0] 22 (0, 0)) (by (with_reducible repeat (first | refine bN ?_ _ | refine bD ?_ | refine bA ?_ _)); exact BK388.out) hg (Kd.R_ne HO_10.out BK388.out (by decide))); have n3_ := aZ (blk_grown (g := gb389) (o := .cells #[.int .i64 0, .int .i64 0] 26 (0, 0)) (by (with_reducible repeat (first | refine bN ?_ _ | refine bD ?_ | refine bA ?_ _)); exact BK389.out) hg (Kd.R_ne HO_10.out BK389.out (by decide))); have n4_ := aZ (blk_grown (g := gb392) (o := .cells #[.int .i64 t390, .int .i64 t391] 26 (0, 0)) (by (with_reducible repeat (first | refine bN ?_ _ | refine bD ?_ | refine bA ?_ _)); exact BK392.out) hg (Kd.R_ne HO_10.out BK392.out (by decide))); have n5_ := aZ (hb); have n6_ := aZ (ho); clear HO_5; clear HO_47; clear BK388; clear BK389; clear BK392; clear HB; clear HO_10; have HO_5 := n0_; have HO_47 := n1_; have BK388 := n2_; have BK389 := n3_; have BK392 := n4_; have HB := n5_; have HO404 := n6_; clear n0_ n1_ n2_ n3_ n4_ n5_ n6_; clear ho hb hg hat))
        go_roundg k2
        case measure => have := HK1.out; have := HK2.out; omega
        case rel => exact ⟨(y402), (wrap64 (x49_2 + 1)), (by first | rfl | (simp; done) | (simp [*]; done) | (simp [i64_w]; done)), H', ⟨by have := HK1.out; have := HK2.out; omega⟩, ⟨by (with_reducible repeat (first | apply Kd.rA | apply Kd.rN | apply Kd.rD)); exact Kd.R_mono HO_5.out (fun _ hk => hk.2)⟩, ⟨by (with_reducible repeat (first | apply Kd.rA | apply Kd.rN | apply Kd.rD)); exact HO404.out⟩, ⟨by (with_reducible repeat (first | apply Kd.rA | apply Kd.rN | apply Kd.rD)); exact Kd.R_mono HO_47.out (fun _ hk => hk.2)⟩, ⟨by (with_reducible repeat (first | refine bN ?_ _ | refine bD ?_ | refine bA ?_ _)); exact BK388.out⟩, ⟨by (with_reducible repeat (first | refine bN ?_ _ | refine bD ?_ | refine bA ?_ _)); exact BK389.out⟩, ⟨by (with_reducible repeat (first | refine bN ?_ _ | refine bD ?_ | refine bA ?_ _)); exact BK392.out⟩, ⟨by repeat (first | (with_reducible first | exact HB.out | apply lA | apply lN | apply lD | refine lS ?_ GE388.out | refine lS ?_ GE389.out | refine lS ?_ GE392.out) | exact HB.out)⟩⟩
      rw [if_neg c50] at H
      have c50b0 : decide (x49_2 < (x5_1.length : Int)) = false := decide_eq_false c50
      clear c50
      have H' := aZ H
      clear H
      go_wp2
      go_loopg [10, 11] k2 (fun kq v10 v11 w' => ∃ (x5_3 : List Int) (x10_3 : List Int) (x11_3 : List Int), Aside0 (history_Order.l3 kq x5_3 x10_3 x11_3 l0 = some (r1, r2, r3)) ∧ Aside0 (kq ≤ k2) ∧ Aside0 (Kd.R (Kd.int .i64) 3 w' w.heap.size (fun k_ => some k_ ≠ (v10 : Value).ownBlock ∧ some k_ ≠ (v11 : Value).ownBlock) (.slice Ao49 x5_1.length co49) x5_3) ∧ Aside0 (Kd.R (Kd.int .i64) 3 w' w.heap.size (fun k_ => some k_ ≠ ((.slice Ao49 x5_1.length co49) : Value).ownBlock ∧ some k_ ≠ (v11 : Value).ownBlock) v10 x10_3) ∧ Aside0 (Kd.R (Kd.int .i64) 3 w' w.heap.size (fun k_ => some k_ ≠ ((.slice Ao49 x5_1.length co49) : Value).ownBlock ∧ some k_ ≠ (v10 : Value).ownBlock) v11 x11_3) ∧ Aside0 (w'.heap[gb388]? = some (.cells #[(.slice A0 l0.length c0)] 22 (0, 0))) ∧ Aside0 (w'.heap[gb389]? = some (.cells #[.int .i64 0, .int .i64 0] 26 (0, 0))) ∧ Aside0 (w'.heap[gb392]? = some (.cells #[.int .i64 t390, .int .i64 t391] 26 (0, 0))) ∧ Aside0 (Below w.heap.size w w'))
      case atStart => exact ⟨(x5_1), (x10_2), (([] : List Int)), H', ⟨Nat.le_refl _⟩, ⟨by (with_reducible repeat (first | apply Kd.rA | apply Kd.rN | apply Kd.rD)); exact Kd.R_mono HO_5.out (fun _ hk => ⟨hk, (by simp [Value.ownBlock])⟩)⟩, ⟨by (with_reducible repeat (first | apply Kd.rA | apply Kd.rN | apply Kd.rD)); exact Kd.R_mono HO_10.out (fun _ hk => ⟨hk.1, (by simp [Value.ownBlock])⟩)⟩, ⟨by first | exact Kd.R_nil _ _ _ _ _ | exact Kd.N_nil _ _ _ _ _ | exact Kd.V_nil _ _ _ _ _ | exact Kd.Q_nil _ _ _ _ _ | exact Kd.S_nil _ _ _ _ _⟩, ⟨by (with_reducible repeat (first | refine bN ?_ _ | refine bD ?_ | refine bA ?_ _)); exact BK388.out⟩, ⟨by (with_reducible repeat (first | refine bN ?_ _ | refine bD ?_ | refine bA ?_ _)); exact BK389.out⟩, ⟨by (with_reducible repeat (first | refine bN ?_ _ | refine bD ?_ | refine bA ?_ _)); exact BK392.out⟩, ⟨by repeat (first | (with_reducible first | exact HB.out | apply lA | apply lN | apply lD | refine lS ?_ GE388.out | refine lS ?_ GE389.out | refine lS ?_ GE392.out) | exact HB.out)⟩⟩
      case round =>
       clear H'
       (try clear c50); (try clear c50b0)
       obtain ⟨x5_3, x10_3, x11_3, HA, HK3, HO_5, HO_10, HO_11, BK388, BK389, BK392, HB⟩ := hrel
       have hl5_3 := (Kd.R_reads' HO_5.out).1
       rw [hl5_3] at HO_5
       (try simp only [hl5_3])
       (try simp only [hl5_3] at BK388)
       (try simp only [hl5_3] at BK389)
       (try simp only [hl5_3] at BK392)
       (try simp only [hl5_3] at HO_10)
       (try simp only [hl5_3] at HO_11)
       cases gk with
       | zero => exact absurd HA.out (by simp [history_Order.l3])
       | succ k3 =>
        have H := HA.out
        clear HA
        simp only [history_Order.l3] at H
        by_cases c56 : (x10_3.length : Int) > 0
        rotate_left
        · rw [if_neg c56] at H
          have c56b0 : decide (0 < (x10_3.length : Int)) = false := decide_eq_false c56
          (try (have c56b0z5_3 := c56b0; simp only [hl5_3] at c56b0z5_3))
          have c56b1 : decide (0 < x10_3.length) = false := decide_eq_false (by omega)
          (try (have c56b1z5_3 := c56b1; simp only [hl5_3] at c56b1z5_3))
          clear c56
          simp only [Option.some.injEq, Prod.mk.injEq] at H
          obtain ⟨rfl, rfl, rfl⟩ := H
          obtain ⟨Ao92, co92, eo92⟩ := Kd.R_slice HO_10.out
          subst eo92
          have hnb93 := NB389_388.out
          have hnc93 := NB388_389.out
          have hnb94 := NB389_392.out
          have hnc94 := NB392_389.out
          have hcz95_0 : wr.cell? ⟨gb389, 0, none⟩ = some (.int .i64 0) := (blk_cell BK389.out 0).trans rfl
          have hcz95_1 : wr.cell? ⟨gb389, 1, none⟩ = some (.int .i64 0) := (blk_cell BK389.out 1).trans rfl
          have hfz95_0 := blk_frozen BK389.out 0
          have hfz95_1 := blk_frozen BK389.out 1
          go_wp2
          refine bodyPost_ret (results_tc rfl _ _ gb389 26 #[.int .i64 0, .int .i64 0] (0, 0) _ rfl (by (with_reducible repeat (first | refine bN ?_ _ | refine bD ?_ | refine bA ?_ _)); refine blk_put (cs := #[.int .i64 0, .int .i64 0]) ?_ 1 _ rfl; (with_reducible repeat (first | refine bN ?_ _ | refine bD ?_ | refine bA ?_ _)); refine blk_put (cs := #[.int .i64 0, .int .i64 0]) ?_ 0 _ rfl; (with_reducible repeat (first | refine bN ?_ _ | refine bD ?_ | refine bA ?_ _)); exact BK389.out) Try.underlying26 rfl (by kernel_rfl)) rfl ?_
          exact ⟨_, by first | rfl | (simp [errW_none, errW_some] <;> rfl) | (simp [*, errW_none, errW_some] <;> rfl), by (with_reducible repeat (first | apply Kd.rA | apply Kd.rN | apply Kd.rD)); exact Kd.R_mono (Kd.R_far (p := ⟨gb389, 1, none⟩) (Kd.R_far (p := ⟨gb389, 0, none⟩) (Kd.R_types HO_11.out BK389.out (by decide)) (fun _ hk => hk.2) (.int .i64 0)) (fun _ hk => hk.2) (.int .i64 0)) (fun _ hk => trivial), by repeat (first | (with_reducible first | exact HB.out | apply lA | apply lN | apply lD | refine lS ?_ GE388.out | refine lS ?_ GE389.out | refine lS ?_ GE392.out) | exact HB.out)⟩
        rw [if_pos c56] at H
        have c56b0 : decide (0 < (x10_3.length : Int)) = true := decide_eq_true c56
        (try (have c56b0z5_3 := c56b0; simp only [hl5_3] at c56b0z5_3))
        have c56b1 : decide (0 < x10_3.length) = true := decide_eq_true (by omega)
        (try (have c56b1z5_3 := c56b1; simp only [hl5_3] at c56b1z5_3))
        clear c56
        replace H := Option.bind_eq_some_iff.mp H
        obtain ⟨⟨t405, t406⟩, A570, H⟩ := H
        replace H : ((slices_DeleteFunc_int_int.f t406 t405).bind fun t408 => (if x11_3.length < 17592186044416 then (if 0 ≤ t405 then (if t405 < (l0.length : Int) then (history_Order.l4 k3 x5_3 t408 (x11_3 ++ [t405]) ((rd_T49 l0 t405).f0) (((rd_T49 l0 t405).f0).length : Int) 0 l0) else (none)) else (none)) else (none))) = some (r1, r2, r3) := H
        have A57 := aZ A570
        clear A570
        replace H := Option.bind_eq_some_iff.mp H
        obtain ⟨t408, A580, H⟩ := H
        replace H : (if x11_3.length < 17592186044416 then (if 0 ≤ t405 then (if t405 < (l0.length : Int) then (history_Order.l4 k3 x5_3 t408 (x11_3 ++ [t405]) ((rd_T49 l0 t405).f0) (((rd_T49 l0 t405).f0).length : Int) 0 l0) else (none)) else (none)) else (none)) = some (r1, r2, r3) := H
        have A58 := aZ A580
        clear A580
        by_cases c59 : x11_3.length < 17592186044416
        rotate_left
        · rw [if_neg c59] at H
          exact absurd H (by simp)
        rw [if_pos c59] at H
        have LMc59 := aZ c59
        clear c59
        obtain ⟨y411, hy411⟩ : ∃ y_ : List Int, y_ = (x11_3 ++ [t405]) := ⟨_, rfl⟩
        replace H : (if 0 ≤ t405 then (if t405 < (l0.length : Int) then (history_Order.l4 k3 x5_3 t408 y411 ((rd_T49 l0 t405).f0) (((rd_T49 l0 t405).f0).length : Int) 0 l0) else (none)) else (none)) = some (r1, r2, r3) := by first | (rw [hy411]; with_reducible exact H) | (have H2_ := (Option.bind_some _ _).symm.trans H; rw [hy411]; with_reducible exact H2_) | (have H2_ := (Option.bind_some _ _).symm.trans H; with_reducible exact H2_) | with_reducible exact H | (rw [hy411]; exact H) | exact H
        have Ny411 := aZ hy411
        clear hy411
        by_cases c60 : 0 ≤ t405
        rotate_left
        · rw [if_neg c60] at H
          exact absurd H (by simp)
        rw [if_pos c60] at H
        have c60b0 : decide (0 ≤ t405) = true := decide_eq_true c60
        clear c60
        by_cases c61 : t405 < (l0.length : Int)
        rotate_left
        · rw [if_neg c61] at H
          exact absurd H (by simp)
        rw [if_pos c61] at H
        have c61b0 : decide (t405 < (l0.length : Int)) = true := decide_eq_true c61
        (try (have c61b0z5_3 := c61b0; simp only [hl5_3] at c61b0z5_3))
        clear c61
        have H' := aZ H
        clear H
        obtain ⟨Ao62, co62, eo62⟩ := Kd.R_slice HO_10.out
        subst eo62
        have hnb63 := NB388_389.out
        have hnc63 := NB389_388.out
        have hnb64 := NB388_392.out
        have hnc64 := NB392_388.out
        have hcz65_0 : wr.cell? ⟨gb388, 0, none⟩ = some (.slice A0 l0.length c0) := (blk_cell BK388.out 0).trans rfl
        have hfz65_0 := blk_frozen BK388.out 0
        go_wp2_with (first | ((with_reducible refine gate_callee (f := 37) rfl ?_); refine goesL_ (some 66) rfl rfl Try.func37 (by kernel_rfl) rfl #[.slice Ao62 x10_3.length co62, .func (.func 38) #[] #[.pointer (some ⟨gb388, 0, none⟩)]] rfl (by (try simp only [List.map_toArray, List.map_cons, List.map_nil]); first | done | rfl | (simp only [List.length_drop, List.length_take]; rfl)) ?_; (refine (slices_MaxFunc_int_int.calls' (fun k_ => some k_ = (.slice Ao62 x10_3.length co62 : Value).ownBlock) (.slice Ao62 x10_3.length co62) x10_3 _ _ l0 t405 t406 w _ gb388 (by (with_reducible repeat (first | refine bN ?_ _ | refine bD ?_ | refine bA ?_ _)); exact BK388.out) (fun e_ => (Kd.R_ne HO_10.out BK388.out (by decide)) e_) ?side1 ?side2 ?side3 ?side4 A57.out).mono ?_); (case side1 => repeat (first | (with_reducible first | exact HB.out | apply lA | apply lN | apply lD | refine lS ?_ GE388.out | refine lS ?_ GE389.out | refine lS ?_ GE392.out) | exact HB.out)); (case side2 => exact Kd.R_tight rfl HO_10.out); (case side3 => exact Kd.C_kept_came k49_heap HR0.out (by repeat (first | (with_reducible first | exact HB.out | apply lA | apply lN | apply lD | refine lS ?_ GE388.out | refine lS ?_ GE389.out | refine lS ?_ GE392.out) | exact HB.out)) (fun k_ hs_ => (fun e_ => Kd.R_base HO_10.out k_ e_.symm) hs_)); (case side4 => exact HC0.out); rintro e w66 ⟨rfl, hy0, hb, hkp⟩; refine ⟨_, rfl, ?_⟩; have n0_ := aZ (Kd.R_mono (ok' := fun k_ => some k_ ≠ (.slice Ao62 x10_3.length co62 : Value).ownBlock ∧ some k_ ≠ (u11 : Value).ownBlock) (Kd.R_keptB (HO_5.out) hkp (fun k_ hk_ hs_ => (hk_.1) hs_)) (fun k_ hk_ => ⟨hk_.1.1, hk_.1.2⟩)); have n1_ := aZ (Kd.R_reok rfl hy0 (fun k_ e_ => HO_10.out.1 k_ e_)); have n2_ := aZ (Kd.R_mono (ok' := fun k_ => some k_ ≠ (.slice Ao49 x5_3.length co49 : Value).ownBlock ∧ some k_ ≠ (.slice Ao62 x10_3.length co62 : Value).ownBlock) (Kd.R_keptB (HO_11.out) hkp (fun k_ hk_ hs_ => (hk_.2) hs_)) (fun k_ hk_ => ⟨hk_.1.1, hk_.1.2⟩)); have n3_ := aZ (blk_kept (by (with_reducible repeat (first | refine bN ?_ _ | refine bD ?_ | refine bA ?_ _)); exact BK388.out) hkp (fun hs_ => (fun e_ => (Kd.R_ne HO_10.out BK388.out (by decide)) e_) hs_)); have n4_ := aZ (blk_kept (by (with_reducible repeat (first | refine bN ?_ _ | refine bD ?_ | refine bA ?_ _)); exact BK389.out) hkp (fun hs_ => (fun e_ => (Kd.R_ne HO_10.out BK389.out (by decide)) e_) hs_)); have n5_ := aZ (blk_kept (by (with_reducible repeat (first | refine bN ?_ _ | refine bD ?_ | refine bA ?_ _)); exact BK392.out) hkp (fun hs_ => (fun e_ => (Kd.R_ne HO_10.out BK392.out (by decide)) e_) hs_)); have n6_ := aZ (hb); clear HO_5; clear HO_10; clear HO_11; clear BK388; clear BK389; clear BK392; clear HB; have HO_5 := n0_; have HO_10 := n1_; have HO_11 := n2_; have BK388 := n3_; have BK389 := n4_; have BK392 := n5_; have HB := n6_; clear n0_ n1_ n2_ n3_ n4_ n5_ n6_; (try clear hb); (try clear hkp); (try clear hy0)) | ((with_reducible refine gate_dst (N := 14) rfl ?_); refine box_event ?hg (N := 14) ?hd (cs := #[.int .i64 0]) (t := 3) ?hr ?_; (case hd => rfl); (case hg => rfl); (case hr => first | (go_simp; done) | (go_simp; rfl)); intro gb407 hg w67 hbox hb; have n0_ := aZ (Kd.R_below (Kd.R_elderB (by (with_reducible repeat (first | apply Kd.rA | apply Kd.rN | apply Kd.rD)); exact HO_5.out) gb407 (Nat.le_of_eq hg.symm)) hb); have n1_ := aZ (Kd.R_below (Kd.R_elderB (by (with_reducible repeat (first | apply Kd.rA | apply Kd.rN | apply Kd.rD)); exact HO_10.out) gb407 (Nat.le_of_eq hg.symm)) hb); have n2_ := aZ (Kd.R_below (Kd.R_elderB (by (with_reducible repeat (first | apply Kd.rA | apply Kd.rN | apply Kd.rD)); exact HO_11.out) gb407 (Nat.le_of_eq hg.symm)) hb); have n3_ := aZ (blk_below (g := gb388) (o := .cells #[.slice A0 l0.length c0] 22 (0, 0)) (by (with_reducible repeat (first | refine bN ?_ _ | refine bD ?_ | refine bA ?_ _)); exact BK388.out) hb); have n4_ := aZ (blk_below (g := gb389) (o := .cells #[.int .i64 0, .int .i64 0] 26 (0, 0)) (by (with_reducible repeat (first | refine bN ?_ _ | refine bD ?_ | refine bA ?_ _)); exact BK389.out) hb); have n5_ := aZ (blk_below (g := gb392) (o := .cells #[.int .i64 t390, .int .i64 t391] 26 (0, 0)) (by (with_reducible repeat (first | refine bN ?_ _ | refine bD ?_ | refine bA ?_ _)); exact BK392.out) hb); have n6_ := aZ (lT (by repeat (first | (with_reducible first | exact HB.out | apply lA | apply lN | apply lD | refine lS ?_ GE388.out | refine lS ?_ GE389.out | refine lS ?_ GE392.out) | exact HB.out)) hb); have n7_ := aZ (hbox); have n8_ := aZ ((by rw [hg]; exact (lZ (by repeat (first | (with_reducible first | exact HB.out | apply lA | apply lN | apply lD | refine lS ?_ GE388.out | refine lS ?_ GE389.out | refine lS ?_ GE392.out) | exact HB.out))) : w.heap.size ≤ gb407)); have n9_ := aZ ((by rw [hg]; exact (lZ (by repeat (first | (with_reducible first | exact HB.out | apply lA | apply lN | apply lD | refine lS ?_ GE388.out | refine lS ?_ GE389.out | refine lS ?_ GE392.out) | exact HB.out))) : w.heap.size ≤ gb407)); have n10_ := aZ ((by rw [hg]; exact Nat.ne_of_lt (blk_lt (g := gb388) (o := .cells #[.slice A0 l0.length c0] 22 (0, 0)) (by (with_reducible repeat (first | refine bN ?_ _ | refine bD ?_ | refine bA ?_ _)); exact BK388.out)) : gb388 ≠ gb407)); have n11_ := aZ ((by rw [hg]; exact Nat.ne_of_gt (blk_lt (g := gb388) (o := .cells #[.slice A0 l0.length c0] 22 (0, 0)) (by (with_reducible repeat (first | refine bN ?_ _ | refine bD ?_ | refine bA ?_ _)); exact BK388.out)) : gb407 ≠ gb388)); have n12_ := aZ ((by rw [hg]; exact Nat.ne_of_lt (blk_lt (g := gb389) (o := .cells #[.int .i64 0, .int .i64 0] 26 (0, 0)) (by (with_reducible repeat (first | refine bN ?_ _ | refine bD ?_ | refine bA ?_ _)); exact BK389.out)) : gb389 ≠ gb407)); have n13_ := aZ ((by rw [hg]; exact Nat.ne_of_gt (blk_lt (g := gb389) (o := .cells #[.int .i64 0, .int .i64 0] 26 (0, 0)) (by (with_reducible repeat (first | refine bN ?_ _ | refine bD ?_ | refine bA ?_ _)); exact BK389.out)) : gb407 ≠ gb389)); have n14_ := aZ ((by rw [hg]; exact Nat.ne_of_lt (blk_lt (g := gb392) (o := .cells #[.int .i64 t390, .int .i64 t391] 26 (0, 0)) (by (with_reducible repeat (first | refine bN ?_ _ | refine bD ?_ | refine bA ?_ _)); exact BK392.out)) : gb392 ≠ gb407)); have n15_ := aZ ((by rw [hg]; exact Nat.ne_of_gt (blk_lt (g := gb392) (o := .cells #[.int .i64 t390, .int .i64 t391] 26 (0, 0)) (by (with_reducible repeat (first | refine bN ?_ _ | refine bD ?_ | refine bA ?_ _)); exact BK392.out)) : gb407 ≠ gb392)); clear HO_5; clear HO_10; clear HO_11; clear BK388; clear BK389; clear BK392; clear HB; have HO_5 := n0_; have HO_10 := n1_; have HO_11 := n2_; have BK388 := n3_; have BK389 := n4_; have BK392 := n5_; have HB := n6_; have BK407 := n7_; have GW407 := n8_; have GE407 := n9_; have NB388_407 := n10_; have NB407_388 := n11_; have NB389_407 := n12_; have NB407_389 := n13_; have NB392_407 := n14_; have NB407_392 := n15_; clear n0_ n1_ n2_ n3_ n4_ n5_ n6_ n7_ n8_ n9_ n10_ n11_ n12_ n13_ n14_ n15_; clear hb hbox hg; have hnb68 := NB407_388.out; have hnc68 := NB388_407.out; have hnb69 := NB407_389.out; have hnc69 := NB389_407.out; have hnb70 := NB407_392.out; have hnc70 := NB392_407.out; have hcz71_0 : w67.cell? ⟨gb407, 0, none⟩ = some (.int .i64 0) := (blk_cell BK407.out 0).trans rfl; have hfz71_0 := blk_frozen BK407.out 0) | ((with_reducible refine gate_store (t := 3) (p := 14) rfl ?_); refine store_event (t := 3) (p := 14) (v := ?vo_w72) (w1 := (w67.setCell ⟨gb407, 0, none⟩ (.int .i64 t405))) ?hg ?ho ?hn ?hr ?_; (case ho => rfl); (case hg => rfl); (case hn => rfl); (case hr => first | (go_simp; done) | (go_simp; rfl)); intro w72 hw; have n0_ : Aside0 (Kd.R (Kd.int .i64) 3 w72 w.heap.size (fun k_ => some k_ ≠ (.slice Ao62 x10_3.length co62 : Value).ownBlock ∧ some k_ ≠ (u11 : Value).ownBlock ∧ k_ ≠ gb407) (.slice Ao49 x5_3.length co49) x5_3) := ⟨(by rw [hw]; exact (by (with_reducible repeat (first | apply Kd.rA | apply Kd.rN | apply Kd.rD)); exact Kd.R_mono (Kd.R_far (p := ⟨gb407, 0, none⟩) (Kd.R_mono HO_5.out (fun k_ hk => (⟨hk, hk.2⟩ : _ ∧ k_ ≠ gb407))) (fun _ hk => hk.2) (.int .i64 t405)) (fun _ hk => ⟨hk.1.1.1, ⟨hk.1.1.2, hk.1.2⟩⟩)))⟩; have n1_ : Aside0 (Kd.R (Kd.int .i64) 3 w72 w.heap.size (fun k_ => some k_ ≠ (.slice Ao49 x5_3.length co49 : Value).ownBlock ∧ some k_ ≠ (u11 : Value).ownBlock ∧ k_ ≠ gb407) (.slice Ao62 x10_3.length co62) t406) := ⟨(by rw [hw]; exact (by (with_reducible repeat (first | apply Kd.rA | apply Kd.rN | apply Kd.rD)); exact Kd.R_mono (Kd.R_far (p := ⟨gb407, 0, none⟩) (Kd.R_mono HO_10.out (fun k_ hk => (⟨hk, hk.2⟩ : _ ∧ k_ ≠ gb407))) (fun _ hk => hk.2) (.int .i64 t405)) (fun _ hk => ⟨hk.1.1.1, ⟨hk.1.1.2, hk.1.2⟩⟩)))⟩; have n2_ : Aside0 (Kd.R (Kd.int .i64) 3 w72 w.heap.size (fun k_ => some k_ ≠ (.slice Ao49 x5_3.length co49 : Value).ownBlock ∧ some k_ ≠ (.slice Ao62 x10_3.length co62 : Value).ownBlock ∧ k_ ≠ gb407) u11 x11_3) := ⟨(by rw [hw]; exact (by (with_reducible repeat (first | apply Kd.rA | apply Kd.rN | apply Kd.rD)); exact Kd.R_mono (Kd.R_far (p := ⟨gb407, 0, none⟩) (Kd.R_mono HO_11.out (fun k_ hk => (⟨hk, hk.2⟩ : _ ∧ k_ ≠ gb407))) (fun _ hk => hk.2) (.int .i64 t405)) (fun _ hk => ⟨hk.1.1.1, ⟨hk.1.1.2, hk.1.2⟩⟩)))⟩; have n3_ : Aside0 (w72.heap[gb388]? = some (.cells #[.slice A0 l0.length c0] 22 (0, 0))) := ⟨(by rw [hw]; exact (by (with_reducible repeat (first | refine bN ?_ _ | refine bD ?_ | refine bA ?_ _)); refine blk_far ?_ NB388_407.out _; (with_reducible repeat (first | refine bN ?_ _ | refine bD ?_ | refine bA ?_ _)); exact BK388.out))⟩; have n4_ : Aside0 (w72.heap[gb389]? = some (.cells #[.int .i64 0, .int .i64 0] 26 (0, 0))) := ⟨(by rw [hw]; exact (by (with_reducible repeat (first | refine bN ?_ _ | refine bD ?_ | refine bA ?_ _)); refine blk_far ?_ NB389_407.out _; (with_reducible repeat (first | refine bN ?_ _ | refine bD ?_ | refine bA ?_ _)); exact BK389.out))⟩; have n5_ : Aside0 (w72.heap[gb392]? = some (.cells #[.int .i64 t390, .int .i64 t391] 26 (0, 0))) := ⟨(by rw [hw]; exact (by (with_reducible repeat (first | refine bN ?_ _ | refine bD ?_ | refine bA ?_ _)); refine blk_far ?_ NB392_407.out _; (with_reducible repeat (first | refine bN ?_ _ | refine bD ?_ | refine bA ?_ _)); exact BK392.out))⟩; have n6_ : Aside0 (w72.heap[gb407]? = some (.cells #[.int .i64 t405] 3 (0, 0))) := ⟨(by rw [hw]; exact (by (with_reducible repeat (first | refine bN ?_ _ | refine bD ?_ | refine bA ?_ _)); refine blk_put (cs := #[.int .i64 0]) ?_ 0 _ rfl; (with_reducible repeat (first | refine bN ?_ _ | refine bD ?_ | refine bA ?_ _)); exact BK407.out))⟩; have n7_ : Aside0 (Below w.heap.size w w72) := ⟨(by rw [hw]; exact (by repeat (first | (with_reducible first | exact HB.out | apply lA | apply lN | apply lD | refine lS ?_ GE388.out | refine lS ?_ GE389.out | refine lS ?_ GE392.out | refine lS ?_ GE407.out) | exact HB.out)))⟩; clear hw; clear HO_5; clear HO_10; clear HO_11; clear BK388; clear BK389; clear BK392; clear BK407; clear HB; have HO_5 := n0_; have HO_10 := n1_; have HO_11 := n2_; have BK388 := n3_; have BK389 := n4_; have BK392 := n5_; have BK407 := n6_; have HB := n7_; clear n0_ n1_ n2_ n3_ n4_ n5_ n6_ n7_; have hcz73_0 : w72.cell? ⟨gb407, 0, none⟩ = some (.int .i64 t405) := (blk_cell BK407.out 0).trans rfl; have hfz73_0 := blk_frozen BK407.out 0) | ((with_reducible refine gate_callee (f := 39) rfl ?_); refine goesL_ (some 69) rfl rfl Try.func39 (by kernel_rfl) rfl #[.slice Ao62 x10_3.length co62, .func (.func 40) #[] #[.pointer (some ⟨gb407, 0, none⟩)]] rfl (by (try simp only [List.map_toArray, List.map_cons, List.map_nil]); first | done | rfl | (simp only [List.length_drop, List.length_take]; rfl)) ?_; (refine (slices_DeleteFunc_int_int.calls' (fun k_ => some k_ = (.slice Ao62 x10_3.length co62 : Value).ownBlock) (.slice Ao62 x10_3.length co62) t406 t405 t408 w _ gb407 (by (with_reducible repeat (first | refine bN ?_ _ | refine bD ?_ | refine bA ?_ _)); exact BK407.out) (fun e_ => (Kd.R_away HO_10.out (fun _ hk => hk.2.2)) e_) ?side1 ?side2 A58.out).mono ?_); (case side1 => repeat (first | (with_reducible first | exact HB.out | apply lA | apply lN | apply lD | refine lS ?_ GE388.out | refine lS ?_ GE389.out | refine lS ?_ GE392.out | refine lS ?_ GE407.out) | exact HB.out)); (case side2 => exact Kd.R_tight rfl HO_10.out); rintro e w74 ⟨v409, rfl, ho0, hb, hkp⟩; refine ⟨_, rfl, ?_⟩; have n0_ := aZ (Kd.R_mono (ok' := fun k_ => some k_ ≠ (u11 : Value).ownBlock ∧ k_ ≠ gb407 ∧ some k_ ≠ (v409 : Value).ownBlock) (Kd.R_keptB (HO_5.out) hkp (fun k_ hk_ hs_ => (hk_.1) hs_)) (fun k_ hk_ => ⟨hk_.1.2.1, hk_.1.2.2, fun e_ => Or.elim (ho0.1 k_ e_.symm) (fun hs_ => hk_.2.1 hs_) (fun hn_ => Nat.not_le.2 hk_.2.2 hn_)⟩)); have n1_ := aZ (Kd.R_mono (ok' := fun k_ => some k_ ≠ (.slice Ao49 x5_3.length co49 : Value).ownBlock ∧ k_ ≠ gb407 ∧ some k_ ≠ (v409 : Value).ownBlock) (Kd.R_keptB (HO_11.out) hkp (fun k_ hk_ hs_ => (hk_.2.1) hs_)) (fun k_ hk_ => ⟨hk_.1.1, hk_.1.2.2, fun e_ => Or.elim (ho0.1 k_ e_.symm) (fun hs_ => hk_.2.1 hs_) (fun hn_ => Nat.not_le.2 hk_.2.2 hn_)⟩)); have n2_ := aZ (blk_kept (by (with_reducible repeat (first | refine bN ?_ _ | refine bD ?_ | refine bA ?_ _)); exact BK388.out) hkp (fun hs_ => (fun e_ => (Kd.R_ne HO_10.out BK388.out (by decide)) e_) hs_)); have n3_ := aZ (blk_kept (by (with_reducible repeat (first | refine bN ?_ _ | refine bD ?_ | refine bA ?_ _)); exact BK389.out) hkp (fun hs_ => (fun e_ => (Kd.R_ne HO_10.out BK389.out (by decide)) e_) hs_)); have n4_ := aZ (blk_kept (by (with_reducible repeat (first | refine bN ?_ _ | refine bD ?_ | refine bA ?_ _)); exact BK392.out) hkp (fun hs_ => (fun e_ => (Kd.R_ne HO_10.out BK392.out (by decide)) e_) hs_)); have n5_ := aZ (blk_kept (by (with_reducible repeat (first | refine bN ?_ _ | refine bD ?_ | refine bA ?_ _)); exact BK407.out) hkp (fun hs_ => (fun e_ => (Kd.R_away HO_10.out (fun _ hk => hk.2.2)) e_) hs_)); have n6_ := aZ (Kd.R_mono (ok' := fun k_ => some k_ ≠ (.slice Ao49 x5_3.length co49 : Value).ownBlock ∧ some k_ ≠ (u11 : Value).ownBlock ∧ k_ ≠ gb407) ho0 (fun k_ hk_ => ⟨Or.elim hk_ (fun hs_ => fun e_ => (((HO_5.out).1 k_ e_.symm).1) hs_) (fun hn_ => (Kd.fresh' (Kd.R_lt (by (with_reducible repeat (first | apply Kd.rA | apply Kd.rN | apply Kd.rD)); exact HO_5.out)) k_ hn_)), Or.elim hk_ (fun hs_ => fun e_ => (((HO_11.out).1 k_ e_.symm).2.1) hs_) (fun hn_ => (Kd.fresh' (Kd.R_lt (by (with_reducible repeat (first | apply Kd.rA | apply Kd.rN | apply Kd.rD)); exact HO_11.out)) k_ hn_)), Or.elim hk_ (fun hs_ => fun e_ => (Kd.R_away HO_10.out (fun _ hk => hk.2.2)) (by rw [← e_]; exact hs_)) (fun hn_ => (Kd.freshB (g := gb407) (o := .cells #[.int .i64 t405] 3 (0, 0)) (by (with_reducible repeat (first | refine bN ?_ _ | refine bD ?_ | refine bA ?_ _)); exact BK407.out) k_ hn_))⟩)); have n7_ := aZ (hb); clear HO_5; clear HO_11; clear BK388; clear BK389; clear BK392; clear BK407; clear HB; clear HO_10; have HO_5 := n0_; have HO_11 := n1_; have BK388 := n2_; have BK389 := n3_; have BK392 := n4_; have BK407 := n5_; have HO410 := n6_; have HB := n7_; clear n0_ n1_ n2_ n3_ n4_ n5_ n6_ n7_; (try clear hb); (try clear hkp); (try clear ho0); have hcz75_0 : w74.cell? ⟨gb407, 0, none⟩ = some (.int .i64 t405) := (blk_cell BK407.out 0).trans rfl; have hfz75_0 := blk_frozen BK407.out 0) | ((with_reducible refine gate_builtin (b := .append) (xs := #[.tmp 70, .tmp 72]) rfl ?_); at_builtin; refine Kd.R_append (Kd.int .i64) (w0 := w) w.heap.size rfl (.tmp 70) (.tmp 72) 23 3 (.int .i64 0) 8 rfl Try.underlying23 info3 rfl (by decide) (by omega) u11 x11_3 t405 [.int .i64 t405] (fun k_ => some k_ ≠ (.slice Ao49 x5_3.length co49 : Value).ownBlock ∧ some k_ ≠ (v409 : Value).ownBlock ∧ k_ ≠ gb407) (fun _ => False) rfl rfl ?aP (fun _ hk => hk.elim) ?aF ?aO ?aB ?aS ?aL ?_; (case aP => exact rfl); (case aB => exact (by repeat (first | (with_reducible first | exact HB.out | apply lA | apply lN | apply lD | refine lS ?_ GE388.out | refine lS ?_ GE389.out | refine lS ?_ GE392.out | refine lS ?_ GE407.out) | exact HB.out))); (case aF => exact (fun k_ hk => ⟨Kd.fresh' (Kd.R_lt (by (with_reducible repeat (first | apply Kd.rA | apply Kd.rN | apply Kd.rD)); exact HO_5.out)) k_ hk, Kd.fresh' (Kd.R_lt (by (with_reducible repeat (first | apply Kd.rA | apply Kd.rN | apply Kd.rD)); exact HO410.out)) k_ hk, Kd.freshB (g := gb407) (o := .cells #[.int .i64 t405] 3 (0, 0)) (by (with_reducible repeat (first | refine bN ?_ _ | refine bD ?_ | refine bA ?_ _)); exact BK407.out) k_ hk⟩)); (case aO => exact (by (with_reducible repeat (first | apply Kd.rA | apply Kd.rN | apply Kd.rD)); exact Kd.R_mono HO_11.out (fun _ hk => ⟨hk.1, ⟨hk.2.2, hk.2.1⟩⟩))); (case aS => exact (lZ (by repeat (first | (with_reducible first | exact HB.out | apply lA | apply lN | apply lD | refine lS ?_ GE388.out | refine lS ?_ GE389.out | refine lS ?_ GE392.out | refine lS ?_ GE407.out) | exact HB.out)))); (case aL => have := LMc59.out; omega); intro v412 w76 ho hb hg hat; rw [← Ny411.out] at ho; have n0_ := aZ (Kd.R_after (ok := (fun k_ => some k_ ≠ (v409 : Value).ownBlock ∧ k_ ≠ gb407)) (by (with_reducible repeat (first | apply Kd.rA | apply Kd.rN | apply Kd.rD)); exact Kd.R_mono HO_5.out (fun _ hk => ⟨⟨hk.2.2, hk.2.1⟩, hk.1⟩)) hg hat); have n1_ := aZ (blk_grown (g := gb388) (o := .cells #[.slice A0 l0.length c0] 22 (0, 0)) (by (with_reducible repeat (first | refine bN ?_ _ | refine bD ?_ | refine bA ?_ _)); exact BK388.out) hg (Kd.R_ne HO_11.out BK388.out (by decide))); have n2_ := aZ (blk_grown (g := gb389) (o := .cells #[.int .i64 0, .int .i64 0] 26 (0, 0)) (by (with_reducible repeat (first | refine bN ?_ _ | refine bD ?_ | refine bA ?_ _)); exact BK389.out) hg (Kd.R_ne HO_11.out BK389.out (by decide))); have n3_ := aZ (blk_grown (g := gb392) (o := .cells #[.int .i64 t390, .int .i64 t391] 26 (0, 0)) (by (with_reducible repeat (first | refine bN ?_ _ | refine bD ?_ | refine bA ?_ _)); exact BK392.out) hg (Kd.R_ne HO_11.out BK392.out (by decide))); have n4_ := aZ (blk_grown (g := gb407) (o := .cells #[.int .i64 t405] 3 (0, 0)) (by (with_reducible repeat (first | refine bN ?_ _ | refine bD ?_ | refine bA ?_ _)); exact BK407.out) hg (Kd.R_away HO_11.out (fun _ hk => hk.2.1))); have n5_ := aZ (Kd.R_after (ok := (fun k_ => some k_ ≠ (.slice Ao49 x5_3.length co49 : Value).ownBlock ∧ k_ ≠ gb407)) (by (with_reducible repeat (first | apply Kd.rA | apply Kd.rN | apply Kd.rD)); exact Kd.R_mono HO410.out (fun _ hk => ⟨⟨hk.1, hk.2.2⟩, hk.2.1⟩)) hg hat); have n6_ := aZ (hb); have n7_ := aZ (ho); clear HO_5; clear BK388; clear BK389; clear BK392; clear BK407; clear HO410; clear HB; clear HO_11; have HO_5 := n0_; have BK388 := n1_; have BK389 := n2_; have BK392 := n3_; have BK407 := n4_; have HO410 := n5_; have HB := n6_; have HO413 := n7_; clear n0_ n1_ n2_ n3_ n4_ n5_ n6_ n7_; clear ho hb hg hat; have hcz77_0 : w76.cell? ⟨gb388, 0, none⟩ = some (.slice A0 l0.length c0) := (blk_cell BK388.out 0).trans rfl; have hfz77_0 := blk_frozen BK388.out 0; have hcz78_0 : w76.cell? ⟨gb407, 0, none⟩ = some (.int .i64 t405) := (blk_cell BK407.out 0).trans rfl; have hfz78_0 := blk_frozen BK407.out 0; have p414 : 0 ≤ (t405 : Int) := of_decide_eq_true (by first | (with_reducible assumption) | assumption); have q414 : t405 < (l0.length : Int) := of_decide_eq_true (by first | (with_reducible assumption) | assumption); obtain ⟨ad414, A414_0, c414_0, e414, hx414_0, hx414_1, hx414_2, hx414_3, hx414_4, hl414_0, hi414_0⟩ := at_T49 HR0.out t405 p414 q414; cases e414; replace hx414_0 := (HB.out.cell (World.block_lt_of_cell? w _ hx414_0)).trans hx414_0; replace hx414_1 := (HB.out.cell (World.block_lt_of_cell? w _ hx414_1)).trans hx414_1; replace hx414_2 := (HB.out.cell (World.block_lt_of_cell? w _ hx414_2)).trans hx414_2; replace hx414_3 := (HB.out.cell (World.block_lt_of_cell? w _ hx414_3)).trans hx414_3; replace hx414_4 := (HB.out.cell (World.block_lt_of_cell? w _ hx414_4)).trans hx414_4; have HR414_0 := aZ hi414_0; have HC414_0 := aZ hl414_0; clear hi414_0 hl414_0; replace p414 := eq_true p414; replace q414 := eq_true q414))
        go_loopg [10, 80] k3 (fun kq v10 v80 w' => ∃ (x5_4 : List Int) (x10_4 : List Int) (x80_4 : Int), v80 = .int .i64 x80_4 ∧ Aside0 (history_Order.l4 kq x5_4 x10_4 y411 ((rd_T49 l0 t405).f0) (((rd_T49 l0 t405).f0).length : Int) x80_4 l0 = some (r1, r2, r3)) ∧ Aside0 (kq ≤ k3) ∧ Aside0 (Kd.R (Kd.int .i64) 3 w' w.heap.size (fun k_ => some k_ ≠ (v10 : Value).ownBlock ∧ some k_ ≠ (v412 : Value).ownBlock ∧ k_ ≠ gb407) (.slice Ao49 x5_3.length co49) x5_4) ∧ Aside0 (Kd.R (Kd.int .i64) 3 w' w.heap.size (fun k_ => some k_ ≠ ((.slice Ao49 x5_3.length co49) : Value).ownBlock ∧ some k_ ≠ (v412 : Value).ownBlock ∧ k_ ≠ gb407) v10 x10_4) ∧ Aside0 (Kd.R (Kd.int .i64) 3 w' w.heap.size (fun k_ => some k_ ≠ ((.slice Ao49 x5_3.length co49) : Value).ownBlock ∧ some k_ ≠ (v10 : Value).ownBlock ∧ k_ ≠ gb407) v412 y411) ∧ Aside0 (w'.heap[gb388]? = some (.cells #[(.slice (some ad414) l0.length c0)] 22 (0, 0))) ∧ Aside0 (w'.heap[gb389]? = some (.cells #[.int .i64 0, .int .i64 0] 26 (0, 0))) ∧ Aside0 (w'.heap[gb392]? = some (.cells #[.int .i64 t390, .int .i64 t391] 26 (0, 0))) ∧ Aside0 (w'.heap[gb407]? = some (.cells #[.int .i64 t405] 3 (0, 0))) ∧ Aside0 (Below w.heap.size w w'))
        case atStart => exact ⟨(x5_3), (t408), (0), (by first | rfl | (simp; done) | (simp [*]; done) | (simp [i64_w]; done)), H', ⟨Nat.le_refl _⟩, ⟨by (try simp only [hl5_3]); (with_reducible repeat (first | apply Kd.rA | apply Kd.rN | apply Kd.rD)); exact Kd.R_mono HO_5.out (fun _ hk => ⟨hk.1.1, ⟨hk.2, hk.1.2⟩⟩)⟩, ⟨by (try simp only [hl5_3]); (with_reducible repeat (first | apply Kd.rA | apply Kd.rN | apply Kd.rD)); exact Kd.R_mono HO410.out (fun _ hk => ⟨hk.1.1, ⟨hk.2, hk.1.2⟩⟩)⟩, ⟨by (try simp only [hl5_3]); (with_reducible repeat (first | apply Kd.rA | apply Kd.rN | apply Kd.rD)); exact HO413.out⟩, ⟨by (try simp only [hl5_3]); (with_reducible repeat (first | refine bN ?_ _ | refine bD ?_ | refine bA ?_ _)); exact BK388.out⟩, ⟨by (try simp only [hl5_3]); (with_reducible repeat (first | refine bN ?_ _ | refine bD ?_ | refine bA ?_ _)); exact BK389.out⟩, ⟨by (try simp only [hl5_3]); (with_reducible repeat (first | refine bN ?_ _ | refine bD ?_ | refine bA ?_ _)); exact BK392.out⟩, ⟨by (try simp only [hl5_3]); (with_reducible repeat (first | refine bN ?_ _ | refine bD ?_ | refine bA ?_ _)); exact BK407.out⟩, ⟨by repeat (first | (with_reducible first | exact HB.out | apply lA | apply lN | apply lD | refine lS ?_ GE388.out | refine lS ?_ GE389.out | refine lS ?_ GE392.out | refine lS ?_ GE407.out) | exact HB.out)⟩⟩
        case round =>
         clear H'
         (try clear c56); (try clear c56b0); (try clear c56b1); (try clear c59); (try clear c60); (try clear c60b0); (try clear c61); (try clear c61b0); (try clear hcz65_0); (try clear hcz71_0); (try clear hcz73_0); (try clear hcz75_0); (try clear hcz77_0); (try clear hcz78_0); (try clear hfz65_0); (try clear hfz71_0); (try clear hfz73_0); (try clear hfz75_0); (try clear hfz77_0); (try clear hfz78_0); (try clear hx414_0); (try clear hx414_1); (try clear hx414_2); (try clear hx414_3); (try clear hx414_4); (try clear p414); (try clear q414)
         obtain ⟨x5_4, x10_4, x80_4, rfl, HA, HK4, HO_5, HO_10, HO_11, BK388, BK389, BK392, BK407, HB⟩ := hrel
         have hl5_4 := (Kd.R_reads' HO_5.out).1
         rw [hl5_4] at HO_5
         (try simp only [hl5_4])
         (try simp only [hl5_4] at BK388)
         (try simp only [hl5_4] at BK389)
         (try simp only [hl5_4] at BK392)
         (try simp only [hl5_4] at BK407)
         (try simp only [hl5_4] at HO_10)
         (try simp only [hl5_4] at HO_11)
         cases gk with
         | zero => exact absurd HA.out (by simp [history_Order.l4])
         | succ k4 =>
          have H := HA.out
          clear HA
          simp only [history_Order.l4] at H
          by_cases c79 : x80_4 < (((rd_T49 l0 t405).f0).length : Int)
          rotate_left
          · rw [if_neg c79] at H
            have c79b0 : decide (x80_4 < (((rd_T49 l0 t405).f0).length : Int)) = false := decide_eq_false c79
            (try (have c79b0z5_3 := c79b0; simp only [hl5_3] at c79b0z5_3))
            (try (have c79b0z5_4 := c79b0; simp only [hl5_4] at c79b0z5_4))
            clear c79
            have H' := aZ H
            clear H
            go_wp2
            (try simp only [← hl5_3, ← hl5_4])
            go_roundg k4
            case measure => have := HK1.out; have := HK2.out; have := HK3.out; have := HK4.out; omega
            case rel => exact ⟨(x5_4), (x10_4), (y411), H', ⟨by have := HK1.out; have := HK2.out; have := HK3.out; have := HK4.out; omega⟩, ⟨by (try simp only [hl5_3]); (try simp only [hl5_4]); (with_reducible repeat (first | apply Kd.rA | apply Kd.rN | apply Kd.rD)); exact Kd.R_mono HO_5.out (fun _ hk => ⟨hk.1, hk.2.1⟩)⟩, ⟨by (try simp only [hl5_3]); (try simp only [hl5_4]); (with_reducible repeat (first | apply Kd.rA | apply Kd.rN | apply Kd.rD)); exact Kd.R_mono HO_10.out (fun _ hk => ⟨hk.1, hk.2.1⟩)⟩, ⟨by (try simp only [hl5_3]); (try simp only [hl5_4]); (with_reducible repeat (first | apply Kd.rA | apply Kd.rN | apply Kd.rD)); exact Kd.R_mono HO_11.out (fun _ hk => ⟨hk.1, hk.2.1⟩)⟩, ⟨by (try simp only [hl5_3]); (try simp only [hl5_4]); (with_reducible repeat (first | refine bN ?_ _ | refine bD ?_ | refine bA ?_ _)); exact BK388.out⟩, ⟨by (try simp only [hl5_3]); (try simp only [hl5_4]); (with_reducible repeat (first | refine bN ?_ _ | refine bD ?_ | refine bA ?_ _)); exact BK389.out⟩, ⟨by (try simp only [hl5_3]); (try simp only [hl5_4]); (with_reducible repeat (first | refine bN ?_ _ | refine bD ?_ | refine bA ?_ _)); exact BK392.out⟩, ⟨by repeat (first | (with_reducible first | exact HB.out | apply lA | apply lN | apply lD | refine lS ?_ GE388.out | refine lS ?_ GE389.out | refine lS ?_ GE392.out | refine lS ?_ GE407.out) | exact HB.out)⟩⟩
          rw [if_pos c79] at H
          have c79b0 : decide (x80_4 < (((rd_T49 l0 t405).f0).length : Int)) = true := decide_eq_true c79
          (try (have c79b0z5_3 := c79b0; simp only [hl5_3] at c79b0z5_3))
          (try (have c79b0z5_4 := c79b0; simp only [hl5_4] at c79b0z5_4))
          clear c79
          by_cases c80 : 0 ≤ x80_4
          rotate_left
          · rw [if_neg c80] at H
            exact absurd H (by simp)
          rw [if_pos c80] at H
          have c80b0 : decide (0 ≤ x80_4) = true := decide_eq_true c80
          clear c80
          by_cases c81 : x80_4 < (((rd_T49 l0 t405).f0).length : Int)
          rotate_left
          · rw [if_neg c81] at H
            exact absurd H (by simp)
          rw [if_pos c81] at H
          have c81b0 : decide (x80_4 < (((rd_T49 l0 t405).f0).length : Int)) = true := decide_eq_true c81
          (try (have c81b0z5_3 := c81b0; simp only [hl5_3] at c81b0z5_3))
          (try (have c81b0z5_4 := c81b0; simp only [hl5_4] at c81b0z5_4))
          clear c81
          by_cases c82 : 0 ≤ (rd ((rd_T49 l0 t405).f0) x80_4)
          rotate_left
          · rw [if_neg c82] at H
            exact absurd H (by simp)
          rw [if_pos c82] at H
          have c82b0 : decide (0 ≤ (rd ((rd_T49 l0 t405).f0) x80_4)) = true := decide_eq_true c82
          clear c82
          by_cases c83 : (rd ((rd_T49 l0 t405).f0) x80_4) < (x5_4.length : Int)
          rotate_left
          · rw [if_neg c83] at H
            exact absurd H (by simp)
          rw [if_pos c83] at H
          have c83b0 : decide ((rd ((rd_T49 l0 t405).f0) x80_4) < (x5_4.length : Int)) = true := decide_eq_true c83
          (try (have c83b0z5_3 := c83b0; simp only [hl5_3] at c83b0z5_3))
          (try (have c83b0z5_4 := c83b0; simp only [hl5_4] at c83b0z5_4))
          clear c83
          obtain ⟨y417, hy417⟩ : ∃ y_ : List Int, y_ = (x5_4.set ((rd ((rd_T49 l0 t405).f0) x80_4) : Int).toNat (wrap64 ((rd x5_4 (rd ((rd_T49 l0 t405).f0) x80_4)) - 1))) := ⟨_, rfl⟩
          replace H : (if (rd y417 (rd ((rd_T49 l0 t405).f0) x80_4)) = 0 then (if x10_4.length < 17592186044416 then (history_Order.l4 k4 y417 (x10_4 ++ [rd ((rd_T49 l0 t405).f0) x80_4]) y411 ((rd_T49 l0 t405).f0) (((rd_T49 l0 t405).f0).length : Int) (wrap64 (x80_4 + 1)) l0) else (none)) else (history_Order.l4 k4 y417 x10_4 y411 ((rd_T49 l0 t405).f0) (((rd_T49 l0 t405).f0).length : Int) (wrap64 (x80_4 + 1)) l0)) = some (r1, r2, r3) := by first | (rw [hy417]; with_reducible exact H) | (have H2_ := (Option.bind_some _ _).symm.trans H; rw [hy417]; with_reducible exact H2_) | (have H2_ := (Option.bind_some _ _).symm.trans H; with_reducible exact H2_) | with_reducible exact H | (rw [hy417]; exact H) | exact H
          have Ny417 := aZ hy417
          clear hy417
          by_cases c85 : (rd y417 (rd ((rd_T49 l0 t405).f0) x80_4)) = 0
          rotate_left
          · rw [if_neg c85] at H
            have c85b0 : ((rd y417 (rd ((rd_T49 l0 t405).f0) x80_4)) == 0) = false := beq_eq_false_iff_ne.mpr c85
            have c85b1 : ((rd y417 (rd ((rd_T49 l0 t405).f0) x80_4)) != 0) = true := bne_iff_ne.mpr c85
            have H' := aZ H
            clear H
            have p415 : 0 ≤ (x80_4 : Int) := of_decide_eq_true (by first | (with_reducible assumption) | assumption)
            have q415 : x80_4 < (((rd_T49 l0 t405).f0).length : Int) := of_decide_eq_true (by first | (with_reducible assumption) | assumption)
            obtain ⟨ad415, e415, hx415_0⟩ := Kd.at_int HR414_0.out x80_4 p415 q415
            cases e415
            replace hx415_0 := (HB.out.cell (World.block_lt_of_cell? w _ hx415_0)).trans hx415_0
            replace p415 := eq_true p415
            replace q415 := eq_true q415
            have p416 : 0 ≤ ((rd ((rd_T49 l0 t405).f0) x80_4) : Int) := of_decide_eq_true (by first | (with_reducible assumption) | assumption)
            have q416 : (rd ((rd_T49 l0 t405).f0) x80_4) < (x5_4.length : Int) := of_decide_eq_true (by first | (with_reducible assumption) | assumption)
            obtain ⟨ad416, e416, hx416_0⟩ := Kd.at_int (Kd.R_reads' HO_5.out).2.2 (rd ((rd_T49 l0 t405).f0) x80_4) p416 q416
            cases e416
            replace p416 := eq_true p416
            replace q416 := eq_true q416
            have p84 : 0 ≤ ((rd ((rd_T49 l0 t405).f0) x80_4) : Int) := of_decide_eq_true (by first | (with_reducible assumption) | assumption)
            have q84 : ((rd ((rd_T49 l0 t405).f0) x80_4) : Int) < ((x5_4.length : Int) : Int) := of_decide_eq_true (by first | (with_reducible assumption) | assumption)
            obtain ⟨go84, co84, eo84, gb84, gl84, cl84, HG84⟩ := Kd.R_form HO_5.out (by omega)
            (first | cases eo84 | (injection eo84 with ea_ en_ ec_; (first | subst ea_ | (injection ea_ with ea_; subst ea_)); subst ec_; clear en_))
            have GB84 := aZ gb84
            have GG84 := aZ HG84
            clear gb84 gl84 HG84
            (first | simp only [add_plain] at hx416_0 | skip)
            obtain ⟨hx84_0, hf84_0⟩ := Kd.R_celln 0 HO_5.out ((rd ((rd_T49 l0 t405).f0) x80_4) : Int) p84 q84
            replace p84 := eq_true p84
            replace q84 := eq_true q84
            have HP90 := Kd.R_putg HO_5.out ((rd ((rd_T49 l0 t405).f0) x80_4) : Int) (wrap64 ((rd x5_4 (rd ((rd_T49 l0 t405).f0) x80_4)) - 1))
            go_wp2_with (first | ((with_reducible refine gate_store (t := 3) (p := 89) rfl ?_); refine store_event (t := 3) (p := 89) (v := ?vo_w91) (w1 := (wr.setCell ⟨go84, ((rd ((rd_T49 l0 t405).f0) x80_4) : Int).toNat, none⟩ (.int .i64 (wrap64 ((rd x5_4 (rd ((rd_T49 l0 t405).f0) x80_4)) - 1))))) ?hg ?ho ?hn ?hr ?_; (case ho => rfl); (case hg => rfl); (case hn => rfl); (case hr => first | (go_simp; done) | (go_simp; rfl)); intro w91 hw; have hg : wr.grownBy w91 (some go84) := (by rw [hw]; exact HP90.2); have hp_ : Kd.R (Kd.int .i64) 3 w91 w.heap.size (fun k_ => some k_ ≠ (u10 : Value).ownBlock ∧ some k_ ≠ (v412 : Value).ownBlock ∧ k_ ≠ gb407) (.slice (some ⟨go84, 0, none⟩) x5_4.length co49) y417 := (by rw [hw, Ny417.out]; exact HP90.1); clear HP90; have n0_ := aZ (hp_); have n1_ := aZ (Kd.R_after (v := (.slice (some ⟨go84, 0, none⟩) x5_4.length co49)) (v1 := (.slice (some ⟨go84, 0, none⟩) x5_4.length co49)) (ok := (fun k_ => some k_ ≠ (v412 : Value).ownBlock ∧ k_ ≠ gb407)) (by (with_reducible repeat (first | apply Kd.rA | apply Kd.rN | apply Kd.rD)); exact Kd.R_mono HO_10.out (fun _ hk => ⟨⟨hk.2.1, hk.2.2⟩, hk.1⟩)) hg (.inl rfl)); have n2_ := aZ (Kd.R_after (v := (.slice (some ⟨go84, 0, none⟩) x5_4.length co49)) (v1 := (.slice (some ⟨go84, 0, none⟩) x5_4.length co49)) (ok := (fun k_ => some k_ ≠ (u10 : Value).ownBlock ∧ k_ ≠ gb407)) (by (with_reducible repeat (first | apply Kd.rA | apply Kd.rN | apply Kd.rD)); exact Kd.R_mono HO_11.out (fun _ hk => ⟨⟨hk.2.1, hk.2.2⟩, hk.1⟩)) hg (.inl rfl)); have n3_ := aZ (blk_grown (g := gb388) (o := .cells #[.slice (some ad414) l0.length c0] 22 (0, 0)) (by (with_reducible repeat (first | refine bN ?_ _ | refine bD ?_ | refine bA ?_ _)); exact BK388.out) hg (Kd.R_ne HO_5.out BK388.out (by decide))); have n4_ := aZ (blk_grown (g := gb389) (o := .cells #[.int .i64 0, .int .i64 0] 26 (0, 0)) (by (with_reducible repeat (first | refine bN ?_ _ | refine bD ?_ | refine bA ?_ _)); exact BK389.out) hg (Kd.R_ne HO_5.out BK389.out (by decide))); have n5_ := aZ (blk_grown (g := gb392) (o := .cells #[.int .i64 t390, .int .i64 t391] 26 (0, 0)) (by (with_reducible repeat (first | refine bN ?_ _ | refine bD ?_ | refine bA ?_ _)); exact BK392.out) hg (Kd.R_ne HO_5.out BK392.out (by decide))); have n6_ := aZ (blk_grown (g := gb407) (o := .cells #[.int .i64 t405] 3 (0, 0)) (by (with_reducible repeat (first | refine bN ?_ _ | refine bD ?_ | refine bA ?_ _)); exact BK407.out) hg (Kd.R_away HO_5.out (fun _ hk => hk.2.2))); have n7_ := aZ ((by rw [hw]; exact lS (HB.out) GB84.out : Below w.heap.size w w91)); clear HO_5; clear HO_10; clear HO_11; clear BK388; clear BK389; clear BK392; clear BK407; clear HB; have HO_5 := n0_; have HO_10 := n1_; have HO_11 := n2_; have BK388 := n3_; have BK389 := n4_; have BK392 := n5_; have BK407 := n6_; have HB := n7_; clear n0_ n1_ n2_ n3_ n4_ n5_ n6_ n7_; clear hg hw hp_; have p418 : 0 ≤ ((rd ((rd_T49 l0 t405).f0) x80_4) : Int) := of_decide_eq_true (by first | (with_reducible assumption) | assumption); have q418 : (rd ((rd_T49 l0 t405).f0) x80_4) < (y417.length : Int) := (by have h_ : ((rd ((rd_T49 l0 t405).f0) x80_4) : Int) < ((x5_4.length : Int) : Int) := of_decide_eq_true (by first | (with_reducible assumption) | assumption); first | (have e_ := (Kd.R_reads' HO_5.out).1; omega) | simpa only [Ny417.out, List.length_set] using h_); have ql418 : (((rd ((rd_T49 l0 t405).f0) x80_4) : Int) < ((x5_4.length : Int) : Int)) = True := eq_true (of_decide_eq_true (by first | (with_reducible assumption) | assumption)); obtain ⟨ad418, e418, hx418_0⟩ := Kd.at_int (Kd.R_reads' HO_5.out).2.2 (rd ((rd_T49 l0 t405).f0) x80_4) p418 q418; obtain rfl : (⟨go84, 0, none⟩ : Addr) = ad418 := (by injection e418); (first | simp only [add_plain] at hx418_0 | simp only [add_at] at hx418_0 | simp only [Addr.add, Nat.zero_add] at hx418_0 | skip); replace p418 := eq_true p418; replace q418 := eq_true q418))
            (try simp only [← hl5_4])
            go_roundg k4
            case measure => have := HK1.out; have := HK2.out; have := HK3.out; have := HK4.out; omega
            case rel => exact ⟨(y417), (x10_4), (wrap64 (x80_4 + 1)), (by first | rfl | (simp; done) | (simp [*]; done) | (simp [i64_w]; done)), H', ⟨by have := HK1.out; have := HK2.out; have := HK3.out; have := HK4.out; omega⟩, ⟨by (try simp only [hl5_3]); (try simp only [hl5_4]); (with_reducible repeat (first | apply Kd.rA | apply Kd.rN | apply Kd.rD)); exact HO_5.out⟩, ⟨by (try simp only [hl5_3]); (try simp only [hl5_4]); (with_reducible repeat (first | apply Kd.rA | apply Kd.rN | apply Kd.rD)); exact Kd.R_mono HO_10.out (fun _ hk => ⟨hk.2, ⟨hk.1.1, hk.1.2⟩⟩)⟩, ⟨by (try simp only [hl5_3]); (try simp only [hl5_4]); (with_reducible repeat (first | apply Kd.rA | apply Kd.rN | apply Kd.rD)); exact Kd.R_mono HO_11.out (fun _ hk => ⟨hk.2, ⟨hk.1.1, hk.1.2⟩⟩)⟩, ⟨by (try simp only [hl5_3]); (try simp only [hl5_4]); (with_reducible repeat (first | refine bN ?_ _ | refine bD ?_ | refine bA ?_ _)); exact BK388.out⟩, ⟨by (try simp only [hl5_3]); (try simp only [hl5_4]); (with_reducible repeat (first | refine bN ?_ _ | refine bD ?_ | refine bA ?_ _)); exact BK389.out⟩, ⟨by (try simp only [hl5_3]); (try simp only [hl5_4]); (with_reducible repeat (first | refine bN ?_ _ | refine bD ?_ | refine bA ?_ _)); exact BK392.out⟩, ⟨by (try simp only [hl5_3]); (try simp only [hl5_4]); (with_reducible repeat (first | refine bN ?_ _ | refine bD ?_ | refine bA ?_ _)); exact BK407.out⟩, ⟨by repeat (first | (with_reducible first | exact HB.out | apply lA | apply lN | apply lD | refine lS ?_ GE388.out | refine lS ?_ GE389.out | refine lS ?_ GE392.out | refine lS ?_ GE407.out) | exact HB.out)⟩⟩
          rw [if_pos c85] at H
          have c85b0 : ((rd y417 (rd ((rd_T49 l0 t405).f0) x80_4)) == 0) = true := beq_iff_eq.mpr c85
          have c85b1 : ((rd y417 (rd ((rd_T49 l0 t405).f0) x80_4)) != 0) = false := bne_eq_false_iff_eq.mpr c85
          clear c85
          by_cases c86 : x10_4.length < 17592186044416
          rotate_left
          · rw [if_neg c86] at H
            exact absurd H (by simp)
          rw [if_pos c86] at H
          have LMc86 := aZ c86
          clear c86
          obtain ⟨y419, hy419⟩ : ∃ y_ : List Int, y_ = (x10_4 ++ [rd ((rd_T49 l0 t405).f0) x80_4]) := ⟨_, rfl⟩
          replace H : (history_Order.l4 k4 y417 y419 y411 ((rd_T49 l0 t405).f0) (((rd_T49 l0 t405).f0).length : Int) (wrap64 (x80_4 + 1)) l0) = some (r1, r2, r3) := by first | (rw [hy419]; with_reducible exact H) | (have H2_ := (Option.bind_some _ _).symm.trans H; rw [hy419]; with_reducible exact H2_) | (have H2_ := (Option.bind_some _ _).symm.trans H; with_reducible exact H2_) | with_reducible exact H | (rw [hy419]; exact H) | exact H
          have Ny419 := aZ hy419
          clear hy419
          have H' := aZ H
          clear H
          have p415 : 0 ≤ (x80_4 : Int) := of_decide_eq_true (by first | (with_reducible assumption) | assumption)
          have q415 : x80_4 < (((rd_T49 l0 t405).f0).length : Int) := of_decide_eq_true (by first | (with_reducible assumption) | assumption)
          obtain ⟨ad415, e415, hx415_0⟩ := Kd.at_int HR414_0.out x80_4 p415 q415
          cases e415
          replace hx415_0 := (HB.out.cell (World.block_lt_of_cell? w _ hx415_0)).trans hx415_0
          replace p415 := eq_true p415
          replace q415 := eq_true q415
          have p416 : 0 ≤ ((rd ((rd_T49 l0 t405).f0) x80_4) : Int) := of_decide_eq_true (by first | (with_reducible assumption) | assumption)
          have q416 : (rd ((rd_T49 l0 t405).f0) x80_4) < (x5_4.length : Int) := of_decide_eq_true (by first | (with_reducible assumption) | assumption)
          obtain ⟨ad416, e416, hx416_0⟩ := Kd.at_int (Kd.R_reads' HO_5.out).2.2 (rd ((rd_T49 l0 t405).f0) x80_4) p416 q416
          cases e416
          replace p416 := eq_true p416
          replace q416 := eq_true q416
          have p84 : 0 ≤ ((rd ((rd_T49 l0 t405).f0) x80_4) : Int) := of_decide_eq_true (by first | (with_reducible assumption) | assumption)
          have q84 : ((rd ((rd_T49 l0 t405).f0) x80_4) : Int) < ((x5_4.length : Int) : Int) := of_decide_eq_true (by first | (with_reducible assumption) | assumption)
          obtain ⟨go84, co84, eo84, gb84, gl84, cl84, HG84⟩ := Kd.R_form HO_5.out (by omega)
          (first | cases eo84 | (injection eo84 with ea_ en_ ec_; (first | subst ea_ | (injection ea_ with ea_; subst ea_)); subst ec_; clear en_))
          have GB84 := aZ gb84
          have GG84 := aZ HG84
          clear gb84 gl84 HG84
          (first | simp only [add_plain] at hx416_0 | skip)
          obtain ⟨hx84_0, hf84_0⟩ := Kd.R_celln 0 HO_5.out ((rd ((rd_T49 l0 t405).f0) x80_4) : Int) p84 q84
          replace p84 := eq_true p84
          replace q84 := eq_true q84
          have HP87 := Kd.R_putg HO_5.out ((rd ((rd_T49 l0 t405).f0) x80_4) : Int) (wrap64 ((rd x5_4 (rd ((rd_T49 l0 t405).f0) x80_4)) - 1))
          go_wp2_with (first | ((with_reducible refine gate_store (t := 3) (p := 89) rfl ?_); refine store_event (t := 3) (p := 89) (v := ?vo_w88) (w1 := (wr.setCell ⟨go84, ((rd ((rd_T49 l0 t405).f0) x80_4) : Int).toNat, none⟩ (.int .i64 (wrap64 ((rd x5_4 (rd ((rd_T49 l0 t405).f0) x80_4)) - 1))))) ?hg ?ho ?hn ?hr ?_; (case ho => rfl); (case hg => rfl); (case hn => rfl); (case hr => first | (go_simp; done) | (go_simp; rfl)); intro w88 hw; have hg : wr.grownBy w88 (some go84) := (by rw [hw]; exact HP87.2); have hp_ : Kd.R (Kd.int .i64) 3 w88 w.heap.size (fun k_ => some k_ ≠ (u10 : Value).ownBlock ∧ some k_ ≠ (v412 : Value).ownBlock ∧ k_ ≠ gb407) (.slice (some ⟨go84, 0, none⟩) x5_4.length co49) y417 := (by rw [hw, Ny417.out]; exact HP87.1); clear HP87; have n0_ := aZ (hp_); have n1_ := aZ (Kd.R_after (v := (.slice (some ⟨go84, 0, none⟩) x5_4.length co49)) (v1 := (.slice (some ⟨go84, 0, none⟩) x5_4.length co49)) (ok := (fun k_ => some k_ ≠ (v412 : Value).ownBlock ∧ k_ ≠ gb407)) (by (with_reducible repeat (first | apply Kd.rA | apply Kd.rN | apply Kd.rD)); exact Kd.R_mono HO_10.out (fun _ hk => ⟨⟨hk.2.1, hk.2.2⟩, hk.1⟩)) hg (.inl rfl)); have n2_ := aZ (Kd.R_after (v := (.slice (some ⟨go84, 0, none⟩) x5_4.length co49)) (v1 := (.slice (some ⟨go84, 0, none⟩) x5_4.length co49)) (ok := (fun k_ => some k_ ≠ (u10 : Value).ownBlock ∧ k_ ≠ gb407)) (by (with_reducible repeat (first | apply Kd.rA | apply Kd.rN | apply Kd.rD)); exact Kd.R_mono HO_11.out (fun _ hk => ⟨⟨hk.2.1, hk.2.2⟩, hk.1⟩)) hg (.inl rfl)); have n3_ := aZ (blk_grown (g := gb388) (o := .cells #[.slice (some ad414) l0.length c0] 22 (0, 0)) (by (with_reducible repeat (first | refine bN ?_ _ | refine bD ?_ | refine bA ?_ _)); exact BK388.out) hg (Kd.R_ne HO_5.out BK388.out (by decide))); have n4_ := aZ (blk_grown (g := gb389) (o := .cells #[.int .i64 0, .int .i64 0] 26 (0, 0)) (by (with_reducible repeat (first | refine bN ?_ _ | refine bD ?_ | refine bA ?_ _)); exact BK389.out) hg (Kd.R_ne HO_5.out BK389.out (by decide))); have n5_ := aZ (blk_grown (g := gb392) (o := .cells #[.int .i64 t390, .int .i64 t391] 26 (0, 0)) (by (with_reducible repeat (first | refine bN ?_ _ | refine bD ?_ | refine bA ?_ _)); exact BK392.out) hg (Kd.R_ne HO_5.out BK392.out (by decide))); have n6_ := aZ (blk_grown (g := gb407) (o := .cells #[.int .i64 t405] 3 (0, 0)) (by (with_reducible repeat (first | refine bN ?_ _ | refine bD ?_ | refine bA ?_ _)); exact BK407.out) hg (Kd.R_away HO_5.out (fun _ hk => hk.2.2))); have n7_ := aZ ((by rw [hw]; exact lS (HB.out) GB84.out : Below w.heap.size w w88)); clear HO_5; clear HO_10; clear HO_11; clear BK388; clear BK389; clear BK392; clear BK407; clear HB; have HO_5 := n0_; have HO_10 := n1_; have HO_11 := n2_; have BK388 := n3_; have BK389 := n4_; have BK392 := n5_; have BK407 := n6_; have HB := n7_; clear n0_ n1_ n2_ n3_ n4_ n5_ n6_ n7_; clear hg hw hp_; have p418 : 0 ≤ ((rd ((rd_T49 l0 t405).f0) x80_4) : Int) := of_decide_eq_true (by first | (with_reducible assumption) | assumption); have q418 : (rd ((rd_T49 l0 t405).f0) x80_4) < (y417.length : Int) := (by have h_ : ((rd ((rd_T49 l0 t405).f0) x80_4) : Int) < ((x5_4.length : Int) : Int) := of_decide_eq_true (by first | (with_reducible assumption) | assumption); first | (have e_ := (Kd.R_reads' HO_5.out).1; omega) | simpa only [Ny417.out, List.length_set] using h_); have ql418 : (((rd ((rd_T49 l0 t405).f0) x80_4) : Int) < ((x5_4.length : Int) : Int)) = True := eq_true (of_decide_eq_true (by first | (with_reducible assumption) | assumption)); obtain ⟨ad418, e418, hx418_0⟩ := Kd.at_int (Kd.R_reads' HO_5.out).2.2 (rd ((rd_T49 l0 t405).f0) x80_4) p418 q418; obtain rfl : (⟨go84, 0, none⟩ : Addr) = ad418 := (by injection e418); (first | simp only [add_plain] at hx418_0 | simp only [add_at] at hx418_0 | simp only [Addr.add, Nat.zero_add] at hx418_0 | skip); replace p418 := eq_true p418; replace q418 := eq_true q418) | ((with_reducible refine gate_builtin (b := .append) (xs := #[.tmp 95, .tmp 97]) rfl ?_); at_builtin; refine Kd.R_append (Kd.int .i64) (w0 := w) w.heap.size rfl (.tmp 95) (.tmp 97) 23 3 (.int .i64 0) 8 rfl Try.underlying23 info3 rfl (by decide) (by omega) u10 x10_4 (rd ((rd_T49 l0 t405).f0) x80_4) [.int .i64 (rd ((rd_T49 l0 t405).f0) x80_4)] (fun k_ => some k_ ≠ (.slice (some ⟨go84, 0, none⟩) x5_4.length co49 : Value).ownBlock ∧ some k_ ≠ (v412 : Value).ownBlock ∧ k_ ≠ gb407) (fun _ => False) rfl rfl ?aP (fun _ hk => hk.elim) ?aF ?aO ?aB ?aS ?aL ?_; (case aP => exact rfl); (case aB => exact (by repeat (first | (with_reducible first | exact HB.out | apply lA | apply lN | apply lD | refine lS ?_ GE388.out | refine lS ?_ GE389.out | refine lS ?_ GE392.out | refine lS ?_ GE407.out) | exact HB.out))); (case aF => exact (fun k_ hk => ⟨Kd.fresh' (Kd.R_lt (by (with_reducible repeat (first | apply Kd.rA | apply Kd.rN | apply Kd.rD)); exact HO_5.out)) k_ hk, Kd.fresh' (Kd.R_lt (by (with_reducible repeat (first | apply Kd.rA | apply Kd.rN | apply Kd.rD)); exact HO_11.out)) k_ hk, Kd.freshB (g := gb407) (o := .cells #[.int .i64 t405] 3 (0, 0)) (by (with_reducible repeat (first | refine bN ?_ _ | refine bD ?_ | refine bA ?_ _)); exact BK407.out) k_ hk⟩)); (case aO => exact (by (with_reducible repeat (first | apply Kd.rA | apply Kd.rN | apply Kd.rD)); exact Kd.R_mono HO_10.out (fun _ hk => ⟨hk.2, ⟨hk.1.1, hk.1.2⟩⟩))); (case aS => exact (lZ (by repeat (first | (with_reducible first | exact HB.out | apply lA | apply lN | apply lD | refine lS ?_ GE388.out | refine lS ?_ GE389.out | refine lS ?_ GE392.out | refine lS ?_ GE407.out) | exact HB.out)))); (case aL => have := LMc86.out; omega); intro v420 w89 ho hb hg hat; rw [← Ny419.out] at ho; have n0_ := aZ (Kd.R_after (ok := (fun k_ => some k_ ≠ (v412 : Value).ownBlock ∧ k_ ≠ gb407)) (by (with_reducible repeat (first | apply Kd.rA | apply Kd.rN | apply Kd.rD)); exact Kd.R_mono HO_5.out (fun _ hk => ⟨⟨hk.2.1, hk.2.2⟩, hk.1⟩)) hg hat); have n1_ := aZ (Kd.R_after (ok := (fun k_ => some k_ ≠ (.slice (some ⟨go84, 0, none⟩) x5_4.length co49 : Value).ownBlock ∧ k_ ≠ gb407)) (by (with_reducible repeat (first | apply Kd.rA | apply Kd.rN | apply Kd.rD)); exact Kd.R_mono HO_11.out (fun _ hk => ⟨⟨hk.2, hk.1.2⟩, hk.1.1⟩)) hg hat); have n2_ := aZ (blk_grown (g := gb388) (o := .cells #[.slice (some ad414) l0.length c0] 22 (0, 0)) (by (with_reducible repeat (first | refine bN ?_ _ | refine bD ?_ | refine bA ?_ _)); exact BK388.out) hg (Kd.R_ne HO_10.out BK388.out (by decide))); have n3_ := aZ (blk_grown (g := gb389) (o := .cells #[.int .i64 0, .int .i64 0] 26 (0, 0)) (by (with_reducible repeat (first | refine bN ?_ _ | refine bD ?_ | refine bA ?_ _)); exact BK389.out) hg (Kd.R_ne HO_10.out BK389.out (by decide))); have n4_ := aZ (blk_grown (g := gb392) (o := .cells #[.int .i64 t390, .int .i64 t391] 26 (0, 0)) (by (with_reducible repeat (first | refine bN ?_ _ | refine bD ?_ | refine bA ?_ _)); exact BK392.out) hg (Kd.R_ne HO_10.out BK392.out (by decide))); have n5_ := aZ (blk_grown (g := gb407) (o := .cells #[.int .i64 t405] 3 (0, 0)) (by (with_reducible repeat (first | refine bN ?_ _ | refine bD ?_ | refine bA ?_ _)); exact BK407.out) hg (Kd.R_away HO_10.out (fun _ hk => hk.1.2))); have n6_ := aZ (hb); have n7_ := aZ (ho); clear HO_5; clear HO_11; clear BK388; clear BK389; clear BK392; clear BK407; clear HB; clear HO_10; have HO_5 := n0_; have HO_11 := n1_; have BK388 := n2_; have BK389 := n3_; have BK392 := n4_; have BK407 := n5_; have HB := n6_; have HO421 := n7_; clear n0_ n1_ n2_ n3_ n4_ n5_ n6_ n7_; clear ho hb hg hat))
          (try simp only [← hl5_4])
          go_roundg k4
          case measure => have := HK1.out; have := HK2.out; have := HK3.out; have := HK4.out; omega
          case rel => exact ⟨(y417), (y419), (wrap64 (x80_4 + 1)), (by first | rfl | (simp; done) | (simp [*]; done) | (simp [i64_w]; done)), H', ⟨by have := HK1.out; have := HK2.out; have := HK3.out; have := HK4.out; omega⟩, ⟨by (try simp only [hl5_3]); (try simp only [hl5_4]); (with_reducible repeat (first | apply Kd.rA | apply Kd.rN | apply Kd.rD)); exact Kd.R_mono HO_5.out (fun _ hk => ⟨hk.2, ⟨hk.1.1, hk.1.2⟩⟩)⟩, ⟨by (try simp only [hl5_3]); (try simp only [hl5_4]); (with_reducible repeat (first | apply Kd.rA | apply Kd.rN | apply Kd.rD)); exact HO421.out⟩, ⟨by (try simp only [hl5_3]); (try simp only [hl5_4]); (with_reducible repeat (first | apply Kd.rA | apply Kd.rN | apply Kd.rD)); exact Kd.R_mono HO_11.out (fun _ hk => ⟨hk.1.1, ⟨hk.2, hk.1.2⟩⟩)⟩, ⟨by (try simp only [hl5_3]); (try simp only [hl5_4]); (with_reducible repeat (first | refine bN ?_ _ | refine bD ?_ | refine bA ?_ _)); exact BK388.out⟩, ⟨by (try simp only [hl5_3]); (try simp only [hl5_4]); (with_reducible repeat (first | refine bN ?_ _ | refine bD ?_ | refine bA ?_ _)); exact BK389.out⟩, ⟨by (try simp only [hl5_3]); (try simp only [hl5_4]); (with_reducible repeat (first | refine bN ?_ _ | refine bD ?_ | refine bA ?_ _)); exact BK392.out⟩, ⟨by (try simp only [hl5_3]); (try simp only [hl5_4]); (with_reducible repeat (first | refine bN ?_ _ | refine bD ?_ | refine bA ?_ _)); exact BK407.out⟩, ⟨by repeat (first | (with_reducible first | exact HB.out | apply lA | apply lN | apply lD | refine lS ?_ GE388.out | refine lS ?_ GE389.out | refine lS ?_ GE392.out | refine lS ?_ GE407.out) | exact HB.out)⟩⟩
end Go.Proofs.Ytojhnjgnpjoacaa.P
