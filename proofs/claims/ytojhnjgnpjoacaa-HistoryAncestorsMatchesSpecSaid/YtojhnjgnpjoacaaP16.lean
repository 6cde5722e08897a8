/- What the Go functions of this seat compute, and that they do: printed by a program over the kit's print. -/
import Derived.Test.YtojhnjgnpjoacaaP0
import Derived.Test.YtojhnjgnpjoacaaP1
import Derived.Test.YtojhnjgnpjoacaaP2
import Derived.Test.YtojhnjgnpjoacaaP3
import Derived.Test.YtojhnjgnpjoacaaP6
import Derived.Test.YtojhnjgnpjoacaaP7
import Derived.Test.YtojhnjgnpjoacaaP8
import Derived.Test.YtojhnjgnpjoacaaP14
import Derived.Test.YtojhnjgnpjoacaaP15
namespace Go.Proofs.Ytojhnjgnpjoacaa.P
open Go.RowKit Go.Proofs.YtojhnjgnpjoacaaW.PrintWords Go.Proofs.YtojhnjgnpjoacaaW.PrintLast Go.Proofs.YtojhnjgnpjoacaaW.PrintMore
attribute [local go_sem] max2_int min2_int max_two min_two max_three min_three max_four min_four   -- for this text's walks alone
set_option linter.unusedVariables false
set_option linter.unusedSimpArgs false

attribute [local go_sem high] eqA26
/-! ### changeforgelaw3_HistoryAncestorsMatchesSpec: function 7 -/
mutual
def changeforgelaw3_HistoryAncestorsMatchesSpec.j0 : Nat → List (S49) → Int → List Bool → Bool → Int → Int → Int → Int → Option (Bool)
  | 0, _, _, _, _, _, _, _, _ => none
  | k + 1, x0, x1, x5, x32, x455000, x455001, x458000, x458001 => if x32 = true then ((changeforgeref3_Fault.f 6 (-1)).bind fun bt461 => (changeforgelaw3_HistoryAncestorsMatchesSpec.j1 k x0 x1 x5 x455000 x455001 bt461.1 bt461.2)) else (changeforgelaw3_HistoryAncestorsMatchesSpec.j1 k x0 x1 x5 x455000 x455001 x458000 x458001)
def changeforgelaw3_HistoryAncestorsMatchesSpec.j1 : Nat → List (S49) → Int → List Bool → Int → Int → Int → Int → Option (Bool)
  | 0, _, _, _, _, _, _, _ => none
  | k + 1, x0, x1, x5, x455000, x455001, x458000, x458001 => if x458000 = 0 then (if x455000 = 0 then ((changeforgeref3_Reach.f k x0).bind fun t463 => (if 0 ≤ x1 then (if x1 < (t463.length : Int) then ((changeforgeref3_Bools.f k x5 (rd_L5 t463 x1)).bind fun t467 => (some t467)) else (none)) else (none))) else (some false)) else (if (x455000 == x458000 && (x455001 == x458001)) = true then (some ((x5.length : Int) == 0)) else (some false))
end
def changeforgelaw3_HistoryAncestorsMatchesSpec.f (k : Nat) (l0 : List (S49)) (a1 : Int) : Option (Bool) := (changeforgelaw3_historyExample.f k).bind fun t448 => (if t448 = true then ((history_Ancestors.f k l0 a1).bind fun bt449 => ((changeforgeref3_HistoryFault.f k l0).bind fun bt455 => ((history_Validate.f k l0).bind fun bt458 => (if (!(bt458.1 == bt455.1) || (!(bt458.2 == bt455.2))) = true then (some false) else (if bt455.1 = 0 then ((changeforgeref3_In.f a1 0 (wrap64 ((l0.length : Int) - 1))).bind fun t460 => (changeforgelaw3_HistoryAncestorsMatchesSpec.j0 k l0 a1 bt449.1 (!t460) bt449.2.1 bt449.2.2 bt455.1 bt455.2)) else (changeforgelaw3_HistoryAncestorsMatchesSpec.j0 k l0 a1 bt449.1 false bt449.2.1 bt449.2.2 bt455.1 bt455.2)))))) else (some false))
theorem changeforgelaw3_HistoryAncestorsMatchesSpec.mono_l : ∀ k, (∀ y0 y1 y2 y3 y4 y5 y6 y7, LeO (changeforgelaw3_HistoryAncestorsMatchesSpec.j0 k y0 y1 y2 y3 y4 y5 y6 y7) (changeforgelaw3_HistoryAncestorsMatchesSpec.j0 (k + 1) y0 y1 y2 y3 y4 y5 y6 y7)) ∧ (∀ y0 y1 y2 y3 y4 y5 y6, LeO (changeforgelaw3_HistoryAncestorsMatchesSpec.j1 k y0 y1 y2 y3 y4 y5 y6) (changeforgelaw3_HistoryAncestorsMatchesSpec.j1 (k + 1) y0 y1 y2 y3 y4 y5 y6))
  | 0 => ⟨fun _ _ _ _ _ _ _ _ r h => by simp [changeforgelaw3_HistoryAncestorsMatchesSpec.j0] at h, fun _ _ _ _ _ _ _ r h => by simp [changeforgelaw3_HistoryAncestorsMatchesSpec.j1] at h⟩
  | k + 1 => by
    obtain ⟨ih0, ih1⟩ := changeforgelaw3_HistoryAncestorsMatchesSpec.mono_l k
    refine ⟨?_, ?_⟩
    · intro y0 y1 y2 y3 y4 y5 y6 y7
      unfold changeforgelaw3_HistoryAncestorsMatchesSpec.j0
      repeat' first
      | (with_reducible exact ih0 _ _ _ _ _ _ _ _)
      | (with_reducible exact ih1 _ _ _ _ _ _ _)
      | (with_reducible exact changeforgelaw3_historyExample.mono _)
      | (with_reducible exact changeforgeref3_Bools.mono _ _ _)
      | (with_reducible exact changeforgeref3_HistoryFault.mono _ _)
      | (with_reducible exact changeforgeref3_Reach.mono _ _)
      | (with_reducible exact history_Ancestors.mono _ _ _)
      | (with_reducible exact history_Validate.mono _ _)
      | (with_reducible exact LeO.refl _)
      | (with_reducible exact LeO.none _)
      | (with_reducible refine LeO.ite ?_ ?_)
      | (with_reducible refine LeO.bind ?_ (fun _ => ?_))
      | exact ih0 _ _ _ _ _ _ _ _
      | exact ih1 _ _ _ _ _ _ _
      | exact changeforgelaw3_historyExample.mono _
      | exact changeforgeref3_Bools.mono _ _ _
      | exact changeforgeref3_HistoryFault.mono _ _
      | exact changeforgeref3_Reach.mono _ _
      | exact history_Ancestors.mono _ _ _
      | exact history_Validate.mono _ _
      | exact LeO.none _
      | refine LeO.ite ?_ ?_
      | refine LeO.bind ?_ (fun _ => ?_)
    · intro y0 y1 y2 y3 y4 y5 y6
      unfold changeforgelaw3_HistoryAncestorsMatchesSpec.j1
      repeat' first
      | (with_reducible exact ih0 _ _ _ _ _ _ _ _)
      | (with_reducible exact ih1 _ _ _ _ _ _ _)
      | (with_reducible exact changeforgelaw3_historyExample.mono _)
      | (with_reducible exact changeforgeref3_Bools.mono _ _ _)
      | (with_reducible exact changeforgeref3_HistoryFault.mono _ _)
      | (with_reducible exact changeforgeref3_Reach.mono _ _)
      | (with_reducible exact history_Ancestors.mono _ _ _)
      | (with_reducible exact history_Validate.mono _ _)
      | (with_reducible exact LeO.refl _)
      | (with_reducible exact LeO.none _)
      | (with_reducible refine LeO.ite ?_ ?_)
      | (with_reducible refine LeO.bind ?_ (fun _ => ?_))
      | exact ih0 _ _ _ _ _ _ _ _
      | exact ih1 _ _ _ _ _ _ _
      | exact changeforgelaw3_historyExample.mono _
      | exact changeforgeref3_Bools.mono _ _ _
      | exact changeforgeref3_HistoryFault.mono _ _
      | exact changeforgeref3_Reach.mono _ _
      | exact history_Ancestors.mono _ _ _
      | exact history_Validate.mono _ _
      | exact LeO.none _
      | refine LeO.ite ?_ ?_
      | refine LeO.bind ?_ (fun _ => ?_)
theorem changeforgelaw3_HistoryAncestorsMatchesSpec.mono : ∀ a0 a1 k, LeO (changeforgelaw3_HistoryAncestorsMatchesSpec.f k a0 a1) (changeforgelaw3_HistoryAncestorsMatchesSpec.f (k + 1) a0 a1) := by
  intro a0 a1 k
  obtain ⟨ih0, ih1⟩ := changeforgelaw3_HistoryAncestorsMatchesSpec.mono_l k
  unfold changeforgelaw3_HistoryAncestorsMatchesSpec.f
  repeat' first
      | (with_reducible exact ih0 _ _ _ _ _ _ _ _)
      | (with_reducible exact ih1 _ _ _ _ _ _ _)
      | (with_reducible exact changeforgelaw3_historyExample.mono _)
      | (with_reducible exact changeforgeref3_Bools.mono _ _ _)
      | (with_reducible exact changeforgeref3_HistoryFault.mono _ _)
      | (with_reducible exact changeforgeref3_Reach.mono _ _)
      | (with_reducible exact history_Ancestors.mono _ _ _)
      | (with_reducible exact history_Validate.mono _ _)
      | (with_reducible exact LeO.refl _)
      | (with_reducible exact LeO.none _)
      | (with_reducible refine LeO.ite ?_ ?_)
      | (with_reducible refine LeO.bind ?_ (fun _ => ?_))
      | exact ih0 _ _ _ _ _ _ _ _
      | exact ih1 _ _ _ _ _ _ _
      | exact changeforgelaw3_historyExample.mono _
      | exact changeforgeref3_Bools.mono _ _ _
      | exact changeforgeref3_HistoryFault.mono _ _
      | exact changeforgeref3_Reach.mono _ _
      | exact history_Ancestors.mono _ _ _
      | exact history_Validate.mono _ _
      | exact LeO.none _
      | refine LeO.ite ?_ ?_
      | refine LeO.bind ?_ (fun _ => ?_)
set_option maxHeartbeats 8000000 in
set_option maxRecDepth 100000 in
theorem changeforgelaw3_HistoryAncestorsMatchesSpec.calls (k : Nat) (A0 : Option Addr) (c0 : Nat) (l0 : List (S49)) (a1 : Int) (r : Bool) (w : World) (hr0 : Kd.C k49 w A0 l0.length l0) (hc0 : l0.length ≤ c0) (h : changeforgelaw3_HistoryAncestorsMatchesSpec.f k l0 a1 = some r) :
  Calls Try.prog 7 #[.slice A0 l0.length c0, .int .i64 a1] w fun e w' => e = .returned (.bool r) ∧ Below w.heap.size w w' := by
  have hu26 := Try.underlying26
  have HR0 := aZ hr0
  have HC0 := aZ hc0
  clear hr0 hc0
  have HB := aZ (Below.refl w.heap.size w)
  have H : ((changeforgelaw3_historyExample.f k).bind fun t448 => (if t448 = true then ((history_Ancestors.f k l0 a1).bind fun bt449 => ((changeforgeref3_HistoryFault.f k l0).bind fun bt455 => ((history_Validate.f k l0).bind fun bt458 => (if (!(bt458.1 == bt455.1) || (!(bt458.2 == bt455.2))) = true then (some false) else (if bt455.1 = 0 then ((changeforgeref3_In.f a1 0 (wrap64 ((l0.length : Int) - 1))).bind fun t460 => (changeforgelaw3_HistoryAncestorsMatchesSpec.j0 k l0 a1 bt449.1 (!t460) bt449.2.1 bt449.2.2 bt455.1 bt455.2)) else (changeforgelaw3_HistoryAncestorsMatchesSpec.j0 k l0 a1 bt449.1 false bt449.2.1 bt449.2.2 bt455.1 bt455.2)))))) else (some false))) = some r := h
  clear h
  replace H := Option.bind_eq_some_iff.mp H
  obtain ⟨t448, A30, H⟩ := H
  replace H : (if t448 = true then ((history_Ancestors.f k l0 a1).bind fun bt449 => ((changeforgeref3_HistoryFault.f k l0).bind fun bt455 => ((history_Validate.f k l0).bind fun bt458 => (if (!(bt458.1 == bt455.1) || (!(bt458.2 == bt455.2))) = true then (some false) else (if bt455.1 = 0 then ((changeforgeref3_In.f a1 0 (wrap64 ((l0.length : Int) - 1))).bind fun t460 => (changeforgelaw3_HistoryAncestorsMatchesSpec.j0 k l0 a1 bt449.1 (!t460) bt449.2.1 bt449.2.2 bt455.1 bt455.2)) else (changeforgelaw3_HistoryAncestorsMatchesSpec.j0 k l0 a1 bt449.1 false bt449.2.1 bt449.2.2 bt455.1 bt455.2)))))) else (some false)) = some r := H
  have A3 := aZ A30
  clear A30
  by_cases c4 : t448 = true
  rotate_left
  · replace c4 := Bool.eq_false_iff.mpr c4
    subst c4
    have H1 : (some false) = some r := by rw [if_neg (show ¬ (false = true) by decide)] at H; exact H
    clear H
    have H := H1
    clear H1
    obtain rfl := Option.some.inj H
    go_enter Try.func7, Try.ntmps7
    go_wp2_with (first | ((with_reducible refine gate_callee (f := 23) rfl ?_); refine goesL_ (some 8) rfl rfl Try.func23 (by kernel_rfl) rfl #[] rfl (by (try simp only [List.map_toArray, List.map_cons, List.map_nil]); first | done | rfl | (simp only [List.length_drop, List.length_take]; rfl)) ?_; (with_reducible refine (changeforgelaw3_historyExample.calls k  false _ A3.out).mono ?_); rintro e w67 ⟨rfl, hb⟩; refine ⟨_, rfl, ?_⟩; have n0_ := aZ (lT (by repeat (first | (with_reducible first | exact HB.out | apply lA | apply lN | apply lD) | exact HB.out)) hb); clear HB; have HB := n0_; clear n0_; (try clear hb); (try clear hb2); (try clear hk); (try clear hi)))
    go_ret
    exact ⟨by first | rfl | (simp [errW_none, errW_some] <;> rfl) | (simp [*, errW_none, errW_some] <;> rfl), by repeat (first | (with_reducible first | exact HB.out | apply lA | apply lN | apply lD) | exact HB.out)⟩

  subst c4
  have H1 : ((history_Ancestors.f k l0 a1).bind fun bt449 => ((changeforgeref3_HistoryFault.f k l0).bind fun bt455 => ((history_Validate.f k l0).bind fun bt458 => (if (!(bt458.1 == bt455.1) || (!(bt458.2 == bt455.2))) = true then (some false) else (if bt455.1 = 0 then ((changeforgeref3_In.f a1 0 (wrap64 ((l0.length : Int) - 1))).bind fun t460 => (changeforgelaw3_HistoryAncestorsMatchesSpec.j0 k l0 a1 bt449.1 (!t460) bt449.2.1 bt449.2.2 bt455.1 bt455.2)) else (changeforgelaw3_HistoryAncestorsMatchesSpec.j0 k l0 a1 bt449.1 false bt449.2.1 bt449.2.2 bt455.1 bt455.2)))))) = some r := by rw [if_pos rfl] at H; exact H
  clear H
  have H := H1
  clear H1
  replace H := Option.bind_eq_some_iff.mp H
  obtain ⟨⟨t449, t452, t453⟩, A50, H⟩ := H
  replace H : ((changeforgeref3_HistoryFault.f k l0).bind fun bt455 => ((history_Validate.f k l0).bind fun bt458 => (if (!(bt458.1 == bt455.1) || (!(bt458.2 == bt455.2))) = true then (some false) else (if bt455.1 = 0 then ((changeforgeref3_In.f a1 0 (wrap64 ((l0.length : Int) - 1))).bind fun t460 => (changeforgelaw3_HistoryAncestorsMatchesSpec.j0 k l0 a1 t449 (!t460) t452 t453 bt455.1 bt455.2)) else (changeforgelaw3_HistoryAncestorsMatchesSpec.j0 k l0 a1 t449 false t452 t453 bt455.1 bt455.2))))) = some r := H
  have A5 := aZ A50
  clear A50
  replace H := Option.bind_eq_some_iff.mp H
  obtain ⟨⟨t455, t456⟩, A60, H⟩ := H
  replace H : ((history_Validate.f k l0).bind fun bt458 => (if (!(bt458.1 == t455) || (!(bt458.2 == t456))) = true then (some false) else (if t455 = 0 then ((changeforgeref3_In.f a1 0 (wrap64 ((l0.length : Int) - 1))).bind fun t460 => (changeforgelaw3_HistoryAncestorsMatchesSpec.j0 k l0 a1 t449 (!t460) t452 t453 t455 t456)) else (changeforgelaw3_HistoryAncestorsMatchesSpec.j0 k l0 a1 t449 false t452 t453 t455 t456)))) = some r := H
  have A6 := aZ A60
  clear A60
  replace H := Option.bind_eq_some_iff.mp H
  obtain ⟨⟨t458, t459⟩, A70, H⟩ := H
  replace H : (if (!(t458 == t455) || (!(t459 == t456))) = true then (some false) else (if t455 = 0 then ((changeforgeref3_In.f a1 0 (wrap64 ((l0.length : Int) - 1))).bind fun t460 => (changeforgelaw3_HistoryAncestorsMatchesSpec.j0 k l0 a1 t449 (!t460) t452 t453 t455 t456)) else (changeforgelaw3_HistoryAncestorsMatchesSpec.j0 k l0 a1 t449 false t452 t453 t455 t456))) = some r := H
  have A7 := aZ A70
  clear A70
  by_cases c8 : (!(t458 == t455) || (!(t459 == t456))) = true
  · rw [if_pos c8] at H
    have c8b0 : (!(t458 == t455) || (!(t459 == t456))) = true := c8
    clear c8
    obtain rfl := Option.some.inj H
    go_enter Try.func7, Try.ntmps7
    try go_wp2_with (first | ((with_reducible refine gate_callee (f := 23) rfl ?_); refine goesL_ (some 8) rfl rfl Try.func23 (by kernel_rfl) rfl #[] rfl (by (try simp only [List.map_toArray, List.map_cons, List.map_nil]); first | done | rfl | (simp only [List.length_drop, List.length_take]; rfl)) ?_; (with_reducible refine (changeforgelaw3_historyExample.calls k  true _ A3.out).mono ?_); rintro e w9 ⟨rfl, hb⟩; refine ⟨_, rfl, ?_⟩; have n0_ := aZ (lT (by repeat (first | (with_reducible first | exact HB.out | apply lA | apply lN | apply lD) | exact HB.out)) hb); clear HB; have HB := n0_; clear n0_; (try clear hb); (try clear hb2); (try clear hk); (try clear hi)) | ((with_reducible refine gate_callee (f := 24) rfl ?_); refine goesL_ (some 13) rfl rfl Try.func24 (by kernel_rfl) rfl #[.slice A0 l0.length c0, .int .i64 a1] rfl (by (try simp only [List.map_toArray, List.map_cons, List.map_nil]); first | done | rfl | (simp only [List.length_drop, List.length_take]; rfl)) ?_; (with_reducible refine (history_Ancestors.calls k _ _ l0 a1 t449 t452 t453 _ ?side1 ?side2 A5.out).mono ?_); (case side1 => repeat (first | exact (Kd.C_below HR0.out HB.out) | (with_reducible refine Kd.C_alloc ?_ _) | (with_reducible refine Kd.C_drewN ?_ _) | (with_reducible refine Kd.C_drew ?_))); (case side2 => exact HC0.out); rintro e w10 ⟨v450, rfl, ho0, hb⟩; refine ⟨_, rfl, ?_⟩; have n0_ := aZ (Kd.R_lower ho0 (lZ (by repeat (first | (with_reducible first | exact HB.out | apply lA | apply lN | apply lD) | exact HB.out)))); have n1_ := aZ (lT (by repeat (first | (with_reducible first | exact HB.out | apply lA | apply lN | apply lD) | exact HB.out)) hb); clear HB; have HO451 := n0_; have HB := n1_; clear n0_ n1_; (try clear hb); (try clear hb2); (try clear hk); (try clear hi); (try clear ho0)) | ((with_reducible refine gate_dst (N := 6) rfl ?_); (try (refine gate_guard (by rfl) ?_; dsimp only)); refine box_event ?hg (N := 6) ?hd (cs := #[.int .i64 0, .int .i64 0]) (t := 26) ?hr ?_; (case hd => rfl); (case hg => rfl); (case hr => first | (go_simp; done) | (go_simp; rfl)); intro gb454 hg w11 hbox hb; have n0_ := aZ (Kd.R_below (by (with_reducible repeat (first | apply Kd.rA | apply Kd.rN | apply Kd.rD)); exact HO451.out) hb); have n1_ := aZ (lT (by repeat (first | (with_reducible first | exact HB.out | apply lA | apply lN | apply lD) | exact HB.out)) hb); have n2_ := aZ (hbox); have n3_ := aZ ((by rw [hg]; exact (lZ (by repeat (first | (with_reducible first | exact HB.out | apply lA | apply lN | apply lD) | exact HB.out))) : w.heap.size ≤ gb454)); have n4_ := aZ ((by rw [hg]; exact (lZ (by repeat (first | (with_reducible first | exact HB.out | apply lA | apply lN | apply lD) | exact HB.out))) : w.heap.size ≤ gb454)); clear HO451; clear HB; have HO451 := n0_; have HB := n1_; have BK454 := n2_; have GW454 := n3_; have GE454 := n4_; clear n0_ n1_ n2_ n3_ n4_; clear hb hbox hg; have hcz12_0 : w11.cell? ⟨gb454, 0, none⟩ = some (.int .i64 0) := (blk_cell BK454.out 0).trans rfl; have hcz12_1 : w11.cell? ⟨gb454, 1, none⟩ = some (.int .i64 0) := (blk_cell BK454.out 1).trans rfl; have hfz12_0 := blk_frozen BK454.out 0; have hfz12_1 := blk_frozen BK454.out 1) | ((with_reducible refine gate_callee (f := 17) rfl ?_); refine goesL_ (some 17) rfl rfl Try.func17 (by kernel_rfl) rfl #[.slice A0 l0.length c0] rfl (by (try simp only [List.map_toArray, List.map_cons, List.map_nil]); first | done | rfl | (simp only [List.length_drop, List.length_take]; rfl)) ?_; (with_reducible refine (changeforgeref3_HistoryFault.calls k _ _ l0 t455 t456 _ ?side1 ?side2 A6.out).mono ?_); (case side1 => exact Kd.C_below HR0.out (by repeat (first | (with_reducible first | exact HB.out | apply lA | apply lN | apply lD | refine lS ?_ GE454.out) | exact HB.out))); (case side2 => exact HC0.out); rintro e w13 ⟨rfl, hb⟩; refine ⟨_, rfl, ?_⟩; have n0_ := aZ (Kd.R_below (by (with_reducible repeat (first | apply Kd.rA | apply Kd.rN | apply Kd.rD)); exact (Kd.R_mono (Kd.R_far (p := ⟨gb454, 1, none⟩) (Kd.R_far (p := ⟨gb454, 0, none⟩) (Kd.R_types HO451.out BK454.out (by decide)) (fun _ hk => hk.2) (.int .i64 t452)) (fun _ hk => hk.2) (.int .i64 t453)) (fun _ h_ => h_.1))) hb); have n1_ := aZ (blk_below (g := gb454) (o := .cells #[.int .i64 t452, .int .i64 t453] 26 (0, 0)) (by (with_reducible repeat (first | refine bN ?_ _ | refine bD ?_ | refine bA ?_ _)); refine blk_put (cs := #[.int .i64 t452, .int .i64 0]) ?_ 1 _ rfl; (with_reducible repeat (first | refine bN ?_ _ | refine bD ?_ | refine bA ?_ _)); refine blk_put (cs := #[.int .i64 0, .int .i64 0]) ?_ 0 _ rfl; (with_reducible repeat (first | refine bN ?_ _ | refine bD ?_ | refine bA ?_ _)); exact BK454.out) hb); have n2_ := aZ (lT (by repeat (first | (with_reducible first | exact HB.out | apply lA | apply lN | apply lD | refine lS ?_ GE454.out) | exact HB.out)) hb); clear HO451; clear BK454; clear HB; have HO451 := n0_; have BK454 := n1_; have HB := n2_; clear n0_ n1_ n2_; (try clear hb); (try clear hb2); (try clear hk); (try clear hi)) | ((with_reducible refine gate_dst (N := 7) rfl ?_); (try (refine gate_guard (by rfl) ?_; dsimp only)); refine box_event ?hg (N := 7) ?hd (cs := #[.int .i64 0, .int .i64 0]) (t := 26) ?hr ?_; (case hd => rfl); (case hg => rfl); (case hr => first | (go_simp; done) | (go_simp; rfl)); intro gb457 hg w14 hbox hb; have n0_ := aZ (Kd.R_below (by (with_reducible repeat (first | apply Kd.rA | apply Kd.rN | apply Kd.rD)); exact HO451.out) hb); have n1_ := aZ (blk_below (g := gb454) (o := .cells #[.int .i64 t452, .int .i64 t453] 26 (0, 0)) (by (with_reducible repeat (first | refine bN ?_ _ | refine bD ?_ | refine bA ?_ _)); exact BK454.out) hb); have n2_ := aZ (lT (by repeat (first | (with_reducible first | exact HB.out | apply lA | apply lN | apply lD | refine lS ?_ GE454.out) | exact HB.out)) hb); have n3_ := aZ (hbox); have n4_ := aZ ((by rw [hg]; exact (lZ (by repeat (first | (with_reducible first | exact HB.out | apply lA | apply lN | apply lD | refine lS ?_ GE454.out) | exact HB.out))) : w.heap.size ≤ gb457)); have n5_ := aZ ((by rw [hg]; exact (lZ (by repeat (first | (with_reducible first | exact HB.out | apply lA | apply lN | apply lD | refine lS ?_ GE454.out) | exact HB.out))) : w.heap.size ≤ gb457)); have n6_ := aZ ((by rw [hg]; exact Nat.ne_of_lt (blk_lt (g := gb454) (o := .cells #[.int .i64 t452, .int .i64 t453] 26 (0, 0)) (by (with_reducible repeat (first | refine bN ?_ _ | refine bD ?_ | refine bA ?_ _)); exact BK454.out)) : gb454 ≠ gb457)); have n7_ := aZ ((by rw [hg]; exact Nat.ne_of_gt (blk_lt (g := gb454) (o := .cells #[.int .i64 t452, .int .i64 t453] 26 (0, 0)) (by (with_reducible repeat (first | refine bN ?_ _ | refine bD ?_ | refine bA ?_ _)); exact BK454.out)) : gb457 ≠ gb454)); clear HO451; clear BK454; clear HB; have HO451 := n0_; have BK454 := n1_; have HB := n2_; have BK457 := n3_; have GW457 := n4_; have GE457 := n5_; have NB454_457 := n6_; have NB457_454 := n7_; clear n0_ n1_ n2_ n3_ n4_ n5_ n6_ n7_; clear hb hbox hg; have hnb15 := NB457_454.out; have hnc15 := NB454_457.out; have hcz16_0 : w14.cell? ⟨gb457, 0, none⟩ = some (.int .i64 0) := (blk_cell BK457.out 0).trans rfl; have hcz16_1 : w14.cell? ⟨gb457, 1, none⟩ = some (.int .i64 0) := (blk_cell BK457.out 1).trans rfl; have hfz16_0 := blk_frozen BK457.out 0; have hfz16_1 := blk_frozen BK457.out 1))
    have n0_ : Aside0 (Kd.R Kd.bool 4 ((w14.setCell ⟨gb457, 0, none⟩ (.int .i64 t455)).setCell ⟨gb457, 1, none⟩ (.int .i64 t456)) w.heap.size (fun _ => True) v450 t449) := ⟨by (with_reducible repeat (first | apply Kd.rA | apply Kd.rN | apply Kd.rD)); exact Kd.R_mono (Kd.R_far (p := ⟨gb457, 1, none⟩) (Kd.R_far (p := ⟨gb457, 0, none⟩) (Kd.R_types HO451.out BK457.out (by decide)) (fun _ hk => hk.2) (.int .i64 t455)) (fun _ hk => hk.2) (.int .i64 t456)) (fun _ hk => trivial)⟩
    have n1_ : Aside0 (((w14.setCell ⟨gb457, 0, none⟩ (.int .i64 t455)).setCell ⟨gb457, 1, none⟩ (.int .i64 t456)).heap[gb454]? = some (.cells #[.int .i64 t452, .int .i64 t453] 26 (0, 0))) := ⟨by (with_reducible repeat (first | refine bN ?_ _ | refine bD ?_ | refine bA ?_ _)); refine blk_far ?_ NB454_457.out _; (with_reducible repeat (first | refine bN ?_ _ | refine bD ?_ | refine bA ?_ _)); refine blk_far ?_ NB454_457.out _; (with_reducible repeat (first | refine bN ?_ _ | refine bD ?_ | refine bA ?_ _)); exact BK454.out⟩
    have n2_ : Aside0 (((w14.setCell ⟨gb457, 0, none⟩ (.int .i64 t455)).setCell ⟨gb457, 1, none⟩ (.int .i64 t456)).heap[gb457]? = some (.cells #[.int .i64 t455, .int .i64 t456] 26 (0, 0))) := ⟨by (with_reducible repeat (first | refine bN ?_ _ | refine bD ?_ | refine bA ?_ _)); refine blk_put (cs := #[.int .i64 t455, .int .i64 0]) ?_ 1 _ rfl; (with_reducible repeat (first | refine bN ?_ _ | refine bD ?_ | refine bA ?_ _)); refine blk_put (cs := #[.int .i64 0, .int .i64 0]) ?_ 0 _ rfl; (with_reducible repeat (first | refine bN ?_ _ | refine bD ?_ | refine bA ?_ _)); exact BK457.out⟩
    have n3_ : Aside0 (Below w.heap.size w ((w14.setCell ⟨gb457, 0, none⟩ (.int .i64 t455)).setCell ⟨gb457, 1, none⟩ (.int .i64 t456))) := ⟨by repeat (first | (with_reducible first | exact HB.out | apply lA | apply lN | apply lD | refine lS ?_ GE454.out | refine lS ?_ GE457.out) | exact HB.out)⟩
    (try clear HO451)
    (try clear BK454)
    (try clear BK457)
    (try clear HB)
    generalize ((w14.setCell ⟨gb457, 0, none⟩ (.int .i64 t455)).setCell ⟨gb457, 1, none⟩ (.int .i64 t456)) = w17 at n0_ n1_ n2_ n3_ ⊢
    have HO451 := n0_
    have BK454 := n1_
    have BK457 := n2_
    have HB := n3_
    clear n0_ n1_ n2_ n3_
    have n0_ := aZ (Kd.rD HO451.out)
    have n1_ := aZ (bD BK454.out)
    have n2_ := aZ (bD BK457.out)
    have n3_ := aZ (lD HB.out)
    clear HO451
    clear BK454
    clear BK457
    clear HB
    have HO451 := n0_
    have BK454 := n1_
    have BK457 := n2_
    have HB := n3_
    clear n0_ n1_ n2_ n3_
    refine start_ (n := 4) (S := fun w' => w'.cell? ⟨gb457, 0, none⟩ = some (.int .i64 t455) ∧ w'.cell? ⟨gb457, 1, none⟩ = some (.int .i64 t456)) (ds := []) #[false, false, false, false] (by kernel_rfl) rfl rfl ⟨(blk_cell BK457.out 0).trans rfl, (blk_cell BK457.out 1).trans rfl⟩ (fun hHeld => ?_)
    generalize w17.drew = w18 at HO451 BK454 BK457 HB hHeld ⊢
    refine pure_ (i := 0) (N := some 18) (v := ?_) (a' := ?_) #[true, false, false, false] rfl rfl (by kernel_rfl) (fun _ _ _ h => h) (Or.inl ⟨by rfl, ?_⟩) ?_ ?_
    rotate_left
    · intro w'
      go_simp
      with_reducible rfl
    rotate_left
    · simp only [Act.put, List.setIfInBounds_toArray, List.set_cons_zero, List.set_cons_succ, i64_w, i32_w]
      rfl
    refine take_ (i := 2) (N := some 20) (v := ?_) (a' := ?_) #[true, false, true, false] rfl rfl (by kernel_rfl) (fun _ _ _ h => h) (Or.inl ⟨by rfl, ?_⟩) hHeld ?_ ?_
    rotate_left
    · rintro w' ⟨s0, s1⟩
      go_simp
      with_reducible rfl
    rotate_left
    · simp only [Act.put, List.setIfInBounds_toArray, List.set_cons_zero, List.set_cons_succ, i64_w, i32_w]
      rfl
    refine one_ (i := 1) (N := some 19) #[true, true, true, false] rfl rfl (by kernel_rfl) (by decide) (fun K hK => ?_)
    refine goes_ Try.func25 (by kernel_rfl) rfl #[.slice A0 l0.length c0] (by rfl) rfl rfl (by (try simp only [List.map_toArray, List.map_cons, List.map_nil]); first | done | rfl | (simp only [List.length_drop, List.length_take]; rfl)) ?_
    with_reducible refine (history_Validate.calls k _ _ l0 t458 t459 _ ?side1 ?side2 A7.out).mono ?_
    (case side1 => repeat (first | exact (Kd.C_below HR0.out HB.out) | (with_reducible refine Kd.C_alloc ?_ _) | (with_reducible refine Kd.C_drewN ?_ _) | (with_reducible refine Kd.C_drew ?_)))
    (case side2 => exact HC0.out)
    rintro e w19 ⟨rfl, hb⟩
    refine ⟨_, rfl, ?_⟩
    have n0_ := aZ (Kd.R_below (by (with_reducible repeat (first | apply Kd.rA | apply Kd.rN | apply Kd.rD)); exact HO451.out) hb)
    have n1_ := aZ (blk_below (g := gb454) (o := .cells #[.int .i64 t452, .int .i64 t453] 26 (0, 0)) (by (with_reducible repeat (first | refine bN ?_ _ | refine bD ?_ | refine bA ?_ _)); exact BK454.out) hb)
    have n2_ := aZ (blk_below (g := gb457) (o := .cells #[.int .i64 t455, .int .i64 t456] 26 (0, 0)) (by (with_reducible repeat (first | refine bN ?_ _ | refine bD ?_ | refine bA ?_ _)); exact BK457.out) hb)
    have n3_ := aZ (lT (by repeat (first | (with_reducible first | exact HB.out | apply lA | apply lN | apply lD | refine lS ?_ GE454.out | refine lS ?_ GE457.out) | exact HB.out)) hb)
    clear HO451
    clear BK454
    clear BK457
    clear HB
    have HO451 := n0_
    have BK454 := n1_
    have BK457 := n2_
    have HB := n3_
    clear n0_ n1_ n2_ n3_
    (try clear hb)
    (try clear hb2)
    (try clear hk)
    (try clear hi)
    refine hK.out _ _ ⟨(blk_cell BK457.out 0).trans rfl, (blk_cell BK457.out 1).trans rfl⟩ (fun hHeld => ?_)
    clear hK K
    refine norm_ (a' := ?_) ?_ ?_
    rotate_left
    · show Act.put _ (some 19) _ = _
      simp only [Act.put, List.setIfInBounds_toArray, List.set_cons_zero, List.set_cons_succ, i64_w, i32_w]
      rfl
    refine pure_ (i := 3) (N := some 21) (v := ?_) (a' := ?_) #[true, true, true, true] rfl rfl (by kernel_rfl) (fun _ _ _ h => h) (Or.inl ⟨by rfl, ?_⟩) ?_ ?_
    rotate_left
    · intro w'
      go_simp
      with_reducible rfl
    rotate_left
    · simp only [Act.put, List.setIfInBounds_toArray, List.set_cons_zero, List.set_cons_succ, i64_w, i32_w]
      rfl
    refine done_ (by kernel_rfl) ?_
    try go_wp2
    go_ret
    exact ⟨by first | rfl | (simp [errW_none, errW_some] <;> rfl) | (simp [*, errW_none, errW_some] <;> rfl), by repeat (first | (with_reducible first | exact HB.out | apply lA | apply lN | apply lD | refine lS ?_ GE454.out | refine lS ?_ GE457.out) | exact HB.out)⟩
  rw [if_neg c8] at H
  have c8b0 : (!(t458 == t455) || (!(t459 == t456))) = false := by simpa using c8
  clear c8
  have HC20 := aZ H
  clear H
  go_enter Try.func7, Try.ntmps7
  try go_wp2_with (first | ((with_reducible refine gate_callee (f := 23) rfl ?_); refine goesL_ (some 8) rfl rfl Try.func23 (by kernel_rfl) rfl #[] rfl (by (try simp only [List.map_toArray, List.map_cons, List.map_nil]); first | done | rfl | (simp only [List.length_drop, List.length_take]; rfl)) ?_; (with_reducible refine (changeforgelaw3_historyExample.calls k  true _ A3.out).mono ?_); rintro e w21 ⟨rfl, hb⟩; refine ⟨_, rfl, ?_⟩; have n0_ := aZ (lT (by repeat (first | (with_reducible first | exact HB.out | apply lA | apply lN | apply lD) | exact HB.out)) hb); clear HB; have HB := n0_; clear n0_; (try clear hb); (try clear hb2); (try clear hk); (try clear hi)) | ((with_reducible refine gate_callee (f := 24) rfl ?_); refine goesL_ (some 13) rfl rfl Try.func24 (by kernel_rfl) rfl #[.slice A0 l0.length c0, .int .i64 a1] rfl (by (try simp only [List.map_toArray, List.map_cons, List.map_nil]); first | done | rfl | (simp only [List.length_drop, List.length_take]; rfl)) ?_; (with_reducible refine (history_Ancestors.calls k _ _ l0 a1 t449 t452 t453 _ ?side1 ?side2 A5.out).mono ?_); (case side1 => repeat (first | exact (Kd.C_below HR0.out HB.out) | (with_reducible refine Kd.C_alloc ?_ _) | (with_reducible refine Kd.C_drewN ?_ _) | (with_reducible refine Kd.C_drew ?_))); (case side2 => exact HC0.out); rintro e w22 ⟨v450, rfl, ho0, hb⟩; refine ⟨_, rfl, ?_⟩; have n0_ := aZ (Kd.R_lower ho0 (lZ (by repeat (first | (with_reducible first | exact HB.out | apply lA | apply lN | apply lD) | exact HB.out)))); have n1_ := aZ (lT (by repeat (first | (with_reducible first | exact HB.out | apply lA | apply lN | apply lD) | exact HB.out)) hb); clear HB; have HO451 := n0_; have HB := n1_; clear n0_ n1_; (try clear hb); (try clear hb2); (try clear hk); (try clear hi); (try clear ho0)) | ((with_reducible refine gate_dst (N := 6) rfl ?_); (try (refine gate_guard (by rfl) ?_; dsimp only)); refine box_event ?hg (N := 6) ?hd (cs := #[.int .i64 0, .int .i64 0]) (t := 26) ?hr ?_; (case hd => rfl); (case hg => rfl); (case hr => first | (go_simp; done) | (go_simp; rfl)); intro gb454 hg w23 hbox hb; have n0_ := aZ (Kd.R_below (by (with_reducible repeat (first | apply Kd.rA | apply Kd.rN | apply Kd.rD)); exact HO451.out) hb); have n1_ := aZ (lT (by repeat (first | (with_reducible first | exact HB.out | apply lA | apply lN | apply lD) | exact HB.out)) hb); have n2_ := aZ (hbox); have n3_ := aZ ((by rw [hg]; exact (lZ (by repeat (first | (with_reducible first | exact HB.out | apply lA | apply lN | apply lD) | exact HB.out))) : w.heap.size ≤ gb454)); have n4_ := aZ ((by rw [hg]; exact (lZ (by repeat (first | (with_reducible first | exact HB.out | apply lA | apply lN | apply lD) | exact HB.out))) : w.heap.size ≤ gb454)); clear HO451; clear HB; have HO451 := n0_; have HB := n1_; have BK454 := n2_; have GW454 := n3_; have GE454 := n4_; clear n0_ n1_ n2_ n3_ n4_; clear hb hbox hg; have hcz24_0 : w23.cell? ⟨gb454, 0, none⟩ = some (.int .i64 0) := (blk_cell BK454.out 0).trans rfl; have hcz24_1 : w23.cell? ⟨gb454, 1, none⟩ = some (.int .i64 0) := (blk_cell BK454.out 1).trans rfl; have hfz24_0 := blk_frozen BK454.out 0; have hfz24_1 := blk_frozen BK454.out 1) | ((with_reducible refine gate_callee (f := 17) rfl ?_); refine goesL_ (some 17) rfl rfl Try.func17 (by kernel_rfl) rfl #[.slice A0 l0.length c0] rfl (by (try simp only [List.map_toArray, List.map_cons, List.map_nil]); first | done | rfl | (simp only [List.length_drop, List.length_take]; rfl)) ?_; (with_reducible refine (changeforgeref3_HistoryFault.calls k _ _ l0 t455 t456 _ ?side1 ?side2 A6.out).mono ?_); (case side1 => exact Kd.C_below HR0.out (by repeat (first | (with_reducible first | exact HB.out | apply lA | apply lN | apply lD | refine lS ?_ GE454.out) | exact HB.out))); (case side2 => exact HC0.out); rintro e w25 ⟨rfl, hb⟩; refine ⟨_, rfl, ?_⟩; have n0_ := aZ (Kd.R_below (by (with_reducible repeat (first | apply Kd.rA | apply Kd.rN | apply Kd.rD)); exact (Kd.R_mono (Kd.R_far (p := ⟨gb454, 1, none⟩) (Kd.R_far (p := ⟨gb454, 0, none⟩) (Kd.R_types HO451.out BK454.out (by decide)) (fun _ hk => hk.2) (.int .i64 t452)) (fun _ hk => hk.2) (.int .i64 t453)) (fun _ h_ => h_.1))) hb); have n1_ := aZ (blk_below (g := gb454) (o := .cells #[.int .i64 t452, .int .i64 t453] 26 (0, 0)) (by (with_reducible repeat (first | refine bN ?_ _ | refine bD ?_ | refine bA ?_ _)); refine blk_put (cs := #[.int .i64 t452, .int .i64 0]) ?_ 1 _ rfl; (with_reducible repeat (first | refine bN ?_ _ | refine bD ?_ | refine bA ?_ _)); refine blk_put (cs := #[.int .i64 0, .int .i64 0]) ?_ 0 _ rfl; (with_reducible repeat (first | refine bN ?_ _ | refine bD ?_ | refine bA ?_ _)); exact BK454.out) hb); have n2_ := aZ (lT (by repeat (first | (with_reducible first | exact HB.out | apply lA | apply lN | apply lD | refine lS ?_ GE454.out) | exact HB.out)) hb); clear HO451; clear BK454; clear HB; have HO451 := n0_; have BK454 := n1_; have HB := n2_; clear n0_ n1_ n2_; (try clear hb); (try clear hb2); (try clear hk); (try clear hi)) | ((with_reducible refine gate_dst (N := 7) rfl ?_); (try (refine gate_guard (by rfl) ?_; dsimp only)); refine box_event ?hg (N := 7) ?hd (cs := #[.int .i64 0, .int .i64 0]) (t := 26) ?hr ?_; (case hd => rfl); (case hg => rfl); (case hr => first | (go_simp; done) | (go_simp; rfl)); intro gb457 hg w26 hbox hb; have n0_ := aZ (Kd.R_below (by (with_reducible repeat (first | apply Kd.rA | apply Kd.rN | apply Kd.rD)); exact HO451.out) hb); have n1_ := aZ (blk_below (g := gb454) (o := .cells #[.int .i64 t452, .int .i64 t453] 26 (0, 0)) (by (with_reducible repeat (first | refine bN ?_ _ | refine bD ?_ | refine bA ?_ _)); exact BK454.out) hb); have n2_ := aZ (lT (by repeat (first | (with_reducible first | exact HB.out | apply lA | apply lN | apply lD | refine lS ?_ GE454.out) | exact HB.out)) hb); have n3_ := aZ (hbox); have n4_ := aZ ((by rw [hg]; exact (lZ (by repeat (first | (with_reducible first | exact HB.out | apply lA | apply lN | apply lD | refine lS ?_ GE454.out) | exact HB.out))) : w.heap.size ≤ gb457)); have n5_ := aZ ((by rw [hg]; exact (lZ (by repeat (first | (with_reducible first | exact HB.out | apply lA | apply lN | apply lD | refine lS ?_ GE454.out) | exact HB.out))) : w.heap.size ≤ gb457)); have n6_ := aZ ((by rw [hg]; exact Nat.ne_of_lt (blk_lt (g := gb454) (o := .cells #[.int .i64 t452, .int .i64 t453] 26 (0, 0)) (by (with_reducible repeat (first | refine bN ?_ _ | refine bD ?_ | refine bA ?_ _)); exact BK454.out)) : gb454 ≠ gb457)); have n7_ := aZ ((by rw [hg]; exact Nat.ne_of_gt (blk_lt (g := gb454) (o := .cells #[.int .i64 t452, .int .i64 t453] 26 (0, 0)) (by (with_reducible repeat (first | refine bN ?_ _ | refine bD ?_ | refine bA ?_ _)); exact BK454.out)) : gb457 ≠ gb454)); clear HO451; clear BK454; clear HB; have HO451 := n0_; have BK454 := n1_; have HB := n2_; have BK457 := n3_; have GW457 := n4_; have GE457 := n5_; have NB454_457 := n6_; have NB457_454 := n7_; clear n0_ n1_ n2_ n3_ n4_ n5_ n6_ n7_; clear hb hbox hg; have hnb27 := NB457_454.out; have hnc27 := NB454_457.out; have hcz28_0 : w26.cell? ⟨gb457, 0, none⟩ = some (.int .i64 0) := (blk_cell BK457.out 0).trans rfl; have hcz28_1 : w26.cell? ⟨gb457, 1, none⟩ = some (.int .i64 0) := (blk_cell BK457.out 1).trans rfl; have hfz28_0 := blk_frozen BK457.out 0; have hfz28_1 := blk_frozen BK457.out 1))
  have n0_ : Aside0 (Kd.R Kd.bool 4 ((w26.setCell ⟨gb457, 0, none⟩ (.int .i64 t455)).setCell ⟨gb457, 1, none⟩ (.int .i64 t456)) w.heap.size (fun _ => True) v450 t449) := ⟨by (with_reducible repeat (first | apply Kd.rA | apply Kd.rN | apply Kd.rD)); exact Kd.R_mono (Kd.R_far (p := ⟨gb457, 1, none⟩) (Kd.R_far (p := ⟨gb457, 0, none⟩) (Kd.R_types HO451.out BK457.out (by decide)) (fun _ hk => hk.2) (.int .i64 t455)) (fun _ hk => hk.2) (.int .i64 t456)) (fun _ hk => trivial)⟩
  have n1_ : Aside0 (((w26.setCell ⟨gb457, 0, none⟩ (.int .i64 t455)).setCell ⟨gb457, 1, none⟩ (.int .i64 t456)).heap[gb454]? = some (.cells #[.int .i64 t452, .int .i64 t453] 26 (0, 0))) := ⟨by (with_reducible repeat (first | refine bN ?_ _ | refine bD ?_ | refine bA ?_ _)); refine blk_far ?_ NB454_457.out _; (with_reducible repeat (first | refine bN ?_ _ | refine bD ?_ | refine bA ?_ _)); refine blk_far ?_ NB454_457.out _; (with_reducible repeat (first | refine bN ?_ _ | refine bD ?_ | refine bA ?_ _)); exact BK454.out⟩
  have n2_ : Aside0 (((w26.setCell ⟨gb457, 0, none⟩ (.int .i64 t455)).setCell ⟨gb457, 1, none⟩ (.int .i64 t456)).heap[gb457]? = some (.cells #[.int .i64 t455, .int .i64 t456] 26 (0, 0))) := ⟨by (with_reducible repeat (first | refine bN ?_ _ | refine bD ?_ | refine bA ?_ _)); refine blk_put (cs := #[.int .i64 t455, .int .i64 0]) ?_ 1 _ rfl; (with_reducible repeat (first | refine bN ?_ _ | refine bD ?_ | refine bA ?_ _)); refine blk_put (cs := #[.int .i64 0, .int .i64 0]) ?_ 0 _ rfl; (with_reducible repeat (first | refine bN ?_ _ | refine bD ?_ | refine bA ?_ _)); exact BK457.out⟩
  have n3_ : Aside0 (Below w.heap.size w ((w26.setCell ⟨gb457, 0, none⟩ (.int .i64 t455)).setCell ⟨gb457, 1, none⟩ (.int .i64 t456))) := ⟨by repeat (first | (with_reducible first | exact HB.out | apply lA | apply lN | apply lD | refine lS ?_ GE454.out | refine lS ?_ GE457.out) | exact HB.out)⟩
  (try clear HO451)
  (try clear BK454)
  (try clear BK457)
  (try clear HB)
  generalize ((w26.setCell ⟨gb457, 0, none⟩ (.int .i64 t455)).setCell ⟨gb457, 1, none⟩ (.int .i64 t456)) = w29 at n0_ n1_ n2_ n3_ ⊢
  have HO451 := n0_
  have BK454 := n1_
  have BK457 := n2_
  have HB := n3_
  clear n0_ n1_ n2_ n3_
  have n0_ := aZ (Kd.rD HO451.out)
  have n1_ := aZ (bD BK454.out)
  have n2_ := aZ (bD BK457.out)
  have n3_ := aZ (lD HB.out)
  clear HO451
  clear BK454
  clear BK457
  clear HB
  have HO451 := n0_
  have BK454 := n1_
  have BK457 := n2_
  have HB := n3_
  clear n0_ n1_ n2_ n3_
  refine start_ (n := 4) (S := fun w' => w'.cell? ⟨gb457, 0, none⟩ = some (.int .i64 t455) ∧ w'.cell? ⟨gb457, 1, none⟩ = some (.int .i64 t456)) (ds := []) #[false, false, false, false] (by kernel_rfl) rfl rfl ⟨(blk_cell BK457.out 0).trans rfl, (blk_cell BK457.out 1).trans rfl⟩ (fun hHeld => ?_)
  generalize w29.drew = w30 at HO451 BK454 BK457 HB hHeld ⊢
  refine pure_ (i := 0) (N := some 18) (v := ?_) (a' := ?_) #[true, false, false, false] rfl rfl (by kernel_rfl) (fun _ _ _ h => h) (Or.inl ⟨by rfl, ?_⟩) ?_ ?_
  rotate_left
  · intro w'
    go_simp
    with_reducible rfl
  rotate_left
  · simp only [Act.put, List.setIfInBounds_toArray, List.set_cons_zero, List.set_cons_succ, i64_w, i32_w]
    rfl
  refine take_ (i := 2) (N := some 20) (v := ?_) (a' := ?_) #[true, false, true, false] rfl rfl (by kernel_rfl) (fun _ _ _ h => h) (Or.inl ⟨by rfl, ?_⟩) hHeld ?_ ?_
  rotate_left
  · rintro w' ⟨s0, s1⟩
    go_simp
    with_reducible rfl
  rotate_left
  · simp only [Act.put, List.setIfInBounds_toArray, List.set_cons_zero, List.set_cons_succ, i64_w, i32_w]
    rfl
  refine one_ (i := 1) (N := some 19) #[true, true, true, false] rfl rfl (by kernel_rfl) (by decide) (fun K hK => ?_)
  refine goes_ Try.func25 (by kernel_rfl) rfl #[.slice A0 l0.length c0] (by rfl) rfl rfl (by (try simp only [List.map_toArray, List.map_cons, List.map_nil]); first | done | rfl | (simp only [List.length_drop, List.length_take]; rfl)) ?_
  with_reducible refine (history_Validate.calls k _ _ l0 t458 t459 _ ?side1 ?side2 A7.out).mono ?_
  (case side1 => repeat (first | exact (Kd.C_below HR0.out HB.out) | (with_reducible refine Kd.C_alloc ?_ _) | (with_reducible refine Kd.C_drewN ?_ _) | (with_reducible refine Kd.C_drew ?_)))
  (case side2 => exact HC0.out)
  rintro e w31 ⟨rfl, hb⟩
  refine ⟨_, rfl, ?_⟩
  have n0_ := aZ (Kd.R_below (by (with_reducible repeat (first | apply Kd.rA | apply Kd.rN | apply Kd.rD)); exact HO451.out) hb)
  have n1_ := aZ (blk_below (g := gb454) (o := .cells #[.int .i64 t452, .int .i64 t453] 26 (0, 0)) (by (with_reducible repeat (first | refine bN ?_ _ | refine bD ?_ | refine bA ?_ _)); exact BK454.out) hb)
  have n2_ := aZ (blk_below (g := gb457) (o := .cells #[.int .i64 t455, .int .i64 t456] 26 (0, 0)) (by (with_reducible repeat (first | refine bN ?_ _ | refine bD ?_ | refine bA ?_ _)); exact BK457.out) hb)
  have n3_ := aZ (lT (by repeat (first | (with_reducible first | exact HB.out | apply lA | apply lN | apply lD | refine lS ?_ GE454.out | refine lS ?_ GE457.out) | exact HB.out)) hb)
  clear HO451
  clear BK454
  clear BK457
  clear HB
  have HO451 := n0_
  have BK454 := n1_
  have BK457 := n2_
  have HB := n3_
  clear n0_ n1_ n2_ n3_
  (try clear hb)
  (try clear hb2)
  (try clear hk)
  (try clear hi)
  refine hK.out _ _ ⟨(blk_cell BK457.out 0).trans rfl, (blk_cell BK457.out 1).trans rfl⟩ (fun hHeld => ?_)
  clear hK K
  refine norm_ (a' := ?_) ?_ ?_
  rotate_left
  · show Act.put _ (some 19) _ = _
    simp only [Act.put, List.setIfInBounds_toArray, List.set_cons_zero, List.set_cons_succ, i64_w, i32_w]
    rfl
  refine pure_ (i := 3) (N := some 21) (v := ?_) (a' := ?_) #[true, true, true, true] rfl rfl (by kernel_rfl) (fun _ _ _ h => h) (Or.inl ⟨by rfl, ?_⟩) ?_ ?_
  rotate_left
  · intro w'
    go_simp
    with_reducible rfl
  rotate_left
  · simp only [Act.put, List.setIfInBounds_toArray, List.set_cons_zero, List.set_cons_succ, i64_w, i32_w]
    rfl
  refine done_ (by kernel_rfl) ?_
  go_upto_region 7 with (fail)
  go_cut [32] (fun v32 wc => ∃ (kq : Nat) (x32_19 : Bool), v32 = .bool x32_19 ∧ Aside0 (changeforgelaw3_HistoryAncestorsMatchesSpec.j0 kq l0 a1 t449 x32_19 t452 t453 t455 t456 = some r) ∧ Aside0 (kq ≤ k) ∧ Aside0 (Kd.R Kd.bool 4 wc w.heap.size (fun _ => True) v450 t449) ∧ Aside0 (wc.heap[gb454]? = some (.cells #[.int .i64 t452, .int .i64 t453] 26 (0, 0))) ∧ Aside0 (wc.heap[gb457]? = some (.cells #[.int .i64 t455, .int .i64 t456] 26 (0, 0))) ∧ Aside0 (Below w.heap.size w wc))
  case first =>
   have H := HC20.out
   clear HC20
   by_cases c32 : t455 = 0
   rotate_left
   · rw [if_neg c32] at H
     have c32b0 : (t455 == 0) = false := beq_eq_false_iff_ne.mpr c32
     have c32b1 : (t455 != 0) = true := bne_iff_ne.mpr c32
     (first | rw [c32b0] | (simp only [i64_w, i32_w]; rw [c32b0]) | skip)
     have H' := aZ H
     clear H
     have hnb36 := NB457_454.out
     have hnc36 := NB454_457.out
     have hcz37_0 : w31.cell? ⟨gb457, 0, none⟩ = some (.int .i64 t455) := (blk_cell BK457.out 0).trans rfl
     have hcz37_1 : w31.cell? ⟨gb457, 1, none⟩ = some (.int .i64 t456) := (blk_cell BK457.out 1).trans rfl
     have hfz37_0 := blk_frozen BK457.out 0
     have hfz37_1 := blk_frozen BK457.out 1
     go_wp2
     go_meet
     case rel => exact ⟨_, (false), (by first | rfl | (simp; done) | (simp [*]; done)), H', ⟨by first | omega | exact Nat.le_refl _⟩, ⟨by (with_reducible repeat (first | apply Kd.rA | apply Kd.rN | apply Kd.rD)); exact HO451.out⟩, ⟨by (with_reducible repeat (first | refine bN ?_ _ | refine bD ?_ | refine bA ?_ _)); exact BK454.out⟩, ⟨by (with_reducible repeat (first | refine bN ?_ _ | refine bD ?_ | refine bA ?_ _)); exact BK457.out⟩, ⟨by repeat (first | (with_reducible first | exact HB.out | apply lA | apply lN | apply lD | refine lS ?_ GE454.out | refine lS ?_ GE457.out) | exact HB.out)⟩⟩
   rw [if_pos c32] at H
   have c32b0 : (t455 == 0) = true := beq_iff_eq.mpr c32
   have c32b1 : (t455 != 0) = false := bne_eq_false_iff_eq.mpr c32
   clear c32
   (first | rw [c32b0] | (simp only [i64_w, i32_w]; rw [c32b0]) | skip)
   replace H := Option.bind_eq_some_iff.mp H
   obtain ⟨t460, A330, H⟩ := H
   replace H : (changeforgelaw3_HistoryAncestorsMatchesSpec.j0 k l0 a1 t449 (!t460) t452 t453 t455 t456) = some r := H
   have A33 := aZ A330
   clear A330
   have H' := aZ H
   clear H
   have hnb34 := NB457_454.out
   have hnc34 := NB454_457.out
   have hcz35_0 : w31.cell? ⟨gb457, 0, none⟩ = some (.int .i64 t455) := (blk_cell BK457.out 0).trans rfl
   have hcz35_1 : w31.cell? ⟨gb457, 1, none⟩ = some (.int .i64 t456) := (blk_cell BK457.out 1).trans rfl
   have hfz35_0 := blk_frozen BK457.out 0
   have hfz35_1 := blk_frozen BK457.out 1
   go_wp2_with (first | (go_at_call 18; (with_reducible refine (changeforgeref3_In.calls a1 0 (wrap64 ((l0.length : Int) - 1)) t460 _ A33.out).mono ?_); rintro e w' ⟨rfl, ⟨nd, rfl⟩⟩))
   go_meet
   case rel => exact ⟨_, (!t460), (by first | rfl | (simp; done) | (simp [*]; done)), H', ⟨by first | omega | exact Nat.le_refl _⟩, ⟨by (with_reducible repeat (first | apply Kd.rA | apply Kd.rN | apply Kd.rD)); exact HO451.out⟩, ⟨by (with_reducible repeat (first | refine bN ?_ _ | refine bD ?_ | refine bA ?_ _)); exact BK454.out⟩, ⟨by (with_reducible repeat (first | refine bN ?_ _ | refine bD ?_ | refine bA ?_ _)); exact BK457.out⟩, ⟨by repeat (first | (with_reducible first | exact HB.out | apply lA | apply lN | apply lD | refine lS ?_ GE454.out | refine lS ?_ GE457.out) | exact HB.out)⟩⟩
  case rest =>
   clear HC20
   (try clear c4); (try clear c8); (try clear c8b0); (try clear hcz24_0); (try clear hcz24_1); (try clear hcz28_0); (try clear hcz28_1); (try clear hfz24_0); (try clear hfz24_1); (try clear hfz28_0); (try clear hfz28_1)
   obtain ⟨kq, x32_19, rfl, HA, HJ19, HO_5, BK454, BK457, HB⟩ := hcut
   cases kq with
   | zero => exact absurd HA.out (by simp [changeforgelaw3_HistoryAncestorsMatchesSpec.j0])
   | succ kj19 =>
    have H := HA.out
    clear HA
    simp only [changeforgelaw3_HistoryAncestorsMatchesSpec.j0] at H
    have HC38 := aZ H
    clear H
    go_upto_if 32 with (fail)
    go_cut [] (fun wc => ∃ (kq : Nat) (x458000_37 : Int) (x458001_37 : Int), Aside0 (changeforgelaw3_HistoryAncestorsMatchesSpec.j1 kq l0 a1 t449 t452 t453 x458000_37 x458001_37 = some r) ∧ Aside0 (kq ≤ kj19) ∧ Aside0 (Kd.R Kd.bool 4 wc w.heap.size (fun _ => True) v450 t449) ∧ Aside0 (wc.heap[gb454]? = some (.cells #[.int .i64 t452, .int .i64 t453] 26 (0, 0))) ∧ Aside0 (wc.heap[gb457]? = some (.cells #[.int .i64 x458000_37, .int .i64 x458001_37] 26 (0, 0))) ∧ Aside0 (Below w.heap.size w wc))
    case first =>
     have H := HC38.out
     clear HC38
     by_cases c39 : x32_19 = true
     rotate_left
     · replace c39 := Bool.eq_false_iff.mpr c39
       subst c39
       have H1 : (changeforgelaw3_HistoryAncestorsMatchesSpec.j1 kj19 l0 a1 t449 t452 t453 t455 t456) = some r := by rw [if_neg (show ¬ (false = true) by decide)] at H; exact H
       clear H
       have H := H1
       clear H1
       have H' := aZ H
       clear H
       go_wp2
       go_meet
       case rel => exact ⟨_, (t455), (t456), H', ⟨by have := HJ19.out; first | omega | exact Nat.le_refl _⟩, ⟨by (with_reducible repeat (first | apply Kd.rA | apply Kd.rN | apply Kd.rD)); exact HO_5.out⟩, ⟨by (with_reducible repeat (first | refine bN ?_ _ | refine bD ?_ | refine bA ?_ _)); exact BK454.out⟩, ⟨by (with_reducible repeat (first | refine bN ?_ _ | refine bD ?_ | refine bA ?_ _)); exact BK457.out⟩, ⟨by repeat (first | (with_reducible first | exact HB.out | apply lA | apply lN | apply lD | refine lS ?_ GE454.out | refine lS ?_ GE457.out) | exact HB.out)⟩⟩
     subst c39
     have H1 : ((changeforgeref3_Fault.f 6 (-1)).bind fun bt461 => (changeforgelaw3_HistoryAncestorsMatchesSpec.j1 kj19 l0 a1 t449 t452 t453 bt461.1 bt461.2)) = some r := by rw [if_pos rfl] at H; exact H
     clear H
     have H := H1
     clear H1
     replace H := Option.bind_eq_some_iff.mp H
     obtain ⟨⟨t461, t462⟩, A400, H⟩ := H
     replace H : (changeforgelaw3_HistoryAncestorsMatchesSpec.j1 kj19 l0 a1 t449 t452 t453 t461 t462) = some r := H
     have A40 := aZ A400
     clear A400
     have H' := aZ H
     clear H
     go_wp2_with (first | ((with_reducible refine gate_callee (f := 19) rfl ?_); refine goesL_ (some 33) rfl rfl Try.func19 (by kernel_rfl) rfl #[.int .i64 6, .int .i64 (-1)] rfl (by (try simp only [List.map_toArray, List.map_cons, List.map_nil]); first | done | rfl | (simp only [List.length_drop, List.length_take]; rfl)) ?_; (with_reducible refine (changeforgeref3_Fault.calls 6 (-1) t461 t462 _ A40.out).mono ?_); rintro e w41 ⟨rfl, hb⟩; refine ⟨_, rfl, ?_⟩; have n0_ := aZ (Kd.R_below (by (with_reducible repeat (first | apply Kd.rA | apply Kd.rN | apply Kd.rD)); exact HO_5.out) hb); have n1_ := aZ (blk_below (g := gb454) (o := .cells #[.int .i64 t452, .int .i64 t453] 26 (0, 0)) (by (with_reducible repeat (first | refine bN ?_ _ | refine bD ?_ | refine bA ?_ _)); exact BK454.out) hb); have n2_ := aZ (blk_below (g := gb457) (o := .cells #[.int .i64 t455, .int .i64 t456] 26 (0, 0)) (by (with_reducible repeat (first | refine bN ?_ _ | refine bD ?_ | refine bA ?_ _)); exact BK457.out) hb); have n3_ := aZ (lT (by repeat (first | (with_reducible first | exact HB.out | apply lA | apply lN | apply lD | refine lS ?_ GE454.out | refine lS ?_ GE457.out) | exact HB.out)) hb); clear HO_5; clear BK454; clear BK457; clear HB; have HO_5 := n0_; have BK454 := n1_; have BK457 := n2_; have HB := n3_; clear n0_ n1_ n2_ n3_; (try clear hb); (try clear hb2); (try clear hk); (try clear hi); have hnb42 := NB457_454.out; have hnc42 := NB454_457.out; have hcz43_0 : w41.cell? ⟨gb457, 0, none⟩ = some (.int .i64 t455) := (blk_cell BK457.out 0).trans rfl; have hcz43_1 : w41.cell? ⟨gb457, 1, none⟩ = some (.int .i64 t456) := (blk_cell BK457.out 1).trans rfl; have hfz43_0 := blk_frozen BK457.out 0; have hfz43_1 := blk_frozen BK457.out 1))
     go_meet
     case rel => exact ⟨_, (t461), (t462), H', ⟨by have := HJ19.out; first | omega | exact Nat.le_refl _⟩, ⟨by (with_reducible repeat (first | apply Kd.rA | apply Kd.rN | apply Kd.rD)); exact Kd.R_mono (Kd.R_far (p := ⟨gb457, 1, none⟩) (Kd.R_far (p := ⟨gb457, 0, none⟩) (Kd.R_types HO_5.out BK457.out (by decide)) (fun _ hk => hk.2) (.int .i64 t461)) (fun _ hk => hk.2) (.int .i64 t462)) (fun _ hk => trivial)⟩, ⟨by (with_reducible repeat (first | refine bN ?_ _ | refine bD ?_ | refine bA ?_ _)); refine blk_far ?_ NB454_457.out _; (with_reducible repeat (first | refine bN ?_ _ | refine bD ?_ | refine bA ?_ _)); refine blk_far ?_ NB454_457.out _; (with_reducible repeat (first | refine bN ?_ _ | refine bD ?_ | refine bA ?_ _)); exact BK454.out⟩, ⟨by (with_reducible repeat (first | refine bN ?_ _ | refine bD ?_ | refine bA ?_ _)); refine blk_put (cs := #[.int .i64 t461, .int .i64 t456]) ?_ 1 _ rfl; (with_reducible repeat (first | refine bN ?_ _ | refine bD ?_ | refine bA ?_ _)); refine blk_put (cs := #[.int .i64 t455, .int .i64 t456]) ?_ 0 _ rfl; (with_reducible repeat (first | refine bN ?_ _ | refine bD ?_ | refine bA ?_ _)); exact BK457.out⟩, ⟨by repeat (first | (with_reducible first | exact HB.out | apply lA | apply lN | apply lD | refine lS ?_ GE454.out | refine lS ?_ GE457.out) | exact HB.out)⟩⟩
    case rest =>
     clear HC38
     obtain ⟨kq, x458000_37, x458001_37, HA, HJ37, HO_5, BK454, BK457, HB⟩ := hcut
     cases kq with
     | zero => exact absurd HA.out (by simp [changeforgelaw3_HistoryAncestorsMatchesSpec.j1])
     | succ kj37 =>
      have H := HA.out
      clear HA
      simp only [changeforgelaw3_HistoryAncestorsMatchesSpec.j1] at H
      by_cases c44 : x458000_37 = 0
      rotate_left
      · rw [if_neg c44] at H
        have c44b0 : (x458000_37 == 0) = false := beq_eq_false_iff_ne.mpr c44
        have c44b1 : (x458000_37 != 0) = true := bne_iff_ne.mpr c44
        by_cases c59 : (t452 == x458000_37 && (t453 == x458001_37)) = true
        · rw [if_pos c59] at H
          have c59b0 : (t452 == x458000_37 && (t453 == x458001_37)) = true := c59
          (try (have c59b1 : decide (t452 = x458000_37 && (t453 == x458001_37)) = true := by simpa using c59))
          (try (have c59b2 : (t452 == x458000_37 && (t453 == x458001_37)) = true := by simpa using c59))
          clear c59
          obtain rfl := Option.some.inj H
          have hnb60 := NB457_454.out
          have hnc60 := NB454_457.out
          have hcz61_0 : wc.cell? ⟨gb457, 0, none⟩ = some (.int .i64 x458000_37) := (blk_cell BK457.out 0).trans rfl
          have hcz61_1 : wc.cell? ⟨gb457, 1, none⟩ = some (.int .i64 x458001_37) := (blk_cell BK457.out 1).trans rfl
          have hfz61_0 := blk_frozen BK457.out 0
          have hfz61_1 := blk_frozen BK457.out 1
          have hcz62_0 : wc.cell? ⟨gb454, 0, none⟩ = some (.int .i64 t452) := (blk_cell BK454.out 0).trans rfl
          have hcz62_1 : wc.cell? ⟨gb454, 1, none⟩ = some (.int .i64 t453) := (blk_cell BK454.out 1).trans rfl
          have hfz62_0 := blk_frozen BK454.out 0
          have hfz62_1 := blk_frozen BK454.out 1
          obtain ⟨Ao63, co63, eo63⟩ := Kd.R_slice HO_5.out
          subst eo63
          go_wp2
          go_ret
          exact ⟨by first | rfl | (simp [errW_none, errW_some] <;> rfl) | (simp [*, errW_none, errW_some] <;> rfl), by repeat (first | (with_reducible first | exact HB.out | apply lA | apply lN | apply lD | refine lS ?_ GE454.out | refine lS ?_ GE457.out) | exact HB.out)⟩
        rw [if_neg c59] at H
        have c59b0 : (t452 == x458000_37 && (t453 == x458001_37)) = false := by simpa using c59
        (try (have c59b1 : decide (t452 = x458000_37 && (t453 == x458001_37)) = false := by simpa using c59))
        (try (have c59b2 : (t452 == x458000_37 && (t453 == x458001_37)) = false := by simpa using c59))
        (try (have c59b3 : ¬ (t452 = x458000_37 && (t453 == x458001_37)) := by simpa using c59))
        clear c59
        obtain rfl := Option.some.inj H
        have hnb64 := NB457_454.out
        have hnc64 := NB454_457.out
        have hcz65_0 : wc.cell? ⟨gb457, 0, none⟩ = some (.int .i64 x458000_37) := (blk_cell BK457.out 0).trans rfl
        have hcz65_1 : wc.cell? ⟨gb457, 1, none⟩ = some (.int .i64 x458001_37) := (blk_cell BK457.out 1).trans rfl
        have hfz65_0 := blk_frozen BK457.out 0
        have hfz65_1 := blk_frozen BK457.out 1
        have hcz66_0 : wc.cell? ⟨gb454, 0, none⟩ = some (.int .i64 t452) := (blk_cell BK454.out 0).trans rfl
        have hcz66_1 : wc.cell? ⟨gb454, 1, none⟩ = some (.int .i64 t453) := (blk_cell BK454.out 1).trans rfl
        have hfz66_0 := blk_frozen BK454.out 0
        have hfz66_1 := blk_frozen BK454.out 1
        go_wp2
        go_ret
        exact ⟨by first | rfl | (simp [errW_none, errW_some] <;> rfl) | (simp [*, errW_none, errW_some] <;> rfl), by repeat (first | (with_reducible first | exact HB.out | apply lA | apply lN | apply lD | refine lS ?_ GE454.out | refine lS ?_ GE457.out) | exact HB.out)⟩
      rw [if_pos c44] at H
      have c44b0 : (x458000_37 == 0) = true := beq_iff_eq.mpr c44
      have c44b1 : (x458000_37 != 0) = false := bne_eq_false_iff_eq.mpr c44
      clear c44
      by_cases c45 : t452 = 0
      rotate_left
      · rw [if_neg c45] at H
        have c45b0 : (t452 == 0) = false := beq_eq_false_iff_ne.mpr c45
        have c45b1 : (t452 != 0) = true := bne_iff_ne.mpr c45
        obtain rfl := Option.some.inj H
        have hnb56 := NB457_454.out
        have hnc56 := NB454_457.out
        have hcz57_0 : wc.cell? ⟨gb457, 0, none⟩ = some (.int .i64 x458000_37) := (blk_cell BK457.out 0).trans rfl
        have hcz57_1 : wc.cell? ⟨gb457, 1, none⟩ = some (.int .i64 x458001_37) := (blk_cell BK457.out 1).trans rfl
        have hfz57_0 := blk_frozen BK457.out 0
        have hfz57_1 := blk_frozen BK457.out 1
        have hcz58_0 : wc.cell? ⟨gb454, 0, none⟩ = some (.int .i64 t452) := (blk_cell BK454.out 0).trans rfl
        have hcz58_1 : wc.cell? ⟨gb454, 1, none⟩ = some (.int .i64 t453) := (blk_cell BK454.out 1).trans rfl
        have hfz58_0 := blk_frozen BK454.out 0
        have hfz58_1 := blk_frozen BK454.out 1
        go_wp2
        go_ret
        exact ⟨by first | rfl | (simp [errW_none, errW_some] <;> rfl) | (simp [*, errW_none, errW_some] <;> rfl), by repeat (first | (with_reducible first | exact HB.out | apply lA | apply lN | apply lD | refine lS ?_ GE454.out | refine lS ?_ GE457.out) | exact HB.out)⟩
      rw [if_pos c45] at H
      have c45b0 : (t452 == 0) = true := beq_iff_eq.mpr c45
      have c45b1 : (t452 != 0) = false := bne_eq_false_iff_eq.mpr c45
      clear c45
      replace H := Option.bind_eq_some_iff.mp H
      obtain ⟨t463, A460, H⟩ := H
      replace H : (if 0 ≤ a1 then (if a1 < (t463.length : Int) then ((changeforgeref3_Bools.f kj37 t449 (rd_L5 t463 a1)).bind fun t467 => (some t467)) else (none)) else (none)) = some r := H
      have A46 := aZ A460
      clear A460
      by_cases c47 : 0 ≤ a1
      rotate_left
      · rw [if_neg c47] at H
        exact absurd H (by simp)
      rw [if_pos c47] at H
      have c47b0 : decide (0 ≤ a1) = true := decide_eq_true c47
      clear c47
      by_cases c48 : a1 < (t463.length : Int)
      rotate_left
      · rw [if_neg c48] at H
        exact absurd H (by simp)
      rw [if_pos c48] at H
      have c48b0 : decide (a1 < (t463.length : Int)) = true := decide_eq_true c48
      clear c48
      replace H := Option.bind_eq_some_iff.mp H
      obtain ⟨t467, A490, H⟩ := H
      replace H : (some t467) = some r := H
      have A49 := aZ A490
      clear A490
      obtain rfl := Option.some.inj H
      have hnb50 := NB457_454.out
      have hnc50 := NB454_457.out
      have hcz51_0 : wc.cell? ⟨gb457, 0, none⟩ = some (.int .i64 x458000_37) := (blk_cell BK457.out 0).trans rfl
      have hcz51_1 : wc.cell? ⟨gb457, 1, none⟩ = some (.int .i64 x458001_37) := (blk_cell BK457.out 1).trans rfl
      have hfz51_0 := blk_frozen BK457.out 0
      have hfz51_1 := blk_frozen BK457.out 1
      have hcz52_0 : wc.cell? ⟨gb454, 0, none⟩ = some (.int .i64 t452) := (blk_cell BK454.out 0).trans rfl
      have hcz52_1 : wc.cell? ⟨gb454, 1, none⟩ = some (.int .i64 t453) := (blk_cell BK454.out 1).trans rfl
      have hfz52_0 := blk_frozen BK454.out 0
      have hfz52_1 := blk_frozen BK454.out 1
      go_wp2_with (first | (go_at_call 22; (with_reducible refine (changeforgeref3_Reach.calls kj37 _ _ l0 t463 _ ?side1 ?side2 A46.out).mono ?_); (case side1 => repeat (first | exact (Kd.C_below HR0.out HB.out) | (with_reducible refine Kd.C_alloc ?_ _) | (with_reducible refine Kd.C_drewN ?_ _) | (with_reducible refine Kd.C_drew ?_))); (case side2 => exact HC0.out); rintro e w53 ⟨v464, rfl, ho0, hb⟩; have n0_ := aZ (Kd.R_below (by (with_reducible repeat (first | apply Kd.rA | apply Kd.rN | apply Kd.rD)); exact HO_5.out) hb); have n1_ := aZ (Kd.S_lower (Kd.S_new' ho0 (Kd.R_lt (by (with_reducible repeat (first | apply Kd.rA | apply Kd.rN | apply Kd.rD)); exact HO_5.out))) (lZ (by repeat (first | (with_reducible first | exact HB.out | apply lA | apply lN | apply lD | refine lS ?_ GE454.out | refine lS ?_ GE457.out) | exact HB.out)))); have n2_ := aZ (blk_below (g := gb454) (o := .cells #[.int .i64 t452, .int .i64 t453] 26 (0, 0)) (by (with_reducible repeat (first | refine bN ?_ _ | refine bD ?_ | refine bA ?_ _)); exact BK454.out) hb); have n3_ := aZ (blk_below (g := gb457) (o := .cells #[.int .i64 x458000_37, .int .i64 x458001_37] 26 (0, 0)) (by (with_reducible repeat (first | refine bN ?_ _ | refine bD ?_ | refine bA ?_ _)); exact BK457.out) hb); have n4_ := aZ (lT (by repeat (first | (with_reducible first | exact HB.out | apply lA | apply lN | apply lD | refine lS ?_ GE454.out | refine lS ?_ GE457.out) | exact HB.out)) hb); clear HO_5; clear BK454; clear BK457; clear HB; have HO_5 := n0_; have HO465 := n1_; have BK454 := n2_; have BK457 := n3_; have HB := n4_; clear n0_ n1_ n2_ n3_ n4_; (try clear hb); (try clear hb2); (try clear hk); (try clear hi); (try clear ho0); obtain ⟨Ao54, co54, eo54⟩ := Kd.S_slice HO465.out; subst eo54; have p466 : 0 ≤ (a1 : Int) := of_decide_eq_true (by first | (with_reducible assumption) | assumption); have q466 : a1 < (t463.length : Int) := of_decide_eq_true (by first | (with_reducible assumption) | assumption); obtain ⟨ad466, A466_0, c466_0, e466, hx466_0, hl466_0, hi466_0⟩ := at_L5 (Kd.S_reads' HO465.out).2.2 a1 p466 q466; cases e466; obtain ⟨ce466, hce466, hMe466, hcc466⟩ := Kd.S_get HO465.out [] a1 p466 (by first | exact q466 | exact of_decide_eq_true (by first | (with_reducible assumption) | assumption) | (have e_ := (Kd.S_reads' HO465.out).1; omega)); obtain ⟨ve466_0, rfl, ge466_0⟩ := hMe466; have hv466_0 := hcc466 0 _ rfl; rw [Nat.add_zero, show ((Kd.slice 4 Kd.bool)).sz = 1 from rfl, Nat.mul_one] at hv466_0; replace hv466_0 := Option.some.inj (hv466_0.symm.trans hx466_0); rw [hv466_0] at ge466_0; have HL466_0 := aZ (show Kd.R Kd.bool 4 _ _ _ _ (rd_L5 t463 a1) from ge466_0); clear hv466_0 ge466_0; clear hcc466 hce466; have HR466_0 := aZ hi466_0; have HC466_0 := aZ hl466_0; clear hi466_0 hl466_0; replace p466 := eq_true p466; replace q466 := eq_true q466; obtain ⟨Ao55, co55, eo55⟩ := Kd.R_slice HO_5.out; subst eo55) | (go_at_call 26; (with_reducible refine (changeforgeref3_Bools.calls kj37 _ _ t449 _ _ (rd_L5 t463 a1) t467 _ ?side1 ?side2 ?side3 ?side4 A49.out).mono ?_); (case side1 => repeat (first | exact (Kd.R_reads' HO_5.out).2.2 | (with_reducible refine Kd.C_alloc ?_ _) | (with_reducible refine Kd.C_drewN ?_ _) | (with_reducible refine Kd.C_drew ?_))); (case side2 => exact (Kd.R_reads' HO_5.out).2.1); (case side3 => repeat (first | exact (by repeat (first | (with_reducible exact HR466_0.out) | (with_reducible refine Kd.C_alloc ?_ _) | (with_reducible refine Kd.C_drewN ?_ _) | (with_reducible refine Kd.C_drew ?_) | exact HR466_0.out)) | (with_reducible refine Kd.C_alloc ?_ _) | (with_reducible refine Kd.C_drewN ?_ _) | (with_reducible refine Kd.C_drew ?_))); (case side4 => exact HC466_0.out); rintro e w' ⟨rfl, ⟨nd, rfl⟩⟩))
      go_ret
      exact ⟨by first | rfl | (simp [errW_none, errW_some] <;> rfl) | (simp [*, errW_none, errW_some] <;> rfl), by repeat (first | (with_reducible first | exact HB.out | apply lA | apply lN | apply lD | refine lS ?_ GE454.out | refine lS ?_ GE457.out) | exact HB.out)⟩
/-- THE PURE STATEMENT of changeforgelaw3_HistoryAncestorsMatchesSpec. -/
def changeforgelaw3_HistoryAncestorsMatchesSpec.Pure : Prop := ∀ (l0 : List (S49)) (a1 : Int), (l0.length * 64 ≤ 140737488351232 ∧ ∀ x_ ∈ l0, S49.ok x_) → (Lit.int .i64 a1).wf = true → ∃ k, changeforgelaw3_HistoryAncestorsMatchesSpec.f k l0 a1 = some true

end Go.Proofs.Ytojhnjgnpjoacaa.P
