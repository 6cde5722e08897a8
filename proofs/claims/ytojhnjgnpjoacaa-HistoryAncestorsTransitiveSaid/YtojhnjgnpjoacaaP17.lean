/- What the Go functions of this seat compute, and that they do: printed by a program over the kit's print. -/
import Derived.Test.YtojhnjgnpjoacaaP0
import Derived.Test.YtojhnjgnpjoacaaP3
import Derived.Test.YtojhnjgnpjoacaaP6
import Derived.Test.YtojhnjgnpjoacaaP15
namespace Go.Proofs.Ytojhnjgnpjoacaa.P
open Go.RowKit Go.Proofs.YtojhnjgnpjoacaaW.PrintWords Go.Proofs.YtojhnjgnpjoacaaW.PrintLast Go.Proofs.YtojhnjgnpjoacaaW.PrintMore
attribute [local go_sem] max2_int min2_int max_two min_two max_three min_three max_four min_four   -- for this text's walks alone
set_option linter.unusedVariables false
set_option linter.unusedSimpArgs false

/-! ### changeforgelaw3_HistoryAncestorsTransitive: function 8 -/
mutual
def changeforgelaw3_HistoryAncestorsTransitive.j0 : Nat → List (S49) → Int → Int → List Bool → List Bool → Bool → Int → Int → Option (Bool)
  | 0, _, _, _, _, _, _, _, _ => none
  | k + 1, x0, x1, x2, x7, x9, x33, x475000, x475001 => if x33 = true then (if x475000 = 0 then (some true) else (some ((x7.length : Int) == 0))) else (if (x7.length : Int) = (x0.length : Int) then (if (x9.length : Int) = (x0.length : Int) then ((changeforgeref3_In.f x1 0 (wrap64 ((x0.length : Int) - 1))).bind fun t481 => (if t481 = true then ((changeforgeref3_In.f x2 0 (wrap64 ((x0.length : Int) - 1))).bind fun t482 => (if t482 = true then (if 0 ≤ x1 then (if x1 < (x7.length : Int) then (changeforgelaw3_HistoryAncestorsTransitive.j1 k x0 x2 x7 x9 (!(rdOf false x7 x1))) else (none)) else (none)) else (changeforgelaw3_HistoryAncestorsTransitive.j1 k x0 x2 x7 x9 true))) else (changeforgelaw3_HistoryAncestorsTransitive.j1 k x0 x2 x7 x9 true))) else (changeforgelaw3_HistoryAncestorsTransitive.j1 k x0 x2 x7 x9 true)) else (changeforgelaw3_HistoryAncestorsTransitive.j1 k x0 x2 x7 x9 true))
def changeforgelaw3_HistoryAncestorsTransitive.j1 : Nat → List (S49) → Int → List Bool → List Bool → Bool → Option (Bool)
  | 0, _, _, _, _, _ => none
  | k + 1, x0, x2, x7, x9, x76 => if x76 = true then (some false) else (changeforgelaw3_HistoryAncestorsTransitive.l0 k x0 x2 x7 x9 0)
def changeforgelaw3_HistoryAncestorsTransitive.l0 : Nat → List (S49) → Int → List Bool → List Bool → Int → Option (Bool)
  | 0, _, _, _, _, _ => none
  | k + 1, x0, x2, x7, x9, x11 => if x11 < (x0.length : Int) then (if 0 ≤ x2 then (if x2 < (x7.length : Int) then (if rdOf false x7 x2 = true then (if 0 ≤ x11 then (if x11 < (x9.length : Int) then (if rdOf false x9 x11 = true then (if x11 < (x7.length : Int) then (if rdOf false x7 x11 = true then (changeforgelaw3_HistoryAncestorsTransitive.l0 k x0 x2 x7 x9 (wrap64 (x11 + 1))) else (some false)) else (none)) else (changeforgelaw3_HistoryAncestorsTransitive.l0 k x0 x2 x7 x9 (wrap64 (x11 + 1)))) else (none)) else (none)) else (changeforgelaw3_HistoryAncestorsTransitive.l0 k x0 x2 x7 x9 (wrap64 (x11 + 1)))) else (none)) else (none)) else (some true)
end
def changeforgelaw3_HistoryAncestorsTransitive.f (k : Nat) (l0 : List (S49)) (a1 : Int) (a2 : Int) : Option (Bool) := (changeforgelaw3_historyExample.f k).bind fun t468 => (if t468 = true then ((history_Ancestors.f k l0 a1).bind fun bt469 => ((history_Ancestors.f k l0 a2).bind fun bt475 => (if bt469.2.1 = 0 then (changeforgelaw3_HistoryAncestorsTransitive.j0 k l0 a1 a2 bt469.1 bt475.1 (bt475.2.1 != 0) bt469.2.1 bt469.2.2) else (changeforgelaw3_HistoryAncestorsTransitive.j0 k l0 a1 a2 bt469.1 bt475.1 true bt469.2.1 bt469.2.2)))) else (some false))
theorem changeforgelaw3_HistoryAncestorsTransitive.mono_l : ∀ k, (∀ y0 y1 y2 y3 y4 y5 y6 y7, LeO (changeforgelaw3_HistoryAncestorsTransitive.j0 k y0 y1 y2 y3 y4 y5 y6 y7) (changeforgelaw3_HistoryAncestorsTransitive.j0 (k + 1) y0 y1 y2 y3 y4 y5 y6 y7)) ∧ (∀ y0 y1 y2 y3 y4, LeO (changeforgelaw3_HistoryAncestorsTransitive.j1 k y0 y1 y2 y3 y4) (changeforgelaw3_HistoryAncestorsTransitive.j1 (k + 1) y0 y1 y2 y3 y4)) ∧ (∀ y0 y1 y2 y3 y4, LeO (changeforgelaw3_HistoryAncestorsTransitive.l0 k y0 y1 y2 y3 y4) (changeforgelaw3_HistoryAncestorsTransitive.l0 (k + 1) y0 y1 y2 y3 y4))
  | 0 => ⟨fun _ _ _ _ _ _ _ _ r h => by simp [changeforgelaw3_HistoryAncestorsTransitive.j0] at h, fun _ _ _ _ _ r h => by simp [changeforgelaw3_HistoryAncestorsTransitive.j1] at h, fun _ _ _ _ _ r h => by simp [changeforgelaw3_HistoryAncestorsTransitive.l0] at h⟩
  | k + 1 => by
    obtain ⟨ih0, ih1, ih2⟩ := changeforgelaw3_HistoryAncestorsTransitive.mono_l k
    refine ⟨?_, ?_, ?_⟩
    · intro y0 y1 y2 y3 y4 y5 y6 y7
      unfold changeforgelaw3_HistoryAncestorsTransitive.j0
      repeat' first
      | (with_reducible exact ih0 _ _ _ _ _ _ _ _)
      | (with_reducible exact ih1 _ _ _ _ _)
      | (with_reducible exact ih2 _ _ _ _ _)
      | (with_reducible exact changeforgelaw3_historyExample.mono _)
      | (with_reducible exact history_Ancestors.mono _ _ _)
      | (with_reducible exact LeO.refl _)
      | (with_reducible exact LeO.none _)
      | (with_reducible refine LeO.ite ?_ ?_)
      | (with_reducible refine LeO.bind ?_ (fun _ => ?_))
      | exact ih0 _ _ _ _ _ _ _ _
      | exact ih1 _ _ _ _ _
      | exact ih2 _ _ _ _ _
      | exact changeforgelaw3_historyExample.mono _
      | exact history_Ancestors.mono _ _ _
      | exact LeO.none _
      | refine LeO.ite ?_ ?_
      | refine LeO.bind ?_ (fun _ => ?_)
    · intro y0 y1 y2 y3 y4
      unfold changeforgelaw3_HistoryAncestorsTransitive.j1
      repeat' first
      | (with_reducible exact ih0 _ _ _ _ _ _ _ _)
      | (with_reducible exact ih1 _ _ _ _ _)
      | (with_reducible exact ih2 _ _ _ _ _)
      | (with_reducible exact changeforgelaw3_historyExample.mono _)
      | (with_reducible exact history_Ancestors.mono _ _ _)
      | (with_reducible exact LeO.refl _)
      | (with_reducible exact LeO.none _)
      | (with_reducible refine LeO.ite ?_ ?_)
      | (with_reducible refine LeO.bind ?_ (fun _ => ?_))
      | exact ih0 _ _ _ _ _ _ _ _
      | exact ih1 _ _ _ _ _
      | exact ih2 _ _ _ _ _
      | exact changeforgelaw3_historyExample.mono _
      | exact history_Ancestors.mono _ _ _
      | exact LeO.none _
      | refine LeO.ite ?_ ?_
      | refine LeO.bind ?_ (fun _ => ?_)
    · intro y0 y1 y2 y3 y4
      unfold changeforgelaw3_HistoryAncestorsTransitive.l0
      repeat' first
      | (with_reducible exact ih0 _ _ _ _ _ _ _ _)
      | (with_reducible exact ih1 _ _ _ _ _)
      | (with_reducible exact ih2 _ _ _ _ _)
      | (with_reducible exact changeforgelaw3_historyExample.mono _)
      | (with_reducible exact history_Ancestors.mono _ _ _)
      | (with_reducible exact LeO.refl _)
      | (with_reducible exact LeO.none _)
      | (with_reducible refine LeO.ite ?_ ?_)
      | (with_reducible refine LeO.bind ?_ (fun _ => ?_))
      | exact ih0 _ _ _ _ _ _ _ _
      | exact ih1 _ _ _ _ _
      | exact ih2 _ _ _ _ _
      | exact changeforgelaw3_historyExample.mono _
      | exact history_Ancestors.mono _ _ _
      | exact LeO.none _
      | refine LeO.ite ?_ ?_
      | refine LeO.bind ?_ (fun _ => ?_)
theorem changeforgelaw3_HistoryAncestorsTransitive.mono : ∀ a0 a1 a2 k, LeO (changeforgelaw3_HistoryAncestorsTransitive.f k a0 a1 a2) (changeforgelaw3_HistoryAncestorsTransitive.f (k + 1) a0 a1 a2) := by
  intro a0 a1 a2 k
  obtain ⟨ih0, ih1, ih2⟩ := changeforgelaw3_HistoryAncestorsTransitive.mono_l k
  unfold changeforgelaw3_HistoryAncestorsTransitive.f
  repeat' first
      | (with_reducible exact ih0 _ _ _ _ _ _ _ _)
      | (with_reducible exact ih1 _ _ _ _ _)
      | (with_reducible exact ih2 _ _ _ _ _)
      | (with_reducible exact changeforgelaw3_historyExample.mono _)
      | (with_reducible exact history_Ancestors.mono _ _ _)
      | (with_reducible exact LeO.refl _)
      | (with_reducible exact LeO.none _)
      | (with_reducible refine LeO.ite ?_ ?_)
      | (with_reducible refine LeO.bind ?_ (fun _ => ?_))
      | exact ih0 _ _ _ _ _ _ _ _
      | exact ih1 _ _ _ _ _
      | exact ih2 _ _ _ _ _
      | exact changeforgelaw3_historyExample.mono _
      | exact history_Ancestors.mono _ _ _
      | exact LeO.none _
      | refine LeO.ite ?_ ?_
      | refine LeO.bind ?_ (fun _ => ?_)
set_option maxHeartbeats 8000000 in
set_option maxRecDepth 100000 in
theorem changeforgelaw3_HistoryAncestorsTransitive.calls (k : Nat) (A0 : Option Addr) (c0 : Nat) (l0 : List (S49)) (a1 : Int) (a2 : Int) (r : Bool) (w : World) (hr0 : Kd.C k49 w A0 l0.length l0) (hc0 : l0.length ≤ c0) (h : changeforgelaw3_HistoryAncestorsTransitive.f k l0 a1 a2 = some r) :
  Calls Try.prog 8 #[.slice A0 l0.length c0, .int .i64 a1, .int .i64 a2] w fun e w' => e = .returned (.bool r) ∧ Below w.heap.size w w' := by
  have hu26 := Try.underlying26
  have HR0 := aZ hr0
  have HC0 := aZ hc0
  clear hr0 hc0
  have HB := aZ (Below.refl w.heap.size w)
  have H : ((changeforgelaw3_historyExample.f k).bind fun t468 => (if t468 = true then ((history_Ancestors.f k l0 a1).bind fun bt469 => ((history_Ancestors.f k l0 a2).bind fun bt475 => (if bt469.2.1 = 0 then (changeforgelaw3_HistoryAncestorsTransitive.j0 k l0 a1 a2 bt469.1 bt475.1 (bt475.2.1 != 0) bt469.2.1 bt469.2.2) else (changeforgelaw3_HistoryAncestorsTransitive.j0 k l0 a1 a2 bt469.1 bt475.1 true bt469.2.1 bt469.2.2)))) else (some false))) = some r := h
  clear h
  replace H := Option.bind_eq_some_iff.mp H
  obtain ⟨t468, A40, H⟩ := H
  replace H : (if t468 = true then ((history_Ancestors.f k l0 a1).bind fun bt469 => ((history_Ancestors.f k l0 a2).bind fun bt475 => (if bt469.2.1 = 0 then (changeforgelaw3_HistoryAncestorsTransitive.j0 k l0 a1 a2 bt469.1 bt475.1 (bt475.2.1 != 0) bt469.2.1 bt469.2.2) else (changeforgelaw3_HistoryAncestorsTransitive.j0 k l0 a1 a2 bt469.1 bt475.1 true bt469.2.1 bt469.2.2)))) else (some false)) = some r := H
  have A4 := aZ A40
  clear A40
  by_cases c5 : t468 = true
  rotate_left
  · replace c5 := Bool.eq_false_iff.mpr c5
    subst c5
    have H1 : (some false) = some r := by rw [if_neg (show ¬ (false = true) by decide)] at H; exact H
    clear H
    have H := H1
    clear H1
    obtain rfl := Option.some.inj H
    go_enter Try.func8, Try.ntmps8
    go_wp2_with (first | ((with_reducible refine gate_callee (f := 23) rfl ?_); refine goesL_ (some 12) rfl rfl Try.func23 (by kernel_rfl) rfl #[] rfl (by (try simp only [List.map_toArray, List.map_cons, List.map_nil]); first | done | rfl | (simp only [List.length_drop, List.length_take]; rfl)) ?_; (with_reducible refine (changeforgelaw3_historyExample.calls k  false _ A4.out).mono ?_); rintro e w68 ⟨rfl, hb⟩; refine ⟨_, rfl, ?_⟩; have n0_ := aZ (lT (by repeat (first | (with_reducible first | exact HB.out | apply lA | apply lN | apply lD) | exact HB.out)) hb); clear HB; have HB := n0_; clear n0_; (try clear hb); (try clear hb2); (try clear hk); (try clear hi)))
    go_ret
    exact ⟨by first | rfl | (simp [errW_none, errW_some] <;> rfl) | (simp [*, errW_none, errW_some] <;> rfl), by repeat (first | (with_reducible first | exact HB.out | apply lA | apply lN | apply lD) | exact HB.out)⟩

  subst c5
  have H1 : ((history_Ancestors.f k l0 a1).bind fun bt469 => ((history_Ancestors.f k l0 a2).bind fun bt475 => (if bt469.2.1 = 0 then (changeforgelaw3_HistoryAncestorsTransitive.j0 k l0 a1 a2 bt469.1 bt475.1 (bt475.2.1 != 0) bt469.2.1 bt469.2.2) else (changeforgelaw3_HistoryAncestorsTransitive.j0 k l0 a1 a2 bt469.1 bt475.1 true bt469.2.1 bt469.2.2)))) = some r := by rw [if_pos rfl] at H; exact H
  clear H
  have H := H1
  clear H1
  replace H := Option.bind_eq_some_iff.mp H
  obtain ⟨⟨t469, t472, t473⟩, A60, H⟩ := H
  replace H : ((history_Ancestors.f k l0 a2).bind fun bt475 => (if t472 = 0 then (changeforgelaw3_HistoryAncestorsTransitive.j0 k l0 a1 a2 t469 bt475.1 (bt475.2.1 != 0) t472 t473) else (changeforgelaw3_HistoryAncestorsTransitive.j0 k l0 a1 a2 t469 bt475.1 true t472 t473))) = some r := H
  have A6 := aZ A60
  clear A60
  replace H := Option.bind_eq_some_iff.mp H
  obtain ⟨⟨t475, t478, t479⟩, A70, H⟩ := H
  replace H : (if t472 = 0 then (changeforgelaw3_HistoryAncestorsTransitive.j0 k l0 a1 a2 t469 t475 (t478 != 0) t472 t473) else (changeforgelaw3_HistoryAncestorsTransitive.j0 k l0 a1 a2 t469 t475 true t472 t473)) = some r := H
  have A7 := aZ A70
  clear A70
  have HC8 := aZ H
  clear H
  go_enter Try.func8, Try.ntmps8
  go_upto_region 5 with (first | ((with_reducible refine gate_callee (f := 23) rfl ?_); refine goesL_ (some 12) rfl rfl Try.func23 (by kernel_rfl) rfl #[] rfl (by (try simp only [List.map_toArray, List.map_cons, List.map_nil]); first | done | rfl | (simp only [List.length_drop, List.length_take]; rfl)) ?_; (with_reducible refine (changeforgelaw3_historyExample.calls k  true _ A4.out).mono ?_); rintro e w9 ⟨rfl, hb⟩; refine ⟨_, rfl, ?_⟩; have n0_ := aZ (lT (by repeat (first | (with_reducible first | exact HB.out | apply lA | apply lN | apply lD) | exact HB.out)) hb); clear HB; have HB := n0_; clear n0_; (try clear hb); (try clear hb2); (try clear hk); (try clear hi)) | ((with_reducible refine gate_callee (f := 24) rfl ?_); refine goesL_ (some 17) rfl rfl Try.func24 (by kernel_rfl) rfl #[.slice A0 l0.length c0, .int .i64 a1] rfl (by (try simp only [List.map_toArray, List.map_cons, List.map_nil]); first | done | rfl | (simp only [List.length_drop, List.length_take]; rfl)) ?_; (with_reducible refine (history_Ancestors.calls k _ _ l0 a1 t469 t472 t473 _ ?side1 ?side2 A6.out).mono ?_); (case side1 => repeat (first | exact (Kd.C_below HR0.out HB.out) | (with_reducible refine Kd.C_alloc ?_ _) | (with_reducible refine Kd.C_drewN ?_ _) | (with_reducible refine Kd.C_drew ?_))); (case side2 => exact HC0.out); rintro e w10 ⟨v470, rfl, ho0, hb⟩; refine ⟨_, rfl, ?_⟩; have n0_ := aZ (Kd.R_lower ho0 (lZ (by repeat (first | (with_reducible first | exact HB.out | apply lA | apply lN | apply lD) | exact HB.out)))); have n1_ := aZ (lT (by repeat (first | (with_reducible first | exact HB.out | apply lA | apply lN | apply lD) | exact HB.out)) hb); clear HB; have HO471 := n0_; have HB := n1_; clear n0_ n1_; (try clear hb); (try clear hb2); (try clear hk); (try clear hi); (try clear ho0)) | ((with_reducible refine gate_dst (N := 8) rfl ?_); (try (refine gate_guard (by rfl) ?_; dsimp only)); refine box_event ?hg (N := 8) ?hd (cs := #[.int .i64 0, .int .i64 0]) (t := 26) ?hr ?_; (case hd => rfl); (case hg => rfl); (case hr => first | (go_simp; done) | (go_simp; rfl)); intro gb474 hg w11 hbox hb; have n0_ := aZ (Kd.R_below (by (with_reducible repeat (first | apply Kd.rA | apply Kd.rN | apply Kd.rD)); exact HO471.out) hb); have n1_ := aZ (lT (by repeat (first | (with_reducible first | exact HB.out | apply lA | apply lN | apply lD) | exact HB.out)) hb); have n2_ := aZ (hbox); have n3_ := aZ ((by rw [hg]; exact (lZ (by repeat (first | (with_reducible first | exact HB.out | apply lA | apply lN | apply lD) | exact HB.out))) : w.heap.size ≤ gb474)); have n4_ := aZ ((by rw [hg]; exact (lZ (by repeat (first | (with_reducible first | exact HB.out | apply lA | apply lN | apply lD) | exact HB.out))) : w.heap.size ≤ gb474)); clear HO471; clear HB; have HO471 := n0_; have HB := n1_; have BK474 := n2_; have GW474 := n3_; have GE474 := n4_; clear n0_ n1_ n2_ n3_ n4_; clear hb hbox hg; have hcz12_0 : w11.cell? ⟨gb474, 0, none⟩ = some (.int .i64 0) := (blk_cell BK474.out 0).trans rfl; have hcz12_1 : w11.cell? ⟨gb474, 1, none⟩ = some (.int .i64 0) := (blk_cell BK474.out 1).trans rfl; have hfz12_0 := blk_frozen BK474.out 0; have hfz12_1 := blk_frozen BK474.out 1) | ((with_reducible refine gate_callee (f := 24) rfl ?_); refine goesL_ (some 23) rfl rfl Try.func24 (by kernel_rfl) rfl #[.slice A0 l0.length c0, .int .i64 a2] rfl (by (try simp only [List.map_toArray, List.map_cons, List.map_nil]); first | done | rfl | (simp only [List.length_drop, List.length_take]; rfl)) ?_; (with_reducible refine (history_Ancestors.calls k _ _ l0 a2 t475 t478 t479 _ ?side1 ?side2 A7.out).mono ?_); (case side1 => exact Kd.C_below HR0.out (by repeat (first | (with_reducible first | exact HB.out | apply lA | apply lN | apply lD | refine lS ?_ GE474.out) | exact HB.out))); (case side2 => exact HC0.out); rintro e w13 ⟨v476, rfl, ho0, hb⟩; refine ⟨_, rfl, ?_⟩; have n0_ := aZ (Kd.R_elder' (by (with_reducible repeat (first | apply Kd.rA | apply Kd.rN | apply Kd.rD)); exact (Kd.R_mono (Kd.R_far (p := ⟨gb474, 1, none⟩) (Kd.R_far (p := ⟨gb474, 0, none⟩) (Kd.R_types HO471.out BK474.out (by decide)) (fun _ hk => hk.2) (.int .i64 t472)) (fun _ hk => hk.2) (.int .i64 t473)) (fun _ h_ => h_.1))) (Kd.R_base ho0) hb); have n1_ := aZ (Kd.R_lower (Kd.R_new' ho0 (Kd.R_lt (by (with_reducible repeat (first | apply Kd.rA | apply Kd.rN | apply Kd.rD)); exact (Kd.R_mono (Kd.R_far (p := ⟨gb474, 1, none⟩) (Kd.R_far (p := ⟨gb474, 0, none⟩) (Kd.R_types HO471.out BK474.out (by decide)) (fun _ hk => hk.2) (.int .i64 t472)) (fun _ hk => hk.2) (.int .i64 t473)) (fun _ h_ => h_.1))))) (lZ (by repeat (first | (with_reducible first | exact HB.out | apply lA | apply lN | apply lD | refine lS ?_ GE474.out) | exact HB.out)))); have n2_ := aZ (blk_below (g := gb474) (o := .cells #[.int .i64 t472, .int .i64 t473] 26 (0, 0)) (by (with_reducible repeat (first | refine bN ?_ _ | refine bD ?_ | refine bA ?_ _)); refine blk_put (cs := #[.int .i64 t472, .int .i64 0]) ?_ 1 _ rfl; (with_reducible repeat (first | refine bN ?_ _ | refine bD ?_ | refine bA ?_ _)); refine blk_put (cs := #[.int .i64 0, .int .i64 0]) ?_ 0 _ rfl; (with_reducible repeat (first | refine bN ?_ _ | refine bD ?_ | refine bA ?_ _)); exact BK474.out) hb); have n3_ := aZ (lT (by repeat (first | (with_reducible first | exact HB.out | apply lA | apply lN | apply lD | refine lS ?_ GE474.out) | exact HB.out)) hb); clear HO471; clear BK474; clear HB; have HO471 := n0_; have HO477 := n1_; have BK474 := n2_; have HB := n3_; clear n0_ n1_ n2_ n3_; (try clear hb); (try clear hb2); (try clear hk); (try clear hi); (try clear ho0)) | ((with_reducible refine gate_dst (N := 10) rfl ?_); (try (refine gate_guard (by rfl) ?_; dsimp only)); refine box_event ?hg (N := 10) ?hd (cs := #[.int .i64 0, .int .i64 0]) (t := 26) ?hr ?_; (case hd => rfl); (case hg => rfl); (case hr => first | (go_simp; done) | (go_simp; rfl)); intro gb480 hg w14 hbox hb; have n0_ := aZ (Kd.R_below (by (with_reducible repeat (first | apply Kd.rA | apply Kd.rN | apply Kd.rD)); exact HO471.out) hb); have n1_ := aZ (Kd.R_below (by (with_reducible repeat (first | apply Kd.rA | apply Kd.rN | apply Kd.rD)); exact HO477.out) hb); have n2_ := aZ (blk_below (g := gb474) (o := .cells #[.int .i64 t472, .int .i64 t473] 26 (0, 0)) (by (with_reducible repeat (first | refine bN ?_ _ | refine bD ?_ | refine bA ?_ _)); exact BK474.out) hb); have n3_ := aZ (lT (by repeat (first | (with_reducible first | exact HB.out | apply lA | apply lN | apply lD | refine lS ?_ GE474.out) | exact HB.out)) hb); have n4_ := aZ (hbox); have n5_ := aZ ((by rw [hg]; exact (lZ (by repeat (first | (with_reducible first | exact HB.out | apply lA | apply lN | apply lD | refine lS ?_ GE474.out) | exact HB.out))) : w.heap.size ≤ gb480)); have n6_ := aZ ((by rw [hg]; exact (lZ (by repeat (first | (with_reducible first | exact HB.out | apply lA | apply lN | apply lD | refine lS ?_ GE474.out) | exact HB.out))) : w.heap.size ≤ gb480)); have n7_ := aZ ((by rw [hg]; exact Nat.ne_of_lt (blk_lt (g := gb474) (o := .cells #[.int .i64 t472, .int .i64 t473] 26 (0, 0)) (by (with_reducible repeat (first | refine bN ?_ _ | refine bD ?_ | refine bA ?_ _)); exact BK474.out)) : gb474 ≠ gb480)); have n8_ := aZ ((by rw [hg]; exact Nat.ne_of_gt (blk_lt (g := gb474) (o := .cells #[.int .i64 t472, .int .i64 t473] 26 (0, 0)) (by (with_reducible repeat (first | refine bN ?_ _ | refine bD ?_ | refine bA ?_ _)); exact BK474.out)) : gb480 ≠ gb474)); clear HO471; clear HO477; clear BK474; clear HB; have HO471 := n0_; have HO477 := n1_; have BK474 := n2_; have HB := n3_; have BK480 := n4_; have GW480 := n5_; have GE480 := n6_; have NB474_480 := n7_; have NB480_474 := n8_; clear n0_ n1_ n2_ n3_ n4_ n5_ n6_ n7_ n8_; clear hb hbox hg; have hnb15 := NB480_474.out; have hnc15 := NB474_480.out; have hcz16_0 : w14.cell? ⟨gb480, 0, none⟩ = some (.int .i64 0) := (blk_cell BK480.out 0).trans rfl; have hcz16_1 : w14.cell? ⟨gb480, 1, none⟩ = some (.int .i64 0) := (blk_cell BK480.out 1).trans rfl; have hfz16_0 := blk_frozen BK480.out 0; have hfz16_1 := blk_frozen BK480.out 1))
  (try simp only [Act.put, List.setIfInBounds_toArray, List.set_cons_zero, List.set_cons_succ])
  go_cut [33] (fun v33 wc => ∃ (kq : Nat) (x33_7 : Bool), v33 = .bool x33_7 ∧ Aside0 (changeforgelaw3_HistoryAncestorsTransitive.j0 kq l0 a1 a2 t469 t475 x33_7 t472 t473 = some r) ∧ Aside0 (kq ≤ k) ∧ Aside0 (Kd.R Kd.bool 4 wc w.heap.size (fun k_ => some k_ ≠ (v476 : Value).ownBlock) v470 t469) ∧ Aside0 (Kd.R Kd.bool 4 wc w.heap.size (fun k_ => some k_ ≠ (v470 : Value).ownBlock) v476 t475) ∧ Aside0 (wc.heap[gb474]? = some (.cells #[.int .i64 t472, .int .i64 t473] 26 (0, 0))) ∧ Aside0 (wc.heap[gb480]? = some (.cells #[.int .i64 t478, .int .i64 t479] 26 (0, 0))) ∧ Aside0 (Below w.heap.size w wc))
  case first =>
   have H := HC8.out
   clear HC8
   by_cases c17 : t472 = 0
   rotate_left
   · rw [if_neg c17] at H
     have c17b0 : (t472 == 0) = false := beq_eq_false_iff_ne.mpr c17
     have c17b1 : (t472 != 0) = true := bne_iff_ne.mpr c17
     (first | rw [c17b0] | (simp only [i64_w, i32_w]; rw [c17b0]) | skip)
     have H' := aZ H
     clear H
     have hnb21 := NB474_480.out
     have hnc21 := NB480_474.out
     have hcz22_0 : w14.cell? ⟨gb474, 0, none⟩ = some (.int .i64 t472) := (blk_cell BK474.out 0).trans rfl
     have hcz22_1 : w14.cell? ⟨gb474, 1, none⟩ = some (.int .i64 t473) := (blk_cell BK474.out 1).trans rfl
     have hfz22_0 := blk_frozen BK474.out 0
     have hfz22_1 := blk_frozen BK474.out 1
     go_wp2
     go_meet
     case rel => exact ⟨_, (true), (by first | rfl | (simp; done) | (simp [*]; done)), H', ⟨by first | omega | exact Nat.le_refl _⟩, ⟨by (with_reducible repeat (first | apply Kd.rA | apply Kd.rN | apply Kd.rD)); exact Kd.R_mono (Kd.R_far (p := ⟨gb480, 1, none⟩) (Kd.R_far (p := ⟨gb480, 0, none⟩) (Kd.R_types HO471.out BK480.out (by decide)) (fun _ hk => hk.2) (.int .i64 t478)) (fun _ hk => hk.2) (.int .i64 t479)) (fun _ hk => hk.1.2)⟩, ⟨by (with_reducible repeat (first | apply Kd.rA | apply Kd.rN | apply Kd.rD)); exact Kd.R_mono (Kd.R_far (p := ⟨gb480, 1, none⟩) (Kd.R_far (p := ⟨gb480, 0, none⟩) (Kd.R_types HO477.out BK480.out (by decide)) (fun _ hk => hk.2) (.int .i64 t478)) (fun _ hk => hk.2) (.int .i64 t479)) (fun _ hk => hk.1.2)⟩, ⟨by (with_reducible repeat (first | refine bN ?_ _ | refine bD ?_ | refine bA ?_ _)); refine blk_far ?_ NB474_480.out _; (with_reducible repeat (first | refine bN ?_ _ | refine bD ?_ | refine bA ?_ _)); refine blk_far ?_ NB474_480.out _; (with_reducible repeat (first | refine bN ?_ _ | refine bD ?_ | refine bA ?_ _)); exact BK474.out⟩, ⟨by (with_reducible repeat (first | refine bN ?_ _ | refine bD ?_ | refine bA ?_ _)); refine blk_put (cs := #[.int .i64 t478, .int .i64 0]) ?_ 1 _ rfl; (with_reducible repeat (first | refine bN ?_ _ | refine bD ?_ | refine bA ?_ _)); refine blk_put (cs := #[.int .i64 0, .int .i64 0]) ?_ 0 _ rfl; (with_reducible repeat (first | refine bN ?_ _ | refine bD ?_ | refine bA ?_ _)); exact BK480.out⟩, ⟨by repeat (first | (with_reducible first | exact HB.out | apply lA | apply lN | apply lD | refine lS ?_ GE474.out | refine lS ?_ GE480.out) | exact HB.out)⟩⟩
   rw [if_pos c17] at H
   have c17b0 : (t472 == 0) = true := beq_iff_eq.mpr c17
   have c17b1 : (t472 != 0) = false := bne_eq_false_iff_eq.mpr c17
   clear c17
   (first | rw [c17b0] | (simp only [i64_w, i32_w]; rw [c17b0]) | skip)
   have H' := aZ H
   clear H
   have hnb18 := NB474_480.out
   have hnc18 := NB480_474.out
   have hcz19_0 : w14.cell? ⟨gb474, 0, none⟩ = some (.int .i64 t472) := (blk_cell BK474.out 0).trans rfl
   have hcz19_1 : w14.cell? ⟨gb474, 1, none⟩ = some (.int .i64 t473) := (blk_cell BK474.out 1).trans rfl
   have hfz19_0 := blk_frozen BK474.out 0
   have hfz19_1 := blk_frozen BK474.out 1
   have hcz20_0 : w14.cell? ⟨gb480, 0, none⟩ = some (.int .i64 0) := (blk_cell BK480.out 0).trans rfl
   have hcz20_1 : w14.cell? ⟨gb480, 1, none⟩ = some (.int .i64 0) := (blk_cell BK480.out 1).trans rfl
   have hfz20_0 := blk_frozen BK480.out 0
   have hfz20_1 := blk_frozen BK480.out 1
   go_wp2
   go_meet
   case rel => exact ⟨_, ((t478 != 0)), (by first | rfl | (simp; done) | (simp [*]; done)), H', ⟨by first | omega | exact Nat.le_refl _⟩, ⟨by (with_reducible repeat (first | apply Kd.rA | apply Kd.rN | apply Kd.rD)); exact Kd.R_mono (Kd.R_far (p := ⟨gb480, 1, none⟩) (Kd.R_far (p := ⟨gb480, 0, none⟩) (Kd.R_types HO471.out BK480.out (by decide)) (fun _ hk => hk.2) (.int .i64 t478)) (fun _ hk => hk.2) (.int .i64 t479)) (fun _ hk => hk.1.2)⟩, ⟨by (with_reducible repeat (first | apply Kd.rA | apply Kd.rN | apply Kd.rD)); exact Kd.R_mono (Kd.R_far (p := ⟨gb480, 1, none⟩) (Kd.R_far (p := ⟨gb480, 0, none⟩) (Kd.R_types HO477.out BK480.out (by decide)) (fun _ hk => hk.2) (.int .i64 t478)) (fun _ hk => hk.2) (.int .i64 t479)) (fun _ hk => hk.1.2)⟩, ⟨by (with_reducible repeat (first | refine bN ?_ _ | refine bD ?_ | refine bA ?_ _)); refine blk_far ?_ NB474_480.out _; (with_reducible repeat (first | refine bN ?_ _ | refine bD ?_ | refine bA ?_ _)); refine blk_far ?_ NB474_480.out _; (with_reducible repeat (first | refine bN ?_ _ | refine bD ?_ | refine bA ?_ _)); exact BK474.out⟩, ⟨by (with_reducible repeat (first | refine bN ?_ _ | refine bD ?_ | refine bA ?_ _)); refine blk_put (cs := #[.int .i64 t478, .int .i64 0]) ?_ 1 _ rfl; (with_reducible repeat (first | refine bN ?_ _ | refine bD ?_ | refine bA ?_ _)); refine blk_put (cs := #[.int .i64 0, .int .i64 0]) ?_ 0 _ rfl; (with_reducible repeat (first | refine bN ?_ _ | refine bD ?_ | refine bA ?_ _)); exact BK480.out⟩, ⟨by repeat (first | (with_reducible first | exact HB.out | apply lA | apply lN | apply lD | refine lS ?_ GE474.out | refine lS ?_ GE480.out) | exact HB.out)⟩⟩
  case rest =>
   clear HC8
   (try clear c5); (try clear hcz12_0); (try clear hcz12_1); (try clear hcz16_0); (try clear hcz16_1); (try clear hfz12_0); (try clear hfz12_1); (try clear hfz16_0); (try clear hfz16_1)
   obtain ⟨kq, x33_7, rfl, HA, HJ7, HO_7, HO_9, BK474, BK480, HB⟩ := hcut
   cases kq with
   | zero => exact absurd HA.out (by simp [changeforgelaw3_HistoryAncestorsTransitive.j0])
   | succ kj7 =>
    have H := HA.out
    clear HA
    simp only [changeforgelaw3_HistoryAncestorsTransitive.j0] at H
    by_cases c23 : x33_7 = true
    · subst c23
      have H1 : (if t472 = 0 then (some true) else (some ((t469.length : Int) == 0))) = some r := by rw [if_pos rfl] at H; exact H
      clear H
      have H := H1
      clear H1
      by_cases c24 : t472 = 0
      · rw [if_pos c24] at H
        have c24b0 : (t472 == 0) = true := beq_iff_eq.mpr c24
        have c24b1 : (t472 != 0) = false := bne_eq_false_iff_eq.mpr c24
        clear c24
        obtain rfl := Option.some.inj H
        have hnb25 := NB474_480.out
        have hnc25 := NB480_474.out
        have hcz26_0 : wc.cell? ⟨gb474, 0, none⟩ = some (.int .i64 t472) := (blk_cell BK474.out 0).trans rfl
        have hcz26_1 : wc.cell? ⟨gb474, 1, none⟩ = some (.int .i64 t473) := (blk_cell BK474.out 1).trans rfl
        have hfz26_0 := blk_frozen BK474.out 0
        have hfz26_1 := blk_frozen BK474.out 1
        go_wp2
        go_ret
        exact ⟨by first | rfl | (simp [errW_none, errW_some] <;> rfl) | (simp [*, errW_none, errW_some] <;> rfl), by repeat (first | (with_reducible first | exact HB.out | apply lA | apply lN | apply lD | refine lS ?_ GE474.out | refine lS ?_ GE480.out) | exact HB.out)⟩
      rw [if_neg c24] at H
      have c24b0 : (t472 == 0) = false := beq_eq_false_iff_ne.mpr c24
      have c24b1 : (t472 != 0) = true := bne_iff_ne.mpr c24
      obtain rfl := Option.some.inj H
      have hnb27 := NB474_480.out
      have hnc27 := NB480_474.out
      have hcz28_0 : wc.cell? ⟨gb474, 0, none⟩ = some (.int .i64 t472) := (blk_cell BK474.out 0).trans rfl
      have hcz28_1 : wc.cell? ⟨gb474, 1, none⟩ = some (.int .i64 t473) := (blk_cell BK474.out 1).trans rfl
      have hfz28_0 := blk_frozen BK474.out 0
      have hfz28_1 := blk_frozen BK474.out 1
      obtain ⟨Ao29, co29, eo29⟩ := Kd.R_slice HO_7.out
      subst eo29
      go_wp2
      go_ret
      exact ⟨by first | rfl | (simp [errW_none, errW_some] <;> rfl) | (simp [*, errW_none, errW_some] <;> rfl), by repeat (first | (with_reducible first | exact HB.out | apply lA | apply lN | apply lD | refine lS ?_ GE474.out | refine lS ?_ GE480.out) | exact HB.out)⟩
    replace c23 := Bool.eq_false_iff.mpr c23
    subst c23
    have H1 : (if (t469.length : Int) = (l0.length : Int) then (if (t475.length : Int) = (l0.length : Int) then ((changeforgeref3_In.f a1 0 (wrap64 ((l0.length : Int) - 1))).bind fun t481 => (if t481 = true then ((changeforgeref3_In.f a2 0 (wrap64 ((l0.length : Int) - 1))).bind fun t482 => (if t482 = true then (if 0 ≤ a1 then (if a1 < (t469.length : Int) then (changeforgelaw3_HistoryAncestorsTransitive.j1 kj7 l0 a2 t469 t475 (!(rdOf false t469 a1))) else (none)) else (none)) else (changeforgelaw3_HistoryAncestorsTransitive.j1 kj7 l0 a2 t469 t475 true))) else (changeforgelaw3_HistoryAncestorsTransitive.j1 kj7 l0 a2 t469 t475 true))) else (changeforgelaw3_HistoryAncestorsTransitive.j1 kj7 l0 a2 t469 t475 true)) else (changeforgelaw3_HistoryAncestorsTransitive.j1 kj7 l0 a2 t469 t475 true)) = some r := by rw [if_neg (show ¬ (false = true) by decide)] at H; exact H
    clear H
    have H := H1
    clear H1
    have HC30 := aZ H
    clear H
    go_upto_region 7 with (fail)
    go_cut [76] (fun v76 wc => ∃ (kq : Nat) (x76_29 : Bool), v76 = .bool x76_29 ∧ Aside0 (changeforgelaw3_HistoryAncestorsTransitive.j1 kq l0 a2 t469 t475 x76_29 = some r) ∧ Aside0 (kq ≤ kj7) ∧ Aside0 (Kd.R Kd.bool 4 wc w.heap.size (fun k_ => some k_ ≠ (v476 : Value).ownBlock) v470 t469) ∧ Aside0 (Kd.R Kd.bool 4 wc w.heap.size (fun k_ => some k_ ≠ (v470 : Value).ownBlock) v476 t475) ∧ Aside0 (wc.heap[gb474]? = some (.cells #[.int .i64 t472, .int .i64 t473] 26 (0, 0))) ∧ Aside0 (wc.heap[gb480]? = some (.cells #[.int .i64 t478, .int .i64 t479] 26 (0, 0))) ∧ Aside0 (Below w.heap.size w wc))
    case first =>
     have H := HC30.out
     clear HC30
     by_cases c31 : (t469.length : Int) = (l0.length : Int)
     rotate_left
     · rw [if_neg c31] at H
       have c31b0 : ((t469.length : Int) == (l0.length : Int)) = false := beq_eq_false_iff_ne.mpr c31
       have c31b1 : ((t469.length : Int) != (l0.length : Int)) = true := bne_iff_ne.mpr c31
       have c31b2 : (t469.length == l0.length) = false := by first | simpa using c31 | (simp at c31 ⊢; omega)
       (first | rw [c31b0] | (simp only [i64_w, i32_w]; rw [c31b0]) | skip)
       have H' := aZ H
       clear H
       obtain ⟨Ao47, co47, eo47⟩ := Kd.R_slice HO_7.out
       subst eo47
       go_wp2
       go_meet
       case rel => exact ⟨_, (true), (by first | rfl | (simp; done) | (simp [*]; done)), H', ⟨by have := HJ7.out; first | omega | exact Nat.le_refl _⟩, ⟨by (with_reducible repeat (first | apply Kd.rA | apply Kd.rN | apply Kd.rD)); exact HO_7.out⟩, ⟨by (with_reducible repeat (first | apply Kd.rA | apply Kd.rN | apply Kd.rD)); exact HO_9.out⟩, ⟨by (with_reducible repeat (first | refine bN ?_ _ | refine bD ?_ | refine bA ?_ _)); exact BK474.out⟩, ⟨by (with_reducible repeat (first | refine bN ?_ _ | refine bD ?_ | refine bA ?_ _)); exact BK480.out⟩, ⟨by repeat (first | (with_reducible first | exact HB.out | apply lA | apply lN | apply lD | refine lS ?_ GE474.out | refine lS ?_ GE480.out) | exact HB.out)⟩⟩
     rw [if_pos c31] at H
     have c31b0 : ((t469.length : Int) == (l0.length : Int)) = true := beq_iff_eq.mpr c31
     have c31b1 : ((t469.length : Int) != (l0.length : Int)) = false := bne_eq_false_iff_eq.mpr c31
     have c31b2 : (t469.length == l0.length) = true := by first | simpa using c31 | (simp at c31 ⊢; omega)
     clear c31
     (first | rw [c31b0] | (simp only [i64_w, i32_w]; rw [c31b0]) | skip)
     by_cases c32 : (t475.length : Int) = (l0.length : Int)
     rotate_left
     · rw [if_neg c32] at H
       have c32b0 : ((t475.length : Int) == (l0.length : Int)) = false := beq_eq_false_iff_ne.mpr c32
       have c32b1 : ((t475.length : Int) != (l0.length : Int)) = true := bne_iff_ne.mpr c32
       have c32b2 : (t475.length == l0.length) = false := by first | simpa using c32 | (simp at c32 ⊢; omega)
       have H' := aZ H
       clear H
       obtain ⟨Ao45, co45, eo45⟩ := Kd.R_slice HO_7.out
       subst eo45
       obtain ⟨Ao46, co46, eo46⟩ := Kd.R_slice HO_9.out
       subst eo46
       go_wp2
       go_meet
       case rel => exact ⟨_, (true), (by first | rfl | (simp; done) | (simp [*]; done)), H', ⟨by have := HJ7.out; first | omega | exact Nat.le_refl _⟩, ⟨by (with_reducible repeat (first | apply Kd.rA | apply Kd.rN | apply Kd.rD)); exact HO_7.out⟩, ⟨by (with_reducible repeat (first | apply Kd.rA | apply Kd.rN | apply Kd.rD)); exact HO_9.out⟩, ⟨by (with_reducible repeat (first | refine bN ?_ _ | refine bD ?_ | refine bA ?_ _)); exact BK474.out⟩, ⟨by (with_reducible repeat (first | refine bN ?_ _ | refine bD ?_ | refine bA ?_ _)); exact BK480.out⟩, ⟨by repeat (first | (with_reducible first | exact HB.out | apply lA | apply lN | apply lD | refine lS ?_ GE474.out | refine lS ?_ GE480.out) | exact HB.out)⟩⟩
     rw [if_pos c32] at H
     have c32b0 : ((t475.length : Int) == (l0.length : Int)) = true := beq_iff_eq.mpr c32
     have c32b1 : ((t475.length : Int) != (l0.length : Int)) = false := bne_eq_false_iff_eq.mpr c32
     have c32b2 : (t475.length == l0.length) = true := by first | simpa using c32 | (simp at c32 ⊢; omega)
     clear c32
     replace H := Option.bind_eq_some_iff.mp H
     obtain ⟨t481, A330, H⟩ := H
     replace H : (if t481 = true then ((changeforgeref3_In.f a2 0 (wrap64 ((l0.length : Int) - 1))).bind fun t482 => (if t482 = true then (if 0 ≤ a1 then (if a1 < (t469.length : Int) then (changeforgelaw3_HistoryAncestorsTransitive.j1 kj7 l0 a2 t469 t475 (!(rdOf false t469 a1))) else (none)) else (none)) else (changeforgelaw3_HistoryAncestorsTransitive.j1 kj7 l0 a2 t469 t475 true))) else (changeforgelaw3_HistoryAncestorsTransitive.j1 kj7 l0 a2 t469 t475 true)) = some r := H
     have A33 := aZ A330
     clear A330
     by_cases c34 : t481 = true
     rotate_left
     · replace c34 := Bool.eq_false_iff.mpr c34
       subst c34
       have H1 : (changeforgelaw3_HistoryAncestorsTransitive.j1 kj7 l0 a2 t469 t475 true) = some r := by rw [if_neg (show ¬ (false = true) by decide)] at H; exact H
       clear H
       have H := H1
       clear H1
       have H' := aZ H
       clear H
       obtain ⟨Ao43, co43, eo43⟩ := Kd.R_slice HO_7.out
       subst eo43
       obtain ⟨Ao44, co44, eo44⟩ := Kd.R_slice HO_9.out
       subst eo44
       go_wp2_with (first | (go_at_call 18; (with_reducible refine (changeforgeref3_In.calls a1 0 (wrap64 ((l0.length : Int) - 1)) false _ A33.out).mono ?_); rintro e w' ⟨rfl, ⟨nd, rfl⟩⟩))
       go_meet
       case rel => exact ⟨_, (true), (by first | rfl | (simp; done) | (simp [*]; done)), H', ⟨by have := HJ7.out; first | omega | exact Nat.le_refl _⟩, ⟨by (with_reducible repeat (first | apply Kd.rA | apply Kd.rN | apply Kd.rD)); exact HO_7.out⟩, ⟨by (with_reducible repeat (first | apply Kd.rA | apply Kd.rN | apply Kd.rD)); exact HO_9.out⟩, ⟨by (with_reducible repeat (first | refine bN ?_ _ | refine bD ?_ | refine bA ?_ _)); exact BK474.out⟩, ⟨by (with_reducible repeat (first | refine bN ?_ _ | refine bD ?_ | refine bA ?_ _)); exact BK480.out⟩, ⟨by repeat (first | (with_reducible first | exact HB.out | apply lA | apply lN | apply lD | refine lS ?_ GE474.out | refine lS ?_ GE480.out) | exact HB.out)⟩⟩
     subst c34
     have H1 : ((changeforgeref3_In.f a2 0 (wrap64 ((l0.length : Int) - 1))).bind fun t482 => (if t482 = true then (if 0 ≤ a1 then (if a1 < (t469.length : Int) then (changeforgelaw3_HistoryAncestorsTransitive.j1 kj7 l0 a2 t469 t475 (!(rdOf false t469 a1))) else (none)) else (none)) else (changeforgelaw3_HistoryAncestorsTransitive.j1 kj7 l0 a2 t469 t475 true))) = some r := by rw [if_pos rfl] at H; exact H
     clear H
     have H := H1
     clear H1
     replace H := Option.bind_eq_some_iff.mp H
     obtain ⟨t482, A350, H⟩ := H
     replace H : (if t482 = true then (if 0 ≤ a1 then (if a1 < (t469.length : Int) then (changeforgelaw3_HistoryAncestorsTransitive.j1 kj7 l0 a2 t469 t475 (!(rdOf false t469 a1))) else (none)) else (none)) else (changeforgelaw3_HistoryAncestorsTransitive.j1 kj7 l0 a2 t469 t475 true)) = some r := H
     have A35 := aZ A350
     clear A350
     by_cases c36 : t482 = true
     rotate_left
     · replace c36 := Bool.eq_false_iff.mpr c36
       subst c36
       have H1 : (changeforgelaw3_HistoryAncestorsTransitive.j1 kj7 l0 a2 t469 t475 true) = some r := by rw [if_neg (show ¬ (false = true) by decide)] at H; exact H
       clear H
       have H := H1
       clear H1
       have H' := aZ H
       clear H
       obtain ⟨Ao41, co41, eo41⟩ := Kd.R_slice HO_7.out
       subst eo41
       obtain ⟨Ao42, co42, eo42⟩ := Kd.R_slice HO_9.out
       subst eo42
       go_wp2_with (first | (go_at_call 18; (with_reducible refine (changeforgeref3_In.calls a1 0 (wrap64 ((l0.length : Int) - 1)) true _ A33.out).mono ?_); rintro e w' ⟨rfl, ⟨nd, rfl⟩⟩) | (go_at_call 18; (with_reducible refine (changeforgeref3_In.calls a2 0 (wrap64 ((l0.length : Int) - 1)) false _ A35.out).mono ?_); rintro e w' ⟨rfl, ⟨nd, rfl⟩⟩))
       go_meet
       case rel => exact ⟨_, (true), (by first | rfl | (simp; done) | (simp [*]; done)), H', ⟨by have := HJ7.out; first | omega | exact Nat.le_refl _⟩, ⟨by (with_reducible repeat (first | apply Kd.rA | apply Kd.rN | apply Kd.rD)); exact HO_7.out⟩, ⟨by (with_reducible repeat (first | apply Kd.rA | apply Kd.rN | apply Kd.rD)); exact HO_9.out⟩, ⟨by (with_reducible repeat (first | refine bN ?_ _ | refine bD ?_ | refine bA ?_ _)); exact BK474.out⟩, ⟨by (with_reducible repeat (first | refine bN ?_ _ | refine bD ?_ | refine bA ?_ _)); exact BK480.out⟩, ⟨by repeat (first | (with_reducible first | exact HB.out | apply lA | apply lN | apply lD | refine lS ?_ GE474.out | refine lS ?_ GE480.out) | exact HB.out)⟩⟩
     subst c36
     have H1 : (if 0 ≤ a1 then (if a1 < (t469.length : Int) then (changeforgelaw3_HistoryAncestorsTransitive.j1 kj7 l0 a2 t469 t475 (!(rdOf false t469 a1))) else (none)) else (none)) = some r := by rw [if_pos rfl] at H; exact H
     clear H
     have H := H1
     clear H1
     by_cases c37 : 0 ≤ a1
     rotate_left
     · rw [if_neg c37] at H
       exact absurd H (by simp)
     rw [if_pos c37] at H
     have c37b0 : decide (0 ≤ a1) = true := decide_eq_true c37
     clear c37
     by_cases c38 : a1 < (t469.length : Int)
     rotate_left
     · rw [if_neg c38] at H
       exact absurd H (by simp)
     rw [if_pos c38] at H
     have c38b0 : decide (a1 < (t469.length : Int)) = true := decide_eq_true c38
     clear c38
     have H' := aZ H
     clear H
     obtain ⟨Ao39, co39, eo39⟩ := Kd.R_slice HO_7.out
     subst eo39
     obtain ⟨Ao40, co40, eo40⟩ := Kd.R_slice HO_9.out
     subst eo40
     go_wp2_with (first | (go_at_call 18; (with_reducible refine (changeforgeref3_In.calls a1 0 (wrap64 ((l0.length : Int) - 1)) true _ A33.out).mono ?_); rintro e w' ⟨rfl, ⟨nd, rfl⟩⟩) | (go_at_call 18; (with_reducible refine (changeforgeref3_In.calls a2 0 (wrap64 ((l0.length : Int) - 1)) true _ A35.out).mono ?_); rintro e w' ⟨rfl, ⟨nd, rfl⟩⟩; have p483 : 0 ≤ (a1 : Int) := of_decide_eq_true (by first | (with_reducible assumption) | assumption); have q483 : a1 < (t469.length : Int) := of_decide_eq_true (by first | (with_reducible assumption) | assumption); obtain ⟨ad483, e483, hx483_0⟩ := Kd.at_bool (Kd.R_reads' HO_7.out).2.2 a1 p483 q483; cases e483; replace p483 := eq_true p483; replace q483 := eq_true q483))
     go_meet
     case rel => exact ⟨_, (!(rdOf false t469 a1)), (by first | rfl | (simp; done) | (simp [*]; done)), H', ⟨by have := HJ7.out; first | omega | exact Nat.le_refl _⟩, ⟨by (with_reducible repeat (first | apply Kd.rA | apply Kd.rN | apply Kd.rD)); exact HO_7.out⟩, ⟨by (with_reducible repeat (first | apply Kd.rA | apply Kd.rN | apply Kd.rD)); exact HO_9.out⟩, ⟨by (with_reducible repeat (first | refine bN ?_ _ | refine bD ?_ | refine bA ?_ _)); exact BK474.out⟩, ⟨by (with_reducible repeat (first | refine bN ?_ _ | refine bD ?_ | refine bA ?_ _)); exact BK480.out⟩, ⟨by repeat (first | (with_reducible first | exact HB.out | apply lA | apply lN | apply lD | refine lS ?_ GE474.out | refine lS ?_ GE480.out) | exact HB.out)⟩⟩
    case rest =>
     clear HC30
     (try clear c23)
     obtain ⟨kq, x76_29, rfl, HA, HJ29, HO_7, HO_9, BK474, BK480, HB⟩ := hcut
     cases kq with
     | zero => exact absurd HA.out (by simp [changeforgelaw3_HistoryAncestorsTransitive.j1])
     | succ kj29 =>
      have H := HA.out
      clear HA
      simp only [changeforgelaw3_HistoryAncestorsTransitive.j1] at H
      by_cases c48 : x76_29 = true
      · subst c48
        have H1 : (some false) = some r := by rw [if_pos rfl] at H; exact H
        clear H
        have H := H1
        clear H1
        obtain rfl := Option.some.inj H
        go_wp2
        go_ret
        exact ⟨by first | rfl | (simp [errW_none, errW_some] <;> rfl) | (simp [*, errW_none, errW_some] <;> rfl), by repeat (first | (with_reducible first | exact HB.out | apply lA | apply lN | apply lD | refine lS ?_ GE474.out | refine lS ?_ GE480.out) | exact HB.out)⟩
      replace c48 := Bool.eq_false_iff.mpr c48
      subst c48
      have H1 : (changeforgelaw3_HistoryAncestorsTransitive.l0 kj29 l0 a2 t469 t475 0) = some r := by rw [if_neg (show ¬ (false = true) by decide)] at H; exact H
      clear H
      have H := H1
      clear H1
      have H' := aZ H
      clear H
      go_wp2
      go_loopg [11] kj29 (fun kq v11 w' => ∃ (x11_3 : Int), v11 = .int .i64 x11_3 ∧ Aside0 (changeforgelaw3_HistoryAncestorsTransitive.l0 kq l0 a2 t469 t475 x11_3 = some r) ∧ Aside0 (kq ≤ kj29) ∧ Aside0 (Kd.R Kd.bool 4 w' w.heap.size (fun k_ => some k_ ≠ (v476 : Value).ownBlock) v470 t469) ∧ Aside0 (Kd.R Kd.bool 4 w' w.heap.size (fun k_ => some k_ ≠ (v470 : Value).ownBlock) v476 t475) ∧ Aside0 (w'.heap[gb474]? = some (.cells #[.int .i64 t472, .int .i64 t473] 26 (0, 0))) ∧ Aside0 (w'.heap[gb480]? = some (.cells #[.int .i64 t478, .int .i64 t479] 26 (0, 0))) ∧ Aside0 (Below w.heap.size w w'))
      case atStart => exact ⟨(0), (by first | rfl | (simp; done) | (simp [*]; done)), H', ⟨Nat.le_refl _⟩, ⟨by (with_reducible repeat (first | apply Kd.rA | apply Kd.rN | apply Kd.rD)); exact HO_7.out⟩, ⟨by (with_reducible repeat (first | apply Kd.rA | apply Kd.rN | apply Kd.rD)); exact HO_9.out⟩, ⟨by (with_reducible repeat (first | refine bN ?_ _ | refine bD ?_ | refine bA ?_ _)); exact BK474.out⟩, ⟨by (with_reducible repeat (first | refine bN ?_ _ | refine bD ?_ | refine bA ?_ _)); exact BK480.out⟩, ⟨by repeat (first | (with_reducible first | exact HB.out | apply lA | apply lN | apply lD | refine lS ?_ GE474.out | refine lS ?_ GE480.out) | exact HB.out)⟩⟩
      case round =>
       clear H'
       (try clear c48)
       obtain ⟨x11_3, rfl, HA, HK3, HO_7, HO_9, BK474, BK480, HB⟩ := hrel
       cases gk with
       | zero => exact absurd HA.out (by simp [changeforgelaw3_HistoryAncestorsTransitive.l0])
       | succ k3 =>
        have H := HA.out
        clear HA
        simp only [changeforgelaw3_HistoryAncestorsTransitive.l0] at H
        by_cases c49 : x11_3 < (l0.length : Int)
        rotate_left
        · rw [if_neg c49] at H
          have c49b0 : decide (x11_3 < (l0.length : Int)) = false := decide_eq_false c49
          clear c49
          obtain rfl := Option.some.inj H
          go_wp2
          go_ret
          exact ⟨by first | rfl | (simp [errW_none, errW_some] <;> rfl) | (simp [*, errW_none, errW_some] <;> rfl), by repeat (first | (with_reducible first | exact HB.out | apply lA | apply lN | apply lD | refine lS ?_ GE474.out | refine lS ?_ GE480.out) | exact HB.out)⟩
        rw [if_pos c49] at H
        have c49b0 : decide (x11_3 < (l0.length : Int)) = true := decide_eq_true c49
        clear c49
        by_cases c50 : 0 ≤ a2
        rotate_left
        · rw [if_neg c50] at H
          exact absurd H (by simp)
        rw [if_pos c50] at H
        have c50b0 : decide (0 ≤ a2) = true := decide_eq_true c50
        clear c50
        by_cases c51 : a2 < (t469.length : Int)
        rotate_left
        · rw [if_neg c51] at H
          exact absurd H (by simp)
        rw [if_pos c51] at H
        have c51b0 : decide (a2 < (t469.length : Int)) = true := decide_eq_true c51
        clear c51
        obtain ⟨bq52, hbq52⟩ : ∃ b_ : Bool, b_ = (rdOf false t469 a2) := ⟨_, rfl⟩
        replace H : (if bq52 = true then (if 0 ≤ x11_3 then (if x11_3 < (t475.length : Int) then (if rdOf false t475 x11_3 = true then (if x11_3 < (t469.length : Int) then (if rdOf false t469 x11_3 = true then (changeforgelaw3_HistoryAncestorsTransitive.l0 k3 l0 a2 t469 t475 (wrap64 (x11_3 + 1))) else (some false)) else (none)) else (changeforgelaw3_HistoryAncestorsTransitive.l0 k3 l0 a2 t469 t475 (wrap64 (x11_3 + 1)))) else (none)) else (none)) else (changeforgelaw3_HistoryAncestorsTransitive.l0 k3 l0 a2 t469 t475 (wrap64 (x11_3 + 1)))) = some r := by rw [← hbq52] at H; exact H
        have Nbq52 := aZ hbq52
        clear hbq52
        by_cases c53 : bq52 = true
        rotate_left
        · replace c53 := Bool.eq_false_iff.mpr c53
          subst c53
          have H1 : (changeforgelaw3_HistoryAncestorsTransitive.l0 k3 l0 a2 t469 t475 (wrap64 (x11_3 + 1))) = some r := by rw [if_neg (show ¬ (false = true) by decide)] at H; exact H
          clear H
          have H := H1
          clear H1
          have H' := aZ H
          clear H
          obtain ⟨Ao67, co67, eo67⟩ := Kd.R_slice HO_7.out
          subst eo67
          have p484 : 0 ≤ (a2 : Int) := of_decide_eq_true (by first | (with_reducible assumption) | assumption)
          have q484 : a2 < (t469.length : Int) := of_decide_eq_true (by first | (with_reducible assumption) | assumption)
          obtain ⟨ad484, e484, hx484_0⟩ := Kd.at_bool (Kd.R_reads' HO_7.out).2.2 a2 p484 q484
          (try rw [← Nbq52.out] at hx484_0)
          cases e484
          replace p484 := eq_true p484
          replace q484 := eq_true q484
          go_wp2
          go_roundg k3
          case measure => have := HJ7.out; have := HJ29.out; have := HK3.out; omega
          case rel => exact ⟨(wrap64 (x11_3 + 1)), (by first | rfl | (simp; done) | (simp [*]; done)), H', ⟨by have := HJ7.out; have := HJ29.out; have := HK3.out; omega⟩, ⟨by (with_reducible repeat (first | apply Kd.rA | apply Kd.rN | apply Kd.rD)); exact HO_7.out⟩, ⟨by (with_reducible repeat (first | apply Kd.rA | apply Kd.rN | apply Kd.rD)); exact HO_9.out⟩, ⟨by (with_reducible repeat (first | refine bN ?_ _ | refine bD ?_ | refine bA ?_ _)); exact BK474.out⟩, ⟨by (with_reducible repeat (first | refine bN ?_ _ | refine bD ?_ | refine bA ?_ _)); exact BK480.out⟩, ⟨by repeat (first | (with_reducible first | exact HB.out | apply lA | apply lN | apply lD | refine lS ?_ GE474.out | refine lS ?_ GE480.out) | exact HB.out)⟩⟩
        subst c53
        have H1 : (if 0 ≤ x11_3 then (if x11_3 < (t475.length : Int) then (if rdOf false t475 x11_3 = true then (if x11_3 < (t469.length : Int) then (if rdOf false t469 x11_3 = true then (changeforgelaw3_HistoryAncestorsTransitive.l0 k3 l0 a2 t469 t475 (wrap64 (x11_3 + 1))) else (some false)) else (none)) else (changeforgelaw3_HistoryAncestorsTransitive.l0 k3 l0 a2 t469 t475 (wrap64 (x11_3 + 1)))) else (none)) else (none)) = some r := by rw [if_pos rfl] at H; exact H
        clear H
        have H := H1
        clear H1
        by_cases c54 : 0 ≤ x11_3
        rotate_left
        · rw [if_neg c54] at H
          exact absurd H (by simp)
        rw [if_pos c54] at H
        have c54b0 : decide (0 ≤ x11_3) = true := decide_eq_true c54
        clear c54
        by_cases c55 : x11_3 < (t475.length : Int)
        rotate_left
        · rw [if_neg c55] at H
          exact absurd H (by simp)
        rw [if_pos c55] at H
        have c55b0 : decide (x11_3 < (t475.length : Int)) = true := decide_eq_true c55
        clear c55
        obtain ⟨bq56, hbq56⟩ : ∃ b_ : Bool, b_ = (rdOf false t475 x11_3) := ⟨_, rfl⟩
        replace H : (if bq56 = true then (if x11_3 < (t469.length : Int) then (if rdOf false t469 x11_3 = true then (changeforgelaw3_HistoryAncestorsTransitive.l0 k3 l0 a2 t469 t475 (wrap64 (x11_3 + 1))) else (some false)) else (none)) else (changeforgelaw3_HistoryAncestorsTransitive.l0 k3 l0 a2 t469 t475 (wrap64 (x11_3 + 1)))) = some r := by rw [← hbq56] at H; exact H
        have Nbq56 := aZ hbq56
        clear hbq56
        by_cases c57 : bq56 = true
        rotate_left
        · replace c57 := Bool.eq_false_iff.mpr c57
          subst c57
          have H1 : (changeforgelaw3_HistoryAncestorsTransitive.l0 k3 l0 a2 t469 t475 (wrap64 (x11_3 + 1))) = some r := by rw [if_neg (show ¬ (false = true) by decide)] at H; exact H
          clear H
          have H := H1
          clear H1
          have H' := aZ H
          clear H
          obtain ⟨Ao65, co65, eo65⟩ := Kd.R_slice HO_7.out
          subst eo65
          have p484 : 0 ≤ (a2 : Int) := of_decide_eq_true (by first | (with_reducible assumption) | assumption)
          have q484 : a2 < (t469.length : Int) := of_decide_eq_true (by first | (with_reducible assumption) | assumption)
          obtain ⟨ad484, e484, hx484_0⟩ := Kd.at_bool (Kd.R_reads' HO_7.out).2.2 a2 p484 q484
          (try rw [← Nbq52.out] at hx484_0)
          (try rw [← Nbq56.out] at hx484_0)
          cases e484
          replace p484 := eq_true p484
          replace q484 := eq_true q484
          obtain ⟨Ao66, co66, eo66⟩ := Kd.R_slice HO_9.out
          subst eo66
          have p485 : 0 ≤ (x11_3 : Int) := of_decide_eq_true (by first | (with_reducible assumption) | assumption)
          have q485 : x11_3 < (t475.length : Int) := of_decide_eq_true (by first | (with_reducible assumption) | assumption)
          obtain ⟨ad485, e485, hx485_0⟩ := Kd.at_bool (Kd.R_reads' HO_9.out).2.2 x11_3 p485 q485
          (try rw [← Nbq52.out] at hx485_0)
          (try rw [← Nbq56.out] at hx485_0)
          cases e485
          replace p485 := eq_true p485
          replace q485 := eq_true q485
          go_wp2
          go_roundg k3
          case measure => have := HJ7.out; have := HJ29.out; have := HK3.out; omega
          case rel => exact ⟨(wrap64 (x11_3 + 1)), (by first | rfl | (simp; done) | (simp [*]; done)), H', ⟨by have := HJ7.out; have := HJ29.out; have := HK3.out; omega⟩, ⟨by (with_reducible repeat (first | apply Kd.rA | apply Kd.rN | apply Kd.rD)); exact HO_7.out⟩, ⟨by (with_reducible repeat (first | apply Kd.rA | apply Kd.rN | apply Kd.rD)); exact HO_9.out⟩, ⟨by (with_reducible repeat (first | refine bN ?_ _ | refine bD ?_ | refine bA ?_ _)); exact BK474.out⟩, ⟨by (with_reducible repeat (first | refine bN ?_ _ | refine bD ?_ | refine bA ?_ _)); exact BK480.out⟩, ⟨by repeat (first | (with_reducible first | exact HB.out | apply lA | apply lN | apply lD | refine lS ?_ GE474.out | refine lS ?_ GE480.out) | exact HB.out)⟩⟩
        subst c57
        have H1 : (if x11_3 < (t469.length : Int) then (if rdOf false t469 x11_3 = true then (changeforgelaw3_HistoryAncestorsTransitive.l0 k3 l0 a2 t469 t475 (wrap64 (x11_3 + 1))) else (some false)) else (none)) = some r := by rw [if_pos rfl] at H; exact H
        clear H
        have H := H1
        clear H1
        by_cases c58 : x11_3 < (t469.length : Int)
        rotate_left
        · rw [if_neg c58] at H
          exact absurd H (by simp)
        rw [if_pos c58] at H
        have c58b0 : decide (x11_3 < (t469.length : Int)) = true := decide_eq_true c58
        clear c58
        obtain ⟨bq59, hbq59⟩ : ∃ b_ : Bool, b_ = (rdOf false t469 x11_3) := ⟨_, rfl⟩
        replace H : (if bq59 = true then (changeforgelaw3_HistoryAncestorsTransitive.l0 k3 l0 a2 t469 t475 (wrap64 (x11_3 + 1))) else (some false)) = some r := by rw [← hbq59] at H; exact H
        have Nbq59 := aZ hbq59
        clear hbq59
        by_cases c60 : bq59 = true
        rotate_left
        · replace c60 := Bool.eq_false_iff.mpr c60
          subst c60
          have H1 : (some false) = some r := by rw [if_neg (show ¬ (false = true) by decide)] at H; exact H
          clear H
          have H := H1
          clear H1
          obtain rfl := Option.some.inj H
          obtain ⟨Ao63, co63, eo63⟩ := Kd.R_slice HO_7.out
          subst eo63
          have p484 : 0 ≤ (a2 : Int) := of_decide_eq_true (by first | (with_reducible assumption) | assumption)
          have q484 : a2 < (t469.length : Int) := of_decide_eq_true (by first | (with_reducible assumption) | assumption)
          obtain ⟨ad484, e484, hx484_0⟩ := Kd.at_bool (Kd.R_reads' HO_7.out).2.2 a2 p484 q484
          (try rw [← Nbq52.out] at hx484_0)
          (try rw [← Nbq56.out] at hx484_0)
          (try rw [← Nbq59.out] at hx484_0)
          cases e484
          replace p484 := eq_true p484
          replace q484 := eq_true q484
          obtain ⟨Ao64, co64, eo64⟩ := Kd.R_slice HO_9.out
          subst eo64
          have p485 : 0 ≤ (x11_3 : Int) := of_decide_eq_true (by first | (with_reducible assumption) | assumption)
          have q485 : x11_3 < (t475.length : Int) := of_decide_eq_true (by first | (with_reducible assumption) | assumption)
          obtain ⟨ad485, e485, hx485_0⟩ := Kd.at_bool (Kd.R_reads' HO_9.out).2.2 x11_3 p485 q485
          (try rw [← Nbq52.out] at hx485_0)
          (try rw [← Nbq56.out] at hx485_0)
          (try rw [← Nbq59.out] at hx485_0)
          cases e485
          replace p485 := eq_true p485
          replace q485 := eq_true q485
          have p486 : 0 ≤ (x11_3 : Int) := of_decide_eq_true (by first | (with_reducible assumption) | assumption)
          have q486 : x11_3 < (t469.length : Int) := of_decide_eq_true (by first | (with_reducible assumption) | assumption)
          obtain ⟨ad486, e486, hx486_0⟩ := Kd.at_bool (Kd.R_reads' HO_7.out).2.2 x11_3 p486 q486
          (try rw [← Nbq52.out] at hx486_0)
          (try rw [← Nbq56.out] at hx486_0)
          (try rw [← Nbq59.out] at hx486_0)
          obtain rfl : ad484 = ad486 := (by injection e486)
          replace p486 := eq_true p486
          replace q486 := eq_true q486
          go_wp2
          go_ret
          exact ⟨by first | rfl | (simp [errW_none, errW_some] <;> rfl) | (simp [*, errW_none, errW_some] <;> rfl), by repeat (first | (with_reducible first | exact HB.out | apply lA | apply lN | apply lD | refine lS ?_ GE474.out | refine lS ?_ GE480.out) | exact HB.out)⟩
        subst c60
        have H1 : (changeforgelaw3_HistoryAncestorsTransitive.l0 k3 l0 a2 t469 t475 (wrap64 (x11_3 + 1))) = some r := by rw [if_pos rfl] at H; exact H
        clear H
        have H := H1
        clear H1
        have H' := aZ H
        clear H
        obtain ⟨Ao61, co61, eo61⟩ := Kd.R_slice HO_7.out
        subst eo61
        have p484 : 0 ≤ (a2 : Int) := of_decide_eq_true (by first | (with_reducible assumption) | assumption)
        have q484 : a2 < (t469.length : Int) := of_decide_eq_true (by first | (with_reducible assumption) | assumption)
        obtain ⟨ad484, e484, hx484_0⟩ := Kd.at_bool (Kd.R_reads' HO_7.out).2.2 a2 p484 q484
        (try rw [← Nbq52.out] at hx484_0)
        (try rw [← Nbq56.out] at hx484_0)
        (try rw [← Nbq59.out] at hx484_0)
        cases e484
        replace p484 := eq_true p484
        replace q484 := eq_true q484
        obtain ⟨Ao62, co62, eo62⟩ := Kd.R_slice HO_9.out
        subst eo62
        have p485 : 0 ≤ (x11_3 : Int) := of_decide_eq_true (by first | (with_reducible assumption) | assumption)
        have q485 : x11_3 < (t475.length : Int) := of_decide_eq_true (by first | (with_reducible assumption) | assumption)
        obtain ⟨ad485, e485, hx485_0⟩ := Kd.at_bool (Kd.R_reads' HO_9.out).2.2 x11_3 p485 q485
        (try rw [← Nbq52.out] at hx485_0)
        (try rw [← Nbq56.out] at hx485_0)
        (try rw [← Nbq59.out] at hx485_0)
        cases e485
        replace p485 := eq_true p485
        replace q485 := eq_true q485
        have p486 : 0 ≤ (x11_3 : Int) := of_decide_eq_true (by first | (with_reducible assumption) | assumption)
        have q486 : x11_3 < (t469.length : Int) := of_decide_eq_true (by first | (with_reducible assumption) | assumption)
        obtain ⟨ad486, e486, hx486_0⟩ := Kd.at_bool (Kd.R_reads' HO_7.out).2.2 x11_3 p486 q486
        (try rw [← Nbq52.out] at hx486_0)
        (try rw [← Nbq56.out] at hx486_0)
        (try rw [← Nbq59.out] at hx486_0)
        obtain rfl : ad484 = ad486 := (by injection e486)
        replace p486 := eq_true p486
        replace q486 := eq_true q486
        go_wp2
        go_roundg k3
        case measure => have := HJ7.out; have := HJ29.out; have := HK3.out; omega
        case rel => exact ⟨(wrap64 (x11_3 + 1)), (by first | rfl | (simp; done) | (simp [*]; done)), H', ⟨by have := HJ7.out; have := HJ29.out; have := HK3.out; omega⟩, ⟨by (with_reducible repeat (first | apply Kd.rA | apply Kd.rN | apply Kd.rD)); exact HO_7.out⟩, ⟨by (with_reducible repeat (first | apply Kd.rA | apply Kd.rN | apply Kd.rD)); exact HO_9.out⟩, ⟨by (with_reducible repeat (first | refine bN ?_ _ | refine bD ?_ | refine bA ?_ _)); exact BK474.out⟩, ⟨by (with_reducible repeat (first | refine bN ?_ _ | refine bD ?_ | refine bA ?_ _)); exact BK480.out⟩, ⟨by repeat (first | (with_reducible first | exact HB.out | apply lA | apply lN | apply lD | refine lS ?_ GE474.out | refine lS ?_ GE480.out) | exact HB.out)⟩⟩
/-- THE PURE STATEMENT of changeforgelaw3_HistoryAncestorsTransitive. -/
def changeforgelaw3_HistoryAncestorsTransitive.Pure : Prop := ∀ (l0 : List (S49)) (a1 : Int) (a2 : Int), (l0.length * 64 ≤ 140737488351232 ∧ ∀ x_ ∈ l0, S49.ok x_) → (Lit.int .i64 a1).wf = true → (Lit.int .i64 a2).wf = true → ∃ k, changeforgelaw3_HistoryAncestorsTransitive.f k l0 a1 a2 = some true

end Go.Proofs.Ytojhnjgnpjoacaa.P
