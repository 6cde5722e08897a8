/- What the Go functions of this seat compute, and that they do: printed by a program over the kit's print. -/
import Derived.Test.YtojhnjgnpjoacaaP0
import Derived.Test.YtojhnjgnpjoacaaP6
import Derived.Test.YtojhnjgnpjoacaaP15
namespace Go.Proofs.Ytojhnjgnpjoacaa.P
open Go.RowKit Go.Proofs.YtojhnjgnpjoacaaW.PrintWords Go.Proofs.YtojhnjgnpjoacaaW.PrintLast Go.Proofs.YtojhnjgnpjoacaaW.PrintMore
attribute [local go_sem] max2_int min2_int max_two min_two max_three min_three max_four min_four   -- for this text's walks alone
set_option linter.unusedVariables false
set_option linter.unusedSimpArgs false

/-! ### changeforgelaw3_HistoryOrderTopological: function 9 -/
mutual
def changeforgelaw3_HistoryOrderTopological.l0 : Nat → List (S49) → List Int → List Int → Int → Option (Bool)
  | 0, _, _, _, _ => none
  | k + 1, x0, x3, x5, x6 => if x6 < (x0.length : Int) then (if 0 ≤ x6 then (if x6 < (x5.length : Int) then (changeforgelaw3_HistoryOrderTopological.l0 k x0 x3 (x5.set (x6 : Int).toNat (-1)) (wrap64 (x6 + 1))) else (none)) else (none)) else (changeforgelaw3_HistoryOrderTopological.l1 k x0 x3 x5 0)
def changeforgelaw3_HistoryOrderTopological.l1 : Nat → List (S49) → List Int → List Int → Int → Option (Bool)
  | 0, _, _, _, _ => none
  | k + 1, x0, x3, x5, x7 => if x7 < (x3.length : Int) then (if 0 ≤ x7 then ((changeforgeref3_In.f (rd x3 x7) 0 (wrap64 ((x0.length : Int) - 1))).bind fun t499 => (if t499 = true then (if 0 ≤ (rd x3 x7) then (if (rd x3 x7) < (x5.length : Int) then (if (rd x5 (rd x3 x7)) ≥ 0 then (some false) else (changeforgelaw3_HistoryOrderTopological.l1 k x0 x3 (x5.set ((rd x3 x7) : Int).toNat x7) (wrap64 (x7 + 1)))) else (none)) else (none)) else (some false))) else (none)) else (changeforgelaw3_HistoryOrderTopological.l2 k x0 x5 0)
def changeforgelaw3_HistoryOrderTopological.l2 : Nat → List (S49) → List Int → Int → Option (Bool)
  | 0, _, _, _ => none
  | k + 1, x0, x5, x8 => if x8 < (x0.length : Int) then (changeforgelaw3_HistoryOrderTopological.l3 k x0 x5 x8 0) else (some true)
def changeforgelaw3_HistoryOrderTopological.l3 : Nat → List (S49) → List Int → Int → Int → Option (Bool)
  | 0, _, _, _, _ => none
  | k + 1, x0, x5, x8, x9 => if 0 ≤ x8 then (if x8 < (x0.length : Int) then (if x9 < (((rd_T49 x0 x8).f0).length : Int) then (if 0 ≤ x9 then (if 0 ≤ (rd ((rd_T49 x0 x8).f0) x9) then (if (rd ((rd_T49 x0 x8).f0) x9) < (x5.length : Int) then (if x8 < (x5.length : Int) then (if (rd x5 (rd ((rd_T49 x0 x8).f0) x9)) ≤ (rd x5 x8) then (some false) else (changeforgelaw3_HistoryOrderTopological.l3 k x0 x5 x8 (wrap64 (x9 + 1)))) else (none)) else (none)) else (none)) else (none)) else (changeforgelaw3_HistoryOrderTopological.l2 k x0 x5 (wrap64 (x8 + 1)))) else (none)) else (none)
end
def changeforgelaw3_HistoryOrderTopological.f (k : Nat) (l0 : List (S49)) : Option (Bool) := (changeforgelaw3_historyExample.f k).bind fun t487 => (if t487 = true then ((history_Order.f k l0).bind fun bt488 => (if bt488.2.1 = 0 then (if (bt488.1.length : Int) = (l0.length : Int) then (if 0 ≤ (l0.length : Int) then (if ((l0.length : Int) : Int).toNat ≤ 35184372088832 then (changeforgelaw3_HistoryOrderTopological.l0 k l0 bt488.1 (List.replicate ((l0.length : Int) : Int).toNat 0) 0) else (none)) else (none)) else (some false)) else (some ((bt488.1.length : Int) == 0)))) else (some false))
theorem changeforgelaw3_HistoryOrderTopological.mono_l : ∀ k, (∀ y0 y1 y2 y3, LeO (changeforgelaw3_HistoryOrderTopological.l0 k y0 y1 y2 y3) (changeforgelaw3_HistoryOrderTopological.l0 (k + 1) y0 y1 y2 y3)) ∧ (∀ y0 y1 y2 y3, LeO (changeforgelaw3_HistoryOrderTopological.l1 k y0 y1 y2 y3) (changeforgelaw3_HistoryOrderTopological.l1 (k + 1) y0 y1 y2 y3)) ∧ (∀ y0 y1 y2, LeO (changeforgelaw3_HistoryOrderTopological.l2 k y0 y1 y2) (changeforgelaw3_HistoryOrderTopological.l2 (k + 1) y0 y1 y2)) ∧ (∀ y0 y1 y2 y3, LeO (changeforgelaw3_HistoryOrderTopological.l3 k y0 y1 y2 y3) (changeforgelaw3_HistoryOrderTopological.l3 (k + 1) y0 y1 y2 y3))
  | 0 => ⟨fun _ _ _ _ r h => by simp [changeforgelaw3_HistoryOrderTopological.l0] at h, fun _ _ _ _ r h => by simp [changeforgelaw3_HistoryOrderTopological.l1] at h, fun _ _ _ r h => by simp [changeforgelaw3_HistoryOrderTopological.l2] at h, fun _ _ _ _ r h => by simp [changeforgelaw3_HistoryOrderTopological.l3] at h⟩
  | k + 1 => by
    obtain ⟨ih0, ih1, ih2, ih3⟩ := changeforgelaw3_HistoryOrderTopological.mono_l k
    refine ⟨?_, ?_, ?_, ?_⟩
    · intro y0 y1 y2 y3
      unfold changeforgelaw3_HistoryOrderTopological.l0
      repeat' first
      | (with_reducible exact ih0 _ _ _ _)
      | (with_reducible exact ih1 _ _ _ _)
      | (with_reducible exact ih2 _ _ _)
      | (with_reducible exact ih3 _ _ _ _)
      | (with_reducible exact changeforgelaw3_historyExample.mono _)
      | (with_reducible exact history_Order.mono _ _)
      | (with_reducible exact LeO.refl _)
      | (with_reducible exact LeO.none _)
      | (with_reducible refine LeO.ite ?_ ?_)
      | (with_reducible refine LeO.bind ?_ (fun _ => ?_))
      | exact ih0 _ _ _ _
      | exact ih1 _ _ _ _
      | exact ih2 _ _ _
      | exact ih3 _ _ _ _
      | exact changeforgelaw3_historyExample.mono _
      | exact history_Order.mono _ _
      | exact LeO.none _
      | refine LeO.ite ?_ ?_
      | refine LeO.bind ?_ (fun _ => ?_)
    · intro y0 y1 y2 y3
      unfold changeforgelaw3_HistoryOrderTopological.l1
      repeat' first
      | (with_reducible exact ih0 _ _ _ _)
      | (with_reducible exact ih1 _ _ _ _)
      | (with_reducible exact ih2 _ _ _)
      | (with_reducible exact ih3 _ _ _ _)
      | (with_reducible exact changeforgelaw3_historyExample.mono _)
      | (with_reducible exact history_Order.mono _ _)
      | (with_reducible exact LeO.refl _)
      | (with_reducible exact LeO.none _)
      | (with_reducible refine LeO.ite ?_ ?_)
      | (with_reducible refine LeO.bind ?_ (fun _ => ?_))
      | exact ih0 _ _ _ _
      | exact ih1 _ _ _ _
      | exact ih2 _ _ _
      | exact ih3 _ _ _ _
      | exact changeforgelaw3_historyExample.mono _
      | exact history_Order.mono _ _
      | exact LeO.none _
      | refine LeO.ite ?_ ?_
      | refine LeO.bind ?_ (fun _ => ?_)
    · intro y0 y1 y2
      unfold changeforgelaw3_HistoryOrderTopological.l2
      repeat' first
      | (with_reducible exact ih0 _ _ _ _)
      | (with_reducible exact ih1 _ _ _ _)
      | (with_reducible exact ih2 _ _ _)
      | (with_reducible exact ih3 _ _ _ _)
      | (with_reducible exact changeforgelaw3_historyExample.mono _)
      | (with_reducible exact history_Order.mono _ _)
      | (with_reducible exact LeO.refl _)
      | (with_reducible exact LeO.none _)
      | (with_reducible refine LeO.ite ?_ ?_)
      | (with_reducible refine LeO.bind ?_ (fun _ => ?_))
      | exact ih0 _ _ _ _
      | exact ih1 _ _ _ _
      | exact ih2 _ _ _
      | exact ih3 _ _ _ _
      | exact changeforgelaw3_historyExample.mono _
      | exact history_Order.mono _ _
      | exact LeO.none _
      | refine LeO.ite ?_ ?_
      | refine LeO.bind ?_ (fun _ => ?_)
    · intro y0 y1 y2 y3
      unfold changeforgelaw3_HistoryOrderTopological.l3
      repeat' first
      | (with_reducible exact ih0 _ _ _ _)
      | (with_reducible exact ih1 _ _ _ _)
      | (with_reducible exact ih2 _ _ _)
      | (with_reducible exact ih3 _ _ _ _)
      | (with_reducible exact changeforgelaw3_historyExample.mono _)
      | (with_reducible exact history_Order.mono _ _)
      | (with_reducible exact LeO.refl _)
      | (with_reducible exact LeO.none _)
      | (with_reducible refine LeO.ite ?_ ?_)
      | (with_reducible refine LeO.bind ?_ (fun _ => ?_))
      | exact ih0 _ _ _ _
      | exact ih1 _ _ _ _
      | exact ih2 _ _ _
      | exact ih3 _ _ _ _
      | exact changeforgelaw3_historyExample.mono _
      | exact history_Order.mono _ _
      | exact LeO.none _
      | refine LeO.ite ?_ ?_
      | refine LeO.bind ?_ (fun _ => ?_)
theorem changeforgelaw3_HistoryOrderTopological.mono : ∀ a0 k, LeO (changeforgelaw3_HistoryOrderTopological.f k a0) (changeforgelaw3_HistoryOrderTopological.f (k + 1) a0) := by
  intro a0 k
  obtain ⟨ih0, ih1, ih2, ih3⟩ := changeforgelaw3_HistoryOrderTopological.mono_l k
  unfold changeforgelaw3_HistoryOrderTopological.f
  repeat' first
      | (with_reducible exact ih0 _ _ _ _)
      | (with_reducible exact ih1 _ _ _ _)
      | (with_reducible exact ih2 _ _ _)
      | (with_reducible exact ih3 _ _ _ _)
      | (with_reducible exact changeforgelaw3_historyExample.mono _)
      | (with_reducible exact history_Order.mono _ _)
      | (with_reducible exact LeO.refl _)
      | (with_reducible exact LeO.none _)
      | (with_reducible refine LeO.ite ?_ ?_)
      | (with_reducible refine LeO.bind ?_ (fun _ => ?_))
      | exact ih0 _ _ _ _
      | exact ih1 _ _ _ _
      | exact ih2 _ _ _
      | exact ih3 _ _ _ _
      | exact changeforgelaw3_historyExample.mono _
      | exact history_Order.mono _ _
      | exact LeO.none _
      | refine LeO.ite ?_ ?_
      | refine LeO.bind ?_ (fun _ => ?_)
set_option maxHeartbeats 8000000 in
set_option maxRecDepth 100000 in
theorem changeforgelaw3_HistoryOrderTopological.calls (k : Nat) (A0 : Option Addr) (c0 : Nat) (l0 : List (S49)) (r : Bool) (w : World) (hr0 : Kd.C k49 w A0 l0.length l0) (hc0 : l0.length ≤ c0) (h : changeforgelaw3_HistoryOrderTopological.f k l0 = some r) :
  Calls Try.prog 9 #[.slice A0 l0.length c0] w fun e w' => e = .returned (.bool r) ∧ Below w.heap.size w w' := by
  have hu26 := Try.underlying26
  have HR0 := aZ hr0
  have HC0 := aZ hc0
  clear hr0 hc0
  have HB := aZ (Below.refl w.heap.size w)
  have H : ((changeforgelaw3_historyExample.f k).bind fun t487 => (if t487 = true then ((history_Order.f k l0).bind fun bt488 => (if bt488.2.1 = 0 then (if (bt488.1.length : Int) = (l0.length : Int) then (if 0 ≤ (l0.length : Int) then (if ((l0.length : Int) : Int).toNat ≤ 35184372088832 then (changeforgelaw3_HistoryOrderTopological.l0 k l0 bt488.1 (List.replicate ((l0.length : Int) : Int).toNat 0) 0) else (none)) else (none)) else (some false)) else (some ((bt488.1.length : Int) == 0)))) else (some false))) = some r := h
  clear h
  replace H := Option.bind_eq_some_iff.mp H
  obtain ⟨t487, A20, H⟩ := H
  replace H : (if t487 = true then ((history_Order.f k l0).bind fun bt488 => (if bt488.2.1 = 0 then (if (bt488.1.length : Int) = (l0.length : Int) then (if 0 ≤ (l0.length : Int) then (if ((l0.length : Int) : Int).toNat ≤ 35184372088832 then (changeforgelaw3_HistoryOrderTopological.l0 k l0 bt488.1 (List.replicate ((l0.length : Int) : Int).toNat 0) 0) else (none)) else (none)) else (some false)) else (some ((bt488.1.length : Int) == 0)))) else (some false)) = some r := H
  have A2 := aZ A20
  clear A20
  by_cases c3 : t487 = true
  rotate_left
  · replace c3 := Bool.eq_false_iff.mpr c3
    subst c3
    have H1 : (some false) = some r := by rw [if_neg (show ¬ (false = true) by decide)] at H; exact H
    clear H
    have H := H1
    clear H1
    obtain rfl := Option.some.inj H
    go_enter Try.func9, Try.ntmps9
    go_wp2_with (first | (go_at_call 23; (with_reducible refine (changeforgelaw3_historyExample.calls k  false _ A2.out).mono ?_); rintro e w55 ⟨rfl, hb⟩; have n0_ := aZ (lT (by repeat (first | (with_reducible first | exact HB.out | apply lA | apply lN | apply lD) | exact HB.out)) hb); clear HB; have HB := n0_; clear n0_; (try clear hb); (try clear hb2); (try clear hk); (try clear hi)))
    repeat (go_quiet (first | (go_at_call 23; (with_reducible refine (changeforgelaw3_historyExample.calls k  false _ A2.out).mono ?_); rintro e w55 ⟨rfl, hb⟩; have n0_ := aZ (lT (by repeat (first | (with_reducible first | exact HB.out | apply lA | apply lN | apply lD) | exact HB.out)) hb); clear HB; have HB := n0_; clear n0_; (try clear hb); (try clear hb2); (try clear hk); (try clear hi))); try go_wp2_with (first | (go_at_call 23; (with_reducible refine (changeforgelaw3_historyExample.calls k  false _ A2.out).mono ?_); rintro e w55 ⟨rfl, hb⟩; have n0_ := aZ (lT (by repeat (first | (with_reducible first | exact HB.out | apply lA | apply lN | apply lD) | exact HB.out)) hb); clear HB; have HB := n0_; clear n0_; (try clear hb); (try clear hb2); (try clear hk); (try clear hi))))
    go_ret
    exact ⟨by first | rfl | (simp [errW_none, errW_some] <;> rfl) | (simp [*, errW_none, errW_some] <;> rfl), by repeat (first | (with_reducible first | exact HB.out | apply lA | apply lN | apply lD) | exact HB.out)⟩

  subst c3
  have H1 : ((history_Order.f k l0).bind fun bt488 => (if bt488.2.1 = 0 then (if (bt488.1.length : Int) = (l0.length : Int) then (if 0 ≤ (l0.length : Int) then (if ((l0.length : Int) : Int).toNat ≤ 35184372088832 then (changeforgelaw3_HistoryOrderTopological.l0 k l0 bt488.1 (List.replicate ((l0.length : Int) : Int).toNat 0) 0) else (none)) else (none)) else (some false)) else (some ((bt488.1.length : Int) == 0)))) = some r := by rw [if_pos rfl] at H; exact H
  clear H
  have H := H1
  clear H1
  replace H := Option.bind_eq_some_iff.mp H
  obtain ⟨⟨t488, t491, t492⟩, A40, H⟩ := H
  replace H : (if t491 = 0 then (if (t488.length : Int) = (l0.length : Int) then (if 0 ≤ (l0.length : Int) then (if ((l0.length : Int) : Int).toNat ≤ 35184372088832 then (changeforgelaw3_HistoryOrderTopological.l0 k l0 t488 (List.replicate ((l0.length : Int) : Int).toNat 0) 0) else (none)) else (none)) else (some false)) else (some ((t488.length : Int) == 0))) = some r := H
  have A4 := aZ A40
  clear A40
  by_cases c5 : t491 = 0
  rotate_left
  · rw [if_neg c5] at H
    have c5b0 : (t491 == 0) = false := beq_eq_false_iff_ne.mpr c5
    have c5b1 : (t491 != 0) = true := bne_iff_ne.mpr c5
    obtain rfl := Option.some.inj H
    go_enter Try.func9, Try.ntmps9
    go_wp2_with (first | (go_at_call 23; (with_reducible refine (changeforgelaw3_historyExample.calls k  true _ A2.out).mono ?_); rintro e w50 ⟨rfl, hb⟩; have n0_ := aZ (lT (by repeat (first | (with_reducible first | exact HB.out | apply lA | apply lN | apply lD) | exact HB.out)) hb); clear HB; have HB := n0_; clear n0_; (try clear hb); (try clear hb2); (try clear hk); (try clear hi)) | (go_at_call 27; (with_reducible refine (history_Order.calls k _ _ l0 t488 t491 t492 _ ?side1 ?side2 A4.out).mono ?_); (case side1 => repeat (first | exact (Kd.C_below HR0.out HB.out) | (with_reducible refine Kd.C_alloc ?_ _) | (with_reducible refine Kd.C_drewN ?_ _) | (with_reducible refine Kd.C_drew ?_))); (case side2 => exact HC0.out); rintro e w51 ⟨v489, rfl, ho0, hb⟩; have n0_ := aZ (Kd.R_lower ho0 (lZ (by repeat (first | (with_reducible first | exact HB.out | apply lA | apply lN | apply lD) | exact HB.out)))); have n1_ := aZ (lT (by repeat (first | (with_reducible first | exact HB.out | apply lA | apply lN | apply lD) | exact HB.out)) hb); clear HB; have HO490 := n0_; have HB := n1_; clear n0_ n1_; (try clear hb); (try clear hb2); (try clear hk); (try clear hi); (try clear ho0)) | ((with_reducible refine gate_dst (N := 4) rfl ?_); refine box_event ?hg (N := 4) ?hd (cs := #[.int .i64 0, .int .i64 0]) (t := 26) ?hr ?_; (case hd => rfl); (case hg => rfl); (case hr => first | (go_simp; done) | (go_simp; rfl)); intro gb493 hg w52 hbox hb; have n0_ := aZ (Kd.R_below (by (with_reducible repeat (first | apply Kd.rA | apply Kd.rN | apply Kd.rD)); exact HO490.out) hb); have n1_ := aZ (lT (by repeat (first | (with_reducible first | exact HB.out | apply lA | apply lN | apply lD) | exact HB.out)) hb); have n2_ := aZ (hbox); have n3_ := aZ ((by rw [hg]; exact (lZ (by repeat (first | (with_reducible first | exact HB.out | apply lA | apply lN | apply lD) | exact HB.out))) : w.heap.size ≤ gb493)); have n4_ := aZ ((by rw [hg]; exact (lZ (by repeat (first | (with_reducible first | exact HB.out | apply lA | apply lN | apply lD) | exact HB.out))) : w.heap.size ≤ gb493)); clear HO490; clear HB; have HO490 := n0_; have HB := n1_; have BK493 := n2_; have GW493 := n3_; have GE493 := n4_; clear n0_ n1_ n2_ n3_ n4_; clear hb hbox hg; have hcz53_0 : w52.cell? ⟨gb493, 0, none⟩ = some (.int .i64 0) := (blk_cell BK493.out 0).trans rfl; have hcz53_1 : w52.cell? ⟨gb493, 1, none⟩ = some (.int .i64 0) := (blk_cell BK493.out 1).trans rfl; have hfz53_0 := blk_frozen BK493.out 0; have hfz53_1 := blk_frozen BK493.out 1; obtain ⟨Ao54, co54, eo54⟩ := Kd.R_slice HO490.out; subst eo54))
    repeat (go_quiet (first | (go_at_call 23; (with_reducible refine (changeforgelaw3_historyExample.calls k  true _ A2.out).mono ?_); rintro e w50 ⟨rfl, hb⟩; have n0_ := aZ (lT (by repeat (first | (with_reducible first | exact HB.out | apply lA | apply lN | apply lD) | exact HB.out)) hb); clear HB; have HB := n0_; clear n0_; (try clear hb); (try clear hb2); (try clear hk); (try clear hi)) | (go_at_call 27; (with_reducible refine (history_Order.calls k _ _ l0 t488 t491 t492 _ ?side1 ?side2 A4.out).mono ?_); (case side1 => repeat (first | exact (Kd.C_below HR0.out HB.out) | (with_reducible refine Kd.C_alloc ?_ _) | (with_reducible refine Kd.C_drewN ?_ _) | (with_reducible refine Kd.C_drew ?_))); (case side2 => exact HC0.out); rintro e w51 ⟨v489, rfl, ho0, hb⟩; have n0_ := aZ (Kd.R_lower ho0 (lZ (by repeat (first | (with_reducible first | exact HB.out | apply lA | apply lN | apply lD) | exact HB.out)))); have n1_ := aZ (lT (by repeat (first | (with_reducible first | exact HB.out | apply lA | apply lN | apply lD) | exact HB.out)) hb); clear HB; have HO490 := n0_; have HB := n1_; clear n0_ n1_; (try clear hb); (try clear hb2); (try clear hk); (try clear hi); (try clear ho0)) | ((with_reducible refine gate_dst (N := 4) rfl ?_); refine box_event ?hg (N := 4) ?hd (cs := #[.int .i64 0, .int .i64 0]) (t := 26) ?hr ?_; (case hd => rfl); (case hg => rfl); (case hr => first | (go_simp; done) | (go_simp; rfl)); intro gb493 hg w52 hbox hb; have n0_ := aZ (Kd.R_below (by (with_reducible repeat (first | apply Kd.rA | apply Kd.rN | apply Kd.rD)); exact HO490.out) hb); have n1_ := aZ (lT (by repeat (first | (with_reducible first | exact HB.out | apply lA | apply lN | apply lD) | exact HB.out)) hb); have n2_ := aZ (hbox); have n3_ := aZ ((by rw [hg]; exact (lZ (by repeat (first | (with_reducible first | exact HB.out | apply lA | apply lN | apply lD) | exact HB.out))) : w.heap.size ≤ gb493)); have n4_ := aZ ((by rw [hg]; exact (lZ (by repeat (first | (with_reducible first | exact HB.out | apply lA | apply lN | apply lD) | exact HB.out))) : w.heap.size ≤ gb493)); clear HO490; clear HB; have HO490 := n0_; have HB := n1_; have BK493 := n2_; have GW493 := n3_; have GE493 := n4_; clear n0_ n1_ n2_ n3_ n4_; clear hb hbox hg; have hcz53_0 : w52.cell? ⟨gb493, 0, none⟩ = some (.int .i64 0) := (blk_cell BK493.out 0).trans rfl; have hcz53_1 : w52.cell? ⟨gb493, 1, none⟩ = some (.int .i64 0) := (blk_cell BK493.out 1).trans rfl; have hfz53_0 := blk_frozen BK493.out 0; have hfz53_1 := blk_frozen BK493.out 1; obtain ⟨Ao54, co54, eo54⟩ := Kd.R_slice HO490.out; subst eo54)); try go_wp2_with (first | (go_at_call 23; (with_reducible refine (changeforgelaw3_historyExample.calls k  true _ A2.out).mono ?_); rintro e w50 ⟨rfl, hb⟩; have n0_ := aZ (lT (by repeat (first | (with_reducible first | exact HB.out | apply lA | apply lN | apply lD) | exact HB.out)) hb); clear HB; have HB := n0_; clear n0_; (try clear hb); (try clear hb2); (try clear hk); (try clear hi)) | (go_at_call 27; (with_reducible refine (history_Order.calls k _ _ l0 t488 t491 t492 _ ?side1 ?side2 A4.out).mono ?_); (case side1 => repeat (first | exact (Kd.C_below HR0.out HB.out) | (with_reducible refine Kd.C_alloc ?_ _) | (with_reducible refine Kd.C_drewN ?_ _) | (with_reducible refine Kd.C_drew ?_))); (case side2 => exact HC0.out); rintro e w51 ⟨v489, rfl, ho0, hb⟩; have n0_ := aZ (Kd.R_lower ho0 (lZ (by repeat (first | (with_reducible first | exact HB.out | apply lA | apply lN | apply lD) | exact HB.out)))); have n1_ := aZ (lT (by repeat (first | (with_reducible first | exact HB.out | apply lA | apply lN | apply lD) | exact HB.out)) hb); clear HB; have HO490 := n0_; have HB := n1_; clear n0_ n1_; (try clear hb); (try clear hb2); (try clear hk); (try clear hi); (try clear ho0)) | ((with_reducible refine gate_dst (N := 4) rfl ?_); refine box_event ?hg (N := 4) ?hd (cs := #[.int .i64 0, .int .i64 0]) (t := 26) ?hr ?_; (case hd => rfl); (case hg => rfl); (case hr => first | (go_simp; done) | (go_simp; rfl)); intro gb493 hg w52 hbox hb; have n0_ := aZ (Kd.R_below (by (with_reducible repeat (first | apply Kd.rA | apply Kd.rN | apply Kd.rD)); exact HO490.out) hb); have n1_ := aZ (lT (by repeat (first | (with_reducible first | exact HB.out | apply lA | apply lN | apply lD) | exact HB.out)) hb); have n2_ := aZ (hbox); have n3_ := aZ ((by rw [hg]; exact (lZ (by repeat (first | (with_reducible first | exact HB.out | apply lA | apply lN | apply lD) | exact HB.out))) : w.heap.size ≤ gb493)); have n4_ := aZ ((by rw [hg]; exact (lZ (by repeat (first | (with_reducible first | exact HB.out | apply lA | apply lN | apply lD) | exact HB.out))) : w.heap.size ≤ gb493)); clear HO490; clear HB; have HO490 := n0_; have HB := n1_; have BK493 := n2_; have GW493 := n3_; have GE493 := n4_; clear n0_ n1_ n2_ n3_ n4_; clear hb hbox hg; have hcz53_0 : w52.cell? ⟨gb493, 0, none⟩ = some (.int .i64 0) := (blk_cell BK493.out 0).trans rfl; have hcz53_1 : w52.cell? ⟨gb493, 1, none⟩ = some (.int .i64 0) := (blk_cell BK493.out 1).trans rfl; have hfz53_0 := blk_frozen BK493.out 0; have hfz53_1 := blk_frozen BK493.out 1; obtain ⟨Ao54, co54, eo54⟩ := Kd.R_slice HO490.out; subst eo54)))
    go_ret
    exact ⟨by first | rfl | (simp [errW_none, errW_some] <;> rfl) | (simp [*, errW_none, errW_some] <;> rfl), by repeat (first | (with_reducible first | exact HB.out | apply lA | apply lN | apply lD | refine lS ?_ GE493.out) | exact HB.out)⟩
  rw [if_pos c5] at H
  have c5b0 : (t491 == 0) = true := beq_iff_eq.mpr c5
  have c5b1 : (t491 != 0) = false := bne_eq_false_iff_eq.mpr c5
  clear c5
  by_cases c6 : (t488.length : Int) = (l0.length : Int)
  rotate_left
  · rw [if_neg c6] at H
    have c6b0 : ((t488.length : Int) == (l0.length : Int)) = false := beq_eq_false_iff_ne.mpr c6
    have c6b1 : ((t488.length : Int) != (l0.length : Int)) = true := bne_iff_ne.mpr c6
    have c6b2 : (t488.length == l0.length) = false := by first | simpa using c6 | (simp at c6 ⊢; omega)
    obtain rfl := Option.some.inj H
    go_enter Try.func9, Try.ntmps9
    go_wp2_with (first | (go_at_call 23; (with_reducible refine (changeforgelaw3_historyExample.calls k  true _ A2.out).mono ?_); rintro e w45 ⟨rfl, hb⟩; have n0_ := aZ (lT (by repeat (first | (with_reducible first | exact HB.out | apply lA | apply lN | apply lD) | exact HB.out)) hb); clear HB; have HB := n0_; clear n0_; (try clear hb); (try clear hb2); (try clear hk); (try clear hi)) | (go_at_call 27; (with_reducible refine (history_Order.calls k _ _ l0 t488 t491 t492 _ ?side1 ?side2 A4.out).mono ?_); (case side1 => repeat (first | exact (Kd.C_below HR0.out HB.out) | (with_reducible refine Kd.C_alloc ?_ _) | (with_reducible refine Kd.C_drewN ?_ _) | (with_reducible refine Kd.C_drew ?_))); (case side2 => exact HC0.out); rintro e w46 ⟨v489, rfl, ho0, hb⟩; have n0_ := aZ (Kd.R_lower ho0 (lZ (by repeat (first | (with_reducible first | exact HB.out | apply lA | apply lN | apply lD) | exact HB.out)))); have n1_ := aZ (lT (by repeat (first | (with_reducible first | exact HB.out | apply lA | apply lN | apply lD) | exact HB.out)) hb); clear HB; have HO490 := n0_; have HB := n1_; clear n0_ n1_; (try clear hb); (try clear hb2); (try clear hk); (try clear hi); (try clear ho0)) | ((with_reducible refine gate_dst (N := 4) rfl ?_); refine box_event ?hg (N := 4) ?hd (cs := #[.int .i64 0, .int .i64 0]) (t := 26) ?hr ?_; (case hd => rfl); (case hg => rfl); (case hr => first | (go_simp; done) | (go_simp; rfl)); intro gb493 hg w47 hbox hb; have n0_ := aZ (Kd.R_below (by (with_reducible repeat (first | apply Kd.rA | apply Kd.rN | apply Kd.rD)); exact HO490.out) hb); have n1_ := aZ (lT (by repeat (first | (with_reducible first | exact HB.out | apply lA | apply lN | apply lD) | exact HB.out)) hb); have n2_ := aZ (hbox); have n3_ := aZ ((by rw [hg]; exact (lZ (by repeat (first | (with_reducible first | exact HB.out | apply lA | apply lN | apply lD) | exact HB.out))) : w.heap.size ≤ gb493)); have n4_ := aZ ((by rw [hg]; exact (lZ (by repeat (first | (with_reducible first | exact HB.out | apply lA | apply lN | apply lD) | exact HB.out))) : w.heap.size ≤ gb493)); clear HO490; clear HB; have HO490 := n0_; have HB := n1_; have BK493 := n2_; have GW493 := n3_; have GE493 := n4_; clear n0_ n1_ n2_ n3_ n4_; clear hb hbox hg; have hcz48_0 : w47.cell? ⟨gb493, 0, none⟩ = some (.int .i64 0) := (blk_cell BK493.out 0).trans rfl; have hcz48_1 : w47.cell? ⟨gb493, 1, none⟩ = some (.int .i64 0) := (blk_cell BK493.out 1).trans rfl; have hfz48_0 := blk_frozen BK493.out 0; have hfz48_1 := blk_frozen BK493.out 1; obtain ⟨Ao49, co49, eo49⟩ := Kd.R_slice HO490.out; subst eo49))
    repeat (go_quiet (first | (go_at_call 23; (with_reducible refine (changeforgelaw3_historyExample.calls k  true _ A2.out).mono ?_); rintro e w45 ⟨rfl, hb⟩; have n0_ := aZ (lT (by repeat (first | (with_reducible first | exact HB.out | apply lA | apply lN | apply lD) | exact HB.out)) hb); clear HB; have HB := n0_; clear n0_; (try clear hb); (try clear hb2); (try clear hk); (try clear hi)) | (go_at_call 27; (with_reducible refine (history_Order.calls k _ _ l0 t488 t491 t492 _ ?side1 ?side2 A4.out).mono ?_); (case side1 => repeat (first | exact (Kd.C_below HR0.out HB.out) | (with_reducible refine Kd.C_alloc ?_ _) | (with_reducible refine Kd.C_drewN ?_ _) | (with_reducible refine Kd.C_drew ?_))); (case side2 => exact HC0.out); rintro e w46 ⟨v489, rfl, ho0, hb⟩; have n0_ := aZ (Kd.R_lower ho0 (lZ (by repeat (first | (with_reducible first | exact HB.out | apply lA | apply lN | apply lD) | exact HB.out)))); have n1_ := aZ (lT (by repeat (first | (with_reducible first | exact HB.out | apply lA | apply lN | apply lD) | exact HB.out)) hb); clear HB; have HO490 := n0_; have HB := n1_; clear n0_ n1_; (try clear hb); (try clear hb2); (try clear hk); (try clear hi); (try clear ho0)) | ((with_reducible refine gate_dst (N := 4) rfl ?_); refine box_event ?hg (N := 4) ?hd (cs := #[.int .i64 0, .int .i64 0]) (t := 26) ?hr ?_; (case hd => rfl); (case hg => rfl); (case hr => first | (go_simp; done) | (go_simp; rfl)); intro gb493 hg w47 hbox hb; have n0_ := aZ (Kd.R_below (by (with_reducible repeat (first | apply Kd.rA | apply Kd.rN | apply Kd.rD)); exact HO490.out) hb); have n1_ := aZ (lT (by repeat (first | (with_reducible first | exact HB.out | apply lA | apply lN | apply lD) | exact HB.out)) hb); have n2_ := aZ (hbox); have n3_ := aZ ((by rw [hg]; exact (lZ (by repeat (first | (with_reducible first | exact HB.out | apply lA | apply lN | apply lD) | exact HB.out))) : w.heap.size ≤ gb493)); have n4_ := aZ ((by rw [hg]; exact (lZ (by repeat (first | (with_reducible first | exact HB.out | apply lA | apply lN | apply lD) | exact HB.out))) : w.heap.size ≤ gb493)); clear HO490; clear HB; have HO490 := n0_; have HB := n1_; have BK493 := n2_; have GW493 := n3_; have GE493 := n4_; clear n0_ n1_ n2_ n3_ n4_; clear hb hbox hg; have hcz48_0 : w47.cell? ⟨gb493, 0, none⟩ = some (.int .i64 0) := (blk_cell BK493.out 0).trans rfl; have hcz48_1 : w47.cell? ⟨gb493, 1, none⟩ = some (.int .i64 0) := (blk_cell BK493.out 1).trans rfl; have hfz48_0 := blk_frozen BK493.out 0; have hfz48_1 := blk_frozen BK493.out 1; obtain ⟨Ao49, co49, eo49⟩ := Kd.R_slice HO490.out; subst eo49)); try go_wp2_with (first | (go_at_call 23; (with_reducible refine (changeforgelaw3_historyExample.calls k  true _ A2.out).mono ?_); rintro e w45 ⟨rfl, hb⟩; have n0_ := aZ (lT (by repeat (first | (with_reducible first | exact HB.out | apply lA | apply lN | apply lD) | exact HB.out)) hb); clear HB; have HB := n0_; clear n0_; (try clear hb); (try clear hb2); (try clear hk); (try clear hi)) | (go_at_call 27; (with_reducible refine (history_Order.calls k _ _ l0 t488 t491 t492 _ ?side1 ?side2 A4.out).mono ?_); (case side1 => repeat (first | exact (Kd.C_below HR0.out HB.out) | (with_reducible refine Kd.C_alloc ?_ _) | (with_reducible refine Kd.C_drewN ?_ _) | (with_reducible refine Kd.C_drew ?_))); (case side2 => exact HC0.out); rintro e w46 ⟨v489, rfl, ho0, hb⟩; have n0_ := aZ (Kd.R_lower ho0 (lZ (by repeat (first | (with_reducible first | exact HB.out | apply lA | apply lN | apply lD) | exact HB.out)))); have n1_ := aZ (lT (by repeat (first | (with_reducible first | exact HB.out | apply lA | apply lN | apply lD) | exact HB.out)) hb); clear HB; have HO490 := n0_; have HB := n1_; clear n0_ n1_; (try clear hb); (try clear hb2); (try clear hk); (try clear hi); (try clear ho0)) | ((with_reducible refine gate_dst (N := 4) rfl ?_); refine box_event ?hg (N := 4) ?hd (cs := #[.int .i64 0, .int .i64 0]) (t := 26) ?hr ?_; (case hd => rfl); (case hg => rfl); (case hr => first | (go_simp; done) | (go_simp; rfl)); intro gb493 hg w47 hbox hb; have n0_ := aZ (Kd.R_below (by (with_reducible repeat (first | apply Kd.rA | apply Kd.rN | apply Kd.rD)); exact HO490.out) hb); have n1_ := aZ (lT (by repeat (first | (with_reducible first | exact HB.out | apply lA | apply lN | apply lD) | exact HB.out)) hb); have n2_ := aZ (hbox); have n3_ := aZ ((by rw [hg]; exact (lZ (by repeat (first | (with_reducible first | exact HB.out | apply lA | apply lN | apply lD) | exact HB.out))) : w.heap.size ≤ gb493)); have n4_ := aZ ((by rw [hg]; exact (lZ (by repeat (first | (with_reducible first | exact HB.out | apply lA | apply lN | apply lD) | exact HB.out))) : w.heap.size ≤ gb493)); clear HO490; clear HB; have HO490 := n0_; have HB := n1_; have BK493 := n2_; have GW493 := n3_; have GE493 := n4_; clear n0_ n1_ n2_ n3_ n4_; clear hb hbox hg; have hcz48_0 : w47.cell? ⟨gb493, 0, none⟩ = some (.int .i64 0) := (blk_cell BK493.out 0).trans rfl; have hcz48_1 : w47.cell? ⟨gb493, 1, none⟩ = some (.int .i64 0) := (blk_cell BK493.out 1).trans rfl; have hfz48_0 := blk_frozen BK493.out 0; have hfz48_1 := blk_frozen BK493.out 1; obtain ⟨Ao49, co49, eo49⟩ := Kd.R_slice HO490.out; subst eo49)))
    go_ret
    exact ⟨by first | rfl | (simp [errW_none, errW_some] <;> rfl) | (simp [*, errW_none, errW_some] <;> rfl), by repeat (first | (with_reducible first | exact HB.out | apply lA | apply lN | apply lD | refine lS ?_ GE493.out) | exact HB.out)⟩
  rw [if_pos c6] at H
  have c6b0 : ((t488.length : Int) == (l0.length : Int)) = true := beq_iff_eq.mpr c6
  have c6b1 : ((t488.length : Int) != (l0.length : Int)) = false := bne_eq_false_iff_eq.mpr c6
  have c6b2 : (t488.length == l0.length) = true := by first | simpa using c6 | (simp at c6 ⊢; omega)
  clear c6
  by_cases c7 : 0 ≤ (l0.length : Int)
  rotate_left
  · rw [if_neg c7] at H
    exact absurd H (by simp)
  rw [if_pos c7] at H
  have c7b0 := eq_true c7
  have c7b1 : decide (0 ≤ (l0.length : Int)) = true := decide_eq_true c7
  clear c7
  by_cases c8 : ((l0.length : Int) : Int).toNat ≤ 35184372088832
  rotate_left
  · rw [if_neg c8] at H
    exact absurd H (by simp)
  rw [if_pos c8] at H
  have c8b0 := eq_true c8
  have c8b1 : decide (((l0.length : Int) : Int).toNat ≤ 35184372088832) = true := decide_eq_true c8
  clear c8
  obtain ⟨y494, hy494⟩ : ∃ y_ : List Int, y_ = (List.replicate ((l0.length : Int) : Int).toNat 0) := ⟨_, rfl⟩
  replace H : (changeforgelaw3_HistoryOrderTopological.l0 k l0 t488 y494 0) = some r := by first | (rw [hy494]; with_reducible exact H) | (have H2_ := (Option.bind_some _ _).symm.trans H; rw [hy494]; with_reducible exact H2_) | (have H2_ := (Option.bind_some _ _).symm.trans H; with_reducible exact H2_) | with_reducible exact H | (rw [hy494]; exact H) | exact H
  have Ny494 := aZ hy494
  clear hy494
  have H' := aZ H
  clear H
  go_enter Try.func9, Try.ntmps9
  go_wp2_with (first | (go_at_call 23; (with_reducible refine (changeforgelaw3_historyExample.calls k  true _ A2.out).mono ?_); rintro e w9 ⟨rfl, hb⟩; have n0_ := aZ (lT (by repeat (first | (with_reducible first | exact HB.out | apply lA | apply lN | apply lD) | exact HB.out)) hb); clear HB; have HB := n0_; clear n0_; (try clear hb); (try clear hb2); (try clear hk); (try clear hi)) | (go_at_call 27; (with_reducible refine (history_Order.calls k _ _ l0 t488 t491 t492 _ ?side1 ?side2 A4.out).mono ?_); (case side1 => repeat (first | exact (Kd.C_below HR0.out HB.out) | (with_reducible refine Kd.C_alloc ?_ _) | (with_reducible refine Kd.C_drewN ?_ _) | (with_reducible refine Kd.C_drew ?_))); (case side2 => exact HC0.out); rintro e w10 ⟨v489, rfl, ho0, hb⟩; have n0_ := aZ (Kd.R_lower ho0 (lZ (by repeat (first | (with_reducible first | exact HB.out | apply lA | apply lN | apply lD) | exact HB.out)))); have n1_ := aZ (lT (by repeat (first | (with_reducible first | exact HB.out | apply lA | apply lN | apply lD) | exact HB.out)) hb); clear HB; have HO490 := n0_; have HB := n1_; clear n0_ n1_; (try clear hb); (try clear hb2); (try clear hk); (try clear hi); (try clear ho0)) | ((with_reducible refine gate_dst (N := 4) rfl ?_); refine box_event ?hg (N := 4) ?hd (cs := #[.int .i64 0, .int .i64 0]) (t := 26) ?hr ?_; (case hd => rfl); (case hg => rfl); (case hr => first | (go_simp; done) | (go_simp; rfl)); intro gb493 hg w11 hbox hb; have n0_ := aZ (Kd.R_below (by (with_reducible repeat (first | apply Kd.rA | apply Kd.rN | apply Kd.rD)); exact HO490.out) hb); have n1_ := aZ (lT (by repeat (first | (with_reducible first | exact HB.out | apply lA | apply lN | apply lD) | exact HB.out)) hb); have n2_ := aZ (hbox); have n3_ := aZ ((by rw [hg]; exact (lZ (by repeat (first | (with_reducible first | exact HB.out | apply lA | apply lN | apply lD) | exact HB.out))) : w.heap.size ≤ gb493)); have n4_ := aZ ((by rw [hg]; exact (lZ (by repeat (first | (with_reducible first | exact HB.out | apply lA | apply lN | apply lD) | exact HB.out))) : w.heap.size ≤ gb493)); clear HO490; clear HB; have HO490 := n0_; have HB := n1_; have BK493 := n2_; have GW493 := n3_; have GE493 := n4_; clear n0_ n1_ n2_ n3_ n4_; clear hb hbox hg; have hcz12_0 : w11.cell? ⟨gb493, 0, none⟩ = some (.int .i64 0) := (blk_cell BK493.out 0).trans rfl; have hcz12_1 : w11.cell? ⟨gb493, 1, none⟩ = some (.int .i64 0) := (blk_cell BK493.out 1).trans rfl; have hfz12_0 := blk_frozen BK493.out 0; have hfz12_1 := blk_frozen BK493.out 1; obtain ⟨Ao13, co13, eo13⟩ := Kd.R_slice HO490.out; subst eo13) | ((with_reducible refine gate_dst (N := 30) rfl ?_); refine Kd.R_make (Kd.int .i64) _ 3 rfl (N := 30) rfl 23 _ _ rfl (l0.length : Int) rfl rfl Try.underlying23 (.int .i64 0) 8 info3 rfl (by decide) (by omega) 0 (ok := fun _ => True) (okp := fun _ => True) rfl (fun _ hk => hk) trivial (of_decide_eq_true (by first | (with_reducible assumption) | assumption)) (Nat.le_trans (Nat.mul_le_mul_right _ (of_decide_eq_true (by first | (with_reducible assumption) | assumption) : (l0.length : Int).toNat ≤ 35184372088832)) (by omega)) (Below.refl _ _) (Nat.le_refl _) ?_; intro v495 w14 ho15 hb hg_ hnew_; clear hg_ hnew_; (first | rw [← Ny494.out] at ho15 | (simp only [Int.reduceToNat] at ho15; rw [← Ny494.out] at ho15)); have n0_ := aZ (Kd.R_elder' (by (with_reducible repeat (first | apply Kd.rA | apply Kd.rN | apply Kd.rD)); exact (Kd.R_mono (Kd.R_far (p := ⟨gb493, 1, none⟩) (Kd.R_far (p := ⟨gb493, 0, none⟩) (Kd.R_types HO490.out BK493.out (by decide)) (fun _ hk => hk.2) (.int .i64 t491)) (fun _ hk => hk.2) (.int .i64 t492)) (fun _ h_ => h_.1))) (Kd.R_base ho15) hb); have n1_ := aZ (Kd.R_lower (Kd.R_new' ho15 (Kd.R_lt (by (with_reducible repeat (first | apply Kd.rA | apply Kd.rN | apply Kd.rD)); exact (Kd.R_mono (Kd.R_far (p := ⟨gb493, 1, none⟩) (Kd.R_far (p := ⟨gb493, 0, none⟩) (Kd.R_types HO490.out BK493.out (by decide)) (fun _ hk => hk.2) (.int .i64 t491)) (fun _ hk => hk.2) (.int .i64 t492)) (fun _ h_ => h_.1))))) (lZ (by repeat (first | (with_reducible first | exact HB.out | apply lA | apply lN | apply lD | refine lS ?_ GE493.out) | exact HB.out)))); have n2_ := aZ (blk_below (g := gb493) (o := .cells #[.int .i64 t491, .int .i64 t492] 26 (0, 0)) (by (with_reducible repeat (first | refine bN ?_ _ | refine bD ?_ | refine bA ?_ _)); refine blk_put (cs := #[.int .i64 t491, .int .i64 0]) ?_ 1 _ rfl; (with_reducible repeat (first | refine bN ?_ _ | refine bD ?_ | refine bA ?_ _)); refine blk_put (cs := #[.int .i64 0, .int .i64 0]) ?_ 0 _ rfl; (with_reducible repeat (first | refine bN ?_ _ | refine bD ?_ | refine bA ?_ _)); exact BK493.out) hb); have n3_ := aZ (lT (by repeat (first | (with_reducible first | exact HB.out | apply lA | apply lN | apply lD | refine lS ?_ GE493.out) | exact HB.out)) hb); clear HO490; clear BK493; clear HB; have HO490 := n0_; have HO496 := n1_; have BK493 := n2_; have HB := n3_; clear n0_ n1_ n2_ n3_; clear hb ho15))
  repeat (go_quiet (first | (go_at_call 23; (with_reducible refine (changeforgelaw3_historyExample.calls k  true _ A2.out).mono ?_); rintro e w9 ⟨rfl, hb⟩; have n0_ := aZ (lT (by repeat (first | (with_reducible first | exact HB.out | apply lA | apply lN | apply lD) | exact HB.out)) hb); clear HB; have HB := n0_; clear n0_; (try clear hb); (try clear hb2); (try clear hk); (try clear hi)) | (go_at_call 27; (with_reducible refine (history_Order.calls k _ _ l0 t488 t491 t492 _ ?side1 ?side2 A4.out).mono ?_); (case side1 => repeat (first | exact (Kd.C_below HR0.out HB.out) | (with_reducible refine Kd.C_alloc ?_ _) | (with_reducible refine Kd.C_drewN ?_ _) | (with_reducible refine Kd.C_drew ?_))); (case side2 => exact HC0.out); rintro e w10 ⟨v489, rfl, ho0, hb⟩; have n0_ := aZ (Kd.R_lower ho0 (lZ (by repeat (first | (with_reducible first | exact HB.out | apply lA | apply lN | apply lD) | exact HB.out)))); have n1_ := aZ (lT (by repeat (first | (with_reducible first | exact HB.out | apply lA | apply lN | apply lD) | exact HB.out)) hb); clear HB; have HO490 := n0_; have HB := n1_; clear n0_ n1_; (try clear hb); (try clear hb2); (try clear hk); (try clear hi); (try clear ho0)) | ((with_reducible refine gate_dst (N := 4) rfl ?_); refine box_event ?hg (N := 4) ?hd (cs := #[.int .i64 0, .int .i64 0]) (t := 26) ?hr ?_; (case hd => rfl); (case hg => rfl); (case hr => first | (go_simp; done) | (go_simp; rfl)); intro gb493 hg w11 hbox hb; have n0_ := aZ (Kd.R_below (by (with_reducible repeat (first | apply Kd.rA | apply Kd.rN | apply Kd.rD)); exact HO490.out) hb); have n1_ := aZ (lT (by repeat (first | (with_reducible first | exact HB.out | apply lA | apply lN | apply lD) | exact HB.out)) hb); have n2_ := aZ (hbox); have n3_ := aZ ((by rw [hg]; exact (lZ (by repeat (first | (with_reducible first | exact HB.out | apply lA | apply lN | apply lD) | exact HB.out))) : w.heap.size ≤ gb493)); have n4_ := aZ ((by rw [hg]; exact (lZ (by repeat (first | (with_reducible first | exact HB.out | apply lA | apply lN | apply lD) | exact HB.out))) : w.heap.size ≤ gb493)); clear HO490; clear HB; have HO490 := n0_; have HB := n1_; have BK493 := n2_; have GW493 := n3_; have GE493 := n4_; clear n0_ n1_ n2_ n3_ n4_; clear hb hbox hg; have hcz12_0 : w11.cell? ⟨gb493, 0, none⟩ = some (.int .i64 0) := (blk_cell BK493.out 0).trans rfl; have hcz12_1 : w11.cell? ⟨gb493, 1, none⟩ = some (.int .i64 0) := (blk_cell BK493.out 1).trans rfl; have hfz12_0 := blk_frozen BK493.out 0; have hfz12_1 := blk_frozen BK493.out 1; obtain ⟨Ao13, co13, eo13⟩ := Kd.R_slice HO490.out; subst eo13) | ((with_reducible refine gate_dst (N := 30) rfl ?_); refine Kd.R_make (Kd.int .i64) _ 3 rfl (N := 30) rfl 23 _ _ rfl (l0.length : Int) rfl rfl Try.underlying23 (.int .i64 0) 8 info3 rfl (by decide) (by omega) 0 (ok := fun _ => True) (okp := fun _ => True) rfl (fun _ hk => hk) trivial (of_decide_eq_true (by first | (with_reducible assumption) | assumption)) (Nat.le_trans (Nat.mul_le_mul_right _ (of_decide_eq_true (by first | (with_reducible assumption) | assumption) : (l0.length : Int).toNat ≤ 35184372088832)) (by omega)) (Below.refl _ _) (Nat.le_refl _) ?_; intro v495 w14 ho15 hb hg_ hnew_; clear hg_ hnew_; (first | rw [← Ny494.out] at ho15 | (simp only [Int.reduceToNat] at ho15; rw [← Ny494.out] at ho15)); have n0_ := aZ (Kd.R_elder' (by (with_reducible repeat (first | apply Kd.rA | apply Kd.rN | apply Kd.rD)); exact (Kd.R_mono (Kd.R_far (p := ⟨gb493, 1, none⟩) (Kd.R_far (p := ⟨gb493, 0, none⟩) (Kd.R_types HO490.out BK493.out (by decide)) (fun _ hk => hk.2) (.int .i64 t491)) (fun _ hk => hk.2) (.int .i64 t492)) (fun _ h_ => h_.1))) (Kd.R_base ho15) hb); have n1_ := aZ (Kd.R_lower (Kd.R_new' ho15 (Kd.R_lt (by (with_reducible repeat (first | apply Kd.rA | apply Kd.rN | apply Kd.rD)); exact (Kd.R_mono (Kd.R_far (p := ⟨gb493, 1, none⟩) (Kd.R_far (p := ⟨gb493, 0, none⟩) (Kd.R_types HO490.out BK493.out (by decide)) (fun _ hk => hk.2) (.int .i64 t491)) (fun _ hk => hk.2) (.int .i64 t492)) (fun _ h_ => h_.1))))) (lZ (by repeat (first | (with_reducible first | exact HB.out | apply lA | apply lN | apply lD | refine lS ?_ GE493.out) | exact HB.out)))); have n2_ := aZ (blk_below (g := gb493) (o := .cells #[.int .i64 t491, .int .i64 t492] 26 (0, 0)) (by (with_reducible repeat (first | refine bN ?_ _ | refine bD ?_ | refine bA ?_ _)); refine blk_put (cs := #[.int .i64 t491, .int .i64 0]) ?_ 1 _ rfl; (with_reducible repeat (first | refine bN ?_ _ | refine bD ?_ | refine bA ?_ _)); refine blk_put (cs := #[.int .i64 0, .int .i64 0]) ?_ 0 _ rfl; (with_reducible repeat (first | refine bN ?_ _ | refine bD ?_ | refine bA ?_ _)); exact BK493.out) hb); have n3_ := aZ (lT (by repeat (first | (with_reducible first | exact HB.out | apply lA | apply lN | apply lD | refine lS ?_ GE493.out) | exact HB.out)) hb); clear HO490; clear BK493; clear HB; have HO490 := n0_; have HO496 := n1_; have BK493 := n2_; have HB := n3_; clear n0_ n1_ n2_ n3_; clear hb ho15)); try go_wp2_with (first | (go_at_call 23; (with_reducible refine (changeforgelaw3_historyExample.calls k  true _ A2.out).mono ?_); rintro e w9 ⟨rfl, hb⟩; have n0_ := aZ (lT (by repeat (first | (with_reducible first | exact HB.out | apply lA | apply lN | apply lD) | exact HB.out)) hb); clear HB; have HB := n0_; clear n0_; (try clear hb); (try clear hb2); (try clear hk); (try clear hi)) | (go_at_call 27; (with_reducible refine (history_Order.calls k _ _ l0 t488 t491 t492 _ ?side1 ?side2 A4.out).mono ?_); (case side1 => repeat (first | exact (Kd.C_below HR0.out HB.out) | (with_reducible refine Kd.C_alloc ?_ _) | (with_reducible refine Kd.C_drewN ?_ _) | (with_reducible refine Kd.C_drew ?_))); (case side2 => exact HC0.out); rintro e w10 ⟨v489, rfl, ho0, hb⟩; have n0_ := aZ (Kd.R_lower ho0 (lZ (by repeat (first | (with_reducible first | exact HB.out | apply lA | apply lN | apply lD) | exact HB.out)))); have n1_ := aZ (lT (by repeat (first | (with_reducible first | exact HB.out | apply lA | apply lN | apply lD) | exact HB.out)) hb); clear HB; have HO490 := n0_; have HB := n1_; clear n0_ n1_; (try clear hb); (try clear hb2); (try clear hk); (try clear hi); (try clear ho0)) | ((with_reducible refine gate_dst (N := 4) rfl ?_); refine box_event ?hg (N := 4) ?hd (cs := #[.int .i64 0, .int .i64 0]) (t := 26) ?hr ?_; (case hd => rfl); (case hg => rfl); (case hr => first | (go_simp; done) | (go_simp; rfl)); intro gb493 hg w11 hbox hb; have n0_ := aZ (Kd.R_below (by (with_reducible repeat (first | apply Kd.rA | apply Kd.rN | apply Kd.rD)); exact HO490.out) hb); have n1_ := aZ (lT (by repeat (first | (with_reducible first | exact HB.out | apply lA | apply lN | apply lD) | exact HB.out)) hb); have n2_ := aZ (hbox); have n3_ := aZ ((by rw [hg]; exact (lZ (by repeat (first | (with_reducible first | exact HB.out | apply lA | apply lN | apply lD) | exact HB.out))) : w.heap.size ≤ gb493)); have n4_ := aZ ((by rw [hg]; exact (lZ (by repeat (first | (with_reducible first | exact HB.out | apply lA | apply lN | apply lD) | exact HB.out))) : w.heap.size ≤ gb493)); clear HO490; clear HB; have HO490 := n0_; have HB := n1_; have BK493 := n2_; have GW493 := n3_; have GE493 := n4_; clear n0_ n1_ n2_ n3_ n4_; clear hb hbox hg; have hcz12_0 : w11.cell? ⟨gb493, 0, none⟩ = some (.int .i64 0) := (blk_cell BK493.out 0).trans rfl; have hcz12_1 : w11.cell? ⟨gb493, 1, none⟩ = some (.int .i64 0) := (blk_cell BK493.out 1).trans rfl; have hfz12_0 := blk_frozen BK493.out 0; have hfz12_1 := blk_frozen BK493.out 1; obtain ⟨Ao13, co13, eo13⟩ := Kd.R_slice HO490.out; subst eo13) | ((with_reducible refine gate_dst (N := 30) rfl ?_); refine Kd.R_make (Kd.int .i64) _ 3 rfl (N := 30) rfl 23 _ _ rfl (l0.length : Int) rfl rfl Try.underlying23 (.int .i64 0) 8 info3 rfl (by decide) (by omega) 0 (ok := fun _ => True) (okp := fun _ => True) rfl (fun _ hk => hk) trivial (of_decide_eq_true (by first | (with_reducible assumption) | assumption)) (Nat.le_trans (Nat.mul_le_mul_right _ (of_decide_eq_true (by first | (with_reducible assumption) | assumption) : (l0.length : Int).toNat ≤ 35184372088832)) (by omega)) (Below.refl _ _) (Nat.le_refl _) ?_; intro v495 w14 ho15 hb hg_ hnew_; clear hg_ hnew_; (first | rw [← Ny494.out] at ho15 | (simp only [Int.reduceToNat] at ho15; rw [← Ny494.out] at ho15)); have n0_ := aZ (Kd.R_elder' (by (with_reducible repeat (first | apply Kd.rA | apply Kd.rN | apply Kd.rD)); exact (Kd.R_mono (Kd.R_far (p := ⟨gb493, 1, none⟩) (Kd.R_far (p := ⟨gb493, 0, none⟩) (Kd.R_types HO490.out BK493.out (by decide)) (fun _ hk => hk.2) (.int .i64 t491)) (fun _ hk => hk.2) (.int .i64 t492)) (fun _ h_ => h_.1))) (Kd.R_base ho15) hb); have n1_ := aZ (Kd.R_lower (Kd.R_new' ho15 (Kd.R_lt (by (with_reducible repeat (first | apply Kd.rA | apply Kd.rN | apply Kd.rD)); exact (Kd.R_mono (Kd.R_far (p := ⟨gb493, 1, none⟩) (Kd.R_far (p := ⟨gb493, 0, none⟩) (Kd.R_types HO490.out BK493.out (by decide)) (fun _ hk => hk.2) (.int .i64 t491)) (fun _ hk => hk.2) (.int .i64 t492)) (fun _ h_ => h_.1))))) (lZ (by repeat (first | (with_reducible first | exact HB.out | apply lA | apply lN | apply lD | refine lS ?_ GE493.out) | exact HB.out)))); have n2_ := aZ (blk_below (g := gb493) (o := .cells #[.int .i64 t491, .int .i64 t492] 26 (0, 0)) (by (with_reducible repeat (first | refine bN ?_ _ | refine bD ?_ | refine bA ?_ _)); refine blk_put (cs := #[.int .i64 t491, .int .i64 0]) ?_ 1 _ rfl; (with_reducible repeat (first | refine bN ?_ _ | refine bD ?_ | refine bA ?_ _)); refine blk_put (cs := #[.int .i64 0, .int .i64 0]) ?_ 0 _ rfl; (with_reducible repeat (first | refine bN ?_ _ | refine bD ?_ | refine bA ?_ _)); exact BK493.out) hb); have n3_ := aZ (lT (by repeat (first | (with_reducible first | exact HB.out | apply lA | apply lN | apply lD | refine lS ?_ GE493.out) | exact HB.out)) hb); clear HO490; clear BK493; clear HB; have HO490 := n0_; have HO496 := n1_; have BK493 := n2_; have HB := n3_; clear n0_ n1_ n2_ n3_; clear hb ho15)))
  go_loopg [6] k (fun kq v6 w' => ∃ (x5_1 : List Int) (x6_1 : Int), v6 = .int .i64 x6_1 ∧ Aside0 (changeforgelaw3_HistoryOrderTopological.l0 kq l0 t488 x5_1 x6_1 = some r) ∧ Aside0 (kq ≤ k) ∧ Aside0 (Kd.R (Kd.int .i64) 3 w' w.heap.size (fun k_ => some k_ ≠ (v495 : Value).ownBlock) (.slice Ao13 t488.length co13) t488) ∧ Aside0 (Kd.R (Kd.int .i64) 3 w' w.heap.size (fun k_ => some k_ ≠ ((.slice Ao13 t488.length co13) : Value).ownBlock) v495 x5_1) ∧ Aside0 (w'.heap[gb493]? = some (.cells #[.int .i64 t491, .int .i64 t492] 26 (0, 0))) ∧ Aside0 (Below w.heap.size w w'))
  case atStart => exact ⟨(y494), (0), (by first | rfl | (simp; done) | (simp [*]; done)), H', ⟨Nat.le_refl _⟩, ⟨by (with_reducible repeat (first | apply Kd.rA | apply Kd.rN | apply Kd.rD)); exact Kd.R_mono HO490.out (fun _ hk => hk.2)⟩, ⟨by (with_reducible repeat (first | apply Kd.rA | apply Kd.rN | apply Kd.rD)); exact Kd.R_mono HO496.out (fun _ hk => hk.2)⟩, ⟨by (with_reducible repeat (first | refine bN ?_ _ | refine bD ?_ | refine bA ?_ _)); exact BK493.out⟩, ⟨by repeat (first | (with_reducible first | exact HB.out | apply lA | apply lN | apply lD | refine lS ?_ GE493.out) | exact HB.out)⟩⟩
  case round =>
   clear H'
   (try clear c3); (try clear c5); (try clear c5b0); (try clear c5b1); (try clear c6); (try clear c6b0); (try clear c6b1); (try clear c6b2); (try clear c7); (try clear c7b0); (try clear c7b1); (try clear c8); (try clear c8b0); (try clear c8b1); (try clear hcz12_0); (try clear hcz12_1); (try clear hfz12_0); (try clear hfz12_1)
   obtain ⟨x5_1, x6_1, rfl, HA, HK1, HO_3, HO_5, BK493, HB⟩ := hrel
   cases gk with
   | zero => exact absurd HA.out (by simp [changeforgelaw3_HistoryOrderTopological.l0])
   | succ k1 =>
    have H := HA.out
    clear HA
    simp only [changeforgelaw3_HistoryOrderTopological.l0] at H
    by_cases c16 : x6_1 < (l0.length : Int)
    · rw [if_pos c16] at H
      have c16b0 : decide (x6_1 < (l0.length : Int)) = true := decide_eq_true c16
      clear c16
      by_cases c17 : 0 ≤ x6_1
      rotate_left
      · rw [if_neg c17] at H
        exact absurd H (by simp)
      rw [if_pos c17] at H
      have c17b0 : decide (0 ≤ x6_1) = true := decide_eq_true c17
      clear c17
      by_cases c18 : x6_1 < (x5_1.length : Int)
      rotate_left
      · rw [if_neg c18] at H
        exact absurd H (by simp)
      rw [if_pos c18] at H
      have c18b0 : decide (x6_1 < (x5_1.length : Int)) = true := decide_eq_true c18
      clear c18
      obtain ⟨y497, hy497⟩ : ∃ y_ : List Int, y_ = (x5_1.set (x6_1 : Int).toNat (-1)) := ⟨_, rfl⟩
      replace H : (changeforgelaw3_HistoryOrderTopological.l0 k1 l0 t488 y497 (wrap64 (x6_1 + 1))) = some r := by first | (rw [hy497]; with_reducible exact H) | (have H2_ := (Option.bind_some _ _).symm.trans H; rw [hy497]; with_reducible exact H2_) | (have H2_ := (Option.bind_some _ _).symm.trans H; with_reducible exact H2_) | with_reducible exact H | (rw [hy497]; exact H) | exact H
      have Ny497 := aZ hy497
      clear hy497
      have H' := aZ H
      clear H
      have p19 : 0 ≤ (x6_1 : Int) := of_decide_eq_true (by first | (with_reducible assumption) | assumption)
      have q19 : (x6_1 : Int) < ((x5_1.length : Int) : Int) := of_decide_eq_true (by first | (with_reducible assumption) | assumption)
      obtain ⟨go19, co19, eo19, gb19, gl19, cl19, HG19⟩ := Kd.R_form HO_5.out (by omega)
      (first | cases eo19 | (injection eo19 with ea_ en_ ec_; (first | subst ea_ | (injection ea_ with ea_; subst ea_)); subst ec_; clear en_))
      have GB19 := aZ gb19
      have GG19 := aZ HG19
      clear gb19 gl19 HG19
      obtain ⟨hx19_0, hf19_0⟩ := Kd.R_celln 0 HO_5.out (x6_1 : Int) p19 q19
      replace p19 := eq_true p19
      replace q19 := eq_true q19
      have HP20 := Kd.R_putg HO_5.out (x6_1 : Int) (-1)
      go_wp2_with (first | ((with_reducible refine gate_store (t := 3) (p := 39) rfl ?_); (try (rw [drewN_self wr]; generalize hq_ : World.drewN wr _ = wr; have n0_ := aZ (Kd.R_at hq_ HO_3.out); have n1_ := aZ (Kd.R_at hq_ HO_5.out); have n2_ := aZ (blk_at hq_ BK493.out); have n3_ := aZ (below_at hq_ HB.out); clear hq_ HO_3 HO_5 BK493 HB; have HO_3 := n0_; have HO_5 := n1_; have BK493 := n2_; have HB := n3_; clear n0_ n1_ n2_ n3_; (try (have HP20 := Kd.R_putg HO_5.out (x6_1 : Int) (-1))))); refine store_event (t := 3) (p := 39) (v := ?vo_w21) (w1 := (wr.setCell ⟨go19, (x6_1 : Int).toNat, none⟩ (.int .i64 (-1)))) ?hg ?ho ?hn ?hr ?_; (case ho => rfl); (case hg => rfl); (case hn => rfl); (case hr => first | (go_simp; done) | (go_simp; rfl)); intro w21 hw; have hg : wr.grownBy w21 (some go19) := (by rw [hw]; exact HP20.2); have hp_ : Kd.R (Kd.int .i64) 3 w21 w.heap.size (fun k_ => some k_ ≠ (.slice Ao13 t488.length co13 : Value).ownBlock) (.slice (some ⟨go19, 0, none⟩) x5_1.length co19) y497 := (by rw [hw, Ny497.out]; exact HP20.1); clear HP20; have n0_ := aZ (Kd.R_after (v := (.slice (some ⟨go19, 0, none⟩) x5_1.length co19)) (v1 := (.slice (some ⟨go19, 0, none⟩) x5_1.length co19)) (ok := (fun _ => True)) (by (with_reducible repeat (first | apply Kd.rA | apply Kd.rN | apply Kd.rD)); exact Kd.R_mono HO_3.out (fun _ hk => ⟨trivial, hk⟩)) hg (.inl rfl)); have n1_ := aZ (hp_); have n2_ := aZ (blk_grown (g := gb493) (o := .cells #[.int .i64 t491, .int .i64 t492] 26 (0, 0)) (by (with_reducible repeat (first | refine bN ?_ _ | refine bD ?_ | refine bA ?_ _)); exact BK493.out) hg (Kd.R_ne HO_5.out BK493.out (by decide))); have n3_ := aZ ((by rw [hw]; exact lS (HB.out) GB19.out : Below w.heap.size w w21)); clear HO_3; clear HO_5; clear BK493; clear HB; have HO_3 := n0_; have HO_5 := n1_; have BK493 := n2_; have HB := n3_; clear n0_ n1_ n2_ n3_; clear hg hw hp_))
      repeat (go_quiet (first | ((with_reducible refine gate_store (t := 3) (p := 39) rfl ?_); (try (rw [drewN_self wr]; generalize hq_ : World.drewN wr _ = wr; have n0_ := aZ (Kd.R_at hq_ HO_3.out); have n1_ := aZ (Kd.R_at hq_ HO_5.out); have n2_ := aZ (blk_at hq_ BK493.out); have n3_ := aZ (below_at hq_ HB.out); clear hq_ HO_3 HO_5 BK493 HB; have HO_3 := n0_; have HO_5 := n1_; have BK493 := n2_; have HB := n3_; clear n0_ n1_ n2_ n3_; (try (have HP20 := Kd.R_putg HO_5.out (x6_1 : Int) (-1))))); refine store_event (t := 3) (p := 39) (v := ?vo_w21) (w1 := (wr.setCell ⟨go19, (x6_1 : Int).toNat, none⟩ (.int .i64 (-1)))) ?hg ?ho ?hn ?hr ?_; (case ho => rfl); (case hg => rfl); (case hn => rfl); (case hr => first | (go_simp; done) | (go_simp; rfl)); intro w21 hw; have hg : wr.grownBy w21 (some go19) := (by rw [hw]; exact HP20.2); have hp_ : Kd.R (Kd.int .i64) 3 w21 w.heap.size (fun k_ => some k_ ≠ (.slice Ao13 t488.length co13 : Value).ownBlock) (.slice (some ⟨go19, 0, none⟩) x5_1.length co19) y497 := (by rw [hw, Ny497.out]; exact HP20.1); clear HP20; have n0_ := aZ (Kd.R_after (v := (.slice (some ⟨go19, 0, none⟩) x5_1.length co19)) (v1 := (.slice (some ⟨go19, 0, none⟩) x5_1.length co19)) (ok := (fun _ => True)) (by (with_reducible repeat (first | apply Kd.rA | apply Kd.rN | apply Kd.rD)); exact Kd.R_mono HO_3.out (fun _ hk => ⟨trivial, hk⟩)) hg (.inl rfl)); have n1_ := aZ (hp_); have n2_ := aZ (blk_grown (g := gb493) (o := .cells #[.int .i64 t491, .int .i64 t492] 26 (0, 0)) (by (with_reducible repeat (first | refine bN ?_ _ | refine bD ?_ | refine bA ?_ _)); exact BK493.out) hg (Kd.R_ne HO_5.out BK493.out (by decide))); have n3_ := aZ ((by rw [hw]; exact lS (HB.out) GB19.out : Below w.heap.size w w21)); clear HO_3; clear HO_5; clear BK493; clear HB; have HO_3 := n0_; have HO_5 := n1_; have BK493 := n2_; have HB := n3_; clear n0_ n1_ n2_ n3_; clear hg hw hp_)); try go_wp2_with (first | ((with_reducible refine gate_store (t := 3) (p := 39) rfl ?_); (try (rw [drewN_self wr]; generalize hq_ : World.drewN wr _ = wr; have n0_ := aZ (Kd.R_at hq_ HO_3.out); have n1_ := aZ (Kd.R_at hq_ HO_5.out); have n2_ := aZ (blk_at hq_ BK493.out); have n3_ := aZ (below_at hq_ HB.out); clear hq_ HO_3 HO_5 BK493 HB; have HO_3 := n0_; have HO_5 := n1_; have BK493 := n2_; have HB := n3_; clear n0_ n1_ n2_ n3_; (try (have HP20 := Kd.R_putg HO_5.out (x6_1 : Int) (-1))))); refine store_event (t := 3) (p := 39) (v := ?vo_w21) (w1 := (wr.setCell ⟨go19, (x6_1 : Int).toNat, none⟩ (.int .i64 (-1)))) ?hg ?ho ?hn ?hr ?_; (case ho => rfl); (case hg => rfl); (case hn => rfl); (case hr => first | (go_simp; done) | (go_simp; rfl)); intro w21 hw; have hg : wr.grownBy w21 (some go19) := (by rw [hw]; exact HP20.2); have hp_ : Kd.R (Kd.int .i64) 3 w21 w.heap.size (fun k_ => some k_ ≠ (.slice Ao13 t488.length co13 : Value).ownBlock) (.slice (some ⟨go19, 0, none⟩) x5_1.length co19) y497 := (by rw [hw, Ny497.out]; exact HP20.1); clear HP20; have n0_ := aZ (Kd.R_after (v := (.slice (some ⟨go19, 0, none⟩) x5_1.length co19)) (v1 := (.slice (some ⟨go19, 0, none⟩) x5_1.length co19)) (ok := (fun _ => True)) (by (with_reducible repeat (first | apply Kd.rA | apply Kd.rN | apply Kd.rD)); exact Kd.R_mono HO_3.out (fun _ hk => ⟨trivial, hk⟩)) hg (.inl rfl)); have n1_ := aZ (hp_); have n2_ := aZ (blk_grown (g := gb493) (o := .cells #[.int .i64 t491, .int .i64 t492] 26 (0, 0)) (by (with_reducible repeat (first | refine bN ?_ _ | refine bD ?_ | refine bA ?_ _)); exact BK493.out) hg (Kd.R_ne HO_5.out BK493.out (by decide))); have n3_ := aZ ((by rw [hw]; exact lS (HB.out) GB19.out : Below w.heap.size w w21)); clear HO_3; clear HO_5; clear BK493; clear HB; have HO_3 := n0_; have HO_5 := n1_; have BK493 := n2_; have HB := n3_; clear n0_ n1_ n2_ n3_; clear hg hw hp_)))
      go_roundg k1
      case measure => have := HK1.out; omega
      case rel => exact ⟨(y497), (wrap64 (x6_1 + 1)), (by first | rfl | (simp; done) | (simp [*]; done)), H', ⟨by have := HK1.out; omega⟩, ⟨by (with_reducible repeat (first | apply Kd.rA | apply Kd.rN | apply Kd.rD)); exact Kd.R_mono HO_3.out (fun _ hk => hk.2)⟩, ⟨by (with_reducible repeat (first | apply Kd.rA | apply Kd.rN | apply Kd.rD)); exact HO_5.out⟩, ⟨by (with_reducible repeat (first | refine bN ?_ _ | refine bD ?_ | refine bA ?_ _)); exact BK493.out⟩, ⟨by repeat (first | (with_reducible first | exact HB.out | apply lA | apply lN | apply lD | refine lS ?_ GE493.out) | exact HB.out)⟩⟩
    rw [if_neg c16] at H
    have c16b0 : decide (x6_1 < (l0.length : Int)) = false := decide_eq_false c16
    clear c16
    have H' := aZ H
    clear H
    go_wp2
    repeat (go_quiet (fail); try go_wp2)
    go_loopg [7] k1 (fun kq v7 w' => ∃ (x5_2 : List Int) (x7_2 : Int), v7 = .int .i64 x7_2 ∧ Aside0 (changeforgelaw3_HistoryOrderTopological.l1 kq l0 t488 x5_2 x7_2 = some r) ∧ Aside0 (kq ≤ k1) ∧ Aside0 (Kd.R (Kd.int .i64) 3 w' w.heap.size (fun k_ => some k_ ≠ (v495 : Value).ownBlock) (.slice Ao13 t488.length co13) t488) ∧ Aside0 (Kd.R (Kd.int .i64) 3 w' w.heap.size (fun k_ => some k_ ≠ ((.slice Ao13 t488.length co13) : Value).ownBlock) v495 x5_2) ∧ Aside0 (w'.heap[gb493]? = some (.cells #[.int .i64 t491, .int .i64 t492] 26 (0, 0))) ∧ Aside0 (Below w.heap.size w w'))
    case atStart => exact ⟨(x5_1), (0), (by first | rfl | (simp; done) | (simp [*]; done)), H', ⟨Nat.le_refl _⟩, ⟨by (with_reducible repeat (first | apply Kd.rA | apply Kd.rN | apply Kd.rD)); exact HO_3.out⟩, ⟨by (with_reducible repeat (first | apply Kd.rA | apply Kd.rN | apply Kd.rD)); exact HO_5.out⟩, ⟨by (with_reducible repeat (first | refine bN ?_ _ | refine bD ?_ | refine bA ?_ _)); exact BK493.out⟩, ⟨by repeat (first | (with_reducible first | exact HB.out | apply lA | apply lN | apply lD | refine lS ?_ GE493.out) | exact HB.out)⟩⟩
    case round =>
     clear H'
     (try clear c16); (try clear c16b0)
     obtain ⟨x5_2, x7_2, rfl, HA, HK2, HO_3, HO_5, BK493, HB⟩ := hrel
     cases gk with
     | zero => exact absurd HA.out (by simp [changeforgelaw3_HistoryOrderTopological.l1])
     | succ k2 =>
      have H := HA.out
      clear HA
      simp only [changeforgelaw3_HistoryOrderTopological.l1] at H
      by_cases c22 : x7_2 < (t488.length : Int)
      · rw [if_pos c22] at H
        have c22b0 : decide (x7_2 < (t488.length : Int)) = true := decide_eq_true c22
        clear c22
        by_cases c23 : 0 ≤ x7_2
        rotate_left
        · rw [if_neg c23] at H
          exact absurd H (by simp)
        rw [if_pos c23] at H
        have c23b0 : decide (0 ≤ x7_2) = true := decide_eq_true c23
        clear c23
        replace H := Option.bind_eq_some_iff.mp H
        obtain ⟨t499, A240, H⟩ := H
        replace H : (if t499 = true then (if 0 ≤ (rd t488 x7_2) then (if (rd t488 x7_2) < (x5_2.length : Int) then (if (rd x5_2 (rd t488 x7_2)) ≥ 0 then (some false) else (changeforgelaw3_HistoryOrderTopological.l1 k2 l0 t488 (x5_2.set ((rd t488 x7_2) : Int).toNat x7_2) (wrap64 (x7_2 + 1)))) else (none)) else (none)) else (some false)) = some r := H
        have A24 := aZ A240
        clear A240
        by_cases c25 : t499 = true
        rotate_left
        · replace c25 := Bool.eq_false_iff.mpr c25
          subst c25
          have H1 : (some false) = some r := by rw [if_neg (show ¬ (false = true) by decide)] at H; exact H
          clear H
          have H := H1
          clear H1
          obtain rfl := Option.some.inj H
          have p498 : 0 ≤ (x7_2 : Int) := of_decide_eq_true (by first | (with_reducible assumption) | assumption)
          have q498 : x7_2 < (t488.length : Int) := of_decide_eq_true (by first | (with_reducible assumption) | assumption)
          obtain ⟨ad498, e498, hx498_0⟩ := Kd.at_int (Kd.R_reads' HO_3.out).2.2 x7_2 p498 q498
          cases e498
          replace p498 := eq_true p498
          replace q498 := eq_true q498
          go_wp2_with (first | (go_at_call 18; (with_reducible refine (changeforgeref3_In.calls (rd t488 x7_2) 0 (wrap64 ((l0.length : Int) - 1)) false _ A24.out).mono ?_); rintro e w' ⟨rfl, ⟨nd, rfl⟩⟩; (try first | exact ⟨rfl, _, World.drewN_drewN _ _ _⟩ | exact ⟨rfl, _, Eq.trans (World.drewN_drewN _ _ _) (congrArg (World.drewN _) (Nat.add_assoc _ _ _))⟩)))
          repeat (go_quiet (first | (go_at_call 18; (with_reducible refine (changeforgeref3_In.calls (rd t488 x7_2) 0 (wrap64 ((l0.length : Int) - 1)) false _ A24.out).mono ?_); rintro e w' ⟨rfl, ⟨nd, rfl⟩⟩; (try first | exact ⟨rfl, _, World.drewN_drewN _ _ _⟩ | exact ⟨rfl, _, Eq.trans (World.drewN_drewN _ _ _) (congrArg (World.drewN _) (Nat.add_assoc _ _ _))⟩))); try go_wp2_with (first | (go_at_call 18; (with_reducible refine (changeforgeref3_In.calls (rd t488 x7_2) 0 (wrap64 ((l0.length : Int) - 1)) false _ A24.out).mono ?_); rintro e w' ⟨rfl, ⟨nd, rfl⟩⟩; (try first | exact ⟨rfl, _, World.drewN_drewN _ _ _⟩ | exact ⟨rfl, _, Eq.trans (World.drewN_drewN _ _ _) (congrArg (World.drewN _) (Nat.add_assoc _ _ _))⟩))))
          go_ret
          exact ⟨by first | rfl | (simp [errW_none, errW_some] <;> rfl) | (simp [*, errW_none, errW_some] <;> rfl), by repeat (first | (with_reducible first | exact HB.out | apply lA | apply lN | apply lD | refine lS ?_ GE493.out) | exact HB.out)⟩
        subst c25
        have H1 : (if 0 ≤ (rd t488 x7_2) then (if (rd t488 x7_2) < (x5_2.length : Int) then (if (rd x5_2 (rd t488 x7_2)) ≥ 0 then (some false) else (changeforgelaw3_HistoryOrderTopological.l1 k2 l0 t488 (x5_2.set ((rd t488 x7_2) : Int).toNat x7_2) (wrap64 (x7_2 + 1)))) else (none)) else (none)) = some r := by rw [if_pos rfl] at H; exact H
        clear H
        have H := H1
        clear H1
        by_cases c26 : 0 ≤ (rd t488 x7_2)
        rotate_left
        · rw [if_neg c26] at H
          exact absurd H (by simp)
        rw [if_pos c26] at H
        have c26b0 : decide (0 ≤ (rd t488 x7_2)) = true := decide_eq_true c26
        clear c26
        by_cases c27 : (rd t488 x7_2) < (x5_2.length : Int)
        rotate_left
        · rw [if_neg c27] at H
          exact absurd H (by simp)
        rw [if_pos c27] at H
        have c27b0 : decide ((rd t488 x7_2) < (x5_2.length : Int)) = true := decide_eq_true c27
        clear c27
        by_cases c28 : (rd x5_2 (rd t488 x7_2)) ≥ 0
        · rw [if_pos c28] at H
          have c28b0 : decide (0 ≤ (rd x5_2 (rd t488 x7_2))) = true := decide_eq_true c28
          clear c28
          obtain rfl := Option.some.inj H
          have p498 : 0 ≤ (x7_2 : Int) := of_decide_eq_true (by first | (with_reducible assumption) | assumption)
          have q498 : x7_2 < (t488.length : Int) := of_decide_eq_true (by first | (with_reducible assumption) | assumption)
          obtain ⟨ad498, e498, hx498_0⟩ := Kd.at_int (Kd.R_reads' HO_3.out).2.2 x7_2 p498 q498
          cases e498
          replace p498 := eq_true p498
          replace q498 := eq_true q498
          go_wp2_with (first | (go_at_call 18; (with_reducible refine (changeforgeref3_In.calls (rd t488 x7_2) 0 (wrap64 ((l0.length : Int) - 1)) true _ A24.out).mono ?_); rintro e w' ⟨rfl, ⟨nd, rfl⟩⟩; (try first | exact ⟨rfl, _, World.drewN_drewN _ _ _⟩ | exact ⟨rfl, _, Eq.trans (World.drewN_drewN _ _ _) (congrArg (World.drewN _) (Nat.add_assoc _ _ _))⟩); have p500 : 0 ≤ (x7_2 : Int) := of_decide_eq_true (by first | (with_reducible assumption) | assumption); have q500 : x7_2 < (t488.length : Int) := of_decide_eq_true (by first | (with_reducible assumption) | assumption); obtain ⟨ad500, e500, hx500_0⟩ := Kd.at_int (Kd.R_reads' HO_3.out).2.2 x7_2 p500 q500; obtain rfl : ad498 = ad500 := (by injection e500); replace p500 := eq_true p500; replace q500 := eq_true q500; obtain ⟨Ao29, co29, eo29⟩ := Kd.R_slice HO_5.out; subst eo29; have p501 : 0 ≤ ((rd t488 x7_2) : Int) := of_decide_eq_true (by first | (with_reducible assumption) | assumption); have q501 : (rd t488 x7_2) < (x5_2.length : Int) := of_decide_eq_true (by first | (with_reducible assumption) | assumption); obtain ⟨ad501, e501, hx501_0⟩ := Kd.at_int (Kd.R_reads' HO_5.out).2.2 (rd t488 x7_2) p501 q501; cases e501; replace p501 := eq_true p501; replace q501 := eq_true q501))
          repeat (go_quiet (first | (go_at_call 18; (with_reducible refine (changeforgeref3_In.calls (rd t488 x7_2) 0 (wrap64 ((l0.length : Int) - 1)) true _ A24.out).mono ?_); rintro e w' ⟨rfl, ⟨nd, rfl⟩⟩; (try first | exact ⟨rfl, _, World.drewN_drewN _ _ _⟩ | exact ⟨rfl, _, Eq.trans (World.drewN_drewN _ _ _) (congrArg (World.drewN _) (Nat.add_assoc _ _ _))⟩); have p500 : 0 ≤ (x7_2 : Int) := of_decide_eq_true (by first | (with_reducible assumption) | assumption); have q500 : x7_2 < (t488.length : Int) := of_decide_eq_true (by first | (with_reducible assumption) | assumption); obtain ⟨ad500, e500, hx500_0⟩ := Kd.at_int (Kd.R_reads' HO_3.out).2.2 x7_2 p500 q500; obtain rfl : ad498 = ad500 := (by injection e500); replace p500 := eq_true p500; replace q500 := eq_true q500; obtain ⟨Ao29, co29, eo29⟩ := Kd.R_slice HO_5.out; subst eo29; have p501 : 0 ≤ ((rd t488 x7_2) : Int) := of_decide_eq_true (by first | (with_reducible assumption) | assumption); have q501 : (rd t488 x7_2) < (x5_2.length : Int) := of_decide_eq_true (by first | (with_reducible assumption) | assumption); obtain ⟨ad501, e501, hx501_0⟩ := Kd.at_int (Kd.R_reads' HO_5.out).2.2 (rd t488 x7_2) p501 q501; cases e501; replace p501 := eq_true p501; replace q501 := eq_true q501)); try go_wp2_with (first | (go_at_call 18; (with_reducible refine (changeforgeref3_In.calls (rd t488 x7_2) 0 (wrap64 ((l0.length : Int) - 1)) true _ A24.out).mono ?_); rintro e w' ⟨rfl, ⟨nd, rfl⟩⟩; (try first | exact ⟨rfl, _, World.drewN_drewN _ _ _⟩ | exact ⟨rfl, _, Eq.trans (World.drewN_drewN _ _ _) (congrArg (World.drewN _) (Nat.add_assoc _ _ _))⟩); have p500 : 0 ≤ (x7_2 : Int) := of_decide_eq_true (by first | (with_reducible assumption) | assumption); have q500 : x7_2 < (t488.length : Int) := of_decide_eq_true (by first | (with_reducible assumption) | assumption); obtain ⟨ad500, e500, hx500_0⟩ := Kd.at_int (Kd.R_reads' HO_3.out).2.2 x7_2 p500 q500; obtain rfl : ad498 = ad500 := (by injection e500); replace p500 := eq_true p500; replace q500 := eq_true q500; obtain ⟨Ao29, co29, eo29⟩ := Kd.R_slice HO_5.out; subst eo29; have p501 : 0 ≤ ((rd t488 x7_2) : Int) := of_decide_eq_true (by first | (with_reducible assumption) | assumption); have q501 : (rd t488 x7_2) < (x5_2.length : Int) := of_decide_eq_true (by first | (with_reducible assumption) | assumption); obtain ⟨ad501, e501, hx501_0⟩ := Kd.at_int (Kd.R_reads' HO_5.out).2.2 (rd t488 x7_2) p501 q501; cases e501; replace p501 := eq_true p501; replace q501 := eq_true q501)))
          go_ret
          exact ⟨by first | rfl | (simp [errW_none, errW_some] <;> rfl) | (simp [*, errW_none, errW_some] <;> rfl), by repeat (first | (with_reducible first | exact HB.out | apply lA | apply lN | apply lD | refine lS ?_ GE493.out) | exact HB.out)⟩
        rw [if_neg c28] at H
        have c28b0 : decide (0 ≤ (rd x5_2 (rd t488 x7_2))) = false := decide_eq_false c28
        clear c28
        obtain ⟨y503, hy503⟩ : ∃ y_ : List Int, y_ = (x5_2.set ((rd t488 x7_2) : Int).toNat x7_2) := ⟨_, rfl⟩
        replace H : (changeforgelaw3_HistoryOrderTopological.l1 k2 l0 t488 y503 (wrap64 (x7_2 + 1))) = some r := by first | (rw [hy503]; with_reducible exact H) | (have H2_ := (Option.bind_some _ _).symm.trans H; rw [hy503]; with_reducible exact H2_) | (have H2_ := (Option.bind_some _ _).symm.trans H; with_reducible exact H2_) | with_reducible exact H | (rw [hy503]; exact H) | exact H
        have Ny503 := aZ hy503
        clear hy503
        have H' := aZ H
        clear H
        have p498 : 0 ≤ (x7_2 : Int) := of_decide_eq_true (by first | (with_reducible assumption) | assumption)
        have q498 : x7_2 < (t488.length : Int) := of_decide_eq_true (by first | (with_reducible assumption) | assumption)
        obtain ⟨ad498, e498, hx498_0⟩ := Kd.at_int (Kd.R_reads' HO_3.out).2.2 x7_2 p498 q498
        cases e498
        replace p498 := eq_true p498
        replace q498 := eq_true q498
        go_wp2_with (first | (go_at_call 18; (with_reducible refine (changeforgeref3_In.calls (rd t488 x7_2) 0 (wrap64 ((l0.length : Int) - 1)) true _ A24.out).mono ?_); rintro e w' ⟨rfl, ⟨nd, rfl⟩⟩; (try first | exact ⟨rfl, _, World.drewN_drewN _ _ _⟩ | exact ⟨rfl, _, Eq.trans (World.drewN_drewN _ _ _) (congrArg (World.drewN _) (Nat.add_assoc _ _ _))⟩); have p500 : 0 ≤ (x7_2 : Int) := of_decide_eq_true (by first | (with_reducible assumption) | assumption); have q500 : x7_2 < (t488.length : Int) := of_decide_eq_true (by first | (with_reducible assumption) | assumption); obtain ⟨ad500, e500, hx500_0⟩ := Kd.at_int (Kd.R_reads' HO_3.out).2.2 x7_2 p500 q500; obtain rfl : ad498 = ad500 := (by injection e500); replace p500 := eq_true p500; replace q500 := eq_true q500; obtain ⟨Ao31, co31, eo31⟩ := Kd.R_slice HO_5.out; subst eo31; have p501 : 0 ≤ ((rd t488 x7_2) : Int) := of_decide_eq_true (by first | (with_reducible assumption) | assumption); have q501 : (rd t488 x7_2) < (x5_2.length : Int) := of_decide_eq_true (by first | (with_reducible assumption) | assumption); obtain ⟨ad501, e501, hx501_0⟩ := Kd.at_int (Kd.R_reads' HO_5.out).2.2 (rd t488 x7_2) p501 q501; cases e501; replace p501 := eq_true p501; replace q501 := eq_true q501; have p502 : 0 ≤ (x7_2 : Int) := of_decide_eq_true (by first | (with_reducible assumption) | assumption); have q502 : x7_2 < (t488.length : Int) := of_decide_eq_true (by first | (with_reducible assumption) | assumption); obtain ⟨ad502, e502, hx502_0⟩ := Kd.at_int (Kd.R_reads' HO_3.out).2.2 x7_2 p502 q502; obtain rfl : ad498 = ad502 := (by injection e502); replace p502 := eq_true p502; replace q502 := eq_true q502; have p30 : 0 ≤ ((rd t488 x7_2) : Int) := of_decide_eq_true (by first | (with_reducible assumption) | assumption); have q30 : ((rd t488 x7_2) : Int) < ((x5_2.length : Int) : Int) := of_decide_eq_true (by first | (with_reducible assumption) | assumption); obtain ⟨go30, co30, eo30, gb30, gl30, cl30, HG30⟩ := Kd.R_form HO_5.out (by omega); (first | cases eo30 | (injection eo30 with ea_ en_ ec_; (first | subst ea_ | (injection ea_ with ea_; subst ea_)); subst ec_; clear en_)); have GB30 := aZ gb30; have GG30 := aZ HG30; clear gb30 gl30 HG30; (first | simp only [add_plain] at hx501_0 | skip); obtain ⟨hx30_0, hf30_0⟩ := Kd.R_celln 0 HO_5.out ((rd t488 x7_2) : Int) p30 q30; replace p30 := eq_true p30; replace q30 := eq_true q30; obtain ⟨hy32_, hz32_⟩ := Kd.R_celln 0 HO_5.out ((rd t488 x7_2) : Int) (of_decide_eq_true (by first | (with_reducible assumption) | assumption)) (of_decide_eq_true (by first | (with_reducible assumption) | assumption)); have HP32 := Kd.R_putg HO_5.out ((rd t488 x7_2) : Int) x7_2) | ((with_reducible refine gate_store (t := 3) (p := 71) rfl ?_); (try (rw [drewN_self wr]; generalize hq_ : World.drewN wr _ = wr; have n0_ := aZ (Kd.R_at hq_ HO_3.out); have n1_ := aZ (Kd.R_at hq_ HO_5.out); have n2_ := aZ (blk_at hq_ BK493.out); have n3_ := aZ (below_at hq_ HB.out); clear hq_ HO_3 HO_5 BK493 HB; have HO_3 := n0_; have HO_5 := n1_; have BK493 := n2_; have HB := n3_; clear n0_ n1_ n2_ n3_; (try (obtain ⟨hy32_, hz32_⟩ := Kd.R_celln 0 HO_5.out ((rd t488 x7_2) : Int) (of_decide_eq_true (by first | (with_reducible assumption) | assumption)) (of_decide_eq_true (by first | (with_reducible assumption) | assumption)))); (try (have HP32 := Kd.R_putg HO_5.out ((rd t488 x7_2) : Int) x7_2)))); refine store_event (t := 3) (p := 71) (v := ?vo_w33) (w1 := (wr.setCell ⟨go30, ((rd t488 x7_2) : Int).toNat, none⟩ (.int .i64 x7_2))) ?hg ?ho ?hn ?hr ?_; (case ho => rfl); (case hg => rfl); (case hn => rfl); (case hr => first | (go_simp; done) | (go_simp; rfl)); intro w33 hw; have hg : wr.grownBy w33 (some go30) := (by rw [hw]; exact HP32.2); have hp_ : Kd.R (Kd.int .i64) 3 w33 w.heap.size (fun k_ => some k_ ≠ (.slice (some ad498) t488.length co13 : Value).ownBlock) (.slice (some ⟨go30, 0, none⟩) x5_2.length co31) y503 := (by rw [hw, Ny503.out]; exact HP32.1); clear HP32; have n0_ := aZ (Kd.R_after (v := (.slice (some ⟨go30, 0, none⟩) x5_2.length co31)) (v1 := (.slice (some ⟨go30, 0, none⟩) x5_2.length co31)) (ok := (fun _ => True)) (by (with_reducible repeat (first | apply Kd.rA | apply Kd.rN | apply Kd.rD)); exact Kd.R_mono HO_3.out (fun _ hk => ⟨trivial, hk⟩)) hg (.inl rfl)); have n1_ := aZ (hp_); have n2_ := aZ (blk_grown (g := gb493) (o := .cells #[.int .i64 t491, .int .i64 t492] 26 (0, 0)) (by (with_reducible repeat (first | refine bN ?_ _ | refine bD ?_ | refine bA ?_ _)); exact BK493.out) hg (Kd.R_ne HO_5.out BK493.out (by decide))); have n3_ := aZ ((by rw [hw]; exact lS (HB.out) GB30.out : Below w.heap.size w w33)); clear HO_3; clear HO_5; clear BK493; clear HB; have HO_3 := n0_; have HO_5 := n1_; have BK493 := n2_; have HB := n3_; clear n0_ n1_ n2_ n3_; clear hg hw hp_))
        repeat (go_quiet (first | (go_at_call 18; (with_reducible refine (changeforgeref3_In.calls (rd t488 x7_2) 0 (wrap64 ((l0.length : Int) - 1)) true _ A24.out).mono ?_); rintro e w' ⟨rfl, ⟨nd, rfl⟩⟩; (try first | exact ⟨rfl, _, World.drewN_drewN _ _ _⟩ | exact ⟨rfl, _, Eq.trans (World.drewN_drewN _ _ _) (congrArg (World.drewN _) (Nat.add_assoc _ _ _))⟩); have p500 : 0 ≤ (x7_2 : Int) := of_decide_eq_true (by first | (with_reducible assumption) | assumption); have q500 : x7_2 < (t488.length : Int) := of_decide_eq_true (by first | (with_reducible assumption) | assumption); obtain ⟨ad500, e500, hx500_0⟩ := Kd.at_int (Kd.R_reads' HO_3.out).2.2 x7_2 p500 q500; obtain rfl : ad498 = ad500 := (by injection e500); replace p500 := eq_true p500; replace q500 := eq_true q500; obtain ⟨Ao31, co31, eo31⟩ := Kd.R_slice HO_5.out; subst eo31; have p501 : 0 ≤ ((rd t488 x7_2) : Int) := of_decide_eq_true (by first | (with_reducible assumption) | assumption); have q501 : (rd t488 x7_2) < (x5_2.length : Int) := of_decide_eq_true (by first | (with_reducible assumption) | assumption); obtain ⟨ad501, e501, hx501_0⟩ := Kd.at_int (Kd.R_reads' HO_5.out).2.2 (rd t488 x7_2) p501 q501; cases e501; replace p501 := eq_true p501; replace q501 := eq_true q501; have p502 : 0 ≤ (x7_2 : Int) := of_decide_eq_true (by first | (with_reducible assumption) | assumption); have q502 : x7_2 < (t488.length : Int) := of_decide_eq_true (by first | (with_reducible assumption) | assumption); obtain ⟨ad502, e502, hx502_0⟩ := Kd.at_int (Kd.R_reads' HO_3.out).2.2 x7_2 p502 q502; obtain rfl : ad498 = ad502 := (by injection e502); replace p502 := eq_true p502; replace q502 := eq_true q502; have p30 : 0 ≤ ((rd t488 x7_2) : Int) := of_decide_eq_true (by first | (with_reducible assumption) | assumption); have q30 : ((rd t488 x7_2) : Int) < ((x5_2.length : Int) : Int) := of_decide_eq_true (by first | (with_reducible assumption) | assumption); obtain ⟨go30, co30, eo30, gb30, gl30, cl30, HG30⟩ := Kd.R_form HO_5.out (by omega); (first | cases eo30 | (injection eo30 with ea_ en_ ec_; (first | subst ea_ | (injection ea_ with ea_; subst ea_)); subst ec_; clear en_)); have GB30 := aZ gb30; have GG30 := aZ HG30; clear gb30 gl30 HG30; (first | simp only [add_plain] at hx501_0 | skip); obtain ⟨hx30_0, hf30_0⟩ := Kd.R_celln 0 HO_5.out ((rd t488 x7_2) : Int) p30 q30; replace p30 := eq_true p30; replace q30 := eq_true q30; obtain ⟨hy32_, hz32_⟩ := Kd.R_celln 0 HO_5.out ((rd t488 x7_2) : Int) (of_decide_eq_true (by first | (with_reducible assumption) | assumption)) (of_decide_eq_true (by first | (with_reducible assumption) | assumption)); have HP32 := Kd.R_putg HO_5.out ((rd t488 x7_2) : Int) x7_2) | ((with_reducible refine gate_store (t := 3) (p := 71) rfl ?_); (try (rw [drewN_self wr]; generalize hq_ : World.drewN wr _ = wr; have n0_ := aZ (Kd.R_at hq_ HO_3.out); have n1_ := aZ (Kd.R_at hq_ HO_5.out); have n2_ := aZ (blk_at hq_ BK493.out); have n3_ := aZ (below_at hq_ HB.out); clear hq_ HO_3 HO_5 BK493 HB; have HO_3 := n0_; have HO_5 := n1_; have BK493 := n2_; have HB := n3_; clear n0_ n1_ n2_ n3_; (try (obtain ⟨hy32_, hz32_⟩ := Kd.R_celln 0 HO_5.out ((rd t488 x7_2) : Int) (of_decide_eq_true (by first | (with_reducible assumption) | assumption)) (of_decide_eq_true (by first | (with_reducible assumption) | assumption)))); (try (have HP32 := Kd.R_putg HO_5.out ((rd t488 x7_2) : Int) x7_2)))); refine store_event (t := 3) (p := 71) (v := ?vo_w33) (w1 := (wr.setCell ⟨go30, ((rd t488 x7_2) : Int).toNat, none⟩ (.int .i64 x7_2))) ?hg ?ho ?hn ?hr ?_; (case ho => rfl); (case hg => rfl); (case hn => rfl); (case hr => first | (go_simp; done) | (go_simp; rfl)); intro w33 hw; have hg : wr.grownBy w33 (some go30) := (by rw [hw]; exact HP32.2); have hp_ : Kd.R (Kd.int .i64) 3 w33 w.heap.size (fun k_ => some k_ ≠ (.slice (some ad498) t488.length co13 : Value).ownBlock) (.slice (some ⟨go30, 0, none⟩) x5_2.length co31) y503 := (by rw [hw, Ny503.out]; exact HP32.1); clear HP32; have n0_ := aZ (Kd.R_after (v := (.slice (some ⟨go30, 0, none⟩) x5_2.length co31)) (v1 := (.slice (some ⟨go30, 0, none⟩) x5_2.length co31)) (ok := (fun _ => True)) (by (with_reducible repeat (first | apply Kd.rA | apply Kd.rN | apply Kd.rD)); exact Kd.R_mono HO_3.out (fun _ hk => ⟨trivial, hk⟩)) hg (.inl rfl)); have n1_ := aZ (hp_); have n2_ := aZ (blk_grown (g := gb493) (o := .cells #[.int .i64 t491, .int .i64 t492] 26 (0, 0)) (by (with_reducible repeat (first | refine bN ?_ _ | refine bD ?_ | refine bA ?_ _)); exact BK493.out) hg (Kd.R_ne HO_5.out BK493.out (by decide))); have n3_ := aZ ((by rw [hw]; exact lS (HB.out) GB30.out : Below w.heap.size w w33)); clear HO_3; clear HO_5; clear BK493; clear HB; have HO_3 := n0_; have HO_5 := n1_; have BK493 := n2_; have HB := n3_; clear n0_ n1_ n2_ n3_; clear hg hw hp_)); try go_wp2_with (first | (go_at_call 18; (with_reducible refine (changeforgeref3_In.calls (rd t488 x7_2) 0 (wrap64 ((l0.length : Int) - 1)) true _ A24.out).mono ?_); rintro e w' ⟨rfl, ⟨nd, rfl⟩⟩; (try first | exact ⟨rfl, _, World.drewN_drewN _ _ _⟩ | exact ⟨rfl, _, Eq.trans (World.drewN_drewN _ _ _) (congrArg (World.drewN _) (Nat.add_assoc _ _ _))⟩); have p500 : 0 ≤ (x7_2 : Int) := of_decide_eq_true (by first | (with_reducible assumption) | assumption); have q500 : x7_2 < (t488.length : Int) := of_decide_eq_true (by first | (with_reducible assumption) | assumption); obtain ⟨ad500, e500, hx500_0⟩ := Kd.at_int (Kd.R_reads' HO_3.out).2.2 x7_2 p500 q500; obtain rfl : ad498 = ad500 := (by injection e500); replace p500 := eq_true p500; replace q500 := eq_true q500; obtain ⟨Ao31, co31, eo31⟩ := Kd.R_slice HO_5.out; subst eo31; have p501 : 0 ≤ ((rd t488 x7_2) : Int) := of_decide_eq_true (by first | (with_reducible assumption) | assumption); have q501 : (rd t488 x7_2) < (x5_2.length : Int) := of_decide_eq_true (by first | (with_reducible assumption) | assumption); obtain ⟨ad501, e501, hx501_0⟩ := Kd.at_int (Kd.R_reads' HO_5.out).2.2 (rd t488 x7_2) p501 q501; cases e501; replace p501 := eq_true p501; replace q501 := eq_true q501; have p502 : 0 ≤ (x7_2 : Int) := of_decide_eq_true (by first | (with_reducible assumption) | assumption); have q502 : x7_2 < (t488.length : Int) := of_decide_eq_true (by first | (with_reducible assumption) | assumption); obtain ⟨ad502, e502, hx502_0⟩ := Kd.at_int (Kd.R_reads' HO_3.out).2.2 x7_2 p502 q502; obtain rfl : ad498 = ad502 := (by injection e502); replace p502 := eq_true p502; replace q502 := eq_true q502; have p30 : 0 ≤ ((rd t488 x7_2) : Int) := of_decide_eq_true (by first | (with_reducible assumption) | assumption); have q30 : ((rd t488 x7_2) : Int) < ((x5_2.length : Int) : Int) := of_decide_eq_true (by first | (with_reducible assumption) | assumption); obtain ⟨go30, co30, eo30, gb30, gl30, cl30, HG30⟩ := Kd.R_form HO_5.out (by omega); (first | cases eo30 | (injection eo30 with ea_ en_ ec_; (first | subst ea_ | (injection ea_ with ea_; subst ea_)); subst ec_; clear en_)); have GB30 := aZ gb30; have GG30 := aZ HG30; clear gb30 gl30 HG30; (first | simp only [add_plain] at hx501_0 | skip); obtain ⟨hx30_0, hf30_0⟩ := Kd.R_celln 0 HO_5.out ((rd t488 x7_2) : Int) p30 q30; replace p30 := eq_true p30; replace q30 := eq_true q30; obtain ⟨hy32_, hz32_⟩ := Kd.R_celln 0 HO_5.out ((rd t488 x7_2) : Int) (of_decide_eq_true (by first | (with_reducible assumption) | assumption)) (of_decide_eq_true (by first | (with_reducible assumption) | assumption)); have HP32 := Kd.R_putg HO_5.out ((rd t488 x7_2) : Int) x7_2) | ((with_reducible refine gate_store (t := 3) (p := 71) rfl ?_); (try (rw [drewN_self wr]; generalize hq_ : World.drewN wr _ = wr; have n0_ := aZ (Kd.R_at hq_ HO_3.out); have n1_ := aZ (Kd.R_at hq_ HO_5.out); have n2_ := aZ (blk_at hq_ BK493.out); have n3_ := aZ (below_at hq_ HB.out); clear hq_ HO_3 HO_5 BK493 HB; have HO_3 := n0_; have HO_5 := n1_; have BK493 := n2_; have HB := n3_; clear n0_ n1_ n2_ n3_; (try (obtain ⟨hy32_, hz32_⟩ := Kd.R_celln 0 HO_5.out ((rd t488 x7_2) : Int) (of_decide_eq_true (by first | (with_reducible assumption) | assumption)) (of_decide_eq_true (by first | (with_reducible assumption) | assumption)))); (try (have HP32 := Kd.R_putg HO_5.out ((rd t488 x7_2) : Int) x7_2)))); refine store_event (t := 3) (p := 71) (v := ?vo_w33) (w1 := (wr.setCell ⟨go30, ((rd t488 x7_2) : Int).toNat, none⟩ (.int .i64 x7_2))) ?hg ?ho ?hn ?hr ?_; (case ho => rfl); (case hg => rfl); (case hn => rfl); (case hr => first | (go_simp; done) | (go_simp; rfl)); intro w33 hw; have hg : wr.grownBy w33 (some go30) := (by rw [hw]; exact HP32.2); have hp_ : Kd.R (Kd.int .i64) 3 w33 w.heap.size (fun k_ => some k_ ≠ (.slice (some ad498) t488.length co13 : Value).ownBlock) (.slice (some ⟨go30, 0, none⟩) x5_2.length co31) y503 := (by rw [hw, Ny503.out]; exact HP32.1); clear HP32; have n0_ := aZ (Kd.R_after (v := (.slice (some ⟨go30, 0, none⟩) x5_2.length co31)) (v1 := (.slice (some ⟨go30, 0, none⟩) x5_2.length co31)) (ok := (fun _ => True)) (by (with_reducible repeat (first | apply Kd.rA | apply Kd.rN | apply Kd.rD)); exact Kd.R_mono HO_3.out (fun _ hk => ⟨trivial, hk⟩)) hg (.inl rfl)); have n1_ := aZ (hp_); have n2_ := aZ (blk_grown (g := gb493) (o := .cells #[.int .i64 t491, .int .i64 t492] 26 (0, 0)) (by (with_reducible repeat (first | refine bN ?_ _ | refine bD ?_ | refine bA ?_ _)); exact BK493.out) hg (Kd.R_ne HO_5.out BK493.out (by decide))); have n3_ := aZ ((by rw [hw]; exact lS (HB.out) GB30.out : Below w.heap.size w w33)); clear HO_3; clear HO_5; clear BK493; clear HB; have HO_3 := n0_; have HO_5 := n1_; have BK493 := n2_; have HB := n3_; clear n0_ n1_ n2_ n3_; clear hg hw hp_)))
        go_roundg k2
        case measure => have := HK1.out; have := HK2.out; omega
        case rel => exact ⟨(y503), (wrap64 (x7_2 + 1)), (by first | rfl | (simp; done) | (simp [*]; done)), H', ⟨by have := HK1.out; have := HK2.out; omega⟩, ⟨by (with_reducible repeat (first | apply Kd.rA | apply Kd.rN | apply Kd.rD)); exact Kd.R_mono HO_3.out (fun _ hk => hk.2)⟩, ⟨by (with_reducible repeat (first | apply Kd.rA | apply Kd.rN | apply Kd.rD)); exact HO_5.out⟩, ⟨by (with_reducible repeat (first | refine bN ?_ _ | refine bD ?_ | refine bA ?_ _)); exact BK493.out⟩, ⟨by repeat (first | (with_reducible first | exact HB.out | apply lA | apply lN | apply lD | refine lS ?_ GE493.out) | exact HB.out)⟩⟩
      rw [if_neg c22] at H
      have c22b0 : decide (x7_2 < (t488.length : Int)) = false := decide_eq_false c22
      clear c22
      have H' := aZ H
      clear H
      go_wp2
      repeat (go_quiet (fail); try go_wp2)
      go_loopg [8] k2 (fun kq v8 w' => ∃ (x8_3 : Int), v8 = .int .i64 x8_3 ∧ Aside0 (changeforgelaw3_HistoryOrderTopological.l2 kq l0 x5_2 x8_3 = some r) ∧ Aside0 (kq ≤ k2) ∧ Aside0 (Kd.R (Kd.int .i64) 3 w' w.heap.size (fun _ => True) v495 x5_2) ∧ Aside0 (w'.heap[gb493]? = some (.cells #[.int .i64 t491, .int .i64 t492] 26 (0, 0))) ∧ Aside0 (Below w.heap.size w w'))
      case atStart => exact ⟨(0), (by first | rfl | (simp; done) | (simp [*]; done)), H', ⟨Nat.le_refl _⟩, ⟨by (with_reducible repeat (first | apply Kd.rA | apply Kd.rN | apply Kd.rD)); exact Kd.R_mono HO_5.out (fun _ hk => trivial)⟩, ⟨by (with_reducible repeat (first | refine bN ?_ _ | refine bD ?_ | refine bA ?_ _)); exact BK493.out⟩, ⟨by repeat (first | (with_reducible first | exact HB.out | apply lA | apply lN | apply lD | refine lS ?_ GE493.out) | exact HB.out)⟩⟩
      case round =>
       clear H'
       (try clear c22); (try clear c22b0)
       obtain ⟨x8_3, rfl, HA, HK3, HO_5, BK493, HB⟩ := hrel
       cases gk with
       | zero => exact absurd HA.out (by simp [changeforgelaw3_HistoryOrderTopological.l2])
       | succ k3 =>
        have H := HA.out
        clear HA
        simp only [changeforgelaw3_HistoryOrderTopological.l2] at H
        by_cases c34 : x8_3 < (l0.length : Int)
        rotate_left
        · rw [if_neg c34] at H
          have c34b0 : decide (x8_3 < (l0.length : Int)) = false := decide_eq_false c34
          clear c34
          obtain rfl := Option.some.inj H
          go_wp2
          repeat (go_quiet (fail); try go_wp2)
          go_ret
          exact ⟨by first | rfl | (simp [errW_none, errW_some] <;> rfl) | (simp [*, errW_none, errW_some] <;> rfl), by repeat (first | (with_reducible first | exact HB.out | apply lA | apply lN | apply lD | refine lS ?_ GE493.out) | exact HB.out)⟩
        rw [if_pos c34] at H
        have c34b0 : decide (x8_3 < (l0.length : Int)) = true := decide_eq_true c34
        clear c34
        have H' := aZ H
        clear H
        go_wp2
        repeat (go_quiet (fail); try go_wp2)
        go_loopg [9] k3 (fun kq v9 w' => ∃ (x9_4 : Int), v9 = .int .i64 x9_4 ∧ Aside0 (changeforgelaw3_HistoryOrderTopological.l3 kq l0 x5_2 x8_3 x9_4 = some r) ∧ Aside0 (kq ≤ k3) ∧ Aside0 (Kd.R (Kd.int .i64) 3 w' w.heap.size (fun _ => True) v495 x5_2) ∧ Aside0 (w'.heap[gb493]? = some (.cells #[.int .i64 t491, .int .i64 t492] 26 (0, 0))) ∧ Aside0 (Below w.heap.size w w'))
        case atStart => exact ⟨(0), (by first | rfl | (simp; done) | (simp [*]; done)), H', ⟨Nat.le_refl _⟩, ⟨by (with_reducible repeat (first | apply Kd.rA | apply Kd.rN | apply Kd.rD)); exact HO_5.out⟩, ⟨by (with_reducible repeat (first | refine bN ?_ _ | refine bD ?_ | refine bA ?_ _)); exact BK493.out⟩, ⟨by repeat (first | (with_reducible first | exact HB.out | apply lA | apply lN | apply lD | refine lS ?_ GE493.out) | exact HB.out)⟩⟩
        case round =>
         clear H'
         (try clear c34); (try clear c34b0)
         obtain ⟨x9_4, rfl, HA, HK4, HO_5, BK493, HB⟩ := hrel
         cases gk with
         | zero => exact absurd HA.out (by simp [changeforgelaw3_HistoryOrderTopological.l3])
         | succ k4 =>
          have H := HA.out
          clear HA
          simp only [changeforgelaw3_HistoryOrderTopological.l3] at H
          by_cases c35 : 0 ≤ x8_3
          rotate_left
          · rw [if_neg c35] at H
            exact absurd H (by simp)
          rw [if_pos c35] at H
          have c35b0 : decide (0 ≤ x8_3) = true := decide_eq_true c35
          clear c35
          by_cases c36 : x8_3 < (l0.length : Int)
          rotate_left
          · rw [if_neg c36] at H
            exact absurd H (by simp)
          rw [if_pos c36] at H
          have c36b0 : decide (x8_3 < (l0.length : Int)) = true := decide_eq_true c36
          clear c36
          by_cases c37 : x9_4 < (((rd_T49 l0 x8_3).f0).length : Int)
          rotate_left
          · rw [if_neg c37] at H
            have c37b0 : decide (x9_4 < (((rd_T49 l0 x8_3).f0).length : Int)) = false := decide_eq_false c37
            clear c37
            have H' := aZ H
            clear H
            have p504 : 0 ≤ (x8_3 : Int) := of_decide_eq_true (by first | (with_reducible assumption) | assumption)
            have q504 : x8_3 < (l0.length : Int) := of_decide_eq_true (by first | (with_reducible assumption) | assumption)
            obtain ⟨ad504, A504_0, c504_0, e504, hx504_0, hx504_1, hx504_2, hx504_3, hx504_4, hl504_0, hi504_0⟩ := at_T49 HR0.out x8_3 p504 q504
            cases e504
            replace hx504_0 := (HB.out.cell (World.block_lt_of_cell? w _ hx504_0)).trans hx504_0
            replace hx504_1 := (HB.out.cell (World.block_lt_of_cell? w _ hx504_1)).trans hx504_1
            replace hx504_2 := (HB.out.cell (World.block_lt_of_cell? w _ hx504_2)).trans hx504_2
            replace hx504_3 := (HB.out.cell (World.block_lt_of_cell? w _ hx504_3)).trans hx504_3
            replace hx504_4 := (HB.out.cell (World.block_lt_of_cell? w _ hx504_4)).trans hx504_4
            have HR504_0 := aZ hi504_0
            have HC504_0 := aZ hl504_0
            clear hi504_0 hl504_0
            replace p504 := eq_true p504
            replace q504 := eq_true q504
            go_wp2
            repeat (go_quiet (fail); try go_wp2)
            go_roundg k4
            case measure => have := HK1.out; have := HK2.out; have := HK3.out; have := HK4.out; omega
            case rel => exact ⟨(wrap64 (x8_3 + 1)), (by first | rfl | (simp; done) | (simp [*]; done)), H', ⟨by have := HK1.out; have := HK2.out; have := HK3.out; have := HK4.out; omega⟩, ⟨by (with_reducible repeat (first | apply Kd.rA | apply Kd.rN | apply Kd.rD)); exact HO_5.out⟩, ⟨by (with_reducible repeat (first | refine bN ?_ _ | refine bD ?_ | refine bA ?_ _)); exact BK493.out⟩, ⟨by repeat (first | (with_reducible first | exact HB.out | apply lA | apply lN | apply lD | refine lS ?_ GE493.out) | exact HB.out)⟩⟩
          rw [if_pos c37] at H
          have c37b0 : decide (x9_4 < (((rd_T49 l0 x8_3).f0).length : Int)) = true := decide_eq_true c37
          clear c37
          by_cases c38 : 0 ≤ x9_4
          rotate_left
          · rw [if_neg c38] at H
            exact absurd H (by simp)
          rw [if_pos c38] at H
          have c38b0 : decide (0 ≤ x9_4) = true := decide_eq_true c38
          clear c38
          by_cases c39 : 0 ≤ (rd ((rd_T49 l0 x8_3).f0) x9_4)
          rotate_left
          · rw [if_neg c39] at H
            exact absurd H (by simp)
          rw [if_pos c39] at H
          have c39b0 : decide (0 ≤ (rd ((rd_T49 l0 x8_3).f0) x9_4)) = true := decide_eq_true c39
          clear c39
          by_cases c40 : (rd ((rd_T49 l0 x8_3).f0) x9_4) < (x5_2.length : Int)
          rotate_left
          · rw [if_neg c40] at H
            exact absurd H (by simp)
          rw [if_pos c40] at H
          have c40b0 : decide ((rd ((rd_T49 l0 x8_3).f0) x9_4) < (x5_2.length : Int)) = true := decide_eq_true c40
          clear c40
          by_cases c41 : x8_3 < (x5_2.length : Int)
          rotate_left
          · rw [if_neg c41] at H
            exact absurd H (by simp)
          rw [if_pos c41] at H
          have c41b0 : decide (x8_3 < (x5_2.length : Int)) = true := decide_eq_true c41
          clear c41
          by_cases c42 : (rd x5_2 (rd ((rd_T49 l0 x8_3).f0) x9_4)) ≤ (rd x5_2 x8_3)
          · rw [if_pos c42] at H
            have c42b0 : decide ((rd x5_2 (rd ((rd_T49 l0 x8_3).f0) x9_4)) ≤ (rd x5_2 x8_3)) = true := decide_eq_true c42
            clear c42
            obtain rfl := Option.some.inj H
            have p504 : 0 ≤ (x8_3 : Int) := of_decide_eq_true (by first | (with_reducible assumption) | assumption)
            have q504 : x8_3 < (l0.length : Int) := of_decide_eq_true (by first | (with_reducible assumption) | assumption)
            obtain ⟨ad504, A504_0, c504_0, e504, hx504_0, hx504_1, hx504_2, hx504_3, hx504_4, hl504_0, hi504_0⟩ := at_T49 HR0.out x8_3 p504 q504
            cases e504
            replace hx504_0 := (HB.out.cell (World.block_lt_of_cell? w _ hx504_0)).trans hx504_0
            replace hx504_1 := (HB.out.cell (World.block_lt_of_cell? w _ hx504_1)).trans hx504_1
            replace hx504_2 := (HB.out.cell (World.block_lt_of_cell? w _ hx504_2)).trans hx504_2
            replace hx504_3 := (HB.out.cell (World.block_lt_of_cell? w _ hx504_3)).trans hx504_3
            replace hx504_4 := (HB.out.cell (World.block_lt_of_cell? w _ hx504_4)).trans hx504_4
            have HR504_0 := aZ hi504_0
            have HC504_0 := aZ hl504_0
            clear hi504_0 hl504_0
            replace p504 := eq_true p504
            replace q504 := eq_true q504
            have p505 : 0 ≤ (x8_3 : Int) := of_decide_eq_true (by first | (with_reducible assumption) | assumption)
            have q505 : x8_3 < (l0.length : Int) := of_decide_eq_true (by first | (with_reducible assumption) | assumption)
            obtain ⟨ad505, A505_0, c505_0, e505, hx505_0, hx505_1, hx505_2, hx505_3, hx505_4, hl505_0, hi505_0⟩ := at_T49 HR0.out x8_3 p505 q505
            obtain rfl : ad504 = ad505 := (by injection e505)
            replace hx505_0 := (HB.out.cell (World.block_lt_of_cell? w _ hx505_0)).trans hx505_0
            replace hx505_1 := (HB.out.cell (World.block_lt_of_cell? w _ hx505_1)).trans hx505_1
            replace hx505_2 := (HB.out.cell (World.block_lt_of_cell? w _ hx505_2)).trans hx505_2
            replace hx505_3 := (HB.out.cell (World.block_lt_of_cell? w _ hx505_3)).trans hx505_3
            replace hx505_4 := (HB.out.cell (World.block_lt_of_cell? w _ hx505_4)).trans hx505_4
            have HR505_0 := aZ hi505_0
            have HC505_0 := aZ hl505_0
            clear hi505_0 hl505_0
            replace p505 := eq_true p505
            replace q505 := eq_true q505
            have ea_ := Option.some.inj (hx504_0.symm.trans hx505_0)
            injection ea_ with ea_ en_ ec_
            subst ea_
            subst ec_
            clear en_
            have p506 : 0 ≤ (x9_4 : Int) := of_decide_eq_true (by first | (with_reducible assumption) | assumption)
            have q506 : x9_4 < (((rd_T49 l0 x8_3).f0).length : Int) := of_decide_eq_true (by first | (with_reducible assumption) | assumption)
            obtain ⟨ad506, e506, hx506_0⟩ := Kd.at_int HR505_0.out x9_4 p506 q506
            cases e506
            replace hx506_0 := (HB.out.cell (World.block_lt_of_cell? w _ hx506_0)).trans hx506_0
            replace p506 := eq_true p506
            replace q506 := eq_true q506
            obtain ⟨Ao43, co43, eo43⟩ := Kd.R_slice HO_5.out
            subst eo43
            have p507 : 0 ≤ ((rd ((rd_T49 l0 x8_3).f0) x9_4) : Int) := of_decide_eq_true (by first | (with_reducible assumption) | assumption)
            have q507 : (rd ((rd_T49 l0 x8_3).f0) x9_4) < (x5_2.length : Int) := of_decide_eq_true (by first | (with_reducible assumption) | assumption)
            obtain ⟨ad507, e507, hx507_0⟩ := Kd.at_int (Kd.R_reads' HO_5.out).2.2 (rd ((rd_T49 l0 x8_3).f0) x9_4) p507 q507
            cases e507
            replace p507 := eq_true p507
            replace q507 := eq_true q507
            have p508 : 0 ≤ (x8_3 : Int) := of_decide_eq_true (by first | (with_reducible assumption) | assumption)
            have q508 : x8_3 < (x5_2.length : Int) := of_decide_eq_true (by first | (with_reducible assumption) | assumption)
            obtain ⟨ad508, e508, hx508_0⟩ := Kd.at_int (Kd.R_reads' HO_5.out).2.2 x8_3 p508 q508
            obtain rfl : ad507 = ad508 := (by injection e508)
            replace p508 := eq_true p508
            replace q508 := eq_true q508
            go_wp2
            repeat (go_quiet (fail); try go_wp2)
            go_ret
            exact ⟨by first | rfl | (simp [errW_none, errW_some] <;> rfl) | (simp [*, errW_none, errW_some] <;> rfl), by repeat (first | (with_reducible first | exact HB.out | apply lA | apply lN | apply lD | refine lS ?_ GE493.out) | exact HB.out)⟩
          rw [if_neg c42] at H
          have c42b0 : decide ((rd x5_2 (rd ((rd_T49 l0 x8_3).f0) x9_4)) ≤ (rd x5_2 x8_3)) = false := decide_eq_false c42
          clear c42
          have H' := aZ H
          clear H
          have p504 : 0 ≤ (x8_3 : Int) := of_decide_eq_true (by first | (with_reducible assumption) | assumption)
          have q504 : x8_3 < (l0.length : Int) := of_decide_eq_true (by first | (with_reducible assumption) | assumption)
          obtain ⟨ad504, A504_0, c504_0, e504, hx504_0, hx504_1, hx504_2, hx504_3, hx504_4, hl504_0, hi504_0⟩ := at_T49 HR0.out x8_3 p504 q504
          cases e504
          replace hx504_0 := (HB.out.cell (World.block_lt_of_cell? w _ hx504_0)).trans hx504_0
          replace hx504_1 := (HB.out.cell (World.block_lt_of_cell? w _ hx504_1)).trans hx504_1
          replace hx504_2 := (HB.out.cell (World.block_lt_of_cell? w _ hx504_2)).trans hx504_2
          replace hx504_3 := (HB.out.cell (World.block_lt_of_cell? w _ hx504_3)).trans hx504_3
          replace hx504_4 := (HB.out.cell (World.block_lt_of_cell? w _ hx504_4)).trans hx504_4
          have HR504_0 := aZ hi504_0
          have HC504_0 := aZ hl504_0
          clear hi504_0 hl504_0
          replace p504 := eq_true p504
          replace q504 := eq_true q504
          have p505 : 0 ≤ (x8_3 : Int) := of_decide_eq_true (by first | (with_reducible assumption) | assumption)
          have q505 : x8_3 < (l0.length : Int) := of_decide_eq_true (by first | (with_reducible assumption) | assumption)
          obtain ⟨ad505, A505_0, c505_0, e505, hx505_0, hx505_1, hx505_2, hx505_3, hx505_4, hl505_0, hi505_0⟩ := at_T49 HR0.out x8_3 p505 q505
          obtain rfl : ad504 = ad505 := (by injection e505)
          replace hx505_0 := (HB.out.cell (World.block_lt_of_cell? w _ hx505_0)).trans hx505_0
          replace hx505_1 := (HB.out.cell (World.block_lt_of_cell? w _ hx505_1)).trans hx505_1
          replace hx505_2 := (HB.out.cell (World.block_lt_of_cell? w _ hx505_2)).trans hx505_2
          replace hx505_3 := (HB.out.cell (World.block_lt_of_cell? w _ hx505_3)).trans hx505_3
          replace hx505_4 := (HB.out.cell (World.block_lt_of_cell? w _ hx505_4)).trans hx505_4
          have HR505_0 := aZ hi505_0
          have HC505_0 := aZ hl505_0
          clear hi505_0 hl505_0
          replace p505 := eq_true p505
          replace q505 := eq_true q505
          have ea_ := Option.some.inj (hx504_0.symm.trans hx505_0)
          injection ea_ with ea_ en_ ec_
          subst ea_
          subst ec_
          clear en_
          have p506 : 0 ≤ (x9_4 : Int) := of_decide_eq_true (by first | (with_reducible assumption) | assumption)
          have q506 : x9_4 < (((rd_T49 l0 x8_3).f0).length : Int) := of_decide_eq_true (by first | (with_reducible assumption) | assumption)
          obtain ⟨ad506, e506, hx506_0⟩ := Kd.at_int HR505_0.out x9_4 p506 q506
          cases e506
          replace hx506_0 := (HB.out.cell (World.block_lt_of_cell? w _ hx506_0)).trans hx506_0
          replace p506 := eq_true p506
          replace q506 := eq_true q506
          obtain ⟨Ao44, co44, eo44⟩ := Kd.R_slice HO_5.out
          subst eo44
          have p507 : 0 ≤ ((rd ((rd_T49 l0 x8_3).f0) x9_4) : Int) := of_decide_eq_true (by first | (with_reducible assumption) | assumption)
          have q507 : (rd ((rd_T49 l0 x8_3).f0) x9_4) < (x5_2.length : Int) := of_decide_eq_true (by first | (with_reducible assumption) | assumption)
          obtain ⟨ad507, e507, hx507_0⟩ := Kd.at_int (Kd.R_reads' HO_5.out).2.2 (rd ((rd_T49 l0 x8_3).f0) x9_4) p507 q507
          cases e507
          replace p507 := eq_true p507
          replace q507 := eq_true q507
          have p508 : 0 ≤ (x8_3 : Int) := of_decide_eq_true (by first | (with_reducible assumption) | assumption)
          have q508 : x8_3 < (x5_2.length : Int) := of_decide_eq_true (by first | (with_reducible assumption) | assumption)
          obtain ⟨ad508, e508, hx508_0⟩ := Kd.at_int (Kd.R_reads' HO_5.out).2.2 x8_3 p508 q508
          obtain rfl : ad507 = ad508 := (by injection e508)
          replace p508 := eq_true p508
          replace q508 := eq_true q508
          go_wp2
          repeat (go_quiet (fail); try go_wp2)
          go_roundg k4
          case measure => have := HK1.out; have := HK2.out; have := HK3.out; have := HK4.out; omega
          case rel => exact ⟨(wrap64 (x9_4 + 1)), (by first | rfl | (simp; done) | (simp [*]; done)), H', ⟨by have := HK1.out; have := HK2.out; have := HK3.out; have := HK4.out; omega⟩, ⟨by (with_reducible repeat (first | apply Kd.rA | apply Kd.rN | apply Kd.rD)); exact HO_5.out⟩, ⟨by (with_reducible repeat (first | refine bN ?_ _ | refine bD ?_ | refine bA ?_ _)); exact BK493.out⟩, ⟨by repeat (first | (with_reducible first | exact HB.out | apply lA | apply lN | apply lD | refine lS ?_ GE493.out) | exact HB.out)⟩⟩
/-- THE PURE STATEMENT of changeforgelaw3_HistoryOrderTopological. -/
def changeforgelaw3_HistoryOrderTopological.Pure : Prop := ∀ (l0 : List (S49)), (l0.length * 64 ≤ 140737488351232 ∧ ∀ x_ ∈ l0, S49.ok x_) → ∃ k, changeforgelaw3_HistoryOrderTopological.f k l0 = some true

end Go.Proofs.Ytojhnjgnpjoacaa.P
