/- What the Go functions of this seat compute, and that they do: printed by a program over the kit's print. -/
import Derived.Test.YtojhnjgnpjoacaaP0
import Derived.Test.YtojhnjgnpjoacaaP3
import Derived.Test.YtojhnjgnpjoacaaP6
import Derived.Test.YtojhnjgnpjoacaaP15
import Derived.Test.YtojhnjgnpjoacaaP19
namespace Go.Proofs.Ytojhnjgnpjoacaa.P
open Go.RowKit Go.Proofs.YtojhnjgnpjoacaaW.PrintWords Go.Proofs.YtojhnjgnpjoacaaW.PrintLast Go.Proofs.YtojhnjgnpjoacaaW.PrintMore
attribute [local go_sem] max2_int min2_int max_two min_two max_three min_three max_four min_four   -- for this text's walks alone
set_option linter.unusedVariables false
set_option linter.unusedSimpArgs false

/-! ### changeforgelaw3_HistoryHeadsReachAll: function 10 -/
mutual
def changeforgelaw3_HistoryHeadsReachAll.l0 : Nat → List (S49) → List Int → List Bool → Int → Option (Bool)
  | 0, _, _, _, _ => none
  | k + 1, x0, x3, x5, x6 => if x6 < (x3.length : Int) then (if 0 ≤ x6 then ((history_Ancestors.f k x0 (rd x3 x6)).bind fun bt535 => (if bt535.2.1 = 0 then (changeforgelaw3_HistoryHeadsReachAll.j1 k x0 x3 x5 x6 bt535.1 ((bt535.1.length : Int) != (x0.length : Int))) else (changeforgelaw3_HistoryHeadsReachAll.j1 k x0 x3 x5 x6 bt535.1 true))) else (none)) else (changeforgelaw3_HistoryHeadsReachAll.l3 k x0 x5 0)
def changeforgelaw3_HistoryHeadsReachAll.j1 : Nat → List (S49) → List Int → List Bool → Int → List Bool → Bool → Option (Bool)
  | 0, _, _, _, _, _, _ => none
  | k + 1, x0, x3, x5, x6, x7, x52 => if x52 = true then (some false) else (changeforgelaw3_HistoryHeadsReachAll.l1 k x0 x3 x5 x6 x7 0)
def changeforgelaw3_HistoryHeadsReachAll.l1 : Nat → List (S49) → List Int → List Bool → Int → List Bool → Int → Option (Bool)
  | 0, _, _, _, _, _, _ => none
  | k + 1, x0, x3, x5, x6, x7, x9 => if x9 < (x3.length : Int) then (if 0 ≤ x9 then ((changeforgeref3_In.f (rd x3 x9) 0 (wrap64 ((x0.length : Int) - 1))).bind fun t542 => (if t542 = true then (if x9 = x6 then (changeforgelaw3_HistoryHeadsReachAll.l1 k x0 x3 x5 x6 x7 (wrap64 (x9 + 1))) else (if 0 ≤ (rd x3 x9) then (if (rd x3 x9) < (x7.length : Int) then (if rdOf false x7 (rd x3 x9) = true then (some false) else (changeforgelaw3_HistoryHeadsReachAll.l1 k x0 x3 x5 x6 x7 (wrap64 (x9 + 1)))) else (none)) else (none))) else (some false))) else (none)) else (changeforgelaw3_HistoryHeadsReachAll.l2 k x0 x3 x5 x6 x7 0)
def changeforgelaw3_HistoryHeadsReachAll.l2 : Nat → List (S49) → List Int → List Bool → Int → List Bool → Int → Option (Bool)
  | 0, _, _, _, _, _, _ => none
  | k + 1, x0, x3, x5, x6, x7, x10 => if x10 < (x0.length : Int) then (if 0 ≤ x10 then (if x10 < (x5.length : Int) then (if rdOf false x5 x10 = true then (changeforgelaw3_HistoryHeadsReachAll.l2 k x0 x3 (x5.set (x10 : Int).toNat true) x6 x7 (wrap64 (x10 + 1))) else (if x10 < (x7.length : Int) then (changeforgelaw3_HistoryHeadsReachAll.l2 k x0 x3 (x5.set (x10 : Int).toNat (rdOf false x7 x10)) x6 x7 (wrap64 (x10 + 1))) else (none))) else (none)) else (none)) else (changeforgelaw3_HistoryHeadsReachAll.l0 k x0 x3 x5 (wrap64 (x6 + 1)))
def changeforgelaw3_HistoryHeadsReachAll.l3 : Nat → List (S49) → List Bool → Int → Option (Bool)
  | 0, _, _, _ => none
  | k + 1, x0, x5, x11 => if x11 < (x0.length : Int) then (if 0 ≤ x11 then (if x11 < (x5.length : Int) then (if rdOf false x5 x11 = true then (changeforgelaw3_HistoryHeadsReachAll.l3 k x0 x5 (wrap64 (x11 + 1))) else (some false)) else (none)) else (none)) else (some true)
end
def changeforgelaw3_HistoryHeadsReachAll.f (k : Nat) (l0 : List (S49)) : Option (Bool) := (changeforgelaw3_historyExample.f k).bind fun t524 => (if t524 = true then ((history_Heads.f k l0).bind fun bt525 => (if bt525.2.1 = 0 then (if 0 ≤ (l0.length : Int) then (if ((l0.length : Int) : Int).toNat ≤ 281474976710656 then (changeforgelaw3_HistoryHeadsReachAll.l0 k l0 bt525.1 (List.replicate ((l0.length : Int) : Int).toNat false) 0) else (none)) else (none)) else (some ((bt525.1.length : Int) == 0)))) else (some false))
theorem changeforgelaw3_HistoryHeadsReachAll.mono_l : ∀ k, (∀ y0 y1 y2 y3, LeO (changeforgelaw3_HistoryHeadsReachAll.l0 k y0 y1 y2 y3) (changeforgelaw3_HistoryHeadsReachAll.l0 (k + 1) y0 y1 y2 y3)) ∧ (∀ y0 y1 y2 y3 y4 y5, LeO (changeforgelaw3_HistoryHeadsReachAll.j1 k y0 y1 y2 y3 y4 y5) (changeforgelaw3_HistoryHeadsReachAll.j1 (k + 1) y0 y1 y2 y3 y4 y5)) ∧ (∀ y0 y1 y2 y3 y4 y5, LeO (changeforgelaw3_HistoryHeadsReachAll.l1 k y0 y1 y2 y3 y4 y5) (changeforgelaw3_HistoryHeadsReachAll.l1 (k + 1) y0 y1 y2 y3 y4 y5)) ∧ (∀ y0 y1 y2 y3 y4 y5, LeO (changeforgelaw3_HistoryHeadsReachAll.l2 k y0 y1 y2 y3 y4 y5) (changeforgelaw3_HistoryHeadsReachAll.l2 (k + 1) y0 y1 y2 y3 y4 y5)) ∧ (∀ y0 y1 y2, LeO (changeforgelaw3_HistoryHeadsReachAll.l3 k y0 y1 y2) (changeforgelaw3_HistoryHeadsReachAll.l3 (k + 1) y0 y1 y2))
  | 0 => ⟨fun _ _ _ _ r h => by simp [changeforgelaw3_HistoryHeadsReachAll.l0] at h, fun _ _ _ _ _ _ r h => by simp [changeforgelaw3_HistoryHeadsReachAll.j1] at h, fun _ _ _ _ _ _ r h => by simp [changeforgelaw3_HistoryHeadsReachAll.l1] at h, fun _ _ _ _ _ _ r h => by simp [changeforgelaw3_HistoryHeadsReachAll.l2] at h, fun _ _ _ r h => by simp [changeforgelaw3_HistoryHeadsReachAll.l3] at h⟩
  | k + 1 => by
    obtain ⟨ih0, ih1, ih2, ih3, ih4⟩ := changeforgelaw3_HistoryHeadsReachAll.mono_l k
    refine ⟨?_, ?_, ?_, ?_, ?_⟩
    · intro y0 y1 y2 y3
      unfold changeforgelaw3_HistoryHeadsReachAll.l0
      repeat' first
      | (with_reducible exact ih0 _ _ _ _)
      | (with_reducible exact ih1 _ _ _ _ _ _)
      | (with_reducible exact ih2 _ _ _ _ _ _)
      | (with_reducible exact ih3 _ _ _ _ _ _)
      | (with_reducible exact ih4 _ _ _)
      | (with_reducible exact changeforgelaw3_historyExample.mono _)
      | (with_reducible exact history_Ancestors.mono _ _ _)
      | (with_reducible exact history_Heads.mono _ _)
      | (with_reducible exact LeO.refl _)
      | (with_reducible exact LeO.none _)
      | (with_reducible refine LeO.ite ?_ ?_)
      | (with_reducible refine LeO.bind ?_ (fun _ => ?_))
      | exact ih0 _ _ _ _
      | exact ih1 _ _ _ _ _ _
      | exact ih2 _ _ _ _ _ _
      | exact ih3 _ _ _ _ _ _
      | exact ih4 _ _ _
      | exact changeforgelaw3_historyExample.mono _
      | exact history_Ancestors.mono _ _ _
      | exact history_Heads.mono _ _
      | exact LeO.none _
      | refine LeO.ite ?_ ?_
      | refine LeO.bind ?_ (fun _ => ?_)
    · intro y0 y1 y2 y3 y4 y5
      unfold changeforgelaw3_HistoryHeadsReachAll.j1
      repeat' first
      | (with_reducible exact ih0 _ _ _ _)
      | (with_reducible exact ih1 _ _ _ _ _ _)
      | (with_reducible exact ih2 _ _ _ _ _ _)
      | (with_reducible exact ih3 _ _ _ _ _ _)
      | (with_reducible exact ih4 _ _ _)
      | (with_reducible exact changeforgelaw3_historyExample.mono _)
      | (with_reducible exact history_Ancestors.mono _ _ _)
      | (with_reducible exact history_Heads.mono _ _)
      | (with_reducible exact LeO.refl _)
      | (with_reducible exact LeO.none _)
      | (with_reducible refine LeO.ite ?_ ?_)
      | (with_reducible refine LeO.bind ?_ (fun _ => ?_))
      | exact ih0 _ _ _ _
      | exact ih1 _ _ _ _ _ _
      | exact ih2 _ _ _ _ _ _
      | exact ih3 _ _ _ _ _ _
      | exact ih4 _ _ _
      | exact changeforgelaw3_historyExample.mono _
      | exact history_Ancestors.mono _ _ _
      | exact history_Heads.mono _ _
      | exact LeO.none _
      | refine LeO.ite ?_ ?_
      | refine LeO.bind ?_ (fun _ => ?_)
    · intro y0 y1 y2 y3 y4 y5
      unfold changeforgelaw3_HistoryHeadsReachAll.l1
      repeat' first
      | (with_reducible exact ih0 _ _ _ _)
      | (with_reducible exact ih1 _ _ _ _ _ _)
      | (with_reducible exact ih2 _ _ _ _ _ _)
      | (with_reducible exact ih3 _ _ _ _ _ _)
      | (with_reducible exact ih4 _ _ _)
      | (with_reducible exact changeforgelaw3_historyExample.mono _)
      | (with_reducible exact history_Ancestors.mono _ _ _)
      | (with_reducible exact history_Heads.mono _ _)
      | (with_reducible exact LeO.refl _)
      | (with_reducible exact LeO.none _)
      | (with_reducible refine LeO.ite ?_ ?_)
      | (with_reducible refine LeO.bind ?_ (fun _ => ?_))
      | exact ih0 _ _ _ _
      | exact ih1 _ _ _ _ _ _
      | exact ih2 _ _ _ _ _ _
      | exact ih3 _ _ _ _ _ _
      | exact ih4 _ _ _
      | exact changeforgelaw3_historyExample.mono _
      | exact history_Ancestors.mono _ _ _
      | exact history_Heads.mono _ _
      | exact LeO.none _
      | refine LeO.ite ?_ ?_
      | refine LeO.bind ?_ (fun _ => ?_)
    · intro y0 y1 y2 y3 y4 y5
      unfold changeforgelaw3_HistoryHeadsReachAll.l2
      repeat' first
      | (with_reducible exact ih0 _ _ _ _)
      | (with_reducible exact ih1 _ _ _ _ _ _)
      | (with_reducible exact ih2 _ _ _ _ _ _)
      | (with_reducible exact ih3 _ _ _ _ _ _)
      | (with_reducible exact ih4 _ _ _)
      | (with_reducible exact changeforgelaw3_historyExample.mono _)
      | (with_reducible exact history_Ancestors.mono _ _ _)
      | (with_reducible exact history_Heads.mono _ _)
      | (with_reducible exact LeO.refl _)
      | (with_reducible exact LeO.none _)
      | (with_reducible refine LeO.ite ?_ ?_)
      | (with_reducible refine LeO.bind ?_ (fun _ => ?_))
      | exact ih0 _ _ _ _
      | exact ih1 _ _ _ _ _ _
      | exact ih2 _ _ _ _ _ _
      | exact ih3 _ _ _ _ _ _
      | exact ih4 _ _ _
      | exact changeforgelaw3_historyExample.mono _
      | exact history_Ancestors.mono _ _ _
      | exact history_Heads.mono _ _
      | exact LeO.none _
      | refine LeO.ite ?_ ?_
      | refine LeO.bind ?_ (fun _ => ?_)
    · intro y0 y1 y2
      unfold changeforgelaw3_HistoryHeadsReachAll.l3
      repeat' first
      | (with_reducible exact ih0 _ _ _ _)
      | (with_reducible exact ih1 _ _ _ _ _ _)
      | (with_reducible exact ih2 _ _ _ _ _ _)
      | (with_reducible exact ih3 _ _ _ _ _ _)
      | (with_reducible exact ih4 _ _ _)
      | (with_reducible exact changeforgelaw3_historyExample.mono _)
      | (with_reducible exact history_Ancestors.mono _ _ _)
      | (with_reducible exact history_Heads.mono _ _)
      | (with_reducible exact LeO.refl _)
      | (with_reducible exact LeO.none _)
      | (with_reducible refine LeO.ite ?_ ?_)
      | (with_reducible refine LeO.bind ?_ (fun _ => ?_))
      | exact ih0 _ _ _ _
      | exact ih1 _ _ _ _ _ _
      | exact ih2 _ _ _ _ _ _
      | exact ih3 _ _ _ _ _ _
      | exact ih4 _ _ _
      | exact changeforgelaw3_historyExample.mono _
      | exact history_Ancestors.mono _ _ _
      | exact history_Heads.mono _ _
      | exact LeO.none _
      | refine LeO.ite ?_ ?_
      | refine LeO.bind ?_ (fun _ => ?_)
theorem changeforgelaw3_HistoryHeadsReachAll.mono : ∀ a0 k, LeO (changeforgelaw3_HistoryHeadsReachAll.f k a0) (changeforgelaw3_HistoryHeadsReachAll.f (k + 1) a0) := by
  intro a0 k
  obtain ⟨ih0, ih1, ih2, ih3, ih4⟩ := changeforgelaw3_HistoryHeadsReachAll.mono_l k
  unfold changeforgelaw3_HistoryHeadsReachAll.f
  repeat' first
      | (with_reducible exact ih0 _ _ _ _)
      | (with_reducible exact ih1 _ _ _ _ _ _)
      | (with_reducible exact ih2 _ _ _ _ _ _)
      | (with_reducible exact ih3 _ _ _ _ _ _)
      | (with_reducible exact ih4 _ _ _)
      | (with_reducible exact changeforgelaw3_historyExample.mono _)
      | (with_reducible exact history_Ancestors.mono _ _ _)
      | (with_reducible exact history_Heads.mono _ _)
      | (with_reducible exact LeO.refl _)
      | (with_reducible exact LeO.none _)
      | (with_reducible refine LeO.ite ?_ ?_)
      | (with_reducible refine LeO.bind ?_ (fun _ => ?_))
      | exact ih0 _ _ _ _
      | exact ih1 _ _ _ _ _ _
      | exact ih2 _ _ _ _ _ _
      | exact ih3 _ _ _ _ _ _
      | exact ih4 _ _ _
      | exact changeforgelaw3_historyExample.mono _
      | exact history_Ancestors.mono _ _ _
      | exact history_Heads.mono _ _
      | exact LeO.none _
      | refine LeO.ite ?_ ?_
      | refine LeO.bind ?_ (fun _ => ?_)
set_option maxHeartbeats 8000000 in
set_option maxRecDepth 100000 in
theorem changeforgelaw3_HistoryHeadsReachAll.calls (k : Nat) (A0 : Option Addr) (c0 : Nat) (l0 : List (S49)) (r : Bool) (w : World) (hr0 : Kd.C k49 w A0 l0.length l0) (hc0 : l0.length ≤ c0) (h : changeforgelaw3_HistoryHeadsReachAll.f k l0 = some r) :
  Calls Try.prog 10 #[.slice A0 l0.length c0] w fun e w' => e = .returned (.bool r) ∧ Below w.heap.size w w' := by
  have hu26 := Try.underlying26
  have HR0 := aZ hr0
  have HC0 := aZ hc0
  clear hr0 hc0
  have HB := aZ (Below.refl w.heap.size w)
  have H : ((changeforgelaw3_historyExample.f k).bind fun t524 => (if t524 = true then ((history_Heads.f k l0).bind fun bt525 => (if bt525.2.1 = 0 then (if 0 ≤ (l0.length : Int) then (if ((l0.length : Int) : Int).toNat ≤ 281474976710656 then (changeforgelaw3_HistoryHeadsReachAll.l0 k l0 bt525.1 (List.replicate ((l0.length : Int) : Int).toNat false) 0) else (none)) else (none)) else (some ((bt525.1.length : Int) == 0)))) else (some false))) = some r := h
  clear h
  replace H := Option.bind_eq_some_iff.mp H
  obtain ⟨t524, A20, H⟩ := H
  replace H : (if t524 = true then ((history_Heads.f k l0).bind fun bt525 => (if bt525.2.1 = 0 then (if 0 ≤ (l0.length : Int) then (if ((l0.length : Int) : Int).toNat ≤ 281474976710656 then (changeforgelaw3_HistoryHeadsReachAll.l0 k l0 bt525.1 (List.replicate ((l0.length : Int) : Int).toNat false) 0) else (none)) else (none)) else (some ((bt525.1.length : Int) == 0)))) else (some false)) = some r := H
  have A2 := aZ A20
  clear A20
  by_cases c3 : t524 = true
  rotate_left
  · replace c3 := Bool.eq_false_iff.mpr c3
    subst c3
    have H1 : (some false) = some r := by rw [if_neg (show ¬ (false = true) by decide)] at H; exact H
    clear H
    have H := H1
    clear H1
    obtain rfl := Option.some.inj H
    go_enter Try.func10, Try.ntmps10
    go_wp2_with (first | ((with_reducible refine gate_callee (f := 23) rfl ?_); refine goesL_ (some 12) rfl rfl Try.func23 (by kernel_rfl) rfl #[] rfl (by (try simp only [List.map_toArray, List.map_cons, List.map_nil]); first | done | rfl | (simp only [List.length_drop, List.length_take]; rfl)) ?_; (with_reducible refine (changeforgelaw3_historyExample.calls k  false _ A2.out).mono ?_); rintro e w69 ⟨rfl, hb⟩; refine ⟨_, rfl, ?_⟩; have n0_ := aZ (lT (by repeat (first | (with_reducible first | exact HB.out | apply lA | apply lN | apply lD) | exact HB.out)) hb); clear HB; have HB := n0_; clear n0_; (try clear hb); (try clear hb2); (try clear hk); (try clear hi)))
    go_ret
    exact ⟨by first | rfl | (simp [errW_none, errW_some] <;> rfl) | (simp [*, errW_none, errW_some] <;> rfl), by repeat (first | (with_reducible first | exact HB.out | apply lA | apply lN | apply lD) | exact HB.out)⟩

  subst c3
  have H1 : ((history_Heads.f k l0).bind fun bt525 => (if bt525.2.1 = 0 then (if 0 ≤ (l0.length : Int) then (if ((l0.length : Int) : Int).toNat ≤ 281474976710656 then (changeforgelaw3_HistoryHeadsReachAll.l0 k l0 bt525.1 (List.replicate ((l0.length : Int) : Int).toNat false) 0) else (none)) else (none)) else (some ((bt525.1.length : Int) == 0)))) = some r := by rw [if_pos rfl] at H; exact H
  clear H
  have H := H1
  clear H1
  replace H := Option.bind_eq_some_iff.mp H
  obtain ⟨⟨t525, t528, t529⟩, A40, H⟩ := H
  replace H : (if t528 = 0 then (if 0 ≤ (l0.length : Int) then (if ((l0.length : Int) : Int).toNat ≤ 281474976710656 then (changeforgelaw3_HistoryHeadsReachAll.l0 k l0 t525 (List.replicate ((l0.length : Int) : Int).toNat false) 0) else (none)) else (none)) else (some ((t525.length : Int) == 0))) = some r := H
  have A4 := aZ A40
  clear A40
  by_cases c5 : t528 = 0
  rotate_left
  · rw [if_neg c5] at H
    have c5b0 : (t528 == 0) = false := beq_eq_false_iff_ne.mpr c5
    have c5b1 : (t528 != 0) = true := bne_iff_ne.mpr c5
    obtain rfl := Option.some.inj H
    go_enter Try.func10, Try.ntmps10
    go_wp2_with (first | ((with_reducible refine gate_callee (f := 23) rfl ?_); refine goesL_ (some 12) rfl rfl Try.func23 (by kernel_rfl) rfl #[] rfl (by (try simp only [List.map_toArray, List.map_cons, List.map_nil]); first | done | rfl | (simp only [List.length_drop, List.length_take]; rfl)) ?_; (with_reducible refine (changeforgelaw3_historyExample.calls k  true _ A2.out).mono ?_); rintro e w64 ⟨rfl, hb⟩; refine ⟨_, rfl, ?_⟩; have n0_ := aZ (lT (by repeat (first | (with_reducible first | exact HB.out | apply lA | apply lN | apply lD) | exact HB.out)) hb); clear HB; have HB := n0_; clear n0_; (try clear hb); (try clear hb2); (try clear hk); (try clear hi)) | ((with_reducible refine gate_callee (f := 28) rfl ?_); refine goesL_ (some 16) rfl rfl Try.func28 (by kernel_rfl) rfl #[.slice A0 l0.length c0] rfl (by (try simp only [List.map_toArray, List.map_cons, List.map_nil]); first | done | rfl | (simp only [List.length_drop, List.length_take]; rfl)) ?_; (with_reducible refine (history_Heads.calls k _ _ l0 t525 t528 t529 _ ?side1 ?side2 A4.out).mono ?_); (case side1 => repeat (first | exact (Kd.C_below HR0.out HB.out) | (with_reducible refine Kd.C_alloc ?_ _) | (with_reducible refine Kd.C_drewN ?_ _) | (with_reducible refine Kd.C_drew ?_))); (case side2 => exact HC0.out); rintro e w65 ⟨v526, rfl, ho0, hb⟩; refine ⟨_, rfl, ?_⟩; have n0_ := aZ (Kd.R_lower ho0 (lZ (by repeat (first | (with_reducible first | exact HB.out | apply lA | apply lN | apply lD) | exact HB.out)))); have n1_ := aZ (lT (by repeat (first | (with_reducible first | exact HB.out | apply lA | apply lN | apply lD) | exact HB.out)) hb); clear HB; have HO527 := n0_; have HB := n1_; clear n0_ n1_; (try clear hb); (try clear hb2); (try clear hk); (try clear hi); (try clear ho0)) | ((with_reducible refine gate_dst (N := 4) rfl ?_); (try (refine gate_guard (by rfl) ?_; dsimp only)); refine box_event ?hg (N := 4) ?hd (cs := #[.int .i64 0, .int .i64 0]) (t := 26) ?hr ?_; (case hd => rfl); (case hg => rfl); (case hr => first | (go_simp; done) | (go_simp; rfl)); intro gb530 hg w66 hbox hb; have n0_ := aZ (Kd.R_below (by (with_reducible repeat (first | apply Kd.rA | apply Kd.rN | apply Kd.rD)); exact HO527.out) hb); have n1_ := aZ (lT (by repeat (first | (with_reducible first | exact HB.out | apply lA | apply lN | apply lD) | exact HB.out)) hb); have n2_ := aZ (hbox); have n3_ := aZ ((by rw [hg]; exact (lZ (by repeat (first | (with_reducible first | exact HB.out | apply lA | apply lN | apply lD) | exact HB.out))) : w.heap.size ≤ gb530)); have n4_ := aZ ((by rw [hg]; exact (lZ (by repeat (first | (with_reducible first | exact HB.out | apply lA | apply lN | apply lD) | exact HB.out))) : w.heap.size ≤ gb530)); clear HO527; clear HB; have HO527 := n0_; have HB := n1_; have BK530 := n2_; have GW530 := n3_; have GE530 := n4_; clear n0_ n1_ n2_ n3_ n4_; clear hb hbox hg; have hcz67_0 : w66.cell? ⟨gb530, 0, none⟩ = some (.int .i64 0) := (blk_cell BK530.out 0).trans rfl; have hcz67_1 : w66.cell? ⟨gb530, 1, none⟩ = some (.int .i64 0) := (blk_cell BK530.out 1).trans rfl; have hfz67_0 := blk_frozen BK530.out 0; have hfz67_1 := blk_frozen BK530.out 1; obtain ⟨Ao68, co68, eo68⟩ := Kd.R_slice HO527.out; subst eo68))
    go_ret
    exact ⟨by first | rfl | (simp [errW_none, errW_some] <;> rfl) | (simp [*, errW_none, errW_some] <;> rfl), by repeat (first | (with_reducible first | exact HB.out | apply lA | apply lN | apply lD | refine lS ?_ GE530.out) | exact HB.out)⟩
  rw [if_pos c5] at H
  have c5b0 : (t528 == 0) = true := beq_iff_eq.mpr c5
  have c5b1 : (t528 != 0) = false := bne_eq_false_iff_eq.mpr c5
  clear c5
  by_cases c6 : 0 ≤ (l0.length : Int)
  rotate_left
  · rw [if_neg c6] at H
    exact absurd H (by simp)
  rw [if_pos c6] at H
  have c6b0 := eq_true c6
  have c6b1 : decide (0 ≤ (l0.length : Int)) = true := decide_eq_true c6
  clear c6
  by_cases c7 : ((l0.length : Int) : Int).toNat ≤ 281474976710656
  rotate_left
  · rw [if_neg c7] at H
    exact absurd H (by simp)
  rw [if_pos c7] at H
  have c7b0 := eq_true c7
  have c7b1 : decide (((l0.length : Int) : Int).toNat ≤ 281474976710656) = true := decide_eq_true c7
  clear c7
  obtain ⟨y531, hy531⟩ : ∃ y_ : List Bool, y_ = (List.replicate ((l0.length : Int) : Int).toNat false) := ⟨_, rfl⟩
  replace H : (changeforgelaw3_HistoryHeadsReachAll.l0 k l0 t525 y531 0) = some r := by first | (rw [hy531]; with_reducible exact H) | (have H2_ := (Option.bind_some _ _).symm.trans H; rw [hy531]; with_reducible exact H2_) | (have H2_ := (Option.bind_some _ _).symm.trans H; with_reducible exact H2_) | with_reducible exact H | (rw [hy531]; exact H) | exact H
  have Ny531 := aZ hy531
  clear hy531
  have H' := aZ H
  clear H
  go_enter Try.func10, Try.ntmps10
  go_wp2_with (first | ((with_reducible refine gate_callee (f := 23) rfl ?_); refine goesL_ (some 12) rfl rfl Try.func23 (by kernel_rfl) rfl #[] rfl (by (try simp only [List.map_toArray, List.map_cons, List.map_nil]); first | done | rfl | (simp only [List.length_drop, List.length_take]; rfl)) ?_; (with_reducible refine (changeforgelaw3_historyExample.calls k  true _ A2.out).mono ?_); rintro e w8 ⟨rfl, hb⟩; refine ⟨_, rfl, ?_⟩; have n0_ := aZ (lT (by repeat (first | (with_reducible first | exact HB.out | apply lA | apply lN | apply lD) | exact HB.out)) hb); clear HB; have HB := n0_; clear n0_; (try clear hb); (try clear hb2); (try clear hk); (try clear hi)) | ((with_reducible refine gate_callee (f := 28) rfl ?_); refine goesL_ (some 16) rfl rfl Try.func28 (by kernel_rfl) rfl #[.slice A0 l0.length c0] rfl (by (try simp only [List.map_toArray, List.map_cons, List.map_nil]); first | done | rfl | (simp only [List.length_drop, List.length_take]; rfl)) ?_; (with_reducible refine (history_Heads.calls k _ _ l0 t525 t528 t529 _ ?side1 ?side2 A4.out).mono ?_); (case side1 => repeat (first | exact (Kd.C_below HR0.out HB.out) | (with_reducible refine Kd.C_alloc ?_ _) | (with_reducible refine Kd.C_drewN ?_ _) | (with_reducible refine Kd.C_drew ?_))); (case side2 => exact HC0.out); rintro e w9 ⟨v526, rfl, ho0, hb⟩; refine ⟨_, rfl, ?_⟩; have n0_ := aZ (Kd.R_lower ho0 (lZ (by repeat (first | (with_reducible first | exact HB.out | apply lA | apply lN | apply lD) | exact HB.out)))); have n1_ := aZ (lT (by repeat (first | (with_reducible first | exact HB.out | apply lA | apply lN | apply lD) | exact HB.out)) hb); clear HB; have HO527 := n0_; have HB := n1_; clear n0_ n1_; (try clear hb); (try clear hb2); (try clear hk); (try clear hi); (try clear ho0)) | ((with_reducible refine gate_dst (N := 4) rfl ?_); (try (refine gate_guard (by rfl) ?_; dsimp only)); refine box_event ?hg (N := 4) ?hd (cs := #[.int .i64 0, .int .i64 0]) (t := 26) ?hr ?_; (case hd => rfl); (case hg => rfl); (case hr => first | (go_simp; done) | (go_simp; rfl)); intro gb530 hg w10 hbox hb; have n0_ := aZ (Kd.R_below (by (with_reducible repeat (first | apply Kd.rA | apply Kd.rN | apply Kd.rD)); exact HO527.out) hb); have n1_ := aZ (lT (by repeat (first | (with_reducible first | exact HB.out | apply lA | apply lN | apply lD) | exact HB.out)) hb); have n2_ := aZ (hbox); have n3_ := aZ ((by rw [hg]; exact (lZ (by repeat (first | (with_reducible first | exact HB.out | apply lA | apply lN | apply lD) | exact HB.out))) : w.heap.size ≤ gb530)); have n4_ := aZ ((by rw [hg]; exact (lZ (by repeat (first | (with_reducible first | exact HB.out | apply lA | apply lN | apply lD) | exact HB.out))) : w.heap.size ≤ gb530)); clear HO527; clear HB; have HO527 := n0_; have HB := n1_; have BK530 := n2_; have GW530 := n3_; have GE530 := n4_; clear n0_ n1_ n2_ n3_ n4_; clear hb hbox hg; have hcz11_0 : w10.cell? ⟨gb530, 0, none⟩ = some (.int .i64 0) := (blk_cell BK530.out 0).trans rfl; have hcz11_1 : w10.cell? ⟨gb530, 1, none⟩ = some (.int .i64 0) := (blk_cell BK530.out 1).trans rfl; have hfz11_0 := blk_frozen BK530.out 0; have hfz11_1 := blk_frozen BK530.out 1) | ((with_reducible refine gate_dst (N := 27) rfl ?_); (try (refine gate_guard (by rfl) ?_; dsimp only)); refine Kd.R_make Kd.bool _ 4 rfl (N := 27) rfl 37 _ _ rfl (l0.length : Int) rfl rfl Try.underlying37 (.bool false) 1 info4 rfl (by decide) (by omega) false (ok := fun _ => True) (okp := fun _ => True) rfl (fun _ hk => hk) trivial (of_decide_eq_true (by first | (with_reducible assumption) | assumption)) (Nat.le_trans (Nat.mul_le_mul_right _ (of_decide_eq_true (by first | (with_reducible assumption) | assumption) : (l0.length : Int).toNat ≤ 281474976710656)) (by omega)) (Below.refl _ _) (Nat.le_refl _) ?_; intro v532 w12 ho13 hb hg_ hnew_; clear hg_ hnew_; (first | rw [← Ny531.out] at ho13 | (simp only [Int.reduceToNat] at ho13; rw [← Ny531.out] at ho13)); have n0_ := aZ (Kd.R_below (by (with_reducible repeat (first | apply Kd.rA | apply Kd.rN | apply Kd.rD)); exact (Kd.R_mono (Kd.R_far (p := ⟨gb530, 1, none⟩) (Kd.R_far (p := ⟨gb530, 0, none⟩) (Kd.R_types HO527.out BK530.out (by decide)) (fun _ hk => hk.2) (.int .i64 t528)) (fun _ hk => hk.2) (.int .i64 t529)) (fun _ h_ => h_.1))) hb); have n1_ := aZ (Kd.R_lower ho13 (lZ (by repeat (first | (with_reducible first | exact HB.out | apply lA | apply lN | apply lD | refine lS ?_ GE530.out) | exact HB.out)))); have n2_ := aZ (blk_below (g := gb530) (o := .cells #[.int .i64 t528, .int .i64 t529] 26 (0, 0)) (by (with_reducible repeat (first | refine bN ?_ _ | refine bD ?_ | refine bA ?_ _)); refine blk_put (cs := #[.int .i64 t528, .int .i64 0]) ?_ 1 _ rfl; (with_reducible repeat (first | refine bN ?_ _ | refine bD ?_ | refine bA ?_ _)); refine blk_put (cs := #[.int .i64 0, .int .i64 0]) ?_ 0 _ rfl; (with_reducible repeat (first | refine bN ?_ _ | refine bD ?_ | refine bA ?_ _)); exact BK530.out) hb); have n3_ := aZ (lT (by repeat (first | (with_reducible first | exact HB.out | apply lA | apply lN | apply lD | refine lS ?_ GE530.out) | exact HB.out)) hb); clear HO527; clear BK530; clear HB; have HO527 := n0_; have HO533 := n1_; have BK530 := n2_; have HB := n3_; clear n0_ n1_ n2_ n3_; clear hb ho13))
  go_loopg [6] k (fun kq v6 w' => ∃ (x5_1 : List Bool) (x6_1 : Int), v6 = .int .i64 x6_1 ∧ Aside0 (changeforgelaw3_HistoryHeadsReachAll.l0 kq l0 t525 x5_1 x6_1 = some r) ∧ Aside0 (kq ≤ k) ∧ Aside0 (Kd.R (Kd.int .i64) 3 w' w.heap.size (fun _ => True) v526 t525) ∧ Aside0 (Kd.R Kd.bool 4 w' w.heap.size (fun _ => True) v532 x5_1) ∧ Aside0 (w'.heap[gb530]? = some (.cells #[.int .i64 t528, .int .i64 t529] 26 (0, 0))) ∧ Aside0 (Below w.heap.size w w'))
  case atStart => exact ⟨(y531), (0), (by first | rfl | (simp; done) | (simp [*]; done)), H', ⟨Nat.le_refl _⟩, ⟨by (with_reducible repeat (first | apply Kd.rA | apply Kd.rN | apply Kd.rD)); exact HO527.out⟩, ⟨by (with_reducible repeat (first | apply Kd.rA | apply Kd.rN | apply Kd.rD)); exact HO533.out⟩, ⟨by (with_reducible repeat (first | refine bN ?_ _ | refine bD ?_ | refine bA ?_ _)); exact BK530.out⟩, ⟨by repeat (first | (with_reducible first | exact HB.out | apply lA | apply lN | apply lD | refine lS ?_ GE530.out) | exact HB.out)⟩⟩
  case round =>
   clear H'
   (try clear c3); (try clear c5); (try clear c5b0); (try clear c5b1); (try clear c6); (try clear c6b0); (try clear c6b1); (try clear c7); (try clear c7b0); (try clear c7b1); (try clear hcz11_0); (try clear hcz11_1); (try clear hfz11_0); (try clear hfz11_1)
   obtain ⟨x5_1, x6_1, rfl, HA, HK1, HO_3, HO_5, BK530, HB⟩ := hrel
   cases gk with
   | zero => exact absurd HA.out (by simp [changeforgelaw3_HistoryHeadsReachAll.l0])
   | succ k1 =>
    have H := HA.out
    clear HA
    simp only [changeforgelaw3_HistoryHeadsReachAll.l0] at H
    by_cases c14 : x6_1 < (t525.length : Int)
    rotate_left
    · rw [if_neg c14] at H
      have c14b0 : decide (x6_1 < (t525.length : Int)) = false := decide_eq_false c14
      clear c14
      have H' := aZ H
      clear H
      obtain ⟨Ao56, co56, eo56⟩ := Kd.R_slice HO_3.out
      subst eo56
      go_wp2
      go_loopg [11] k1 (fun kq v11 w' => ∃ (x11_2 : Int), v11 = .int .i64 x11_2 ∧ Aside0 (changeforgelaw3_HistoryHeadsReachAll.l3 kq l0 x5_1 x11_2 = some r) ∧ Aside0 (kq ≤ k1) ∧ Aside0 (Kd.R Kd.bool 4 w' w.heap.size (fun _ => True) v532 x5_1) ∧ Aside0 (w'.heap[gb530]? = some (.cells #[.int .i64 t528, .int .i64 t529] 26 (0, 0))) ∧ Aside0 (Below w.heap.size w w'))
      case atStart => exact ⟨(0), (by first | rfl | (simp; done) | (simp [*]; done)), H', ⟨Nat.le_refl _⟩, ⟨by (with_reducible repeat (first | apply Kd.rA | apply Kd.rN | apply Kd.rD)); exact HO_5.out⟩, ⟨by (with_reducible repeat (first | refine bN ?_ _ | refine bD ?_ | refine bA ?_ _)); exact BK530.out⟩, ⟨by repeat (first | (with_reducible first | exact HB.out | apply lA | apply lN | apply lD | refine lS ?_ GE530.out) | exact HB.out)⟩⟩
      case round =>
       clear H'
       (try clear c14); (try clear c14b0)
       obtain ⟨x11_2, rfl, HA, HK2, HO_5, BK530, HB⟩ := hrel
       cases gk with
       | zero => exact absurd HA.out (by simp [changeforgelaw3_HistoryHeadsReachAll.l3])
       | succ k2 =>
        have H := HA.out
        clear HA
        simp only [changeforgelaw3_HistoryHeadsReachAll.l3] at H
        by_cases c57 : x11_2 < (l0.length : Int)
        rotate_left
        · rw [if_neg c57] at H
          have c57b0 : decide (x11_2 < (l0.length : Int)) = false := decide_eq_false c57
          clear c57
          obtain rfl := Option.some.inj H
          go_wp2
          go_ret
          exact ⟨by first | rfl | (simp [errW_none, errW_some] <;> rfl) | (simp [*, errW_none, errW_some] <;> rfl), by repeat (first | (with_reducible first | exact HB.out | apply lA | apply lN | apply lD | refine lS ?_ GE530.out) | exact HB.out)⟩
        rw [if_pos c57] at H
        have c57b0 : decide (x11_2 < (l0.length : Int)) = true := decide_eq_true c57
        clear c57
        by_cases c58 : 0 ≤ x11_2
        rotate_left
        · rw [if_neg c58] at H
          exact absurd H (by simp)
        rw [if_pos c58] at H
        have c58b0 : decide (0 ≤ x11_2) = true := decide_eq_true c58
        clear c58
        by_cases c59 : x11_2 < (x5_1.length : Int)
        rotate_left
        · rw [if_neg c59] at H
          exact absurd H (by simp)
        rw [if_pos c59] at H
        have c59b0 : decide (x11_2 < (x5_1.length : Int)) = true := decide_eq_true c59
        clear c59
        obtain ⟨bq60, hbq60⟩ : ∃ b_ : Bool, b_ = (rdOf false x5_1 x11_2) := ⟨_, rfl⟩
        replace H : (if bq60 = true then (changeforgelaw3_HistoryHeadsReachAll.l3 k2 l0 x5_1 (wrap64 (x11_2 + 1))) else (some false)) = some r := by rw [← hbq60] at H; exact H
        have Nbq60 := aZ hbq60
        clear hbq60
        by_cases c61 : bq60 = true
        rotate_left
        · replace c61 := Bool.eq_false_iff.mpr c61
          subst c61
          have H1 : (some false) = some r := by rw [if_neg (show ¬ (false = true) by decide)] at H; exact H
          clear H
          have H := H1
          clear H1
          obtain rfl := Option.some.inj H
          obtain ⟨Ao63, co63, eo63⟩ := Kd.R_slice HO_5.out
          subst eo63
          have p549 : 0 ≤ (x11_2 : Int) := of_decide_eq_true (by first | (with_reducible assumption) | assumption)
          have q549 : x11_2 < (x5_1.length : Int) := of_decide_eq_true (by first | (with_reducible assumption) | assumption)
          obtain ⟨ad549, e549, hx549_0⟩ := Kd.at_bool (Kd.R_reads' HO_5.out).2.2 x11_2 p549 q549
          (try rw [← Nbq60.out] at hx549_0)
          cases e549
          replace p549 := eq_true p549
          replace q549 := eq_true q549
          go_wp2
          go_ret
          exact ⟨by first | rfl | (simp [errW_none, errW_some] <;> rfl) | (simp [*, errW_none, errW_some] <;> rfl), by repeat (first | (with_reducible first | exact HB.out | apply lA | apply lN | apply lD | refine lS ?_ GE530.out) | exact HB.out)⟩
        subst c61
        have H1 : (changeforgelaw3_HistoryHeadsReachAll.l3 k2 l0 x5_1 (wrap64 (x11_2 + 1))) = some r := by rw [if_pos rfl] at H; exact H
        clear H
        have H := H1
        clear H1
        have H' := aZ H
        clear H
        obtain ⟨Ao62, co62, eo62⟩ := Kd.R_slice HO_5.out
        subst eo62
        have p549 : 0 ≤ (x11_2 : Int) := of_decide_eq_true (by first | (with_reducible assumption) | assumption)
        have q549 : x11_2 < (x5_1.length : Int) := of_decide_eq_true (by first | (with_reducible assumption) | assumption)
        obtain ⟨ad549, e549, hx549_0⟩ := Kd.at_bool (Kd.R_reads' HO_5.out).2.2 x11_2 p549 q549
        (try rw [← Nbq60.out] at hx549_0)
        cases e549
        replace p549 := eq_true p549
        replace q549 := eq_true q549
        go_wp2
        go_roundg k2
        case measure => have := HK1.out; have := HK2.out; omega
        case rel => exact ⟨(wrap64 (x11_2 + 1)), (by first | rfl | (simp; done) | (simp [*]; done)), H', ⟨by have := HK1.out; have := HK2.out; omega⟩, ⟨by (with_reducible repeat (first | apply Kd.rA | apply Kd.rN | apply Kd.rD)); exact HO_5.out⟩, ⟨by (with_reducible repeat (first | refine bN ?_ _ | refine bD ?_ | refine bA ?_ _)); exact BK530.out⟩, ⟨by repeat (first | (with_reducible first | exact HB.out | apply lA | apply lN | apply lD | refine lS ?_ GE530.out) | exact HB.out)⟩⟩
    rw [if_pos c14] at H
    have c14b0 : decide (x6_1 < (t525.length : Int)) = true := decide_eq_true c14
    clear c14
    by_cases c15 : 0 ≤ x6_1
    rotate_left
    · rw [if_neg c15] at H
      exact absurd H (by simp)
    rw [if_pos c15] at H
    have c15b0 : decide (0 ≤ x6_1) = true := decide_eq_true c15
    clear c15
    replace H := Option.bind_eq_some_iff.mp H
    obtain ⟨⟨t535, t538, t539⟩, A160, H⟩ := H
    replace H : (if t538 = 0 then (changeforgelaw3_HistoryHeadsReachAll.j1 k1 l0 t525 x5_1 x6_1 t535 ((t535.length : Int) != (l0.length : Int))) else (changeforgelaw3_HistoryHeadsReachAll.j1 k1 l0 t525 x5_1 x6_1 t535 true)) = some r := H
    have A16 := aZ A160
    clear A160
    have HC17 := aZ H
    clear H
    obtain ⟨Ao18, co18, eo18⟩ := Kd.R_slice HO_3.out
    subst eo18
    have p534 : 0 ≤ (x6_1 : Int) := of_decide_eq_true (by first | (with_reducible assumption) | assumption)
    have q534 : x6_1 < (t525.length : Int) := of_decide_eq_true (by first | (with_reducible assumption) | assumption)
    obtain ⟨ad534, e534, hx534_0⟩ := Kd.at_int (Kd.R_reads' HO_3.out).2.2 x6_1 p534 q534
    cases e534
    replace p534 := eq_true p534
    replace q534 := eq_true q534
    go_upto_region 11 with (first | ((with_reducible refine gate_callee (f := 24) rfl ?_); refine goesL_ (some 40) rfl rfl Try.func24 (by kernel_rfl) rfl #[.slice A0 l0.length c0, .int .i64 (rd t525 x6_1)] rfl (by (try simp only [List.map_toArray, List.map_cons, List.map_nil]); first | done | rfl | (simp only [List.length_drop, List.length_take]; rfl)) ?_; (with_reducible refine (history_Ancestors.calls k1 _ _ l0 (rd t525 x6_1) t535 t538 t539 _ ?side1 ?side2 A16.out).mono ?_); (case side1 => repeat (first | exact (Kd.C_below HR0.out HB.out) | (with_reducible refine Kd.C_alloc ?_ _) | (with_reducible refine Kd.C_drewN ?_ _) | (with_reducible refine Kd.C_drew ?_))); (case side2 => exact HC0.out); rintro e w19 ⟨v536, rfl, ho0, hb⟩; refine ⟨_, rfl, ?_⟩; have n0_ := aZ (Kd.R_below (by (with_reducible repeat (first | apply Kd.rA | apply Kd.rN | apply Kd.rD)); exact HO_3.out) hb); have n1_ := aZ (Kd.R_elder' (by (with_reducible repeat (first | apply Kd.rA | apply Kd.rN | apply Kd.rD)); exact HO_5.out) (Kd.R_base ho0) hb); have n2_ := aZ (Kd.R_lower (Kd.R_new' ho0 (Kd.R_lt (by (with_reducible repeat (first | apply Kd.rA | apply Kd.rN | apply Kd.rD)); exact HO_5.out))) (lZ (by repeat (first | (with_reducible first | exact HB.out | apply lA | apply lN | apply lD | refine lS ?_ GE530.out) | exact HB.out)))); have n3_ := aZ (blk_below (g := gb530) (o := .cells #[.int .i64 t528, .int .i64 t529] 26 (0, 0)) (by (with_reducible repeat (first | refine bN ?_ _ | refine bD ?_ | refine bA ?_ _)); exact BK530.out) hb); have n4_ := aZ (lT (by repeat (first | (with_reducible first | exact HB.out | apply lA | apply lN | apply lD | refine lS ?_ GE530.out) | exact HB.out)) hb); clear HO_3; clear HO_5; clear BK530; clear HB; have HO_3 := n0_; have HO_5 := n1_; have HO537 := n2_; have BK530 := n3_; have HB := n4_; clear n0_ n1_ n2_ n3_ n4_; (try clear hb); (try clear hb2); (try clear hk); (try clear hi); (try clear ho0)) | ((with_reducible refine gate_dst (N := 8) rfl ?_); (try (refine gate_guard (by rfl) ?_; dsimp only)); refine box_event ?hg (N := 8) ?hd (cs := #[.int .i64 0, .int .i64 0]) (t := 26) ?hr ?_; (case hd => rfl); (case hg => rfl); (case hr => first | (go_simp; done) | (go_simp; rfl)); intro gb540 hg w20 hbox hb; have n0_ := aZ (Kd.R_below (by (with_reducible repeat (first | apply Kd.rA | apply Kd.rN | apply Kd.rD)); exact HO_3.out) hb); have n1_ := aZ (Kd.R_below (by (with_reducible repeat (first | apply Kd.rA | apply Kd.rN | apply Kd.rD)); exact HO_5.out) hb); have n2_ := aZ (Kd.R_below (by (with_reducible repeat (first | apply Kd.rA | apply Kd.rN | apply Kd.rD)); exact HO537.out) hb); have n3_ := aZ (blk_below (g := gb530) (o := .cells #[.int .i64 t528, .int .i64 t529] 26 (0, 0)) (by (with_reducible repeat (first | refine bN ?_ _ | refine bD ?_ | refine bA ?_ _)); exact BK530.out) hb); have n4_ := aZ (lT (by repeat (first | (with_reducible first | exact HB.out | apply lA | apply lN | apply lD | refine lS ?_ GE530.out) | exact HB.out)) hb); have n5_ := aZ (hbox); have n6_ := aZ ((by rw [hg]; exact (lZ (by repeat (first | (with_reducible first | exact HB.out | apply lA | apply lN | apply lD | refine lS ?_ GE530.out) | exact HB.out))) : w.heap.size ≤ gb540)); have n7_ := aZ ((by rw [hg]; exact (lZ (by repeat (first | (with_reducible first | exact HB.out | apply lA | apply lN | apply lD | refine lS ?_ GE530.out) | exact HB.out))) : w.heap.size ≤ gb540)); have n8_ := aZ ((by rw [hg]; exact Nat.ne_of_lt (blk_lt (g := gb530) (o := .cells #[.int .i64 t528, .int .i64 t529] 26 (0, 0)) (by (with_reducible repeat (first | refine bN ?_ _ | refine bD ?_ | refine bA ?_ _)); exact BK530.out)) : gb530 ≠ gb540)); have n9_ := aZ ((by rw [hg]; exact Nat.ne_of_gt (blk_lt (g := gb530) (o := .cells #[.int .i64 t528, .int .i64 t529] 26 (0, 0)) (by (with_reducible repeat (first | refine bN ?_ _ | refine bD ?_ | refine bA ?_ _)); exact BK530.out)) : gb540 ≠ gb530)); clear HO_3; clear HO_5; clear HO537; clear BK530; clear HB; have HO_3 := n0_; have HO_5 := n1_; have HO537 := n2_; have BK530 := n3_; have HB := n4_; have BK540 := n5_; have GW540 := n6_; have GE540 := n7_; have NB530_540 := n8_; have NB540_530 := n9_; clear n0_ n1_ n2_ n3_ n4_ n5_ n6_ n7_ n8_ n9_; clear hb hbox hg; have hnb21 := NB540_530.out; have hnc21 := NB530_540.out; have hcz22_0 : w20.cell? ⟨gb540, 0, none⟩ = some (.int .i64 0) := (blk_cell BK540.out 0).trans rfl; have hcz22_1 : w20.cell? ⟨gb540, 1, none⟩ = some (.int .i64 0) := (blk_cell BK540.out 1).trans rfl; have hfz22_0 := blk_frozen BK540.out 0; have hfz22_1 := blk_frozen BK540.out 1))
    (try simp only [Act.put, List.setIfInBounds_toArray, List.set_cons_zero, List.set_cons_succ])
    go_cut [52] (fun v52 wc => ∃ (kq : Nat) (x52_16 : Bool), v52 = .bool x52_16 ∧ Aside0 (changeforgelaw3_HistoryHeadsReachAll.j1 kq l0 t525 x5_1 x6_1 t535 x52_16 = some r) ∧ Aside0 (kq ≤ k1) ∧ Aside0 (Kd.R (Kd.int .i64) 3 wc w.heap.size (fun _ => True) (.slice (some ad534) t525.length co18) t525) ∧ Aside0 (Kd.R Kd.bool 4 wc w.heap.size (fun k_ => some k_ ≠ (v536 : Value).ownBlock) v532 x5_1) ∧ Aside0 (Kd.R Kd.bool 4 wc w.heap.size (fun k_ => some k_ ≠ (v532 : Value).ownBlock) v536 t535) ∧ Aside0 (wc.heap[gb530]? = some (.cells #[.int .i64 t528, .int .i64 t529] 26 (0, 0))) ∧ Aside0 (wc.heap[gb540]? = some (.cells #[.int .i64 t538, .int .i64 t539] 26 (0, 0))) ∧ Aside0 (Below w.heap.size w wc))
    case first =>
     have H := HC17.out
     clear HC17
     by_cases c23 : t538 = 0
     rotate_left
     · rw [if_neg c23] at H
       have c23b0 : (t538 == 0) = false := beq_eq_false_iff_ne.mpr c23
       have c23b1 : (t538 != 0) = true := bne_iff_ne.mpr c23
       (first | rw [c23b0] | (simp only [i64_w, i32_w]; rw [c23b0]) | skip)
       have H' := aZ H
       clear H
       have hnb27 := NB540_530.out
       have hnc27 := NB530_540.out
       have hcz28_0 : w20.cell? ⟨gb540, 0, none⟩ = some (.int .i64 0) := (blk_cell BK540.out 0).trans rfl
       have hcz28_1 : w20.cell? ⟨gb540, 1, none⟩ = some (.int .i64 0) := (blk_cell BK540.out 1).trans rfl
       have hfz28_0 := blk_frozen BK540.out 0
       have hfz28_1 := blk_frozen BK540.out 1
       go_wp2
       go_meet
       case rel => exact ⟨_, (true), (by first | rfl | (simp; done) | (simp [*]; done)), H', ⟨by have := HK1.out; first | omega | exact Nat.le_refl _⟩, ⟨by (with_reducible repeat (first | apply Kd.rA | apply Kd.rN | apply Kd.rD)); exact Kd.R_mono (Kd.R_far (p := ⟨gb540, 1, none⟩) (Kd.R_far (p := ⟨gb540, 0, none⟩) (Kd.R_types HO_3.out BK540.out (by decide)) (fun _ hk => hk.2) (.int .i64 t538)) (fun _ hk => hk.2) (.int .i64 t539)) (fun _ hk => trivial)⟩, ⟨by (with_reducible repeat (first | apply Kd.rA | apply Kd.rN | apply Kd.rD)); exact Kd.R_mono (Kd.R_far (p := ⟨gb540, 1, none⟩) (Kd.R_far (p := ⟨gb540, 0, none⟩) (Kd.R_types HO_5.out BK540.out (by decide)) (fun _ hk => hk.2) (.int .i64 t538)) (fun _ hk => hk.2) (.int .i64 t539)) (fun _ hk => hk.1.2)⟩, ⟨by (with_reducible repeat (first | apply Kd.rA | apply Kd.rN | apply Kd.rD)); exact Kd.R_mono (Kd.R_far (p := ⟨gb540, 1, none⟩) (Kd.R_far (p := ⟨gb540, 0, none⟩) (Kd.R_types HO537.out BK540.out (by decide)) (fun _ hk => hk.2) (.int .i64 t538)) (fun _ hk => hk.2) (.int .i64 t539)) (fun _ hk => hk.1.2)⟩, ⟨by (with_reducible repeat (first | refine bN ?_ _ | refine bD ?_ | refine bA ?_ _)); refine blk_far ?_ NB530_540.out _; (with_reducible repeat (first | refine bN ?_ _ | refine bD ?_ | refine bA ?_ _)); refine blk_far ?_ NB530_540.out _; (with_reducible repeat (first | refine bN ?_ _ | refine bD ?_ | refine bA ?_ _)); exact BK530.out⟩, ⟨by (with_reducible repeat (first | refine bN ?_ _ | refine bD ?_ | refine bA ?_ _)); refine blk_put (cs := #[.int .i64 t538, .int .i64 0]) ?_ 1 _ rfl; (with_reducible repeat (first | refine bN ?_ _ | refine bD ?_ | refine bA ?_ _)); refine blk_put (cs := #[.int .i64 0, .int .i64 0]) ?_ 0 _ rfl; (with_reducible repeat (first | refine bN ?_ _ | refine bD ?_ | refine bA ?_ _)); exact BK540.out⟩, ⟨by repeat (first | (with_reducible first | exact HB.out | apply lA | apply lN | apply lD | refine lS ?_ GE530.out | refine lS ?_ GE540.out) | exact HB.out)⟩⟩
     rw [if_pos c23] at H
     have c23b0 : (t538 == 0) = true := beq_iff_eq.mpr c23
     have c23b1 : (t538 != 0) = false := bne_eq_false_iff_eq.mpr c23
     clear c23
     (first | rw [c23b0] | (simp only [i64_w, i32_w]; rw [c23b0]) | skip)
     have H' := aZ H
     clear H
     have hnb24 := NB540_530.out
     have hnc24 := NB530_540.out
     have hcz25_0 : w20.cell? ⟨gb540, 0, none⟩ = some (.int .i64 0) := (blk_cell BK540.out 0).trans rfl
     have hcz25_1 : w20.cell? ⟨gb540, 1, none⟩ = some (.int .i64 0) := (blk_cell BK540.out 1).trans rfl
     have hfz25_0 := blk_frozen BK540.out 0
     have hfz25_1 := blk_frozen BK540.out 1
     obtain ⟨Ao26, co26, eo26⟩ := Kd.R_slice HO537.out
     subst eo26
     go_wp2
     go_meet
     case rel => exact ⟨_, (((t535.length : Int) != (l0.length : Int))), (by first | rfl | (simp; done) | (simp [*]; done)), H', ⟨by have := HK1.out; first | omega | exact Nat.le_refl _⟩, ⟨by (with_reducible repeat (first | apply Kd.rA | apply Kd.rN | apply Kd.rD)); exact Kd.R_mono (Kd.R_far (p := ⟨gb540, 1, none⟩) (Kd.R_far (p := ⟨gb540, 0, none⟩) (Kd.R_types HO_3.out BK540.out (by decide)) (fun _ hk => hk.2) (.int .i64 t538)) (fun _ hk => hk.2) (.int .i64 t539)) (fun _ hk => trivial)⟩, ⟨by (with_reducible repeat (first | apply Kd.rA | apply Kd.rN | apply Kd.rD)); exact Kd.R_mono (Kd.R_far (p := ⟨gb540, 1, none⟩) (Kd.R_far (p := ⟨gb540, 0, none⟩) (Kd.R_types HO_5.out BK540.out (by decide)) (fun _ hk => hk.2) (.int .i64 t538)) (fun _ hk => hk.2) (.int .i64 t539)) (fun _ hk => hk.1.2)⟩, ⟨by (with_reducible repeat (first | apply Kd.rA | apply Kd.rN | apply Kd.rD)); exact Kd.R_mono (Kd.R_far (p := ⟨gb540, 1, none⟩) (Kd.R_far (p := ⟨gb540, 0, none⟩) (Kd.R_types HO537.out BK540.out (by decide)) (fun _ hk => hk.2) (.int .i64 t538)) (fun _ hk => hk.2) (.int .i64 t539)) (fun _ hk => hk.1.2)⟩, ⟨by (with_reducible repeat (first | refine bN ?_ _ | refine bD ?_ | refine bA ?_ _)); refine blk_far ?_ NB530_540.out _; (with_reducible repeat (first | refine bN ?_ _ | refine bD ?_ | refine bA ?_ _)); refine blk_far ?_ NB530_540.out _; (with_reducible repeat (first | refine bN ?_ _ | refine bD ?_ | refine bA ?_ _)); exact BK530.out⟩, ⟨by (with_reducible repeat (first | refine bN ?_ _ | refine bD ?_ | refine bA ?_ _)); refine blk_put (cs := #[.int .i64 t538, .int .i64 0]) ?_ 1 _ rfl; (with_reducible repeat (first | refine bN ?_ _ | refine bD ?_ | refine bA ?_ _)); refine blk_put (cs := #[.int .i64 0, .int .i64 0]) ?_ 0 _ rfl; (with_reducible repeat (first | refine bN ?_ _ | refine bD ?_ | refine bA ?_ _)); exact BK540.out⟩, ⟨by repeat (first | (with_reducible first | exact HB.out | apply lA | apply lN | apply lD | refine lS ?_ GE530.out | refine lS ?_ GE540.out) | exact HB.out)⟩⟩
    case rest =>
     clear HC17
     (try clear c14); (try clear c14b0); (try clear c15); (try clear c15b0); (try clear hcz22_0); (try clear hcz22_1); (try clear hfz22_0); (try clear hfz22_1); (try clear hx534_0); (try clear p534); (try clear q534)
     obtain ⟨kq, x52_16, rfl, HA, HJ16, HO_3, HO_5, HO_7, BK530, BK540, HB⟩ := hcut
     cases kq with
     | zero => exact absurd HA.out (by simp [changeforgelaw3_HistoryHeadsReachAll.j1])
     | succ kj16 =>
      have H := HA.out
      clear HA
      simp only [changeforgelaw3_HistoryHeadsReachAll.j1] at H
      by_cases c29 : x52_16 = true
      · subst c29
        have H1 : (some false) = some r := by rw [if_pos rfl] at H; exact H
        clear H
        have H := H1
        clear H1
        obtain rfl := Option.some.inj H
        go_wp2
        go_ret
        exact ⟨by first | rfl | (simp [errW_none, errW_some] <;> rfl) | (simp [*, errW_none, errW_some] <;> rfl), by repeat (first | (with_reducible first | exact HB.out | apply lA | apply lN | apply lD | refine lS ?_ GE530.out | refine lS ?_ GE540.out) | exact HB.out)⟩
      replace c29 := Bool.eq_false_iff.mpr c29
      subst c29
      have H1 : (changeforgelaw3_HistoryHeadsReachAll.l1 kj16 l0 t525 x5_1 x6_1 t535 0) = some r := by rw [if_neg (show ¬ (false = true) by decide)] at H; exact H
      clear H
      have H := H1
      clear H1
      have H' := aZ H
      clear H
      go_wp2
      go_loopg [9] kj16 (fun kq v9 w' => ∃ (x9_3 : Int), v9 = .int .i64 x9_3 ∧ Aside0 (changeforgelaw3_HistoryHeadsReachAll.l1 kq l0 t525 x5_1 x6_1 t535 x9_3 = some r) ∧ Aside0 (kq ≤ kj16) ∧ Aside0 (Kd.R (Kd.int .i64) 3 w' w.heap.size (fun _ => True) (.slice (some ad534) t525.length co18) t525) ∧ Aside0 (Kd.R Kd.bool 4 w' w.heap.size (fun k_ => some k_ ≠ (v536 : Value).ownBlock) v532 x5_1) ∧ Aside0 (Kd.R Kd.bool 4 w' w.heap.size (fun k_ => some k_ ≠ (v532 : Value).ownBlock) v536 t535) ∧ Aside0 (w'.heap[gb530]? = some (.cells #[.int .i64 t528, .int .i64 t529] 26 (0, 0))) ∧ Aside0 (w'.heap[gb540]? = some (.cells #[.int .i64 t538, .int .i64 t539] 26 (0, 0))) ∧ Aside0 (Below w.heap.size w w'))
      case atStart => exact ⟨(0), (by first | rfl | (simp; done) | (simp [*]; done)), H', ⟨Nat.le_refl _⟩, ⟨by (with_reducible repeat (first | apply Kd.rA | apply Kd.rN | apply Kd.rD)); exact HO_3.out⟩, ⟨by (with_reducible repeat (first | apply Kd.rA | apply Kd.rN | apply Kd.rD)); exact HO_5.out⟩, ⟨by (with_reducible repeat (first | apply Kd.rA | apply Kd.rN | apply Kd.rD)); exact HO_7.out⟩, ⟨by (with_reducible repeat (first | refine bN ?_ _ | refine bD ?_ | refine bA ?_ _)); exact BK530.out⟩, ⟨by (with_reducible repeat (first | refine bN ?_ _ | refine bD ?_ | refine bA ?_ _)); exact BK540.out⟩, ⟨by repeat (first | (with_reducible first | exact HB.out | apply lA | apply lN | apply lD | refine lS ?_ GE530.out | refine lS ?_ GE540.out) | exact HB.out)⟩⟩
      case round =>
       clear H'
       (try clear c29)
       obtain ⟨x9_3, rfl, HA, HK3, HO_3, HO_5, HO_7, BK530, BK540, HB⟩ := hrel
       cases gk with
       | zero => exact absurd HA.out (by simp [changeforgelaw3_HistoryHeadsReachAll.l1])
       | succ k3 =>
        have H := HA.out
        clear HA
        simp only [changeforgelaw3_HistoryHeadsReachAll.l1] at H
        by_cases c30 : x9_3 < (t525.length : Int)
        · rw [if_pos c30] at H
          have c30b0 : decide (x9_3 < (t525.length : Int)) = true := decide_eq_true c30
          clear c30
          by_cases c31 : 0 ≤ x9_3
          rotate_left
          · rw [if_neg c31] at H
            exact absurd H (by simp)
          rw [if_pos c31] at H
          have c31b0 : decide (0 ≤ x9_3) = true := decide_eq_true c31
          clear c31
          replace H := Option.bind_eq_some_iff.mp H
          obtain ⟨t542, A320, H⟩ := H
          replace H : (if t542 = true then (if x9_3 = x6_1 then (changeforgelaw3_HistoryHeadsReachAll.l1 k3 l0 t525 x5_1 x6_1 t535 (wrap64 (x9_3 + 1))) else (if 0 ≤ (rd t525 x9_3) then (if (rd t525 x9_3) < (t535.length : Int) then (if rdOf false t535 (rd t525 x9_3) = true then (some false) else (changeforgelaw3_HistoryHeadsReachAll.l1 k3 l0 t525 x5_1 x6_1 t535 (wrap64 (x9_3 + 1)))) else (none)) else (none))) else (some false)) = some r := H
          have A32 := aZ A320
          clear A320
          by_cases c33 : t542 = true
          rotate_left
          · replace c33 := Bool.eq_false_iff.mpr c33
            subst c33
            have H1 : (some false) = some r := by rw [if_neg (show ¬ (false = true) by decide)] at H; exact H
            clear H
            have H := H1
            clear H1
            obtain rfl := Option.some.inj H
            have p541 : 0 ≤ (x9_3 : Int) := of_decide_eq_true (by first | (with_reducible assumption) | assumption)
            have q541 : x9_3 < (t525.length : Int) := of_decide_eq_true (by first | (with_reducible assumption) | assumption)
            obtain ⟨ad541, e541, hx541_0⟩ := Kd.at_int (Kd.R_reads' HO_3.out).2.2 x9_3 p541 q541
            obtain rfl : ad534 = ad541 := (by injection e541)
            replace p541 := eq_true p541
            replace q541 := eq_true q541
            go_wp2_with (first | ((with_reducible refine gate_callee (f := 18) rfl ?_); refine goesL_ (some 66) rfl rfl Try.func18 (by kernel_rfl) rfl #[.int .i64 (rd t525 x9_3), .int .i64 0, .int .i64 (wrap64 ((l0.length : Int) - 1))] rfl (by (try simp only [List.map_toArray, List.map_cons, List.map_nil]); first | done | rfl | (simp only [List.length_drop, List.length_take]; rfl)) ?_; (with_reducible refine (changeforgeref3_In.calls (rd t525 x9_3) 0 (wrap64 ((l0.length : Int) - 1)) false _ A32.out).mono ?_); rintro e w' ⟨rfl, ⟨nd, rfl⟩⟩; refine ⟨_, rfl, ?_⟩))
            go_ret
            exact ⟨by first | rfl | (simp [errW_none, errW_some] <;> rfl) | (simp [*, errW_none, errW_some] <;> rfl), by repeat (first | (with_reducible first | exact HB.out | apply lA | apply lN | apply lD | refine lS ?_ GE530.out | refine lS ?_ GE540.out) | exact HB.out)⟩
          subst c33
          have H1 : (if x9_3 = x6_1 then (changeforgelaw3_HistoryHeadsReachAll.l1 k3 l0 t525 x5_1 x6_1 t535 (wrap64 (x9_3 + 1))) else (if 0 ≤ (rd t525 x9_3) then (if (rd t525 x9_3) < (t535.length : Int) then (if rdOf false t535 (rd t525 x9_3) = true then (some false) else (changeforgelaw3_HistoryHeadsReachAll.l1 k3 l0 t525 x5_1 x6_1 t535 (wrap64 (x9_3 + 1)))) else (none)) else (none))) = some r := by rw [if_pos rfl] at H; exact H
          clear H
          have H := H1
          clear H1
          by_cases c34 : x9_3 = x6_1
          · rw [if_pos c34] at H
            have c34b0 : (x9_3 == x6_1) = true := beq_iff_eq.mpr c34
            have c34b1 : (x9_3 != x6_1) = false := bne_eq_false_iff_eq.mpr c34
            clear c34
            have H' := aZ H
            clear H
            have p541 : 0 ≤ (x9_3 : Int) := of_decide_eq_true (by first | (with_reducible assumption) | assumption)
            have q541 : x9_3 < (t525.length : Int) := of_decide_eq_true (by first | (with_reducible assumption) | assumption)
            obtain ⟨ad541, e541, hx541_0⟩ := Kd.at_int (Kd.R_reads' HO_3.out).2.2 x9_3 p541 q541
            obtain rfl : ad534 = ad541 := (by injection e541)
            replace p541 := eq_true p541
            replace q541 := eq_true q541
            go_wp2_with (first | ((with_reducible refine gate_callee (f := 18) rfl ?_); refine goesL_ (some 66) rfl rfl Try.func18 (by kernel_rfl) rfl #[.int .i64 (rd t525 x9_3), .int .i64 0, .int .i64 (wrap64 ((l0.length : Int) - 1))] rfl (by (try simp only [List.map_toArray, List.map_cons, List.map_nil]); first | done | rfl | (simp only [List.length_drop, List.length_take]; rfl)) ?_; (with_reducible refine (changeforgeref3_In.calls (rd t525 x9_3) 0 (wrap64 ((l0.length : Int) - 1)) true _ A32.out).mono ?_); rintro e w' ⟨rfl, ⟨nd, rfl⟩⟩; refine ⟨_, rfl, ?_⟩))
            go_roundg k3
            case measure => have := HK1.out; have := HJ16.out; have := HK3.out; omega
            case rel => exact ⟨(wrap64 (x9_3 + 1)), (by first | rfl | (simp; done) | (simp [*]; done)), H', ⟨by have := HK1.out; have := HJ16.out; have := HK3.out; omega⟩, ⟨by (with_reducible repeat (first | apply Kd.rA | apply Kd.rN | apply Kd.rD)); exact HO_3.out⟩, ⟨by (with_reducible repeat (first | apply Kd.rA | apply Kd.rN | apply Kd.rD)); exact HO_5.out⟩, ⟨by (with_reducible repeat (first | apply Kd.rA | apply Kd.rN | apply Kd.rD)); exact HO_7.out⟩, ⟨by (with_reducible repeat (first | refine bN ?_ _ | refine bD ?_ | refine bA ?_ _)); exact BK530.out⟩, ⟨by (with_reducible repeat (first | refine bN ?_ _ | refine bD ?_ | refine bA ?_ _)); exact BK540.out⟩, ⟨by repeat (first | (with_reducible first | exact HB.out | apply lA | apply lN | apply lD | refine lS ?_ GE530.out | refine lS ?_ GE540.out) | exact HB.out)⟩⟩
          rw [if_neg c34] at H
          have c34b0 : (x9_3 == x6_1) = false := beq_eq_false_iff_ne.mpr c34
          have c34b1 : (x9_3 != x6_1) = true := bne_iff_ne.mpr c34
          by_cases c35 : 0 ≤ (rd t525 x9_3)
          rotate_left
          · rw [if_neg c35] at H
            exact absurd H (by simp)
          rw [if_pos c35] at H
          have c35b0 : decide (0 ≤ (rd t525 x9_3)) = true := decide_eq_true c35
          clear c35
          by_cases c36 : (rd t525 x9_3) < (t535.length : Int)
          rotate_left
          · rw [if_neg c36] at H
            exact absurd H (by simp)
          rw [if_pos c36] at H
          have c36b0 : decide ((rd t525 x9_3) < (t535.length : Int)) = true := decide_eq_true c36
          clear c36
          obtain ⟨bq37, hbq37⟩ : ∃ b_ : Bool, b_ = (rdOf false t535 (rd t525 x9_3)) := ⟨_, rfl⟩
          replace H : (if bq37 = true then (some false) else (changeforgelaw3_HistoryHeadsReachAll.l1 k3 l0 t525 x5_1 x6_1 t535 (wrap64 (x9_3 + 1)))) = some r := by rw [← hbq37] at H; exact H
          have Nbq37 := aZ hbq37
          clear hbq37
          by_cases c38 : bq37 = true
          · subst c38
            have H1 : (some false) = some r := by rw [if_pos rfl] at H; exact H
            clear H
            have H := H1
            clear H1
            obtain rfl := Option.some.inj H
            have p541 : 0 ≤ (x9_3 : Int) := of_decide_eq_true (by first | (with_reducible assumption) | assumption)
            have q541 : x9_3 < (t525.length : Int) := of_decide_eq_true (by first | (with_reducible assumption) | assumption)
            obtain ⟨ad541, e541, hx541_0⟩ := Kd.at_int (Kd.R_reads' HO_3.out).2.2 x9_3 p541 q541
            obtain rfl : ad534 = ad541 := (by injection e541)
            replace p541 := eq_true p541
            replace q541 := eq_true q541
            go_wp2_with (first | ((with_reducible refine gate_callee (f := 18) rfl ?_); refine goesL_ (some 66) rfl rfl Try.func18 (by kernel_rfl) rfl #[.int .i64 (rd t525 x9_3), .int .i64 0, .int .i64 (wrap64 ((l0.length : Int) - 1))] rfl (by (try simp only [List.map_toArray, List.map_cons, List.map_nil]); first | done | rfl | (simp only [List.length_drop, List.length_take]; rfl)) ?_; (with_reducible refine (changeforgeref3_In.calls (rd t525 x9_3) 0 (wrap64 ((l0.length : Int) - 1)) true _ A32.out).mono ?_); rintro e w' ⟨rfl, ⟨nd, rfl⟩⟩; refine ⟨_, rfl, ?_⟩; have p543 : 0 ≤ (x9_3 : Int) := of_decide_eq_true (by first | (with_reducible assumption) | assumption); have q543 : x9_3 < (t525.length : Int) := of_decide_eq_true (by first | (with_reducible assumption) | assumption); obtain ⟨ad543, e543, hx543_0⟩ := Kd.at_int (Kd.R_reads' HO_3.out).2.2 x9_3 p543 q543; obtain rfl : ad534 = ad543 := (by injection e543); replace p543 := eq_true p543; replace q543 := eq_true q543; obtain ⟨Ao39, co39, eo39⟩ := Kd.R_slice HO_7.out; subst eo39; have p544 : 0 ≤ ((rd t525 x9_3) : Int) := of_decide_eq_true (by first | (with_reducible assumption) | assumption); have q544 : (rd t525 x9_3) < (t535.length : Int) := of_decide_eq_true (by first | (with_reducible assumption) | assumption); obtain ⟨ad544, e544, hx544_0⟩ := Kd.at_bool (Kd.R_reads' HO_7.out).2.2 (rd t525 x9_3) p544 q544; (try rw [← Nbq37.out] at hx544_0); cases e544; replace p544 := eq_true p544; replace q544 := eq_true q544))
            go_ret
            exact ⟨by first | rfl | (simp [errW_none, errW_some] <;> rfl) | (simp [*, errW_none, errW_some] <;> rfl), by repeat (first | (with_reducible first | exact HB.out | apply lA | apply lN | apply lD | refine lS ?_ GE530.out | refine lS ?_ GE540.out) | exact HB.out)⟩
          replace c38 := Bool.eq_false_iff.mpr c38
          subst c38
          have H1 : (changeforgelaw3_HistoryHeadsReachAll.l1 k3 l0 t525 x5_1 x6_1 t535 (wrap64 (x9_3 + 1))) = some r := by rw [if_neg (show ¬ (false = true) by decide)] at H; exact H
          clear H
          have H := H1
          clear H1
          have H' := aZ H
          clear H
          have p541 : 0 ≤ (x9_3 : Int) := of_decide_eq_true (by first | (with_reducible assumption) | assumption)
          have q541 : x9_3 < (t525.length : Int) := of_decide_eq_true (by first | (with_reducible assumption) | assumption)
          obtain ⟨ad541, e541, hx541_0⟩ := Kd.at_int (Kd.R_reads' HO_3.out).2.2 x9_3 p541 q541
          obtain rfl : ad534 = ad541 := (by injection e541)
          replace p541 := eq_true p541
          replace q541 := eq_true q541
          go_wp2_with (first | ((with_reducible refine gate_callee (f := 18) rfl ?_); refine goesL_ (some 66) rfl rfl Try.func18 (by kernel_rfl) rfl #[.int .i64 (rd t525 x9_3), .int .i64 0, .int .i64 (wrap64 ((l0.length : Int) - 1))] rfl (by (try simp only [List.map_toArray, List.map_cons, List.map_nil]); first | done | rfl | (simp only [List.length_drop, List.length_take]; rfl)) ?_; (with_reducible refine (changeforgeref3_In.calls (rd t525 x9_3) 0 (wrap64 ((l0.length : Int) - 1)) true _ A32.out).mono ?_); rintro e w' ⟨rfl, ⟨nd, rfl⟩⟩; refine ⟨_, rfl, ?_⟩; have p543 : 0 ≤ (x9_3 : Int) := of_decide_eq_true (by first | (with_reducible assumption) | assumption); have q543 : x9_3 < (t525.length : Int) := of_decide_eq_true (by first | (with_reducible assumption) | assumption); obtain ⟨ad543, e543, hx543_0⟩ := Kd.at_int (Kd.R_reads' HO_3.out).2.2 x9_3 p543 q543; obtain rfl : ad534 = ad543 := (by injection e543); replace p543 := eq_true p543; replace q543 := eq_true q543; obtain ⟨Ao40, co40, eo40⟩ := Kd.R_slice HO_7.out; subst eo40; have p544 : 0 ≤ ((rd t525 x9_3) : Int) := of_decide_eq_true (by first | (with_reducible assumption) | assumption); have q544 : (rd t525 x9_3) < (t535.length : Int) := of_decide_eq_true (by first | (with_reducible assumption) | assumption); obtain ⟨ad544, e544, hx544_0⟩ := Kd.at_bool (Kd.R_reads' HO_7.out).2.2 (rd t525 x9_3) p544 q544; (try rw [← Nbq37.out] at hx544_0); cases e544; replace p544 := eq_true p544; replace q544 := eq_true q544))
          go_roundg k3
          case measure => have := HK1.out; have := HJ16.out; have := HK3.out; omega
          case rel => exact ⟨(wrap64 (x9_3 + 1)), (by first | rfl | (simp; done) | (simp [*]; done)), H', ⟨by have := HK1.out; have := HJ16.out; have := HK3.out; omega⟩, ⟨by (with_reducible repeat (first | apply Kd.rA | apply Kd.rN | apply Kd.rD)); exact HO_3.out⟩, ⟨by (with_reducible repeat (first | apply Kd.rA | apply Kd.rN | apply Kd.rD)); exact HO_5.out⟩, ⟨by (with_reducible repeat (first | apply Kd.rA | apply Kd.rN | apply Kd.rD)); exact HO_7.out⟩, ⟨by (with_reducible repeat (first | refine bN ?_ _ | refine bD ?_ | refine bA ?_ _)); exact BK530.out⟩, ⟨by (with_reducible repeat (first | refine bN ?_ _ | refine bD ?_ | refine bA ?_ _)); exact BK540.out⟩, ⟨by repeat (first | (with_reducible first | exact HB.out | apply lA | apply lN | apply lD | refine lS ?_ GE530.out | refine lS ?_ GE540.out) | exact HB.out)⟩⟩
        rw [if_neg c30] at H
        have c30b0 : decide (x9_3 < (t525.length : Int)) = false := decide_eq_false c30
        clear c30
        have H' := aZ H
        clear H
        go_wp2
        go_loopg [10] k3 (fun kq v10 w' => ∃ (x5_4 : List Bool) (x10_4 : Int), v10 = .int .i64 x10_4 ∧ Aside0 (changeforgelaw3_HistoryHeadsReachAll.l2 kq l0 t525 x5_4 x6_1 t535 x10_4 = some r) ∧ Aside0 (kq ≤ k3) ∧ Aside0 (Kd.R (Kd.int .i64) 3 w' w.heap.size (fun _ => True) (.slice (some ad534) t525.length co18) t525) ∧ Aside0 (Kd.R Kd.bool 4 w' w.heap.size (fun k_ => some k_ ≠ (v536 : Value).ownBlock) v532 x5_4) ∧ Aside0 (Kd.R Kd.bool 4 w' w.heap.size (fun k_ => some k_ ≠ (v532 : Value).ownBlock) v536 t535) ∧ Aside0 (w'.heap[gb530]? = some (.cells #[.int .i64 t528, .int .i64 t529] 26 (0, 0))) ∧ Aside0 (w'.heap[gb540]? = some (.cells #[.int .i64 t538, .int .i64 t539] 26 (0, 0))) ∧ Aside0 (Below w.heap.size w w'))
        case atStart => exact ⟨(x5_1), (0), (by first | rfl | (simp; done) | (simp [*]; done)), H', ⟨Nat.le_refl _⟩, ⟨by (with_reducible repeat (first | apply Kd.rA | apply Kd.rN | apply Kd.rD)); exact HO_3.out⟩, ⟨by (with_reducible repeat (first | apply Kd.rA | apply Kd.rN | apply Kd.rD)); exact HO_5.out⟩, ⟨by (with_reducible repeat (first | apply Kd.rA | apply Kd.rN | apply Kd.rD)); exact HO_7.out⟩, ⟨by (with_reducible repeat (first | refine bN ?_ _ | refine bD ?_ | refine bA ?_ _)); exact BK530.out⟩, ⟨by (with_reducible repeat (first | refine bN ?_ _ | refine bD ?_ | refine bA ?_ _)); exact BK540.out⟩, ⟨by repeat (first | (with_reducible first | exact HB.out | apply lA | apply lN | apply lD | refine lS ?_ GE530.out | refine lS ?_ GE540.out) | exact HB.out)⟩⟩
        case round =>
         clear H'
         (try clear c30); (try clear c30b0)
         obtain ⟨x5_4, x10_4, rfl, HA, HK4, HO_3, HO_5, HO_7, BK530, BK540, HB⟩ := hrel
         cases gk with
         | zero => exact absurd HA.out (by simp [changeforgelaw3_HistoryHeadsReachAll.l2])
         | succ k4 =>
          have H := HA.out
          clear HA
          simp only [changeforgelaw3_HistoryHeadsReachAll.l2] at H
          by_cases c41 : x10_4 < (l0.length : Int)
          rotate_left
          · rw [if_neg c41] at H
            have c41b0 : decide (x10_4 < (l0.length : Int)) = false := decide_eq_false c41
            clear c41
            have H' := aZ H
            clear H
            go_wp2
            go_roundg k4
            case measure => have := HK1.out; have := HJ16.out; have := HK3.out; have := HK4.out; omega
            case rel => exact ⟨(x5_4), (wrap64 (x6_1 + 1)), (by first | rfl | (simp; done) | (simp [*]; done)), H', ⟨by have := HK1.out; have := HJ16.out; have := HK3.out; have := HK4.out; omega⟩, ⟨by (with_reducible repeat (first | apply Kd.rA | apply Kd.rN | apply Kd.rD)); exact HO_3.out⟩, ⟨by (with_reducible repeat (first | apply Kd.rA | apply Kd.rN | apply Kd.rD)); exact Kd.R_mono HO_5.out (fun _ hk => trivial)⟩, ⟨by (with_reducible repeat (first | refine bN ?_ _ | refine bD ?_ | refine bA ?_ _)); exact BK530.out⟩, ⟨by repeat (first | (with_reducible first | exact HB.out | apply lA | apply lN | apply lD | refine lS ?_ GE530.out | refine lS ?_ GE540.out) | exact HB.out)⟩⟩
          rw [if_pos c41] at H
          have c41b0 : decide (x10_4 < (l0.length : Int)) = true := decide_eq_true c41
          clear c41
          by_cases c42 : 0 ≤ x10_4
          rotate_left
          · rw [if_neg c42] at H
            exact absurd H (by simp)
          rw [if_pos c42] at H
          have c42b0 : decide (0 ≤ x10_4) = true := decide_eq_true c42
          clear c42
          by_cases c43 : x10_4 < (x5_4.length : Int)
          rotate_left
          · rw [if_neg c43] at H
            exact absurd H (by simp)
          rw [if_pos c43] at H
          have c43b0 : decide (x10_4 < (x5_4.length : Int)) = true := decide_eq_true c43
          clear c43
          obtain ⟨bq44, hbq44⟩ : ∃ b_ : Bool, b_ = (rdOf false x5_4 x10_4) := ⟨_, rfl⟩
          replace H : (if bq44 = true then (changeforgelaw3_HistoryHeadsReachAll.l2 k4 l0 t525 (x5_4.set (x10_4 : Int).toNat true) x6_1 t535 (wrap64 (x10_4 + 1))) else (if x10_4 < (t535.length : Int) then (changeforgelaw3_HistoryHeadsReachAll.l2 k4 l0 t525 (x5_4.set (x10_4 : Int).toNat (rdOf false t535 x10_4)) x6_1 t535 (wrap64 (x10_4 + 1))) else (none))) = some r := by rw [← hbq44] at H; exact H
          have Nbq44 := aZ hbq44
          clear hbq44
          by_cases c45 : bq44 = true
          · subst c45
            have H1 : (changeforgelaw3_HistoryHeadsReachAll.l2 k4 l0 t525 (x5_4.set (x10_4 : Int).toNat true) x6_1 t535 (wrap64 (x10_4 + 1))) = some r := by rw [if_pos rfl] at H; exact H
            clear H
            have H := H1
            clear H1
            obtain ⟨y546, hy546⟩ : ∃ y_ : List Bool, y_ = (x5_4.set (x10_4 : Int).toNat true) := ⟨_, rfl⟩
            replace H : (changeforgelaw3_HistoryHeadsReachAll.l2 k4 l0 t525 y546 x6_1 t535 (wrap64 (x10_4 + 1))) = some r := by first | (rw [hy546]; with_reducible exact H) | (have H2_ := (Option.bind_some _ _).symm.trans H; rw [hy546]; with_reducible exact H2_) | (have H2_ := (Option.bind_some _ _).symm.trans H; with_reducible exact H2_) | with_reducible exact H | (rw [hy546]; exact H) | exact H
            have Ny546 := aZ hy546
            clear hy546
            have H' := aZ H
            clear H
            obtain ⟨Ao47, co47, eo47⟩ := Kd.R_slice HO_5.out
            subst eo47
            have p545 : 0 ≤ (x10_4 : Int) := of_decide_eq_true (by first | (with_reducible assumption) | assumption)
            have q545 : x10_4 < (x5_4.length : Int) := of_decide_eq_true (by first | (with_reducible assumption) | assumption)
            obtain ⟨ad545, e545, hx545_0⟩ := Kd.at_bool (Kd.R_reads' HO_5.out).2.2 x10_4 p545 q545
            (try rw [← Nbq44.out] at hx545_0)
            cases e545
            replace p545 := eq_true p545
            replace q545 := eq_true q545
            have p46 : 0 ≤ (x10_4 : Int) := of_decide_eq_true (by first | (with_reducible assumption) | assumption)
            have q46 : (x10_4 : Int) < ((x5_4.length : Int) : Int) := of_decide_eq_true (by first | (with_reducible assumption) | assumption)
            obtain ⟨go46, co46, eo46, gb46, gl46, cl46, HG46⟩ := Kd.R_form HO_5.out (by omega)
            (first | cases eo46 | (injection eo46 with ea_ en_ ec_; (first | subst ea_ | (injection ea_ with ea_; subst ea_)); subst ec_; clear en_))
            have GB46 := aZ gb46
            have GG46 := aZ HG46
            clear gb46 gl46 HG46
            (first | simp only [add_plain] at hx545_0 | skip)
            obtain ⟨hx46_0, hf46_0⟩ := Kd.R_celln false HO_5.out (x10_4 : Int) p46 q46
            replace p46 := eq_true p46
            replace q46 := eq_true q46
            have HP48 := Kd.R_putg HO_5.out (x10_4 : Int) true
            go_wp2_with (first | ((with_reducible refine gate_store (t := 4) (p := 100) rfl ?_); refine store_event (t := 4) (p := 100) (v := ?vo_w49) (w1 := (wr.setCell ⟨go46, (x10_4 : Int).toNat, none⟩ (.bool true))) ?hg ?ho ?hn ?hr ?_; (case ho => rfl); (case hg => rfl); (case hn => rfl); (case hr => first | (go_simp; done) | (go_simp; rfl)); intro w49 hw; have hg : wr.grownBy w49 (some go46) := (by rw [hw]; exact HP48.2); have hp_ : Kd.R Kd.bool 4 w49 w.heap.size (fun k_ => some k_ ≠ (v536 : Value).ownBlock) (.slice (some ⟨go46, 0, none⟩) x5_4.length co47) y546 := (by rw [hw, Ny546.out]; exact HP48.1); clear HP48; have n0_ := aZ (Kd.R_over' (v := (.slice (some ⟨go46, 0, none⟩) x5_4.length co47)) (by (with_reducible repeat (first | apply Kd.rA | apply Kd.rN | apply Kd.rD)); exact HO_3.out) (Kd.R_typed HO_5.out) (by decide) hg); have n1_ := aZ (hp_); have n2_ := aZ (Kd.R_after (v := (.slice (some ⟨go46, 0, none⟩) x5_4.length co47)) (v1 := (.slice (some ⟨go46, 0, none⟩) x5_4.length co47)) (ok := (fun _ => True)) (by (with_reducible repeat (first | apply Kd.rA | apply Kd.rN | apply Kd.rD)); exact Kd.R_mono HO_7.out (fun _ hk => ⟨trivial, hk⟩)) hg (.inl rfl)); have n3_ := aZ (blk_grown (g := gb530) (o := .cells #[.int .i64 t528, .int .i64 t529] 26 (0, 0)) (by (with_reducible repeat (first | refine bN ?_ _ | refine bD ?_ | refine bA ?_ _)); exact BK530.out) hg (Kd.R_ne HO_5.out BK530.out (by decide))); have n4_ := aZ (blk_grown (g := gb540) (o := .cells #[.int .i64 t538, .int .i64 t539] 26 (0, 0)) (by (with_reducible repeat (first | refine bN ?_ _ | refine bD ?_ | refine bA ?_ _)); exact BK540.out) hg (Kd.R_ne HO_5.out BK540.out (by decide))); have n5_ := aZ ((by rw [hw]; exact lS (HB.out) GB46.out : Below w.heap.size w w49)); clear HO_3; clear HO_5; clear HO_7; clear BK530; clear BK540; clear HB; have HO_3 := n0_; have HO_5 := n1_; have HO_7 := n2_; have BK530 := n3_; have BK540 := n4_; have HB := n5_; clear n0_ n1_ n2_ n3_ n4_ n5_; clear hg hw hp_))
            go_roundg k4
            case measure => have := HK1.out; have := HJ16.out; have := HK3.out; have := HK4.out; omega
            case rel => exact ⟨(y546), (wrap64 (x10_4 + 1)), (by first | rfl | (simp; done) | (simp [*]; done)), H', ⟨by have := HK1.out; have := HJ16.out; have := HK3.out; have := HK4.out; omega⟩, ⟨by (with_reducible repeat (first | apply Kd.rA | apply Kd.rN | apply Kd.rD)); exact HO_3.out⟩, ⟨by (with_reducible repeat (first | apply Kd.rA | apply Kd.rN | apply Kd.rD)); exact HO_5.out⟩, ⟨by (with_reducible repeat (first | apply Kd.rA | apply Kd.rN | apply Kd.rD)); exact Kd.R_mono HO_7.out (fun _ hk => hk.2)⟩, ⟨by (with_reducible repeat (first | refine bN ?_ _ | refine bD ?_ | refine bA ?_ _)); exact BK530.out⟩, ⟨by (with_reducible repeat (first | refine bN ?_ _ | refine bD ?_ | refine bA ?_ _)); exact BK540.out⟩, ⟨by repeat (first | (with_reducible first | exact HB.out | apply lA | apply lN | apply lD | refine lS ?_ GE530.out | refine lS ?_ GE540.out) | exact HB.out)⟩⟩
          replace c45 := Bool.eq_false_iff.mpr c45
          subst c45
          have H1 : (if x10_4 < (t535.length : Int) then (changeforgelaw3_HistoryHeadsReachAll.l2 k4 l0 t525 (x5_4.set (x10_4 : Int).toNat (rdOf false t535 x10_4)) x6_1 t535 (wrap64 (x10_4 + 1))) else (none)) = some r := by rw [if_neg (show ¬ (false = true) by decide)] at H; exact H
          clear H
          have H := H1
          clear H1
          by_cases c50 : x10_4 < (t535.length : Int)
          rotate_left
          · rw [if_neg c50] at H
            exact absurd H (by simp)
          rw [if_pos c50] at H
          have c50b0 : decide (x10_4 < (t535.length : Int)) = true := decide_eq_true c50
          clear c50
          obtain ⟨y548, hy548⟩ : ∃ y_ : List Bool, y_ = (x5_4.set (x10_4 : Int).toNat (rdOf false t535 x10_4)) := ⟨_, rfl⟩
          replace H : (changeforgelaw3_HistoryHeadsReachAll.l2 k4 l0 t525 y548 x6_1 t535 (wrap64 (x10_4 + 1))) = some r := by first | (rw [hy548]; with_reducible exact H) | (have H2_ := (Option.bind_some _ _).symm.trans H; rw [hy548]; with_reducible exact H2_) | (have H2_ := (Option.bind_some _ _).symm.trans H; with_reducible exact H2_) | with_reducible exact H | (rw [hy548]; exact H) | exact H
          have Ny548 := aZ hy548
          clear hy548
          have H' := aZ H
          clear H
          obtain ⟨Ao52, co52, eo52⟩ := Kd.R_slice HO_5.out
          subst eo52
          have p545 : 0 ≤ (x10_4 : Int) := of_decide_eq_true (by first | (with_reducible assumption) | assumption)
          have q545 : x10_4 < (x5_4.length : Int) := of_decide_eq_true (by first | (with_reducible assumption) | assumption)
          obtain ⟨ad545, e545, hx545_0⟩ := Kd.at_bool (Kd.R_reads' HO_5.out).2.2 x10_4 p545 q545
          (try rw [← Nbq44.out] at hx545_0)
          cases e545
          replace p545 := eq_true p545
          replace q545 := eq_true q545
          obtain ⟨Ao53, co53, eo53⟩ := Kd.R_slice HO_7.out
          subst eo53
          have p547 : 0 ≤ (x10_4 : Int) := of_decide_eq_true (by first | (with_reducible assumption) | assumption)
          have q547 : x10_4 < (t535.length : Int) := of_decide_eq_true (by first | (with_reducible assumption) | assumption)
          obtain ⟨ad547, e547, hx547_0⟩ := Kd.at_bool (Kd.R_reads' HO_7.out).2.2 x10_4 p547 q547
          (try rw [← Nbq44.out] at hx547_0)
          cases e547
          replace p547 := eq_true p547
          replace q547 := eq_true q547
          have p51 : 0 ≤ (x10_4 : Int) := of_decide_eq_true (by first | (with_reducible assumption) | assumption)
          have q51 : (x10_4 : Int) < ((x5_4.length : Int) : Int) := of_decide_eq_true (by first | (with_reducible assumption) | assumption)
          obtain ⟨go51, co51, eo51, gb51, gl51, cl51, HG51⟩ := Kd.R_form HO_5.out (by omega)
          (first | cases eo51 | (injection eo51 with ea_ en_ ec_; (first | subst ea_ | (injection ea_ with ea_; subst ea_)); subst ec_; clear en_))
          have GB51 := aZ gb51
          have GG51 := aZ HG51
          clear gb51 gl51 HG51
          (first | simp only [add_plain] at hx545_0 | skip)
          obtain ⟨hx51_0, hf51_0⟩ := Kd.R_celln false HO_5.out (x10_4 : Int) p51 q51
          replace p51 := eq_true p51
          replace q51 := eq_true q51
          have HP54 := Kd.R_putg HO_5.out (x10_4 : Int) (rdOf false t535 x10_4)
          go_wp2_with (first | ((with_reducible refine gate_store (t := 4) (p := 100) rfl ?_); refine store_event (t := 4) (p := 100) (v := ?vo_w55) (w1 := (wr.setCell ⟨go51, (x10_4 : Int).toNat, none⟩ (.bool (rdOf false t535 x10_4)))) ?hg ?ho ?hn ?hr ?_; (case ho => rfl); (case hg => rfl); (case hn => rfl); (case hr => first | (go_simp; done) | (go_simp; rfl)); intro w55 hw; have hg : wr.grownBy w55 (some go51) := (by rw [hw]; exact HP54.2); have hp_ : Kd.R Kd.bool 4 w55 w.heap.size (fun k_ => some k_ ≠ (.slice (some ad547) t535.length co53 : Value).ownBlock) (.slice (some ⟨go51, 0, none⟩) x5_4.length co52) y548 := (by rw [hw, Ny548.out]; exact HP54.1); clear HP54; have n0_ := aZ (Kd.R_over' (v := (.slice (some ⟨go51, 0, none⟩) x5_4.length co52)) (by (with_reducible repeat (first | apply Kd.rA | apply Kd.rN | apply Kd.rD)); exact HO_3.out) (Kd.R_typed HO_5.out) (by decide) hg); have n1_ := aZ (hp_); have n2_ := aZ (Kd.R_after (v := (.slice (some ⟨go51, 0, none⟩) x5_4.length co52)) (v1 := (.slice (some ⟨go51, 0, none⟩) x5_4.length co52)) (ok := (fun _ => True)) (by (with_reducible repeat (first | apply Kd.rA | apply Kd.rN | apply Kd.rD)); exact Kd.R_mono HO_7.out (fun _ hk => ⟨trivial, hk⟩)) hg (.inl rfl)); have n3_ := aZ (blk_grown (g := gb530) (o := .cells #[.int .i64 t528, .int .i64 t529] 26 (0, 0)) (by (with_reducible repeat (first | refine bN ?_ _ | refine bD ?_ | refine bA ?_ _)); exact BK530.out) hg (Kd.R_ne HO_5.out BK530.out (by decide))); have n4_ := aZ (blk_grown (g := gb540) (o := .cells #[.int .i64 t538, .int .i64 t539] 26 (0, 0)) (by (with_reducible repeat (first | refine bN ?_ _ | refine bD ?_ | refine bA ?_ _)); exact BK540.out) hg (Kd.R_ne HO_5.out BK540.out (by decide))); have n5_ := aZ ((by rw [hw]; exact lS (HB.out) GB51.out : Below w.heap.size w w55)); clear HO_3; clear HO_5; clear HO_7; clear BK530; clear BK540; clear HB; have HO_3 := n0_; have HO_5 := n1_; have HO_7 := n2_; have BK530 := n3_; have BK540 := n4_; have HB := n5_; clear n0_ n1_ n2_ n3_ n4_ n5_; clear hg hw hp_))
          go_roundg k4
          case measure => have := HK1.out; have := HJ16.out; have := HK3.out; have := HK4.out; omega
          case rel => exact ⟨(y548), (wrap64 (x10_4 + 1)), (by first | rfl | (simp; done) | (simp [*]; done)), H', ⟨by have := HK1.out; have := HJ16.out; have := HK3.out; have := HK4.out; omega⟩, ⟨by (with_reducible repeat (first | apply Kd.rA | apply Kd.rN | apply Kd.rD)); exact HO_3.out⟩, ⟨by (with_reducible repeat (first | apply Kd.rA | apply Kd.rN | apply Kd.rD)); exact HO_5.out⟩, ⟨by (with_reducible repeat (first | apply Kd.rA | apply Kd.rN | apply Kd.rD)); exact Kd.R_mono HO_7.out (fun _ hk => hk.2)⟩, ⟨by (with_reducible repeat (first | refine bN ?_ _ | refine bD ?_ | refine bA ?_ _)); exact BK530.out⟩, ⟨by (with_reducible repeat (first | refine bN ?_ _ | refine bD ?_ | refine bA ?_ _)); exact BK540.out⟩, ⟨by repeat (first | (with_reducible first | exact HB.out | apply lA | apply lN | apply lD | refine lS ?_ GE530.out | refine lS ?_ GE540.out) | exact HB.out)⟩⟩
/-- THE PURE STATEMENT of changeforgelaw3_HistoryHeadsReachAll. -/
def changeforgelaw3_HistoryHeadsReachAll.Pure : Prop := ∀ (l0 : List (S49)), (l0.length * 64 ≤ 140737488351232 ∧ ∀ x_ ∈ l0, S49.ok x_) → ∃ k, changeforgelaw3_HistoryHeadsReachAll.f k l0 = some true

end Go.Proofs.Ytojhnjgnpjoacaa.P
