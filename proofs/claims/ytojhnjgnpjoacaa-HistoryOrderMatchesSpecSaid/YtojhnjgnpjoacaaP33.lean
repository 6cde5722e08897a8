/- What the Go functions of this seat compute, and that they do: printed by a program over the kit's print. -/
import Derived.Test.YtojhnjgnpjoacaaP0
import Derived.Test.YtojhnjgnpjoacaaP1
import Derived.Test.YtojhnjgnpjoacaaP10
import Derived.Test.YtojhnjgnpjoacaaP11
import Derived.Test.YtojhnjgnpjoacaaP21
import Derived.Test.YtojhnjgnpjoacaaP22
import Derived.Test.YtojhnjgnpjoacaaP26
import Derived.Test.YtojhnjgnpjoacaaP28
import Derived.Test.YtojhnjgnpjoacaaP30
import Derived.Test.YtojhnjgnpjoacaaP31
import Derived.Test.YtojhnjgnpjoacaaP32
namespace Go.Proofs.Ytojhnjgnpjoacaa.P
open Go.RowKit Go.Proofs.YtojhnjgnpjoacaaW.PrintWords Go.Proofs.YtojhnjgnpjoacaaW.PrintLast Go.Proofs.YtojhnjgnpjoacaaW.PrintMore
attribute [local go_sem] max2_int min2_int max_two min_two max_three min_three max_four min_four   -- for this text's walks alone
set_option linter.unusedVariables false
set_option linter.unusedSimpArgs false

attribute [local go_sem high] eqA26
/-! ### changeforgelaw3_HistoryOrderMatchesSpec: function 11 -/
mutual
def changeforgelaw3_HistoryOrderMatchesSpec.j0 : Nat → List (S49) → Option (Bool)
  | 0, _ => none
  | k + 1, x0 => (history_Heads.f k x0).bind fun bt589 => ((history_Order.f k x0).bind fun bt595 => ((history_Generations.f k x0).bind fun bt601 => ((changeforgeref3_HistoryFault.f k x0).bind fun bt607 => (if bt607.1 = 0 then (changeforgelaw3_HistoryOrderMatchesSpec.j1 k x0 bt589.1 bt595.1 bt601.1 bt589.2.1 bt589.2.2 bt595.2.1 bt595.2.2 bt601.2.1 bt601.2.2) else (if (bt589.2.1 == bt607.1 && (bt589.2.2 == bt607.2)) = true then (if (bt595.2.1 == bt607.1 && (bt595.2.2 == bt607.2)) = true then (if (bt601.2.1 == bt607.1 && (bt601.2.2 == bt607.2)) = true then (some ((wrap64 ((wrap64 ((bt589.1.length : Int) + (bt595.1.length : Int))) + (bt601.1.length : Int))) == 0)) else (some false)) else (some false)) else (some false))))))
def changeforgelaw3_HistoryOrderMatchesSpec.j1 : Nat → List (S49) → List Int → List Int → List Int → Int → Int → Int → Int → Int → Int → Option (Bool)
  | 0, _, _, _, _, _, _, _, _, _, _ => none
  | k + 1, x0, x3, x5, x7, x595000, x595001, x601000, x601001, x607000, x607001 => if x595000 = 0 then (if x601000 = 0 then (if x607000 = 0 then ((changeforgeref3_HeadsOf.f k x0).bind fun t610 => ((changeforgeref3_Ints.f k x3 t610).bind fun t613 => (if t613 = true then ((changeforgeref3_OrderOf.f k x0).bind fun t614 => ((changeforgeref3_Ints.f k x5 t614).bind fun t617 => (if t617 = true then ((changeforgeref3_GenerationsOf.f k x0).bind fun t618 => ((changeforgeref3_Ints.f k x7 t618).bind fun t621 => (some t621))) else (some false)))) else (some false)))) else (some false)) else (some false)) else (some false)
end
def changeforgelaw3_HistoryOrderMatchesSpec.f (k : Nat) (l0 : List (S49)) : Option (Bool) := (changeforgelaw3_historyExample.f k).bind fun t588 => (if t588 = true then (changeforgelaw3_HistoryOrderMatchesSpec.j0 k l0) else (some false))
theorem changeforgelaw3_HistoryOrderMatchesSpec.mono_l : ∀ k, (∀ y0, LeO (changeforgelaw3_HistoryOrderMatchesSpec.j0 k y0) (changeforgelaw3_HistoryOrderMatchesSpec.j0 (k + 1) y0)) ∧ (∀ y0 y1 y2 y3 y4 y5 y6 y7 y8 y9, LeO (changeforgelaw3_HistoryOrderMatchesSpec.j1 k y0 y1 y2 y3 y4 y5 y6 y7 y8 y9) (changeforgelaw3_HistoryOrderMatchesSpec.j1 (k + 1) y0 y1 y2 y3 y4 y5 y6 y7 y8 y9))
  | 0 => ⟨fun _ r h => by simp [changeforgelaw3_HistoryOrderMatchesSpec.j0] at h, fun _ _ _ _ _ _ _ _ _ _ r h => by simp [changeforgelaw3_HistoryOrderMatchesSpec.j1] at h⟩
  | k + 1 => by
    obtain ⟨ih0, ih1⟩ := changeforgelaw3_HistoryOrderMatchesSpec.mono_l k
    refine ⟨?_, ?_⟩
    · intro y0
      unfold changeforgelaw3_HistoryOrderMatchesSpec.j0
      repeat' first
      | (with_reducible exact ih0 _)
      | (with_reducible exact ih1 _ _ _ _ _ _ _ _ _ _)
      | (with_reducible exact changeforgelaw3_historyExample.mono _)
      | (with_reducible exact changeforgeref3_GenerationsOf.mono _ _)
      | (with_reducible exact changeforgeref3_HeadsOf.mono _ _)
      | (with_reducible exact changeforgeref3_HistoryFault.mono _ _)
      | (with_reducible exact changeforgeref3_Ints.mono _ _ _)
      | (with_reducible exact changeforgeref3_OrderOf.mono _ _)
      | (with_reducible exact history_Generations.mono _ _)
      | (with_reducible exact history_Heads.mono _ _)
      | (with_reducible exact history_Order.mono _ _)
      | (with_reducible exact LeO.refl _)
      | (with_reducible exact LeO.none _)
      | (with_reducible refine LeO.ite ?_ ?_)
      | (with_reducible refine LeO.bind ?_ (fun _ => ?_))
      | exact ih0 _
      | exact ih1 _ _ _ _ _ _ _ _ _ _
      | exact changeforgelaw3_historyExample.mono _
      | exact changeforgeref3_GenerationsOf.mono _ _
      | exact changeforgeref3_HeadsOf.mono _ _
      | exact changeforgeref3_HistoryFault.mono _ _
      | exact changeforgeref3_Ints.mono _ _ _
      | exact changeforgeref3_OrderOf.mono _ _
      | exact history_Generations.mono _ _
      | exact history_Heads.mono _ _
      | exact history_Order.mono _ _
      | exact LeO.none _
      | refine LeO.ite ?_ ?_
      | refine LeO.bind ?_ (fun _ => ?_)
    · intro y0 y1 y2 y3 y4 y5 y6 y7 y8 y9
      unfold changeforgelaw3_HistoryOrderMatchesSpec.j1
      repeat' first
      | (with_reducible exact ih0 _)
      | (with_reducible exact ih1 _ _ _ _ _ _ _ _ _ _)
      | (with_reducible exact changeforgelaw3_historyExample.mono _)
      | (with_reducible exact changeforgeref3_GenerationsOf.mono _ _)
      | (with_reducible exact changeforgeref3_HeadsOf.mono _ _)
      | (with_reducible exact changeforgeref3_HistoryFault.mono _ _)
      | (with_reducible exact changeforgeref3_Ints.mono _ _ _)
      | (with_reducible exact changeforgeref3_OrderOf.mono _ _)
      | (with_reducible exact history_Generations.mono _ _)
      | (with_reducible exact history_Heads.mono _ _)
      | (with_reducible exact history_Order.mono _ _)
      | (with_reducible exact LeO.refl _)
      | (with_reducible exact LeO.none _)
      | (with_reducible refine LeO.ite ?_ ?_)
      | (with_reducible refine LeO.bind ?_ (fun _ => ?_))
      | exact ih0 _
      | exact ih1 _ _ _ _ _ _ _ _ _ _
      | exact changeforgelaw3_historyExample.mono _
      | exact changeforgeref3_GenerationsOf.mono _ _
      | exact changeforgeref3_HeadsOf.mono _ _
      | exact changeforgeref3_HistoryFault.mono _ _
      | exact changeforgeref3_Ints.mono _ _ _
      | exact changeforgeref3_OrderOf.mono _ _
      | exact history_Generations.mono _ _
      | exact history_Heads.mono _ _
      | exact history_Order.mono _ _
      | exact LeO.none _
      | refine LeO.ite ?_ ?_
      | refine LeO.bind ?_ (fun _ => ?_)
theorem changeforgelaw3_HistoryOrderMatchesSpec.mono : ∀ a0 k, LeO (changeforgelaw3_HistoryOrderMatchesSpec.f k a0) (changeforgelaw3_HistoryOrderMatchesSpec.f (k + 1) a0) := by
  intro a0 k
  obtain ⟨ih0, ih1⟩ := changeforgelaw3_HistoryOrderMatchesSpec.mono_l k
  unfold changeforgelaw3_HistoryOrderMatchesSpec.f
  repeat' first
      | (with_reducible exact ih0 _)
      | (with_reducible exact ih1 _ _ _ _ _ _ _ _ _ _)
      | (with_reducible exact changeforgelaw3_historyExample.mono _)
      | (with_reducible exact changeforgeref3_GenerationsOf.mono _ _)
      | (with_reducible exact changeforgeref3_HeadsOf.mono _ _)
      | (with_reducible exact changeforgeref3_HistoryFault.mono _ _)
      | (with_reducible exact changeforgeref3_Ints.mono _ _ _)
      | (with_reducible exact changeforgeref3_OrderOf.mono _ _)
      | (with_reducible exact history_Generations.mono _ _)
      | (with_reducible exact history_Heads.mono _ _)
      | (with_reducible exact history_Order.mono _ _)
      | (with_reducible exact LeO.refl _)
      | (with_reducible exact LeO.none _)
      | (with_reducible refine LeO.ite ?_ ?_)
      | (with_reducible refine LeO.bind ?_ (fun _ => ?_))
      | exact ih0 _
      | exact ih1 _ _ _ _ _ _ _ _ _ _
      | exact changeforgelaw3_historyExample.mono _
      | exact changeforgeref3_GenerationsOf.mono _ _
      | exact changeforgeref3_HeadsOf.mono _ _
      | exact changeforgeref3_HistoryFault.mono _ _
      | exact changeforgeref3_Ints.mono _ _ _
      | exact changeforgeref3_OrderOf.mono _ _
      | exact history_Generations.mono _ _
      | exact history_Heads.mono _ _
      | exact history_Order.mono _ _
      | exact LeO.none _
      | refine LeO.ite ?_ ?_
      | refine LeO.bind ?_ (fun _ => ?_)
set_option maxHeartbeats 8000000 in
set_option maxRecDepth 100000 in
theorem changeforgelaw3_HistoryOrderMatchesSpec.calls (k : Nat) (A0 : Option Addr) (c0 : Nat) (l0 : List (S49)) (r : Bool) (w : World) (hr0 : Kd.C k49 w A0 l0.length l0) (hc0 : l0.length ≤ c0) (h : changeforgelaw3_HistoryOrderMatchesSpec.f k l0 = some r) :
  Calls Try.prog 11 #[.slice A0 l0.length c0] w fun e w' => e = .returned (.bool r) ∧ Below w.heap.size w w' := by
  have hu26 := Try.underlying26
  have HR0 := aZ hr0
  have HC0 := aZ hc0
  clear hr0 hc0
  have HB := aZ (Below.refl w.heap.size w)
  have H : ((changeforgelaw3_historyExample.f k).bind fun t588 => (if t588 = true then (changeforgelaw3_HistoryOrderMatchesSpec.j0 k l0) else (some false))) = some r := h
  clear h
  replace H := Option.bind_eq_some_iff.mp H
  obtain ⟨t588, A20, H⟩ := H
  replace H : (if t588 = true then (changeforgelaw3_HistoryOrderMatchesSpec.j0 k l0) else (some false)) = some r := H
  have A2 := aZ A20
  clear A20
  have HC3 := aZ H
  clear H
  go_enter Try.func11, Try.ntmps11
  go_upto_if 11 with (first | ((with_reducible refine gate_callee (f := 23) rfl ?_); refine goesL_ (some 10) rfl rfl Try.func23 (by kernel_rfl) rfl #[] rfl (by (try simp only [List.map_toArray, List.map_cons, List.map_nil]); first | done | rfl | (simp only [List.length_drop, List.length_take]; rfl)) ?_; (with_reducible refine (changeforgelaw3_historyExample.calls k  t588 _ A2.out).mono ?_); rintro e w4 ⟨rfl, hb⟩; refine ⟨_, rfl, ?_⟩; have n0_ := aZ (lT (by repeat (first | (with_reducible first | exact HB.out | apply lA | apply lN | apply lD) | exact HB.out)) hb); clear HB; have HB := n0_; clear n0_; (try clear hb); (try clear hb2); (try clear hk); (try clear hi)))
  (try simp only [Act.put, List.setIfInBounds_toArray, List.set_cons_zero, List.set_cons_succ])
  go_cut [] (fun wc => ∃ (kq : Nat), Aside0 (changeforgelaw3_HistoryOrderMatchesSpec.j0 kq l0 = some r) ∧ Aside0 (kq ≤ k) ∧ Aside0 (Below w.heap.size w wc))
  case first =>
   have H := HC3.out
   clear HC3
   by_cases c5 : t588 = true
   · subst c5
     have H1 : (changeforgelaw3_HistoryOrderMatchesSpec.j0 k l0) = some r := by rw [if_pos rfl] at H; exact H
     clear H
     have H := H1
     clear H1
     as_aux_lemma =>
      have H' := aZ H
      clear H
      go_wp2
      go_meet
      case rel => exact ⟨_, H', ⟨by first | omega | exact Nat.le_refl _⟩, ⟨by repeat (first | (with_reducible first | exact HB.out | apply lA | apply lN | apply lD) | exact HB.out)⟩⟩
   replace c5 := Bool.eq_false_iff.mpr c5
   subst c5
   have H1 : (some false) = some r := by rw [if_neg (show ¬ (false = true) by decide)] at H; exact H
   clear H
   have H := H1
   clear H1
   as_aux_lemma =>
    obtain rfl := Option.some.inj H
    go_wp2
    go_ret
    exact ⟨by first | rfl | (simp [errW_none, errW_some] <;> rfl) | (simp [*, errW_none, errW_some] <;> rfl), by repeat (first | (with_reducible first | exact HB.out | apply lA | apply lN | apply lD) | exact HB.out)⟩
  case rest =>
   clear HC3
   obtain ⟨kq, HA, HJ2, HB⟩ := hcut
   cases kq with
   | zero => exact absurd HA.out (by simp [changeforgelaw3_HistoryOrderMatchesSpec.j0])
   | succ kj2 =>
    have H := HA.out
    clear HA
    simp only [changeforgelaw3_HistoryOrderMatchesSpec.j0] at H
    replace H := Option.bind_eq_some_iff.mp H
    obtain ⟨⟨t589, t592, t593⟩, A60, H⟩ := H
    replace H : ((history_Order.f kj2 l0).bind fun bt595 => ((history_Generations.f kj2 l0).bind fun bt601 => ((changeforgeref3_HistoryFault.f kj2 l0).bind fun bt607 => (if bt607.1 = 0 then (changeforgelaw3_HistoryOrderMatchesSpec.j1 kj2 l0 t589 bt595.1 bt601.1 t592 t593 bt595.2.1 bt595.2.2 bt601.2.1 bt601.2.2) else (if (t592 == bt607.1 && (t593 == bt607.2)) = true then (if (bt595.2.1 == bt607.1 && (bt595.2.2 == bt607.2)) = true then (if (bt601.2.1 == bt607.1 && (bt601.2.2 == bt607.2)) = true then (some ((wrap64 ((wrap64 ((t589.length : Int) + (bt595.1.length : Int))) + (bt601.1.length : Int))) == 0)) else (some false)) else (some false)) else (some false)))))) = some r := H
    have A6 := aZ A60
    clear A60
    replace H := Option.bind_eq_some_iff.mp H
    obtain ⟨⟨t595, t598, t599⟩, A70, H⟩ := H
    replace H : ((history_Generations.f kj2 l0).bind fun bt601 => ((changeforgeref3_HistoryFault.f kj2 l0).bind fun bt607 => (if bt607.1 = 0 then (changeforgelaw3_HistoryOrderMatchesSpec.j1 kj2 l0 t589 t595 bt601.1 t592 t593 t598 t599 bt601.2.1 bt601.2.2) else (if (t592 == bt607.1 && (t593 == bt607.2)) = true then (if (t598 == bt607.1 && (t599 == bt607.2)) = true then (if (bt601.2.1 == bt607.1 && (bt601.2.2 == bt607.2)) = true then (some ((wrap64 ((wrap64 ((t589.length : Int) + (t595.length : Int))) + (bt601.1.length : Int))) == 0)) else (some false)) else (some false)) else (some false))))) = some r := H
    have A7 := aZ A70
    clear A70
    replace H := Option.bind_eq_some_iff.mp H
    obtain ⟨⟨t601, t604, t605⟩, A80, H⟩ := H
    replace H : ((changeforgeref3_HistoryFault.f kj2 l0).bind fun bt607 => (if bt607.1 = 0 then (changeforgelaw3_HistoryOrderMatchesSpec.j1 kj2 l0 t589 t595 t601 t592 t593 t598 t599 t604 t605) else (if (t592 == bt607.1 && (t593 == bt607.2)) = true then (if (t598 == bt607.1 && (t599 == bt607.2)) = true then (if (t604 == bt607.1 && (t605 == bt607.2)) = true then (some ((wrap64 ((wrap64 ((t589.length : Int) + (t595.length : Int))) + (t601.length : Int))) == 0)) else (some false)) else (some false)) else (some false)))) = some r := H
    have A8 := aZ A80
    clear A80
    replace H := Option.bind_eq_some_iff.mp H
    obtain ⟨⟨t607, t608⟩, A90, H⟩ := H
    replace H : (if t607 = 0 then (changeforgelaw3_HistoryOrderMatchesSpec.j1 kj2 l0 t589 t595 t601 t592 t593 t598 t599 t604 t605) else (if (t592 == t607 && (t593 == t608)) = true then (if (t598 == t607 && (t599 == t608)) = true then (if (t604 == t607 && (t605 == t608)) = true then (some ((wrap64 ((wrap64 ((t589.length : Int) + (t595.length : Int))) + (t601.length : Int))) == 0)) else (some false)) else (some false)) else (some false))) = some r := H
    have A9 := aZ A90
    clear A90
    have HC10 := aZ H
    clear H
    go_upto_if 31 with (first | ((with_reducible refine gate_callee (f := 28) rfl ?_); refine goesL_ (some 14) rfl rfl Try.func28 (by kernel_rfl) rfl #[.slice A0 l0.length c0] rfl (by (try simp only [List.map_toArray, List.map_cons, List.map_nil]); first | done | rfl | (simp only [List.length_drop, List.length_take]; rfl)) ?_; (with_reducible refine (history_Heads.calls kj2 _ _ l0 t589 t592 t593 _ ?side1 ?side2 A6.out).mono ?_); (case side1 => repeat (first | exact (Kd.C_below HR0.out HB.out) | (with_reducible refine Kd.C_alloc ?_ _) | (with_reducible refine Kd.C_drewN ?_ _) | (with_reducible refine Kd.C_drew ?_))); (case side2 => exact HC0.out); rintro e w11 ⟨v590, rfl, ho0, hb⟩; refine ⟨_, rfl, ?_⟩; have n0_ := aZ (Kd.R_lower ho0 (lZ (by repeat (first | (with_reducible first | exact HB.out | apply lA | apply lN | apply lD) | exact HB.out)))); have n1_ := aZ (lT (by repeat (first | (with_reducible first | exact HB.out | apply lA | apply lN | apply lD) | exact HB.out)) hb); clear HB; have HO591 := n0_; have HB := n1_; clear n0_ n1_; (try clear hb); (try clear hb2); (try clear hk); (try clear hi); (try clear ho0)) | ((with_reducible refine gate_dst (N := 4) rfl ?_); (try (refine gate_guard (by rfl) ?_; dsimp only)); refine box_event ?hg (N := 4) ?hd (cs := #[.int .i64 0, .int .i64 0]) (t := 26) ?hr ?_; (case hd => rfl); (case hg => rfl); (case hr => first | (go_simp; done) | (go_simp; rfl)); intro gb594 hg w12 hbox hb; have n0_ := aZ (Kd.R_below (by (with_reducible repeat (first | apply Kd.rA | apply Kd.rN | apply Kd.rD)); exact HO591.out) hb); have n1_ := aZ (lT (by repeat (first | (with_reducible first | exact HB.out | apply lA | apply lN | apply lD) | exact HB.out)) hb); have n2_ := aZ (hbox); have n3_ := aZ ((by rw [hg]; exact (lZ (by repeat (first | (with_reducible first | exact HB.out | apply lA | apply lN | apply lD) | exact HB.out))) : w.heap.size ≤ gb594)); have n4_ := aZ ((by rw [hg]; exact (lZ (by repeat (first | (with_reducible first | exact HB.out | apply lA | apply lN | apply lD) | exact HB.out))) : w.heap.size ≤ gb594)); clear HO591; clear HB; have HO591 := n0_; have HB := n1_; have BK594 := n2_; have GW594 := n3_; have GE594 := n4_; clear n0_ n1_ n2_ n3_ n4_; clear hb hbox hg; have hcz13_0 : w12.cell? ⟨gb594, 0, none⟩ = some (.int .i64 0) := (blk_cell BK594.out 0).trans rfl; have hcz13_1 : w12.cell? ⟨gb594, 1, none⟩ = some (.int .i64 0) := (blk_cell BK594.out 1).trans rfl; have hfz13_0 := blk_frozen BK594.out 0; have hfz13_1 := blk_frozen BK594.out 1) | ((with_reducible refine gate_callee (f := 27) rfl ?_); refine goesL_ (some 19) rfl rfl Try.func27 (by kernel_rfl) rfl #[.slice A0 l0.length c0] rfl (by (try simp only [List.map_toArray, List.map_cons, List.map_nil]); first | done | rfl | (simp only [List.length_drop, List.length_take]; rfl)) ?_; (with_reducible refine (history_Order.calls kj2 _ _ l0 t595 t598 t599 _ ?side1 ?side2 A7.out).mono ?_); (case side1 => exact Kd.C_below HR0.out (by repeat (first | (with_reducible first | exact HB.out | apply lA | apply lN | apply lD | refine lS ?_ GE594.out) | exact HB.out))); (case side2 => exact HC0.out); rintro e w14 ⟨v596, rfl, ho0, hb⟩; refine ⟨_, rfl, ?_⟩; have n0_ := aZ (Kd.R_elder' (by (with_reducible repeat (first | apply Kd.rA | apply Kd.rN | apply Kd.rD)); exact (Kd.R_mono (Kd.R_far (p := ⟨gb594, 1, none⟩) (Kd.R_far (p := ⟨gb594, 0, none⟩) (Kd.R_types HO591.out BK594.out (by decide)) (fun _ hk => hk.2) (.int .i64 t592)) (fun _ hk => hk.2) (.int .i64 t593)) (fun _ h_ => h_.1))) (Kd.R_base ho0) hb); have n1_ := aZ (Kd.R_lower (Kd.R_new' ho0 (Kd.R_lt (by (with_reducible repeat (first | apply Kd.rA | apply Kd.rN | apply Kd.rD)); exact (Kd.R_mono (Kd.R_far (p := ⟨gb594, 1, none⟩) (Kd.R_far (p := ⟨gb594, 0, none⟩) (Kd.R_types HO591.out BK594.out (by decide)) (fun _ hk => hk.2) (.int .i64 t592)) (fun _ hk => hk.2) (.int .i64 t593)) (fun _ h_ => h_.1))))) (lZ (by repeat (first | (with_reducible first | exact HB.out | apply lA | apply lN | apply lD | refine lS ?_ GE594.out) | exact HB.out)))); have n2_ := aZ (blk_below (g := gb594) (o := .cells #[.int .i64 t592, .int .i64 t593] 26 (0, 0)) (by (with_reducible repeat (first | refine bN ?_ _ | refine bD ?_ | refine bA ?_ _)); refine blk_put (cs := #[.int .i64 t592, .int .i64 0]) ?_ 1 _ rfl; (with_reducible repeat (first | refine bN ?_ _ | refine bD ?_ | refine bA ?_ _)); refine blk_put (cs := #[.int .i64 0, .int .i64 0]) ?_ 0 _ rfl; (with_reducible repeat (first | refine bN ?_ _ | refine bD ?_ | refine bA ?_ _)); exact BK594.out) hb); have n3_ := aZ (lT (by repeat (first | (with_reducible first | exact HB.out | apply lA | apply lN | apply lD | refine lS ?_ GE594.out) | exact HB.out)) hb); clear HO591; clear BK594; clear HB; have HO591 := n0_; have HO597 := n1_; have BK594 := n2_; have HB := n3_; clear n0_ n1_ n2_ n3_; (try clear hb); (try clear hb2); (try clear hk); (try clear hi); (try clear ho0)) | ((with_reducible refine gate_dst (N := 6) rfl ?_); (try (refine gate_guard (by rfl) ?_; dsimp only)); refine box_event ?hg (N := 6) ?hd (cs := #[.int .i64 0, .int .i64 0]) (t := 26) ?hr ?_; (case hd => rfl); (case hg => rfl); (case hr => first | (go_simp; done) | (go_simp; rfl)); intro gb600 hg w15 hbox hb; have n0_ := aZ (Kd.R_below (by (with_reducible repeat (first | apply Kd.rA | apply Kd.rN | apply Kd.rD)); exact HO591.out) hb); have n1_ := aZ (Kd.R_below (by (with_reducible repeat (first | apply Kd.rA | apply Kd.rN | apply Kd.rD)); exact HO597.out) hb); have n2_ := aZ (blk_below (g := gb594) (o := .cells #[.int .i64 t592, .int .i64 t593] 26 (0, 0)) (by (with_reducible repeat (first | refine bN ?_ _ | refine bD ?_ | refine bA ?_ _)); exact BK594.out) hb); have n3_ := aZ (lT (by repeat (first | (with_reducible first | exact HB.out | apply lA | apply lN | apply lD | refine lS ?_ GE594.out) | exact HB.out)) hb); have n4_ := aZ (hbox); have n5_ := aZ ((by rw [hg]; exact (lZ (by repeat (first | (with_reducible first | exact HB.out | apply lA | apply lN | apply lD | refine lS ?_ GE594.out) | exact HB.out))) : w.heap.size ≤ gb600)); have n6_ := aZ ((by rw [hg]; exact (lZ (by repeat (first | (with_reducible first | exact HB.out | apply lA | apply lN | apply lD | refine lS ?_ GE594.out) | exact HB.out))) : w.heap.size ≤ gb600)); have n7_ := aZ ((by rw [hg]; exact Nat.ne_of_lt (blk_lt (g := gb594) (o := .cells #[.int .i64 t592, .int .i64 t593] 26 (0, 0)) (by (with_reducible repeat (first | refine bN ?_ _ | refine bD ?_ | refine bA ?_ _)); exact BK594.out)) : gb594 ≠ gb600)); have n8_ := aZ ((by rw [hg]; exact Nat.ne_of_gt (blk_lt (g := gb594) (o := .cells #[.int .i64 t592, .int .i64 t593] 26 (0, 0)) (by (with_reducible repeat (first | refine bN ?_ _ | refine bD ?_ | refine bA ?_ _)); exact BK594.out)) : gb600 ≠ gb594)); clear HO591; clear HO597; clear BK594; clear HB; have HO591 := n0_; have HO597 := n1_; have BK594 := n2_; have HB := n3_; have BK600 := n4_; have GW600 := n5_; have GE600 := n6_; have NB594_600 := n7_; have NB600_594 := n8_; clear n0_ n1_ n2_ n3_ n4_ n5_ n6_ n7_ n8_; clear hb hbox hg; have hnb16 := NB600_594.out; have hnc16 := NB594_600.out; have hcz17_0 : w15.cell? ⟨gb600, 0, none⟩ = some (.int .i64 0) := (blk_cell BK600.out 0).trans rfl; have hcz17_1 : w15.cell? ⟨gb600, 1, none⟩ = some (.int .i64 0) := (blk_cell BK600.out 1).trans rfl; have hfz17_0 := blk_frozen BK600.out 0; have hfz17_1 := blk_frozen BK600.out 1) | ((with_reducible refine gate_callee (f := 29) rfl ?_); refine goesL_ (some 24) rfl rfl Try.func29 (by kernel_rfl) rfl #[.slice A0 l0.length c0] rfl (by (try simp only [List.map_toArray, List.map_cons, List.map_nil]); first | done | rfl | (simp only [List.length_drop, List.length_take]; rfl)) ?_; (with_reducible refine (history_Generations.calls kj2 _ _ l0 t601 t604 t605 _ ?side1 ?side2 A8.out).mono ?_); (case side1 => exact Kd.C_below HR0.out (by repeat (first | (with_reducible first | exact HB.out | apply lA | apply lN | apply lD | refine lS ?_ GE594.out | refine lS ?_ GE600.out) | exact HB.out))); (case side2 => exact HC0.out); rintro e w18 ⟨v602, rfl, ho0, hb⟩; refine ⟨_, rfl, ?_⟩; have n0_ := aZ (Kd.R_elder' (by (with_reducible repeat (first | apply Kd.rA | apply Kd.rN | apply Kd.rD)); exact (Kd.R_mono (Kd.R_far (p := ⟨gb600, 1, none⟩) (Kd.R_far (p := ⟨gb600, 0, none⟩) (Kd.R_types HO591.out BK600.out (by decide)) (fun _ hk => hk.2) (.int .i64 t598)) (fun _ hk => hk.2) (.int .i64 t599)) (fun _ h_ => h_.1))) (Kd.R_base ho0) hb); have n1_ := aZ (Kd.R_elder' (by (with_reducible repeat (first | apply Kd.rA | apply Kd.rN | apply Kd.rD)); exact (Kd.R_mono (Kd.R_far (p := ⟨gb600, 1, none⟩) (Kd.R_far (p := ⟨gb600, 0, none⟩) (Kd.R_types HO597.out BK600.out (by decide)) (fun _ hk => hk.2) (.int .i64 t598)) (fun _ hk => hk.2) (.int .i64 t599)) (fun _ h_ => h_.1))) (Kd.R_base ho0) hb); have n2_ := aZ (Kd.R_lower (Kd.R_new' (Kd.R_new' ho0 (Kd.R_lt (by (with_reducible repeat (first | apply Kd.rA | apply Kd.rN | apply Kd.rD)); exact (Kd.R_mono (Kd.R_far (p := ⟨gb600, 1, none⟩) (Kd.R_far (p := ⟨gb600, 0, none⟩) (Kd.R_types HO591.out BK600.out (by decide)) (fun _ hk => hk.2) (.int .i64 t598)) (fun _ hk => hk.2) (.int .i64 t599)) (fun _ h_ => h_.1))))) (Kd.R_lt (by (with_reducible repeat (first | apply Kd.rA | apply Kd.rN | apply Kd.rD)); exact (Kd.R_mono (Kd.R_far (p := ⟨gb600, 1, none⟩) (Kd.R_far (p := ⟨gb600, 0, none⟩) (Kd.R_types HO597.out BK600.out (by decide)) (fun _ hk => hk.2) (.int .i64 t598)) (fun _ hk => hk.2) (.int .i64 t599)) (fun _ h_ => h_.1))))) (lZ (by repeat (first | (with_reducible first | exact HB.out | apply lA | apply lN | apply lD | refine lS ?_ GE594.out | refine lS ?_ GE600.out) | exact HB.out)))); have n3_ := aZ (blk_below (g := gb594) (o := .cells #[.int .i64 t592, .int .i64 t593] 26 (0, 0)) (by (with_reducible repeat (first | refine bN ?_ _ | refine bD ?_ | refine bA ?_ _)); refine blk_far ?_ NB594_600.out _; (with_reducible repeat (first | refine bN ?_ _ | refine bD ?_ | refine bA ?_ _)); refine blk_far ?_ NB594_600.out _; (with_reducible repeat (first | refine bN ?_ _ | refine bD ?_ | refine bA ?_ _)); exact BK594.out) hb); have n4_ := aZ (blk_below (g := gb600) (o := .cells #[.int .i64 t598, .int .i64 t599] 26 (0, 0)) (by (with_reducible repeat (first | refine bN ?_ _ | refine bD ?_ | refine bA ?_ _)); refine blk_put (cs := #[.int .i64 t598, .int .i64 0]) ?_ 1 _ rfl; (with_reducible repeat (first | refine bN ?_ _ | refine bD ?_ | refine bA ?_ _)); refine blk_put (cs := #[.int .i64 0, .int .i64 0]) ?_ 0 _ rfl; (with_reducible repeat (first | refine bN ?_ _ | refine bD ?_ | refine bA ?_ _)); exact BK600.out) hb); have n5_ := aZ (lT (by repeat (first | (with_reducible first | exact HB.out | apply lA | apply lN | apply lD | refine lS ?_ GE594.out | refine lS ?_ GE600.out) | exact HB.out)) hb); clear HO591; clear HO597; clear BK594; clear BK600; clear HB; have HO591 := n0_; have HO597 := n1_; have HO603 := n2_; have BK594 := n3_; have BK600 := n4_; have HB := n5_; clear n0_ n1_ n2_ n3_ n4_ n5_; (try clear hb); (try clear hb2); (try clear hk); (try clear hi); (try clear ho0)) | ((with_reducible refine gate_dst (N := 8) rfl ?_); (try (refine gate_guard (by rfl) ?_; dsimp only)); refine box_event ?hg (N := 8) ?hd (cs := #[.int .i64 0, .int .i64 0]) (t := 26) ?hr ?_; (case hd => rfl); (case hg => rfl); (case hr => first | (go_simp; done) | (go_simp; rfl)); intro gb606 hg w19 hbox hb; have n0_ := aZ (Kd.R_below (by (with_reducible repeat (first | apply Kd.rA | apply Kd.rN | apply Kd.rD)); exact HO591.out) hb); have n1_ := aZ (Kd.R_below (by (with_reducible repeat (first | apply Kd.rA | apply Kd.rN | apply Kd.rD)); exact HO597.out) hb); have n2_ := aZ (Kd.R_below (by (with_reducible repeat (first | apply Kd.rA | apply Kd.rN | apply Kd.rD)); exact HO603.out) hb); have n3_ := aZ (blk_below (g := gb594) (o := .cells #[.int .i64 t592, .int .i64 t593] 26 (0, 0)) (by (with_reducible repeat (first | refine bN ?_ _ | refine bD ?_ | refine bA ?_ _)); exact BK594.out) hb); have n4_ := aZ (blk_below (g := gb600) (o := .cells #[.int .i64 t598, .int .i64 t599] 26 (0, 0)) (by (with_reducible repeat (first | refine bN ?_ _ | refine bD ?_ | refine bA ?_ _)); exact BK600.out) hb); have n5_ := aZ (lT (by repeat (first | (with_reducible first | exact HB.out | apply lA | apply lN | apply lD | refine lS ?_ GE594.out | refine lS ?_ GE600.out) | exact HB.out)) hb); have n6_ := aZ (hbox); have n7_ := aZ ((by rw [hg]; exact (lZ (by repeat (first | (with_reducible first | exact HB.out | apply lA | apply lN | apply lD | refine lS ?_ GE594.out | refine lS ?_ GE600.out) | exact HB.out))) : w.heap.size ≤ gb606)); have n8_ := aZ ((by rw [hg]; exact (lZ (by repeat (first | (with_reducible first | exact HB.out | apply lA | apply lN | apply lD | refine lS ?_ GE594.out | refine lS ?_ GE600.out) | exact HB.out))) : w.heap.size ≤ gb606)); have n9_ := aZ ((by rw [hg]; exact Nat.ne_of_lt (blk_lt (g := gb594) (o := .cells #[.int .i64 t592, .int .i64 t593] 26 (0, 0)) (by (with_reducible repeat (first | refine bN ?_ _ | refine bD ?_ | refine bA ?_ _)); exact BK594.out)) : gb594 ≠ gb606)); have n10_ := aZ ((by rw [hg]; exact Nat.ne_of_gt (blk_lt (g := gb594) (o := .cells #[.int .i64 t592, .int .i64 t593] 26 (0, 0)) (by (with_reducible repeat (first | refine bN ?_ _ | refine bD ?_ | refine bA ?_ _)); exact BK594.out)) : gb606 ≠ gb594)); have n11_ := aZ ((by rw [hg]; exact Nat.ne_of_lt (blk_lt (g := gb600) (o := .cells #[.int .i64 t598, .int .i64 t599] 26 (0, 0)) (by (with_reducible repeat (first | refine bN ?_ _ | refine bD ?_ | refine bA ?_ _)); exact BK600.out)) : gb600 ≠ gb606)); have n12_ := aZ ((by rw [hg]; exact Nat.ne_of_gt (blk_lt (g := gb600) (o := .cells #[.int .i64 t598, .int .i64 t599] 26 (0, 0)) (by (with_reducible repeat (first | refine bN ?_ _ | refine bD ?_ | refine bA ?_ _)); exact BK600.out)) : gb606 ≠ gb600)); clear HO591; clear HO597; clear HO603; clear BK594; clear BK600; clear HB; have HO591 := n0_; have HO597 := n1_; have HO603 := n2_; have BK594 := n3_; have BK600 := n4_; have HB := n5_; have BK606 := n6_; have GW606 := n7_; have GE606 := n8_; have NB594_606 := n9_; have NB606_594 := n10_; have NB600_606 := n11_; have NB606_600 := n12_; clear n0_ n1_ n2_ n3_ n4_ n5_ n6_ n7_ n8_ n9_ n10_ n11_ n12_; clear hb hbox hg; have hnb20 := NB606_594.out; have hnc20 := NB594_606.out; have hnb21 := NB606_600.out; have hnc21 := NB600_606.out; have hcz22_0 : w19.cell? ⟨gb606, 0, none⟩ = some (.int .i64 0) := (blk_cell BK606.out 0).trans rfl; have hcz22_1 : w19.cell? ⟨gb606, 1, none⟩ = some (.int .i64 0) := (blk_cell BK606.out 1).trans rfl; have hfz22_0 := blk_frozen BK606.out 0; have hfz22_1 := blk_frozen BK606.out 1) | ((with_reducible refine gate_callee (f := 17) rfl ?_); refine goesL_ (some 28) rfl rfl Try.func17 (by kernel_rfl) rfl #[.slice A0 l0.length c0] rfl (by (try simp only [List.map_toArray, List.map_cons, List.map_nil]); first | done | rfl | (simp only [List.length_drop, List.length_take]; rfl)) ?_; (with_reducible refine (changeforgeref3_HistoryFault.calls kj2 _ _ l0 t607 t608 _ ?side1 ?side2 A9.out).mono ?_); (case side1 => exact Kd.C_below HR0.out (by repeat (first | (with_reducible first | exact HB.out | apply lA | apply lN | apply lD | refine lS ?_ GE594.out | refine lS ?_ GE600.out | refine lS ?_ GE606.out) | exact HB.out))); (case side2 => exact HC0.out); rintro e w23 ⟨rfl, hb⟩; refine ⟨_, rfl, ?_⟩; have n0_ := aZ (Kd.R_below (by (with_reducible repeat (first | apply Kd.rA | apply Kd.rN | apply Kd.rD)); exact (Kd.R_mono (Kd.R_far (p := ⟨gb606, 1, none⟩) (Kd.R_far (p := ⟨gb606, 0, none⟩) (Kd.R_types HO591.out BK606.out (by decide)) (fun _ hk => hk.2) (.int .i64 t604)) (fun _ hk => hk.2) (.int .i64 t605)) (fun _ h_ => h_.1))) hb); have n1_ := aZ (Kd.R_below (by (with_reducible repeat (first | apply Kd.rA | apply Kd.rN | apply Kd.rD)); exact (Kd.R_mono (Kd.R_far (p := ⟨gb606, 1, none⟩) (Kd.R_far (p := ⟨gb606, 0, none⟩) (Kd.R_types HO597.out BK606.out (by decide)) (fun _ hk => hk.2) (.int .i64 t604)) (fun _ hk => hk.2) (.int .i64 t605)) (fun _ h_ => h_.1))) hb); have n2_ := aZ (Kd.R_below (by (with_reducible repeat (first | apply Kd.rA | apply Kd.rN | apply Kd.rD)); exact (Kd.R_mono (Kd.R_far (p := ⟨gb606, 1, none⟩) (Kd.R_far (p := ⟨gb606, 0, none⟩) (Kd.R_types HO603.out BK606.out (by decide)) (fun _ hk => hk.2) (.int .i64 t604)) (fun _ hk => hk.2) (.int .i64 t605)) (fun _ h_ => h_.1))) hb); have n3_ := aZ (blk_below (g := gb594) (o := .cells #[.int .i64 t592, .int .i64 t593] 26 (0, 0)) (by (with_reducible repeat (first | refine bN ?_ _ | refine bD ?_ | refine bA ?_ _)); refine blk_far ?_ NB594_606.out _; (with_reducible repeat (first | refine bN ?_ _ | refine bD ?_ | refine bA ?_ _)); refine blk_far ?_ NB594_606.out _; (with_reducible repeat (first | refine bN ?_ _ | refine bD ?_ | refine bA ?_ _)); exact BK594.out) hb); have n4_ := aZ (blk_below (g := gb600) (o := .cells #[.int .i64 t598, .int .i64 t599] 26 (0, 0)) (by (with_reducible repeat (first | refine bN ?_ _ | refine bD ?_ | refine bA ?_ _)); refine blk_far ?_ NB600_606.out _; (with_reducible repeat (first | refine bN ?_ _ | refine bD ?_ | refine bA ?_ _)); refine blk_far ?_ NB600_606.out _; (with_reducible repeat (first | refine bN ?_ _ | refine bD ?_ | refine bA ?_ _)); exact BK600.out) hb); have n5_ := aZ (blk_below (g := gb606) (o := .cells #[.int .i64 t604, .int .i64 t605] 26 (0, 0)) (by (with_reducible repeat (first | refine bN ?_ _ | refine bD ?_ | refine bA ?_ _)); refine blk_put (cs := #[.int .i64 t604, .int .i64 0]) ?_ 1 _ rfl; (with_reducible repeat (first | refine bN ?_ _ | refine bD ?_ | refine bA ?_ _)); refine blk_put (cs := #[.int .i64 0, .int .i64 0]) ?_ 0 _ rfl; (with_reducible repeat (first | refine bN ?_ _ | refine bD ?_ | refine bA ?_ _)); exact BK606.out) hb); have n6_ := aZ (lT (by repeat (first | (with_reducible first | exact HB.out | apply lA | apply lN | apply lD | refine lS ?_ GE594.out | refine lS ?_ GE600.out | refine lS ?_ GE606.out) | exact HB.out)) hb); clear HO591; clear HO597; clear HO603; clear BK594; clear BK600; clear BK606; clear HB; have HO591 := n0_; have HO597 := n1_; have HO603 := n2_; have BK594 := n3_; have BK600 := n4_; have BK606 := n5_; have HB := n6_; clear n0_ n1_ n2_ n3_ n4_ n5_ n6_; (try clear hb); (try clear hb2); (try clear hk); (try clear hi)) | ((with_reducible refine gate_dst (N := 9) rfl ?_); (try (refine gate_guard (by rfl) ?_; dsimp only)); refine box_event ?hg (N := 9) ?hd (cs := #[.int .i64 0, .int .i64 0]) (t := 26) ?hr ?_; (case hd => rfl); (case hg => rfl); (case hr => first | (go_simp; done) | (go_simp; rfl)); intro gb609 hg w24 hbox hb; have n0_ := aZ (Kd.R_below (by (with_reducible repeat (first | apply Kd.rA | apply Kd.rN | apply Kd.rD)); exact HO591.out) hb); have n1_ := aZ (Kd.R_below (by (with_reducible repeat (first | apply Kd.rA | apply Kd.rN | apply Kd.rD)); exact HO597.out) hb); have n2_ := aZ (Kd.R_below (by (with_reducible repeat (first | apply Kd.rA | apply Kd.rN | apply Kd.rD)); exact HO603.out) hb); have n3_ := aZ (blk_below (g := gb594) (o := .cells #[.int .i64 t592, .int .i64 t593] 26 (0, 0)) (by (with_reducible repeat (first | refine bN ?_ _ | refine bD ?_ | refine bA ?_ _)); exact BK594.out) hb); have n4_ := aZ (blk_below (g := gb600) (o := .cells #[.int .i64 t598, .int .i64 t599] 26 (0, 0)) (by (with_reducible repeat (first | refine bN ?_ _ | refine bD ?_ | refine bA ?_ _)); exact BK600.out) hb); have n5_ := aZ (blk_below (g := gb606) (o := .cells #[.int .i64 t604, .int .i64 t605] 26 (0, 0)) (by (with_reducible repeat (first | refine bN ?_ _ | refine bD ?_ | refine bA ?_ _)); exact BK606.out) hb); have n6_ := aZ (lT (by repeat (first | (with_reducible first | exact HB.out | apply lA | apply lN | apply lD | refine lS ?_ GE594.out | refine lS ?_ GE600.out | refine lS ?_ GE606.out) | exact HB.out)) hb); have n7_ := aZ (hbox); have n8_ := aZ ((by rw [hg]; exact (lZ (by repeat (first | (with_reducible first | exact HB.out | apply lA | apply lN | apply lD | refine lS ?_ GE594.out | refine lS ?_ GE600.out | refine lS ?_ GE606.out) | exact HB.out))) : w.heap.size ≤ gb609)); have n9_ := aZ ((by rw [hg]; exact (lZ (by repeat (first | (with_reducible first | exact HB.out | apply lA | apply lN | apply lD | refine lS ?_ GE594.out | refine lS ?_ GE600.out | refine lS ?_ GE606.out) | exact HB.out))) : w.heap.size ≤ gb609)); have n10_ := aZ ((by rw [hg]; exact Nat.ne_of_lt (blk_lt (g := gb594) (o := .cells #[.int .i64 t592, .int .i64 t593] 26 (0, 0)) (by (with_reducible repeat (first | refine bN ?_ _ | refine bD ?_ | refine bA ?_ _)); exact BK594.out)) : gb594 ≠ gb609)); have n11_ := aZ ((by rw [hg]; exact Nat.ne_of_gt (blk_lt (g := gb594) (o := .cells #[.int .i64 t592, .int .i64 t593] 26 (0, 0)) (by (with_reducible repeat (first | refine bN ?_ _ | refine bD ?_ | refine bA ?_ _)); exact BK594.out)) : gb609 ≠ gb594)); have n12_ := aZ ((by rw [hg]; exact Nat.ne_of_lt (blk_lt (g := gb600) (o := .cells #[.int .i64 t598, .int .i64 t599] 26 (0, 0)) (by (with_reducible repeat (first | refine bN ?_ _ | refine bD ?_ | refine bA ?_ _)); exact BK600.out)) : gb600 ≠ gb609)); have n13_ := aZ ((by rw [hg]; exact Nat.ne_of_gt (blk_lt (g := gb600) (o := .cells #[.int .i64 t598, .int .i64 t599] 26 (0, 0)) (by (with_reducible repeat (first | refine bN ?_ _ | refine bD ?_ | refine bA ?_ _)); exact BK600.out)) : gb609 ≠ gb600)); have n14_ := aZ ((by rw [hg]; exact Nat.ne_of_lt (blk_lt (g := gb606) (o := .cells #[.int .i64 t604, .int .i64 t605] 26 (0, 0)) (by (with_reducible repeat (first | refine bN ?_ _ | refine bD ?_ | refine bA ?_ _)); exact BK606.out)) : gb606 ≠ gb609)); have n15_ := aZ ((by rw [hg]; exact Nat.ne_of_gt (blk_lt (g := gb606) (o := .cells #[.int .i64 t604, .int .i64 t605] 26 (0, 0)) (by (with_reducible repeat (first | refine bN ?_ _ | refine bD ?_ | refine bA ?_ _)); exact BK606.out)) : gb609 ≠ gb606)); clear HO591; clear HO597; clear HO603; clear BK594; clear BK600; clear BK606; clear HB; have HO591 := n0_; have HO597 := n1_; have HO603 := n2_; have BK594 := n3_; have BK600 := n4_; have BK606 := n5_; have HB := n6_; have BK609 := n7_; have GW609 := n8_; have GE609 := n9_; have NB594_609 := n10_; have NB609_594 := n11_; have NB600_609 := n12_; have NB609_600 := n13_; have NB606_609 := n14_; have NB609_606 := n15_; clear n0_ n1_ n2_ n3_ n4_ n5_ n6_ n7_ n8_ n9_ n10_ n11_ n12_ n13_ n14_ n15_; clear hb hbox hg; have hnb25 := NB609_594.out; have hnc25 := NB594_609.out; have hnb26 := NB609_600.out; have hnc26 := NB600_609.out; have hnb27 := NB609_606.out; have hnc27 := NB606_609.out; have hcz28_0 : w24.cell? ⟨gb609, 0, none⟩ = some (.int .i64 0) := (blk_cell BK609.out 0).trans rfl; have hcz28_1 : w24.cell? ⟨gb609, 1, none⟩ = some (.int .i64 0) := (blk_cell BK609.out 1).trans rfl; have hfz28_0 := blk_frozen BK609.out 0; have hfz28_1 := blk_frozen BK609.out 1))
    (try simp only [Act.put, List.setIfInBounds_toArray, List.set_cons_zero, List.set_cons_succ])
    go_cut [] (fun wc => ∃ (kq : Nat), Aside0 (changeforgelaw3_HistoryOrderMatchesSpec.j1 kq l0 t589 t595 t601 t592 t593 t598 t599 t604 t605 = some r) ∧ Aside0 (kq ≤ kj2) ∧ Aside0 (Kd.R (Kd.int .i64) 3 wc w.heap.size (fun k_ => some k_ ≠ (v596 : Value).ownBlock ∧ some k_ ≠ (v602 : Value).ownBlock) v590 t589) ∧ Aside0 (Kd.R (Kd.int .i64) 3 wc w.heap.size (fun k_ => some k_ ≠ (v590 : Value).ownBlock ∧ some k_ ≠ (v602 : Value).ownBlock) v596 t595) ∧ Aside0 (Kd.R (Kd.int .i64) 3 wc w.heap.size (fun k_ => some k_ ≠ (v590 : Value).ownBlock ∧ some k_ ≠ (v596 : Value).ownBlock) v602 t601) ∧ Aside0 (wc.heap[gb594]? = some (.cells #[.int .i64 t592, .int .i64 t593] 26 (0, 0))) ∧ Aside0 (wc.heap[gb600]? = some (.cells #[.int .i64 t598, .int .i64 t599] 26 (0, 0))) ∧ Aside0 (wc.heap[gb606]? = some (.cells #[.int .i64 t604, .int .i64 t605] 26 (0, 0))) ∧ Aside0 (wc.heap[gb609]? = some (.cells #[.int .i64 t607, .int .i64 t608] 26 (0, 0))) ∧ Aside0 (Below w.heap.size w wc))
    case first =>
     have H := HC10.out
     clear HC10
     by_cases c29 : t607 = 0
     · rw [if_pos c29] at H
       have c29b0 : (t607 == 0) = true := beq_iff_eq.mpr c29
       have c29b1 : (t607 != 0) = false := bne_eq_false_iff_eq.mpr c29
       clear c29
       (first | rw [c29b0] | (simp only [i64_w, i32_w]; rw [c29b0]) | skip)
       as_aux_lemma =>
        have H' := aZ H
        clear H
        go_wp2
        go_meet
        case rel => exact ⟨_, H', ⟨by have := HJ2.out; first | omega | exact Nat.le_refl _⟩, ⟨by (with_reducible repeat (first | apply Kd.rA | apply Kd.rN | apply Kd.rD)); exact Kd.R_mono (Kd.R_far (p := ⟨gb609, 1, none⟩) (Kd.R_far (p := ⟨gb609, 0, none⟩) (Kd.R_types HO591.out BK609.out (by decide)) (fun _ hk => hk.2) (.int .i64 t607)) (fun _ hk => hk.2) (.int .i64 t608)) (fun _ hk => ⟨hk.1.1.2, hk.1.2⟩)⟩, ⟨by (with_reducible repeat (first | apply Kd.rA | apply Kd.rN | apply Kd.rD)); exact Kd.R_mono (Kd.R_far (p := ⟨gb609, 1, none⟩) (Kd.R_far (p := ⟨gb609, 0, none⟩) (Kd.R_types HO597.out BK609.out (by decide)) (fun _ hk => hk.2) (.int .i64 t607)) (fun _ hk => hk.2) (.int .i64 t608)) (fun _ hk => ⟨hk.1.1.2, hk.1.2⟩)⟩, ⟨by (with_reducible repeat (first | apply Kd.rA | apply Kd.rN | apply Kd.rD)); exact Kd.R_mono (Kd.R_far (p := ⟨gb609, 1, none⟩) (Kd.R_far (p := ⟨gb609, 0, none⟩) (Kd.R_types HO603.out BK609.out (by decide)) (fun _ hk => hk.2) (.int .i64 t607)) (fun _ hk => hk.2) (.int .i64 t608)) (fun _ hk => ⟨hk.1.1.2, hk.1.2⟩)⟩, ⟨by (with_reducible repeat (first | refine bN ?_ _ | refine bD ?_ | refine bA ?_ _)); refine blk_far ?_ NB594_609.out _; (with_reducible repeat (first | refine bN ?_ _ | refine bD ?_ | refine bA ?_ _)); refine blk_far ?_ NB594_609.out _; (with_reducible repeat (first | refine bN ?_ _ | refine bD ?_ | refine bA ?_ _)); exact BK594.out⟩, ⟨by (with_reducible repeat (first | refine bN ?_ _ | refine bD ?_ | refine bA ?_ _)); refine blk_far ?_ NB600_609.out _; (with_reducible repeat (first | refine bN ?_ _ | refine bD ?_ | refine bA ?_ _)); refine blk_far ?_ NB600_609.out _; (with_reducible repeat (first | refine bN ?_ _ | refine bD ?_ | refine bA ?_ _)); exact BK600.out⟩, ⟨by (with_reducible repeat (first | refine bN ?_ _ | refine bD ?_ | refine bA ?_ _)); refine blk_far ?_ NB606_609.out _; (with_reducible repeat (first | refine bN ?_ _ | refine bD ?_ | refine bA ?_ _)); refine blk_far ?_ NB606_609.out _; (with_reducible repeat (first | refine bN ?_ _ | refine bD ?_ | refine bA ?_ _)); exact BK606.out⟩, ⟨by (with_reducible repeat (first | refine bN ?_ _ | refine bD ?_ | refine bA ?_ _)); refine blk_put (cs := #[.int .i64 t607, .int .i64 0]) ?_ 1 _ rfl; (with_reducible repeat (first | refine bN ?_ _ | refine bD ?_ | refine bA ?_ _)); refine blk_put (cs := #[.int .i64 0, .int .i64 0]) ?_ 0 _ rfl; (with_reducible repeat (first | refine bN ?_ _ | refine bD ?_ | refine bA ?_ _)); exact BK609.out⟩, ⟨by repeat (first | (with_reducible first | exact HB.out | apply lA | apply lN | apply lD | refine lS ?_ GE594.out | refine lS ?_ GE600.out | refine lS ?_ GE606.out | refine lS ?_ GE609.out) | exact HB.out)⟩⟩
     rw [if_neg c29] at H
     have c29b0 : (t607 == 0) = false := beq_eq_false_iff_ne.mpr c29
     have c29b1 : (t607 != 0) = true := bne_iff_ne.mpr c29
     (first | rw [c29b0] | (simp only [i64_w, i32_w]; rw [c29b0]) | skip)
     by_cases c30 : (t592 == t607 && (t593 == t608)) = true
     rotate_left
     · rw [if_neg c30] at H
       have c30b0 : (t592 == t607 && (t593 == t608)) = false := by simpa using c30
       (try (have c30b1 : decide (t592 = t607 && (t593 == t608)) = false := by simpa using c30))
       (try (have c30b2 : (t592 == t607 && (t593 == t608)) = false := by simpa using c30))
       (try (have c30b3 : ¬ (t592 = t607 && (t593 == t608)) := by simpa using c30))
       clear c30
       as_aux_lemma =>
        obtain rfl := Option.some.inj H
        have hnb65 := NB594_600.out
        have hnc65 := NB600_594.out
        have hnb66 := NB594_606.out
        have hnc66 := NB606_594.out
        have hnb67 := NB594_609.out
        have hnc67 := NB609_594.out
        have hcz68_0 : w24.cell? ⟨gb594, 0, none⟩ = some (.int .i64 t592) := (blk_cell BK594.out 0).trans rfl
        have hcz68_1 : w24.cell? ⟨gb594, 1, none⟩ = some (.int .i64 t593) := (blk_cell BK594.out 1).trans rfl
        have hfz68_0 := blk_frozen BK594.out 0
        have hfz68_1 := blk_frozen BK594.out 1
        have hnb69 := NB609_600.out
        have hnc69 := NB600_609.out
        have hnb70 := NB609_606.out
        have hnc70 := NB606_609.out
        have hcz71_0 : w24.cell? ⟨gb609, 0, none⟩ = some (.int .i64 0) := (blk_cell BK609.out 0).trans rfl
        have hcz71_1 : w24.cell? ⟨gb609, 1, none⟩ = some (.int .i64 0) := (blk_cell BK609.out 1).trans rfl
        have hfz71_0 := blk_frozen BK609.out 0
        have hfz71_1 := blk_frozen BK609.out 1
        go_wp2
        go_ret
        exact ⟨by first | rfl | (simp [errW_none, errW_some] <;> rfl) | (simp [*, errW_none, errW_some] <;> rfl), by repeat (first | (with_reducible first | exact HB.out | apply lA | apply lN | apply lD | refine lS ?_ GE594.out | refine lS ?_ GE600.out | refine lS ?_ GE606.out | refine lS ?_ GE609.out) | exact HB.out)⟩
     rw [if_pos c30] at H
     have c30b0 : (t592 == t607 && (t593 == t608)) = true := c30
     (try (have c30b1 : decide (t592 = t607 && (t593 == t608)) = true := by simpa using c30))
     (try (have c30b2 : (t592 == t607 && (t593 == t608)) = true := by simpa using c30))
     clear c30
     by_cases c31 : (t598 == t607 && (t599 == t608)) = true
     rotate_left
     · rw [if_neg c31] at H
       have c31b0 : (t598 == t607 && (t599 == t608)) = false := by simpa using c31
       (try (have c31b1 : decide (t598 = t607 && (t599 == t608)) = false := by simpa using c31))
       (try (have c31b2 : (t598 == t607 && (t599 == t608)) = false := by simpa using c31))
       (try (have c31b3 : ¬ (t598 = t607 && (t599 == t608)) := by simpa using c31))
       clear c31
       as_aux_lemma =>
        obtain rfl := Option.some.inj H
        have hnb56 := NB594_600.out
        have hnc56 := NB600_594.out
        have hnb57 := NB594_606.out
        have hnc57 := NB606_594.out
        have hnb58 := NB594_609.out
        have hnc58 := NB609_594.out
        have hcz59_0 : w24.cell? ⟨gb594, 0, none⟩ = some (.int .i64 t592) := (blk_cell BK594.out 0).trans rfl
        have hcz59_1 : w24.cell? ⟨gb594, 1, none⟩ = some (.int .i64 t593) := (blk_cell BK594.out 1).trans rfl
        have hfz59_0 := blk_frozen BK594.out 0
        have hfz59_1 := blk_frozen BK594.out 1
        have hnb60 := NB609_600.out
        have hnc60 := NB600_609.out
        have hnb61 := NB609_606.out
        have hnc61 := NB606_609.out
        have hcz62_0 : w24.cell? ⟨gb609, 0, none⟩ = some (.int .i64 0) := (blk_cell BK609.out 0).trans rfl
        have hcz62_1 : w24.cell? ⟨gb609, 1, none⟩ = some (.int .i64 0) := (blk_cell BK609.out 1).trans rfl
        have hfz62_0 := blk_frozen BK609.out 0
        have hfz62_1 := blk_frozen BK609.out 1
        have hnb63 := NB600_606.out
        have hnc63 := NB606_600.out
        have hcz64_0 : w24.cell? ⟨gb600, 0, none⟩ = some (.int .i64 t598) := (blk_cell BK600.out 0).trans rfl
        have hcz64_1 : w24.cell? ⟨gb600, 1, none⟩ = some (.int .i64 t599) := (blk_cell BK600.out 1).trans rfl
        have hfz64_0 := blk_frozen BK600.out 0
        have hfz64_1 := blk_frozen BK600.out 1
        go_wp2
        go_ret
        exact ⟨by first | rfl | (simp [errW_none, errW_some] <;> rfl) | (simp [*, errW_none, errW_some] <;> rfl), by repeat (first | (with_reducible first | exact HB.out | apply lA | apply lN | apply lD | refine lS ?_ GE594.out | refine lS ?_ GE600.out | refine lS ?_ GE606.out | refine lS ?_ GE609.out) | exact HB.out)⟩
     rw [if_pos c31] at H
     have c31b0 : (t598 == t607 && (t599 == t608)) = true := c31
     (try (have c31b1 : decide (t598 = t607 && (t599 == t608)) = true := by simpa using c31))
     (try (have c31b2 : (t598 == t607 && (t599 == t608)) = true := by simpa using c31))
     clear c31
     by_cases c32 : (t604 == t607 && (t605 == t608)) = true
     rotate_left
     · rw [if_neg c32] at H
       have c32b0 : (t604 == t607 && (t605 == t608)) = false := by simpa using c32
       (try (have c32b1 : decide (t604 = t607 && (t605 == t608)) = false := by simpa using c32))
       (try (have c32b2 : (t604 == t607 && (t605 == t608)) = false := by simpa using c32))
       (try (have c32b3 : ¬ (t604 = t607 && (t605 == t608)) := by simpa using c32))
       clear c32
       as_aux_lemma =>
        obtain rfl := Option.some.inj H
        have hnb46 := NB594_600.out
        have hnc46 := NB600_594.out
        have hnb47 := NB594_606.out
        have hnc47 := NB606_594.out
        have hnb48 := NB594_609.out
        have hnc48 := NB609_594.out
        have hcz49_0 : w24.cell? ⟨gb594, 0, none⟩ = some (.int .i64 t592) := (blk_cell BK594.out 0).trans rfl
        have hcz49_1 : w24.cell? ⟨gb594, 1, none⟩ = some (.int .i64 t593) := (blk_cell BK594.out 1).trans rfl
        have hfz49_0 := blk_frozen BK594.out 0
        have hfz49_1 := blk_frozen BK594.out 1
        have hnb50 := NB609_600.out
        have hnc50 := NB600_609.out
        have hnb51 := NB609_606.out
        have hnc51 := NB606_609.out
        have hcz52_0 : w24.cell? ⟨gb609, 0, none⟩ = some (.int .i64 0) := (blk_cell BK609.out 0).trans rfl
        have hcz52_1 : w24.cell? ⟨gb609, 1, none⟩ = some (.int .i64 0) := (blk_cell BK609.out 1).trans rfl
        have hfz52_0 := blk_frozen BK609.out 0
        have hfz52_1 := blk_frozen BK609.out 1
        have hnb53 := NB600_606.out
        have hnc53 := NB606_600.out
        have hcz54_0 : w24.cell? ⟨gb600, 0, none⟩ = some (.int .i64 t598) := (blk_cell BK600.out 0).trans rfl
        have hcz54_1 : w24.cell? ⟨gb600, 1, none⟩ = some (.int .i64 t599) := (blk_cell BK600.out 1).trans rfl
        have hfz54_0 := blk_frozen BK600.out 0
        have hfz54_1 := blk_frozen BK600.out 1
        have hcz55_0 : w24.cell? ⟨gb606, 0, none⟩ = some (.int .i64 t604) := (blk_cell BK606.out 0).trans rfl
        have hcz55_1 : w24.cell? ⟨gb606, 1, none⟩ = some (.int .i64 t605) := (blk_cell BK606.out 1).trans rfl
        have hfz55_0 := blk_frozen BK606.out 0
        have hfz55_1 := blk_frozen BK606.out 1
        go_wp2
        go_ret
        exact ⟨by first | rfl | (simp [errW_none, errW_some] <;> rfl) | (simp [*, errW_none, errW_some] <;> rfl), by repeat (first | (with_reducible first | exact HB.out | apply lA | apply lN | apply lD | refine lS ?_ GE594.out | refine lS ?_ GE600.out | refine lS ?_ GE606.out | refine lS ?_ GE609.out) | exact HB.out)⟩
     rw [if_pos c32] at H
     have c32b0 : (t604 == t607 && (t605 == t608)) = true := c32
     (try (have c32b1 : decide (t604 = t607 && (t605 == t608)) = true := by simpa using c32))
     (try (have c32b2 : (t604 == t607 && (t605 == t608)) = true := by simpa using c32))
     clear c32
     as_aux_lemma =>
      obtain rfl := Option.some.inj H
      have hnb33 := NB594_600.out
      have hnc33 := NB600_594.out
      have hnb34 := NB594_606.out
      have hnc34 := NB606_594.out
      have hnb35 := NB594_609.out
      have hnc35 := NB609_594.out
      have hcz36_0 : w24.cell? ⟨gb594, 0, none⟩ = some (.int .i64 t592) := (blk_cell BK594.out 0).trans rfl
      have hcz36_1 : w24.cell? ⟨gb594, 1, none⟩ = some (.int .i64 t593) := (blk_cell BK594.out 1).trans rfl
      have hfz36_0 := blk_frozen BK594.out 0
      have hfz36_1 := blk_frozen BK594.out 1
      have hnb37 := NB609_600.out
      have hnc37 := NB600_609.out
      have hnb38 := NB609_606.out
      have hnc38 := NB606_609.out
      have hcz39_0 : w24.cell? ⟨gb609, 0, none⟩ = some (.int .i64 0) := (blk_cell BK609.out 0).trans rfl
      have hcz39_1 : w24.cell? ⟨gb609, 1, none⟩ = some (.int .i64 0) := (blk_cell BK609.out 1).trans rfl
      have hfz39_0 := blk_frozen BK609.out 0
      have hfz39_1 := blk_frozen BK609.out 1
      have hnb40 := NB600_606.out
      have hnc40 := NB606_600.out
      have hcz41_0 : w24.cell? ⟨gb600, 0, none⟩ = some (.int .i64 t598) := (blk_cell BK600.out 0).trans rfl
      have hcz41_1 : w24.cell? ⟨gb600, 1, none⟩ = some (.int .i64 t599) := (blk_cell BK600.out 1).trans rfl
      have hfz41_0 := blk_frozen BK600.out 0
      have hfz41_1 := blk_frozen BK600.out 1
      have hcz42_0 : w24.cell? ⟨gb606, 0, none⟩ = some (.int .i64 t604) := (blk_cell BK606.out 0).trans rfl
      have hcz42_1 : w24.cell? ⟨gb606, 1, none⟩ = some (.int .i64 t605) := (blk_cell BK606.out 1).trans rfl
      have hfz42_0 := blk_frozen BK606.out 0
      have hfz42_1 := blk_frozen BK606.out 1
      obtain ⟨Ao43, co43, eo43⟩ := Kd.R_slice HO591.out
      subst eo43
      obtain ⟨Ao44, co44, eo44⟩ := Kd.R_slice HO597.out
      subst eo44
      obtain ⟨Ao45, co45, eo45⟩ := Kd.R_slice HO603.out
      subst eo45
      go_wp2
      go_ret
      exact ⟨by first | rfl | (simp [errW_none, errW_some] <;> rfl) | (simp [*, errW_none, errW_some] <;> rfl), by repeat (first | (with_reducible first | exact HB.out | apply lA | apply lN | apply lD | refine lS ?_ GE594.out | refine lS ?_ GE600.out | refine lS ?_ GE606.out | refine lS ?_ GE609.out) | exact HB.out)⟩
    case rest =>
     clear HC10
     (try clear hcz13_0); (try clear hcz13_1); (try clear hcz17_0); (try clear hcz17_1); (try clear hcz22_0); (try clear hcz22_1); (try clear hcz28_0); (try clear hcz28_1); (try clear hfz13_0); (try clear hfz13_1); (try clear hfz17_0); (try clear hfz17_1); (try clear hfz22_0); (try clear hfz22_1); (try clear hfz28_0); (try clear hfz28_1)
     obtain ⟨kq, HA, HJ9, HO_3, HO_5, HO_7, BK594, BK600, BK606, BK609, HB⟩ := hcut
     cases kq with
     | zero => exact absurd HA.out (by simp [changeforgelaw3_HistoryOrderMatchesSpec.j1])
     | succ kj9 =>
      have H := HA.out
      clear HA
      simp only [changeforgelaw3_HistoryOrderMatchesSpec.j1] at H
      by_cases c72 : t592 = 0
      rotate_left
      · rw [if_neg c72] at H
        have c72b0 : (t592 == 0) = false := beq_eq_false_iff_ne.mpr c72
        have c72b1 : (t592 != 0) = true := bne_iff_ne.mpr c72
        as_aux_lemma =>
         obtain rfl := Option.some.inj H
         have hnb144 := NB594_600.out
         have hnc144 := NB600_594.out
         have hnb145 := NB594_606.out
         have hnc145 := NB606_594.out
         have hnb146 := NB594_609.out
         have hnc146 := NB609_594.out
         have hcz147_0 : wc.cell? ⟨gb594, 0, none⟩ = some (.int .i64 t592) := (blk_cell BK594.out 0).trans rfl
         have hcz147_1 : wc.cell? ⟨gb594, 1, none⟩ = some (.int .i64 t593) := (blk_cell BK594.out 1).trans rfl
         have hfz147_0 := blk_frozen BK594.out 0
         have hfz147_1 := blk_frozen BK594.out 1
         go_wp2
         go_ret
         exact ⟨by first | rfl | (simp [errW_none, errW_some] <;> rfl) | (simp [*, errW_none, errW_some] <;> rfl), by repeat (first | (with_reducible first | exact HB.out | apply lA | apply lN | apply lD | refine lS ?_ GE594.out | refine lS ?_ GE600.out | refine lS ?_ GE606.out | refine lS ?_ GE609.out) | exact HB.out)⟩

      rw [if_pos c72] at H
      have c72b0 : (t592 == 0) = true := beq_iff_eq.mpr c72
      have c72b1 : (t592 != 0) = false := bne_eq_false_iff_eq.mpr c72
      clear c72
      by_cases c73 : t598 = 0
      rotate_left
      · rw [if_neg c73] at H
        have c73b0 : (t598 == 0) = false := beq_eq_false_iff_ne.mpr c73
        have c73b1 : (t598 != 0) = true := bne_iff_ne.mpr c73
        as_aux_lemma =>
         obtain rfl := Option.some.inj H
         have hnb137 := NB594_600.out
         have hnc137 := NB600_594.out
         have hnb138 := NB594_606.out
         have hnc138 := NB606_594.out
         have hnb139 := NB594_609.out
         have hnc139 := NB609_594.out
         have hcz140_0 : wc.cell? ⟨gb594, 0, none⟩ = some (.int .i64 t592) := (blk_cell BK594.out 0).trans rfl
         have hcz140_1 : wc.cell? ⟨gb594, 1, none⟩ = some (.int .i64 t593) := (blk_cell BK594.out 1).trans rfl
         have hfz140_0 := blk_frozen BK594.out 0
         have hfz140_1 := blk_frozen BK594.out 1
         have hnb141 := NB600_606.out
         have hnc141 := NB606_600.out
         have hnb142 := NB600_609.out
         have hnc142 := NB609_600.out
         have hcz143_0 : wc.cell? ⟨gb600, 0, none⟩ = some (.int .i64 t598) := (blk_cell BK600.out 0).trans rfl
         have hcz143_1 : wc.cell? ⟨gb600, 1, none⟩ = some (.int .i64 t599) := (blk_cell BK600.out 1).trans rfl
         have hfz143_0 := blk_frozen BK600.out 0
         have hfz143_1 := blk_frozen BK600.out 1
         go_wp2
         go_ret
         exact ⟨by first | rfl | (simp [errW_none, errW_some] <;> rfl) | (simp [*, errW_none, errW_some] <;> rfl), by repeat (first | (with_reducible first | exact HB.out | apply lA | apply lN | apply lD | refine lS ?_ GE594.out | refine lS ?_ GE600.out | refine lS ?_ GE606.out | refine lS ?_ GE609.out) | exact HB.out)⟩
      rw [if_pos c73] at H
      have c73b0 : (t598 == 0) = true := beq_iff_eq.mpr c73
      have c73b1 : (t598 != 0) = false := bne_eq_false_iff_eq.mpr c73
      clear c73
      by_cases c74 : t604 = 0
      rotate_left
      · rw [if_neg c74] at H
        have c74b0 : (t604 == 0) = false := beq_eq_false_iff_ne.mpr c74
        have c74b1 : (t604 != 0) = true := bne_iff_ne.mpr c74
        as_aux_lemma =>
         obtain rfl := Option.some.inj H
         have hnb128 := NB594_600.out
         have hnc128 := NB600_594.out
         have hnb129 := NB594_606.out
         have hnc129 := NB606_594.out
         have hnb130 := NB594_609.out
         have hnc130 := NB609_594.out
         have hcz131_0 : wc.cell? ⟨gb594, 0, none⟩ = some (.int .i64 t592) := (blk_cell BK594.out 0).trans rfl
         have hcz131_1 : wc.cell? ⟨gb594, 1, none⟩ = some (.int .i64 t593) := (blk_cell BK594.out 1).trans rfl
         have hfz131_0 := blk_frozen BK594.out 0
         have hfz131_1 := blk_frozen BK594.out 1
         have hnb132 := NB600_606.out
         have hnc132 := NB606_600.out
         have hnb133 := NB600_609.out
         have hnc133 := NB609_600.out
         have hcz134_0 : wc.cell? ⟨gb600, 0, none⟩ = some (.int .i64 t598) := (blk_cell BK600.out 0).trans rfl
         have hcz134_1 : wc.cell? ⟨gb600, 1, none⟩ = some (.int .i64 t599) := (blk_cell BK600.out 1).trans rfl
         have hfz134_0 := blk_frozen BK600.out 0
         have hfz134_1 := blk_frozen BK600.out 1
         have hnb135 := NB606_609.out
         have hnc135 := NB609_606.out
         have hcz136_0 : wc.cell? ⟨gb606, 0, none⟩ = some (.int .i64 t604) := (blk_cell BK606.out 0).trans rfl
         have hcz136_1 : wc.cell? ⟨gb606, 1, none⟩ = some (.int .i64 t605) := (blk_cell BK606.out 1).trans rfl
         have hfz136_0 := blk_frozen BK606.out 0
         have hfz136_1 := blk_frozen BK606.out 1
         go_wp2
         go_ret
         exact ⟨by first | rfl | (simp [errW_none, errW_some] <;> rfl) | (simp [*, errW_none, errW_some] <;> rfl), by repeat (first | (with_reducible first | exact HB.out | apply lA | apply lN | apply lD | refine lS ?_ GE594.out | refine lS ?_ GE600.out | refine lS ?_ GE606.out | refine lS ?_ GE609.out) | exact HB.out)⟩
      rw [if_pos c74] at H
      have c74b0 : (t604 == 0) = true := beq_iff_eq.mpr c74
      have c74b1 : (t604 != 0) = false := bne_eq_false_iff_eq.mpr c74
      clear c74
      replace H := Option.bind_eq_some_iff.mp H
      obtain ⟨t610, A750, H⟩ := H
      replace H : ((changeforgeref3_Ints.f kj9 t589 t610).bind fun t613 => (if t613 = true then ((changeforgeref3_OrderOf.f kj9 l0).bind fun t614 => ((changeforgeref3_Ints.f kj9 t595 t614).bind fun t617 => (if t617 = true then ((changeforgeref3_GenerationsOf.f kj9 l0).bind fun t618 => ((changeforgeref3_Ints.f kj9 t601 t618).bind fun t621 => (some t621))) else (some false)))) else (some false))) = some r := H
      have A75 := aZ A750
      clear A750
      replace H := Option.bind_eq_some_iff.mp H
      obtain ⟨t613, A760, H⟩ := H
      replace H : (if t613 = true then ((changeforgeref3_OrderOf.f kj9 l0).bind fun t614 => ((changeforgeref3_Ints.f kj9 t595 t614).bind fun t617 => (if t617 = true then ((changeforgeref3_GenerationsOf.f kj9 l0).bind fun t618 => ((changeforgeref3_Ints.f kj9 t601 t618).bind fun t621 => (some t621))) else (some false)))) else (some false)) = some r := H
      have A76 := aZ A760
      clear A760
      by_cases c77 : t613 = true
      rotate_left
      · replace c77 := Bool.eq_false_iff.mpr c77
        subst c77
        have H1 : (some false) = some r := by rw [if_neg (show ¬ (false = true) by decide)] at H; exact H
        clear H
        have H := H1
        clear H1
        as_aux_lemma =>
         obtain rfl := Option.some.inj H
         have hnb116 := NB594_600.out
         have hnc116 := NB600_594.out
         have hnb117 := NB594_606.out
         have hnc117 := NB606_594.out
         have hnb118 := NB594_609.out
         have hnc118 := NB609_594.out
         have hcz119_0 : wc.cell? ⟨gb594, 0, none⟩ = some (.int .i64 t592) := (blk_cell BK594.out 0).trans rfl
         have hcz119_1 : wc.cell? ⟨gb594, 1, none⟩ = some (.int .i64 t593) := (blk_cell BK594.out 1).trans rfl
         have hfz119_0 := blk_frozen BK594.out 0
         have hfz119_1 := blk_frozen BK594.out 1
         have hnb120 := NB600_606.out
         have hnc120 := NB606_600.out
         have hnb121 := NB600_609.out
         have hnc121 := NB609_600.out
         have hcz122_0 : wc.cell? ⟨gb600, 0, none⟩ = some (.int .i64 t598) := (blk_cell BK600.out 0).trans rfl
         have hcz122_1 : wc.cell? ⟨gb600, 1, none⟩ = some (.int .i64 t599) := (blk_cell BK600.out 1).trans rfl
         have hfz122_0 := blk_frozen BK600.out 0
         have hfz122_1 := blk_frozen BK600.out 1
         have hnb123 := NB606_609.out
         have hnc123 := NB609_606.out
         have hcz124_0 : wc.cell? ⟨gb606, 0, none⟩ = some (.int .i64 t604) := (blk_cell BK606.out 0).trans rfl
         have hcz124_1 : wc.cell? ⟨gb606, 1, none⟩ = some (.int .i64 t605) := (blk_cell BK606.out 1).trans rfl
         have hfz124_0 := blk_frozen BK606.out 0
         have hfz124_1 := blk_frozen BK606.out 1
         go_wp2_with (first | (go_at_call 30; (with_reducible refine (changeforgeref3_HeadsOf.calls kj9 _ _ l0 t610 _ ?side1 ?side2 A75.out).mono ?_); (case side1 => repeat (first | exact (Kd.C_below HR0.out HB.out) | (with_reducible refine Kd.C_alloc ?_ _) | (with_reducible refine Kd.C_drewN ?_ _) | (with_reducible refine Kd.C_drew ?_))); (case side2 => exact HC0.out); rintro e w125 ⟨v611, rfl, ho0, hb⟩; have n0_ := aZ (Kd.R_elder' (by (with_reducible repeat (first | apply Kd.rA | apply Kd.rN | apply Kd.rD)); exact HO_3.out) (Kd.R_base ho0) hb); have n1_ := aZ (Kd.R_elder' (by (with_reducible repeat (first | apply Kd.rA | apply Kd.rN | apply Kd.rD)); exact HO_5.out) (Kd.R_base ho0) hb); have n2_ := aZ (Kd.R_elder' (by (with_reducible repeat (first | apply Kd.rA | apply Kd.rN | apply Kd.rD)); exact HO_7.out) (Kd.R_base ho0) hb); have n3_ := aZ (Kd.R_lower (Kd.R_new' (Kd.R_new' (Kd.R_new' ho0 (Kd.R_lt (by (with_reducible repeat (first | apply Kd.rA | apply Kd.rN | apply Kd.rD)); exact HO_3.out))) (Kd.R_lt (by (with_reducible repeat (first | apply Kd.rA | apply Kd.rN | apply Kd.rD)); exact HO_5.out))) (Kd.R_lt (by (with_reducible repeat (first | apply Kd.rA | apply Kd.rN | apply Kd.rD)); exact HO_7.out))) (lZ (by repeat (first | (with_reducible first | exact HB.out | apply lA | apply lN | apply lD | refine lS ?_ GE594.out | refine lS ?_ GE600.out | refine lS ?_ GE606.out | refine lS ?_ GE609.out) | exact HB.out)))); have n4_ := aZ (blk_below (g := gb594) (o := .cells #[.int .i64 t592, .int .i64 t593] 26 (0, 0)) (by (with_reducible repeat (first | refine bN ?_ _ | refine bD ?_ | refine bA ?_ _)); exact BK594.out) hb); have n5_ := aZ (blk_below (g := gb600) (o := .cells #[.int .i64 t598, .int .i64 t599] 26 (0, 0)) (by (with_reducible repeat (first | refine bN ?_ _ | refine bD ?_ | refine bA ?_ _)); exact BK600.out) hb); have n6_ := aZ (blk_below (g := gb606) (o := .cells #[.int .i64 t604, .int .i64 t605] 26 (0, 0)) (by (with_reducible repeat (first | refine bN ?_ _ | refine bD ?_ | refine bA ?_ _)); exact BK606.out) hb); have n7_ := aZ (blk_below (g := gb609) (o := .cells #[.int .i64 t607, .int .i64 t608] 26 (0, 0)) (by (with_reducible repeat (first | refine bN ?_ _ | refine bD ?_ | refine bA ?_ _)); exact BK609.out) hb); have n8_ := aZ (lT (by repeat (first | (with_reducible first | exact HB.out | apply lA | apply lN | apply lD | refine lS ?_ GE594.out | refine lS ?_ GE600.out | refine lS ?_ GE606.out | refine lS ?_ GE609.out) | exact HB.out)) hb); clear HO_3; clear HO_5; clear HO_7; clear BK594; clear BK600; clear BK606; clear BK609; clear HB; have HO_3 := n0_; have HO_5 := n1_; have HO_7 := n2_; have HO612 := n3_; have BK594 := n4_; have BK600 := n5_; have BK606 := n6_; have BK609 := n7_; have HB := n8_; clear n0_ n1_ n2_ n3_ n4_ n5_ n6_ n7_ n8_; (try clear hb); (try clear hb2); (try clear hk); (try clear hi); (try clear ho0); obtain ⟨Ao126, co126, eo126⟩ := Kd.R_slice HO_3.out; subst eo126; obtain ⟨Ao127, co127, eo127⟩ := Kd.R_slice HO612.out; subst eo127) | (go_at_call 20; (with_reducible refine (changeforgeref3_Ints.calls kj9 _ _ t589 _ _ t610 false _ ?side1 ?side2 ?side3 ?side4 A76.out).mono ?_); (case side1 => repeat (first | exact (Kd.R_reads' HO_3.out).2.2 | (with_reducible refine Kd.C_alloc ?_ _) | (with_reducible refine Kd.C_drewN ?_ _) | (with_reducible refine Kd.C_drew ?_))); (case side2 => exact (Kd.R_reads' HO_3.out).2.1); (case side3 => repeat (first | exact (Kd.R_reads' HO612.out).2.2 | (with_reducible refine Kd.C_alloc ?_ _) | (with_reducible refine Kd.C_drewN ?_ _) | (with_reducible refine Kd.C_drew ?_))); (case side4 => exact (Kd.R_reads' HO612.out).2.1); rintro e w' ⟨rfl, ⟨nd, rfl⟩⟩))
         go_ret
         exact ⟨by first | rfl | (simp [errW_none, errW_some] <;> rfl) | (simp [*, errW_none, errW_some] <;> rfl), by repeat (first | (with_reducible first | exact HB.out | apply lA | apply lN | apply lD | refine lS ?_ GE594.out | refine lS ?_ GE600.out | refine lS ?_ GE606.out | refine lS ?_ GE609.out) | exact HB.out)⟩
      subst c77
      have H1 : ((changeforgeref3_OrderOf.f kj9 l0).bind fun t614 => ((changeforgeref3_Ints.f kj9 t595 t614).bind fun t617 => (if t617 = true then ((changeforgeref3_GenerationsOf.f kj9 l0).bind fun t618 => ((changeforgeref3_Ints.f kj9 t601 t618).bind fun t621 => (some t621))) else (some false)))) = some r := by rw [if_pos rfl] at H; exact H
      clear H
      have H := H1
      clear H1
      replace H := Option.bind_eq_some_iff.mp H
      obtain ⟨t614, A780, H⟩ := H
      replace H : ((changeforgeref3_Ints.f kj9 t595 t614).bind fun t617 => (if t617 = true then ((changeforgeref3_GenerationsOf.f kj9 l0).bind fun t618 => ((changeforgeref3_Ints.f kj9 t601 t618).bind fun t621 => (some t621))) else (some false))) = some r := H
      have A78 := aZ A780
      clear A780
      replace H := Option.bind_eq_some_iff.mp H
      obtain ⟨t617, A790, H⟩ := H
      replace H : (if t617 = true then ((changeforgeref3_GenerationsOf.f kj9 l0).bind fun t618 => ((changeforgeref3_Ints.f kj9 t601 t618).bind fun t621 => (some t621))) else (some false)) = some r := H
      have A79 := aZ A790
      clear A790
      by_cases c80 : t617 = true
      rotate_left
      · replace c80 := Bool.eq_false_iff.mpr c80
        subst c80
        have H1 : (some false) = some r := by rw [if_neg (show ¬ (false = true) by decide)] at H; exact H
        clear H
        have H := H1
        clear H1
        as_aux_lemma =>
         obtain rfl := Option.some.inj H
         have hnb101 := NB594_600.out
         have hnc101 := NB600_594.out
         have hnb102 := NB594_606.out
         have hnc102 := NB606_594.out
         have hnb103 := NB594_609.out
         have hnc103 := NB609_594.out
         have hcz104_0 : wc.cell? ⟨gb594, 0, none⟩ = some (.int .i64 t592) := (blk_cell BK594.out 0).trans rfl
         have hcz104_1 : wc.cell? ⟨gb594, 1, none⟩ = some (.int .i64 t593) := (blk_cell BK594.out 1).trans rfl
         have hfz104_0 := blk_frozen BK594.out 0
         have hfz104_1 := blk_frozen BK594.out 1
         have hnb105 := NB600_606.out
         have hnc105 := NB606_600.out
         have hnb106 := NB600_609.out
         have hnc106 := NB609_600.out
         have hcz107_0 : wc.cell? ⟨gb600, 0, none⟩ = some (.int .i64 t598) := (blk_cell BK600.out 0).trans rfl
         have hcz107_1 : wc.cell? ⟨gb600, 1, none⟩ = some (.int .i64 t599) := (blk_cell BK600.out 1).trans rfl
         have hfz107_0 := blk_frozen BK600.out 0
         have hfz107_1 := blk_frozen BK600.out 1
         have hnb108 := NB606_609.out
         have hnc108 := NB609_606.out
         have hcz109_0 : wc.cell? ⟨gb606, 0, none⟩ = some (.int .i64 t604) := (blk_cell BK606.out 0).trans rfl
         have hcz109_1 : wc.cell? ⟨gb606, 1, none⟩ = some (.int .i64 t605) := (blk_cell BK606.out 1).trans rfl
         have hfz109_0 := blk_frozen BK606.out 0
         have hfz109_1 := blk_frozen BK606.out 1
         go_wp2_with (first | (go_at_call 30; (with_reducible refine (changeforgeref3_HeadsOf.calls kj9 _ _ l0 t610 _ ?side1 ?side2 A75.out).mono ?_); (case side1 => repeat (first | exact (Kd.C_below HR0.out HB.out) | (with_reducible refine Kd.C_alloc ?_ _) | (with_reducible refine Kd.C_drewN ?_ _) | (with_reducible refine Kd.C_drew ?_))); (case side2 => exact HC0.out); rintro e w110 ⟨v611, rfl, ho0, hb⟩; have n0_ := aZ (Kd.R_elder' (by (with_reducible repeat (first | apply Kd.rA | apply Kd.rN | apply Kd.rD)); exact HO_3.out) (Kd.R_base ho0) hb); have n1_ := aZ (Kd.R_elder' (by (with_reducible repeat (first | apply Kd.rA | apply Kd.rN | apply Kd.rD)); exact HO_5.out) (Kd.R_base ho0) hb); have n2_ := aZ (Kd.R_elder' (by (with_reducible repeat (first | apply Kd.rA | apply Kd.rN | apply Kd.rD)); exact HO_7.out) (Kd.R_base ho0) hb); have n3_ := aZ (Kd.R_lower (Kd.R_new' (Kd.R_new' (Kd.R_new' ho0 (Kd.R_lt (by (with_reducible repeat (first | apply Kd.rA | apply Kd.rN | apply Kd.rD)); exact HO_3.out))) (Kd.R_lt (by (with_reducible repeat (first | apply Kd.rA | apply Kd.rN | apply Kd.rD)); exact HO_5.out))) (Kd.R_lt (by (with_reducible repeat (first | apply Kd.rA | apply Kd.rN | apply Kd.rD)); exact HO_7.out))) (lZ (by repeat (first | (with_reducible first | exact HB.out | apply lA | apply lN | apply lD | refine lS ?_ GE594.out | refine lS ?_ GE600.out | refine lS ?_ GE606.out | refine lS ?_ GE609.out) | exact HB.out)))); have n4_ := aZ (blk_below (g := gb594) (o := .cells #[.int .i64 t592, .int .i64 t593] 26 (0, 0)) (by (with_reducible repeat (first | refine bN ?_ _ | refine bD ?_ | refine bA ?_ _)); exact BK594.out) hb); have n5_ := aZ (blk_below (g := gb600) (o := .cells #[.int .i64 t598, .int .i64 t599] 26 (0, 0)) (by (with_reducible repeat (first | refine bN ?_ _ | refine bD ?_ | refine bA ?_ _)); exact BK600.out) hb); have n6_ := aZ (blk_below (g := gb606) (o := .cells #[.int .i64 t604, .int .i64 t605] 26 (0, 0)) (by (with_reducible repeat (first | refine bN ?_ _ | refine bD ?_ | refine bA ?_ _)); exact BK606.out) hb); have n7_ := aZ (blk_below (g := gb609) (o := .cells #[.int .i64 t607, .int .i64 t608] 26 (0, 0)) (by (with_reducible repeat (first | refine bN ?_ _ | refine bD ?_ | refine bA ?_ _)); exact BK609.out) hb); have n8_ := aZ (lT (by repeat (first | (with_reducible first | exact HB.out | apply lA | apply lN | apply lD | refine lS ?_ GE594.out | refine lS ?_ GE600.out | refine lS ?_ GE606.out | refine lS ?_ GE609.out) | exact HB.out)) hb); clear HO_3; clear HO_5; clear HO_7; clear BK594; clear BK600; clear BK606; clear BK609; clear HB; have HO_3 := n0_; have HO_5 := n1_; have HO_7 := n2_; have HO612 := n3_; have BK594 := n4_; have BK600 := n5_; have BK606 := n6_; have BK609 := n7_; have HB := n8_; clear n0_ n1_ n2_ n3_ n4_ n5_ n6_ n7_ n8_; (try clear hb); (try clear hb2); (try clear hk); (try clear hi); (try clear ho0); obtain ⟨Ao111, co111, eo111⟩ := Kd.R_slice HO_3.out; subst eo111; obtain ⟨Ao112, co112, eo112⟩ := Kd.R_slice HO612.out; subst eo112) | (go_at_call 20; (with_reducible refine (changeforgeref3_Ints.calls kj9 _ _ t589 _ _ t610 true _ ?side1 ?side2 ?side3 ?side4 A76.out).mono ?_); (case side1 => repeat (first | exact (Kd.R_reads' HO_3.out).2.2 | (with_reducible refine Kd.C_alloc ?_ _) | (with_reducible refine Kd.C_drewN ?_ _) | (with_reducible refine Kd.C_drew ?_))); (case side2 => exact (Kd.R_reads' HO_3.out).2.1); (case side3 => repeat (first | exact (Kd.R_reads' HO612.out).2.2 | (with_reducible refine Kd.C_alloc ?_ _) | (with_reducible refine Kd.C_drewN ?_ _) | (with_reducible refine Kd.C_drew ?_))); (case side4 => exact (Kd.R_reads' HO612.out).2.1); rintro e w' ⟨rfl, ⟨nd, rfl⟩⟩) | (go_at_call 31; (with_reducible refine (changeforgeref3_OrderOf.calls kj9 _ _ l0 t614 _ ?side1 ?side2 A78.out).mono ?_); (case side1 => repeat (first | exact (Kd.C_below HR0.out (by repeat (first | (with_reducible first | exact HB.out | apply lA | apply lN | apply lD | refine lS ?_ GE594.out | refine lS ?_ GE600.out | refine lS ?_ GE606.out | refine lS ?_ GE609.out) | exact HB.out))) | (with_reducible refine Kd.C_alloc ?_ _) | (with_reducible refine Kd.C_drewN ?_ _) | (with_reducible refine Kd.C_drew ?_))); (case side2 => exact HC0.out); rintro e w113 ⟨v615, rfl, ho0, hb⟩; have n0_ := aZ (Kd.R_elder' (by (with_reducible repeat (first | apply Kd.rA | apply Kd.rN | apply Kd.rD)); exact HO_3.out) (Kd.R_base ho0) hb); have n1_ := aZ (Kd.R_elder' (by (with_reducible repeat (first | apply Kd.rA | apply Kd.rN | apply Kd.rD)); exact HO_5.out) (Kd.R_base ho0) hb); have n2_ := aZ (Kd.R_elder' (by (with_reducible repeat (first | apply Kd.rA | apply Kd.rN | apply Kd.rD)); exact HO_7.out) (Kd.R_base ho0) hb); have n3_ := aZ (Kd.R_elder' (by (with_reducible repeat (first | apply Kd.rA | apply Kd.rN | apply Kd.rD)); exact HO612.out) (Kd.R_base ho0) hb); have n4_ := aZ (Kd.R_lower (Kd.R_new' (Kd.R_new' (Kd.R_new' (Kd.R_new' ho0 (Kd.R_lt (by (with_reducible repeat (first | apply Kd.rA | apply Kd.rN | apply Kd.rD)); exact HO_3.out))) (Kd.R_lt (by (with_reducible repeat (first | apply Kd.rA | apply Kd.rN | apply Kd.rD)); exact HO_5.out))) (Kd.R_lt (by (with_reducible repeat (first | apply Kd.rA | apply Kd.rN | apply Kd.rD)); exact HO_7.out))) (Kd.R_lt (by (with_reducible repeat (first | apply Kd.rA | apply Kd.rN | apply Kd.rD)); exact HO612.out))) (lZ (by repeat (first | (with_reducible first | exact HB.out | apply lA | apply lN | apply lD | refine lS ?_ GE594.out | refine lS ?_ GE600.out | refine lS ?_ GE606.out | refine lS ?_ GE609.out) | exact HB.out)))); have n5_ := aZ (blk_below (g := gb594) (o := .cells #[.int .i64 t592, .int .i64 t593] 26 (0, 0)) (by (with_reducible repeat (first | refine bN ?_ _ | refine bD ?_ | refine bA ?_ _)); exact BK594.out) hb); have n6_ := aZ (blk_below (g := gb600) (o := .cells #[.int .i64 t598, .int .i64 t599] 26 (0, 0)) (by (with_reducible repeat (first | refine bN ?_ _ | refine bD ?_ | refine bA ?_ _)); exact BK600.out) hb); have n7_ := aZ (blk_below (g := gb606) (o := .cells #[.int .i64 t604, .int .i64 t605] 26 (0, 0)) (by (with_reducible repeat (first | refine bN ?_ _ | refine bD ?_ | refine bA ?_ _)); exact BK606.out) hb); have n8_ := aZ (blk_below (g := gb609) (o := .cells #[.int .i64 t607, .int .i64 t608] 26 (0, 0)) (by (with_reducible repeat (first | refine bN ?_ _ | refine bD ?_ | refine bA ?_ _)); exact BK609.out) hb); have n9_ := aZ (lT (by repeat (first | (with_reducible first | exact HB.out | apply lA | apply lN | apply lD | refine lS ?_ GE594.out | refine lS ?_ GE600.out | refine lS ?_ GE606.out | refine lS ?_ GE609.out) | exact HB.out)) hb); clear HO_3; clear HO_5; clear HO_7; clear HO612; clear BK594; clear BK600; clear BK606; clear BK609; clear HB; have HO_3 := n0_; have HO_5 := n1_; have HO_7 := n2_; have HO612 := n3_; have HO616 := n4_; have BK594 := n5_; have BK600 := n6_; have BK606 := n7_; have BK609 := n8_; have HB := n9_; clear n0_ n1_ n2_ n3_ n4_ n5_ n6_ n7_ n8_ n9_; (try clear hb); (try clear hb2); (try clear hk); (try clear hi); (try clear ho0); obtain ⟨Ao114, co114, eo114⟩ := Kd.R_slice HO_5.out; subst eo114; obtain ⟨Ao115, co115, eo115⟩ := Kd.R_slice HO616.out; subst eo115) | (go_at_call 20; (with_reducible refine (changeforgeref3_Ints.calls kj9 _ _ t595 _ _ t614 false _ ?side1 ?side2 ?side3 ?side4 A79.out).mono ?_); (case side1 => repeat (first | exact (Kd.R_reads' HO_5.out).2.2 | (with_reducible refine Kd.C_alloc ?_ _) | (with_reducible refine Kd.C_drewN ?_ _) | (with_reducible refine Kd.C_drew ?_))); (case side2 => exact (Kd.R_reads' HO_5.out).2.1); (case side3 => repeat (first | exact (Kd.R_reads' HO616.out).2.2 | (with_reducible refine Kd.C_alloc ?_ _) | (with_reducible refine Kd.C_drewN ?_ _) | (with_reducible refine Kd.C_drew ?_))); (case side4 => exact (Kd.R_reads' HO616.out).2.1); rintro e w' ⟨rfl, ⟨nd, rfl⟩⟩))
         go_ret
         exact ⟨by first | rfl | (simp [errW_none, errW_some] <;> rfl) | (simp [*, errW_none, errW_some] <;> rfl), by repeat (first | (with_reducible first | exact HB.out | apply lA | apply lN | apply lD | refine lS ?_ GE594.out | refine lS ?_ GE600.out | refine lS ?_ GE606.out | refine lS ?_ GE609.out) | exact HB.out)⟩
      subst c80
      have H1 : ((changeforgeref3_GenerationsOf.f kj9 l0).bind fun t618 => ((changeforgeref3_Ints.f kj9 t601 t618).bind fun t621 => (some t621))) = some r := by rw [if_pos rfl] at H; exact H
      clear H
      have H := H1
      clear H1
      replace H := Option.bind_eq_some_iff.mp H
      obtain ⟨t618, A810, H⟩ := H
      replace H : ((changeforgeref3_Ints.f kj9 t601 t618).bind fun t621 => (some t621)) = some r := H
      have A81 := aZ A810
      clear A810
      replace H := Option.bind_eq_some_iff.mp H
      obtain ⟨t621, A820, H⟩ := H
      replace H : (some t621) = some r := H
      have A82 := aZ A820
      clear A820
      as_aux_lemma =>
       obtain rfl := Option.some.inj H
       have hnb83 := NB594_600.out
       have hnc83 := NB600_594.out
       have hnb84 := NB594_606.out
       have hnc84 := NB606_594.out
       have hnb85 := NB594_609.out
       have hnc85 := NB609_594.out
       have hcz86_0 : wc.cell? ⟨gb594, 0, none⟩ = some (.int .i64 t592) := (blk_cell BK594.out 0).trans rfl
       have hcz86_1 : wc.cell? ⟨gb594, 1, none⟩ = some (.int .i64 t593) := (blk_cell BK594.out 1).trans rfl
       have hfz86_0 := blk_frozen BK594.out 0
       have hfz86_1 := blk_frozen BK594.out 1
       have hnb87 := NB600_606.out
       have hnc87 := NB606_600.out
       have hnb88 := NB600_609.out
       have hnc88 := NB609_600.out
       have hcz89_0 : wc.cell? ⟨gb600, 0, none⟩ = some (.int .i64 t598) := (blk_cell BK600.out 0).trans rfl
       have hcz89_1 : wc.cell? ⟨gb600, 1, none⟩ = some (.int .i64 t599) := (blk_cell BK600.out 1).trans rfl
       have hfz89_0 := blk_frozen BK600.out 0
       have hfz89_1 := blk_frozen BK600.out 1
       have hnb90 := NB606_609.out
       have hnc90 := NB609_606.out
       have hcz91_0 : wc.cell? ⟨gb606, 0, none⟩ = some (.int .i64 t604) := (blk_cell BK606.out 0).trans rfl
       have hcz91_1 : wc.cell? ⟨gb606, 1, none⟩ = some (.int .i64 t605) := (blk_cell BK606.out 1).trans rfl
       have hfz91_0 := blk_frozen BK606.out 0
       have hfz91_1 := blk_frozen BK606.out 1
       go_wp2_with (first | (go_at_call 30; (with_reducible refine (changeforgeref3_HeadsOf.calls kj9 _ _ l0 t610 _ ?side1 ?side2 A75.out).mono ?_); (case side1 => repeat (first | exact (Kd.C_below HR0.out HB.out) | (with_reducible refine Kd.C_alloc ?_ _) | (with_reducible refine Kd.C_drewN ?_ _) | (with_reducible refine Kd.C_drew ?_))); (case side2 => exact HC0.out); rintro e w92 ⟨v611, rfl, ho0, hb⟩; have n0_ := aZ (Kd.R_elder' (by (with_reducible repeat (first | apply Kd.rA | apply Kd.rN | apply Kd.rD)); exact HO_3.out) (Kd.R_base ho0) hb); have n1_ := aZ (Kd.R_elder' (by (with_reducible repeat (first | apply Kd.rA | apply Kd.rN | apply Kd.rD)); exact HO_5.out) (Kd.R_base ho0) hb); have n2_ := aZ (Kd.R_elder' (by (with_reducible repeat (first | apply Kd.rA | apply Kd.rN | apply Kd.rD)); exact HO_7.out) (Kd.R_base ho0) hb); have n3_ := aZ (Kd.R_lower (Kd.R_new' (Kd.R_new' (Kd.R_new' ho0 (Kd.R_lt (by (with_reducible repeat (first | apply Kd.rA | apply Kd.rN | apply Kd.rD)); exact HO_3.out))) (Kd.R_lt (by (with_reducible repeat (first | apply Kd.rA | apply Kd.rN | apply Kd.rD)); exact HO_5.out))) (Kd.R_lt (by (with_reducible repeat (first | apply Kd.rA | apply Kd.rN | apply Kd.rD)); exact HO_7.out))) (lZ (by repeat (first | (with_reducible first | exact HB.out | apply lA | apply lN | apply lD | refine lS ?_ GE594.out | refine lS ?_ GE600.out | refine lS ?_ GE606.out | refine lS ?_ GE609.out) | exact HB.out)))); have n4_ := aZ (blk_below (g := gb594) (o := .cells #[.int .i64 t592, .int .i64 t593] 26 (0, 0)) (by (with_reducible repeat (first | refine bN ?_ _ | refine bD ?_ | refine bA ?_ _)); exact BK594.out) hb); have n5_ := aZ (blk_below (g := gb600) (o := .cells #[.int .i64 t598, .int .i64 t599] 26 (0, 0)) (by (with_reducible repeat (first | refine bN ?_ _ | refine bD ?_ | refine bA ?_ _)); exact BK600.out) hb); have n6_ := aZ (blk_below (g := gb606) (o := .cells #[.int .i64 t604, .int .i64 t605] 26 (0, 0)) (by (with_reducible repeat (first | refine bN ?_ _ | refine bD ?_ | refine bA ?_ _)); exact BK606.out) hb); have n7_ := aZ (blk_below (g := gb609) (o := .cells #[.int .i64 t607, .int .i64 t608] 26 (0, 0)) (by (with_reducible repeat (first | refine bN ?_ _ | refine bD ?_ | refine bA ?_ _)); exact BK609.out) hb); have n8_ := aZ (lT (by repeat (first | (with_reducible first | exact HB.out | apply lA | apply lN | apply lD | refine lS ?_ GE594.out | refine lS ?_ GE600.out | refine lS ?_ GE606.out | refine lS ?_ GE609.out) | exact HB.out)) hb); clear HO_3; clear HO_5; clear HO_7; clear BK594; clear BK600; clear BK606; clear BK609; clear HB; have HO_3 := n0_; have HO_5 := n1_; have HO_7 := n2_; have HO612 := n3_; have BK594 := n4_; have BK600 := n5_; have BK606 := n6_; have BK609 := n7_; have HB := n8_; clear n0_ n1_ n2_ n3_ n4_ n5_ n6_ n7_ n8_; (try clear hb); (try clear hb2); (try clear hk); (try clear hi); (try clear ho0); obtain ⟨Ao93, co93, eo93⟩ := Kd.R_slice HO_3.out; subst eo93; obtain ⟨Ao94, co94, eo94⟩ := Kd.R_slice HO612.out; subst eo94) | (go_at_call 20; (with_reducible refine (changeforgeref3_Ints.calls kj9 _ _ t589 _ _ t610 true _ ?side1 ?side2 ?side3 ?side4 A76.out).mono ?_); (case side1 => repeat (first | exact (Kd.R_reads' HO_3.out).2.2 | (with_reducible refine Kd.C_alloc ?_ _) | (with_reducible refine Kd.C_drewN ?_ _) | (with_reducible refine Kd.C_drew ?_))); (case side2 => exact (Kd.R_reads' HO_3.out).2.1); (case side3 => repeat (first | exact (Kd.R_reads' HO612.out).2.2 | (with_reducible refine Kd.C_alloc ?_ _) | (with_reducible refine Kd.C_drewN ?_ _) | (with_reducible refine Kd.C_drew ?_))); (case side4 => exact (Kd.R_reads' HO612.out).2.1); rintro e w' ⟨rfl, ⟨nd, rfl⟩⟩) | (go_at_call 31; (with_reducible refine (changeforgeref3_OrderOf.calls kj9 _ _ l0 t614 _ ?side1 ?side2 A78.out).mono ?_); (case side1 => repeat (first | exact (Kd.C_below HR0.out (by repeat (first | (with_reducible first | exact HB.out | apply lA | apply lN | apply lD | refine lS ?_ GE594.out | refine lS ?_ GE600.out | refine lS ?_ GE606.out | refine lS ?_ GE609.out) | exact HB.out))) | (with_reducible refine Kd.C_alloc ?_ _) | (with_reducible refine Kd.C_drewN ?_ _) | (with_reducible refine Kd.C_drew ?_))); (case side2 => exact HC0.out); rintro e w95 ⟨v615, rfl, ho0, hb⟩; have n0_ := aZ (Kd.R_elder' (by (with_reducible repeat (first | apply Kd.rA | apply Kd.rN | apply Kd.rD)); exact HO_3.out) (Kd.R_base ho0) hb); have n1_ := aZ (Kd.R_elder' (by (with_reducible repeat (first | apply Kd.rA | apply Kd.rN | apply Kd.rD)); exact HO_5.out) (Kd.R_base ho0) hb); have n2_ := aZ (Kd.R_elder' (by (with_reducible repeat (first | apply Kd.rA | apply Kd.rN | apply Kd.rD)); exact HO_7.out) (Kd.R_base ho0) hb); have n3_ := aZ (Kd.R_elder' (by (with_reducible repeat (first | apply Kd.rA | apply Kd.rN | apply Kd.rD)); exact HO612.out) (Kd.R_base ho0) hb); have n4_ := aZ (Kd.R_lower (Kd.R_new' (Kd.R_new' (Kd.R_new' (Kd.R_new' ho0 (Kd.R_lt (by (with_reducible repeat (first | apply Kd.rA | apply Kd.rN | apply Kd.rD)); exact HO_3.out))) (Kd.R_lt (by (with_reducible repeat (first | apply Kd.rA | apply Kd.rN | apply Kd.rD)); exact HO_5.out))) (Kd.R_lt (by (with_reducible repeat (first | apply Kd.rA | apply Kd.rN | apply Kd.rD)); exact HO_7.out))) (Kd.R_lt (by (with_reducible repeat (first | apply Kd.rA | apply Kd.rN | apply Kd.rD)); exact HO612.out))) (lZ (by repeat (first | (with_reducible first | exact HB.out | apply lA | apply lN | apply lD | refine lS ?_ GE594.out | refine lS ?_ GE600.out | refine lS ?_ GE606.out | refine lS ?_ GE609.out) | exact HB.out)))); have n5_ := aZ (blk_below (g := gb594) (o := .cells #[.int .i64 t592, .int .i64 t593] 26 (0, 0)) (by (with_reducible repeat (first | refine bN ?_ _ | refine bD ?_ | refine bA ?_ _)); exact BK594.out) hb); have n6_ := aZ (blk_below (g := gb600) (o := .cells #[.int .i64 t598, .int .i64 t599] 26 (0, 0)) (by (with_reducible repeat (first | refine bN ?_ _ | refine bD ?_ | refine bA ?_ _)); exact BK600.out) hb); have n7_ := aZ (blk_below (g := gb606) (o := .cells #[.int .i64 t604, .int .i64 t605] 26 (0, 0)) (by (with_reducible repeat (first | refine bN ?_ _ | refine bD ?_ | refine bA ?_ _)); exact BK606.out) hb); have n8_ := aZ (blk_below (g := gb609) (o := .cells #[.int .i64 t607, .int .i64 t608] 26 (0, 0)) (by (with_reducible repeat (first | refine bN ?_ _ | refine bD ?_ | refine bA ?_ _)); exact BK609.out) hb); have n9_ := aZ (lT (by repeat (first | (with_reducible first | exact HB.out | apply lA | apply lN | apply lD | refine lS ?_ GE594.out | refine lS ?_ GE600.out | refine lS ?_ GE606.out | refine lS ?_ GE609.out) | exact HB.out)) hb); clear HO_3; clear HO_5; clear HO_7; clear HO612; clear BK594; clear BK600; clear BK606; clear BK609; clear HB; have HO_3 := n0_; have HO_5 := n1_; have HO_7 := n2_; have HO612 := n3_; have HO616 := n4_; have BK594 := n5_; have BK600 := n6_; have BK606 := n7_; have BK609 := n8_; have HB := n9_; clear n0_ n1_ n2_ n3_ n4_ n5_ n6_ n7_ n8_ n9_; (try clear hb); (try clear hb2); (try clear hk); (try clear hi); (try clear ho0); obtain ⟨Ao96, co96, eo96⟩ := Kd.R_slice HO_5.out; subst eo96; obtain ⟨Ao97, co97, eo97⟩ := Kd.R_slice HO616.out; subst eo97) | (go_at_call 20; (with_reducible refine (changeforgeref3_Ints.calls kj9 _ _ t595 _ _ t614 true _ ?side1 ?side2 ?side3 ?side4 A79.out).mono ?_); (case side1 => repeat (first | exact (Kd.R_reads' HO_5.out).2.2 | (with_reducible refine Kd.C_alloc ?_ _) | (with_reducible refine Kd.C_drewN ?_ _) | (with_reducible refine Kd.C_drew ?_))); (case side2 => exact (Kd.R_reads' HO_5.out).2.1); (case side3 => repeat (first | exact (Kd.R_reads' HO616.out).2.2 | (with_reducible refine Kd.C_alloc ?_ _) | (with_reducible refine Kd.C_drewN ?_ _) | (with_reducible refine Kd.C_drew ?_))); (case side4 => exact (Kd.R_reads' HO616.out).2.1); rintro e w' ⟨rfl, ⟨nd, rfl⟩⟩) | (go_at_call 32; (with_reducible refine (changeforgeref3_GenerationsOf.calls kj9 _ _ l0 t618 _ ?side1 ?side2 A81.out).mono ?_); (case side1 => repeat (first | exact (Kd.C_below HR0.out (by repeat (first | (with_reducible first | exact HB.out | apply lA | apply lN | apply lD | refine lS ?_ GE594.out | refine lS ?_ GE600.out | refine lS ?_ GE606.out | refine lS ?_ GE609.out) | exact HB.out))) | (with_reducible refine Kd.C_alloc ?_ _) | (with_reducible refine Kd.C_drewN ?_ _) | (with_reducible refine Kd.C_drew ?_))); (case side2 => exact HC0.out); rintro e w98 ⟨v619, rfl, ho0, hb⟩; have n0_ := aZ (Kd.R_elder' (by (with_reducible repeat (first | apply Kd.rA | apply Kd.rN | apply Kd.rD)); exact HO_3.out) (Kd.R_base ho0) hb); have n1_ := aZ (Kd.R_elder' (by (with_reducible repeat (first | apply Kd.rA | apply Kd.rN | apply Kd.rD)); exact HO_5.out) (Kd.R_base ho0) hb); have n2_ := aZ (Kd.R_elder' (by (with_reducible repeat (first | apply Kd.rA | apply Kd.rN | apply Kd.rD)); exact HO_7.out) (Kd.R_base ho0) hb); have n3_ := aZ (Kd.R_elder' (by (with_reducible repeat (first | apply Kd.rA | apply Kd.rN | apply Kd.rD)); exact HO612.out) (Kd.R_base ho0) hb); have n4_ := aZ (Kd.R_elder' (by (with_reducible repeat (first | apply Kd.rA | apply Kd.rN | apply Kd.rD)); exact HO616.out) (Kd.R_base ho0) hb); have n5_ := aZ (Kd.R_lower (Kd.R_new' (Kd.R_new' (Kd.R_new' (Kd.R_new' (Kd.R_new' ho0 (Kd.R_lt (by (with_reducible repeat (first | apply Kd.rA | apply Kd.rN | apply Kd.rD)); exact HO_3.out))) (Kd.R_lt (by (with_reducible repeat (first | apply Kd.rA | apply Kd.rN | apply Kd.rD)); exact HO_5.out))) (Kd.R_lt (by (with_reducible repeat (first | apply Kd.rA | apply Kd.rN | apply Kd.rD)); exact HO_7.out))) (Kd.R_lt (by (with_reducible repeat (first | apply Kd.rA | apply Kd.rN | apply Kd.rD)); exact HO612.out))) (Kd.R_lt (by (with_reducible repeat (first | apply Kd.rA | apply Kd.rN | apply Kd.rD)); exact HO616.out))) (lZ (by repeat (first | (with_reducible first | exact HB.out | apply lA | apply lN | apply lD | refine lS ?_ GE594.out | refine lS ?_ GE600.out | refine lS ?_ GE606.out | refine lS ?_ GE609.out) | exact HB.out)))); have n6_ := aZ (blk_below (g := gb594) (o := .cells #[.int .i64 t592, .int .i64 t593] 26 (0, 0)) (by (with_reducible repeat (first | refine bN ?_ _ | refine bD ?_ | refine bA ?_ _)); exact BK594.out) hb); have n7_ := aZ (blk_below (g := gb600) (o := .cells #[.int .i64 t598, .int .i64 t599] 26 (0, 0)) (by (with_reducible repeat (first | refine bN ?_ _ | refine bD ?_ | refine bA ?_ _)); exact BK600.out) hb); have n8_ := aZ (blk_below (g := gb606) (o := .cells #[.int .i64 t604, .int .i64 t605] 26 (0, 0)) (by (with_reducible repeat (first | refine bN ?_ _ | refine bD ?_ | refine bA ?_ _)); exact BK606.out) hb); have n9_ := aZ (blk_below (g := gb609) (o := .cells #[.int .i64 t607, .int .i64 t608] 26 (0, 0)) (by (with_reducible repeat (first | refine bN ?_ _ | refine bD ?_ | refine bA ?_ _)); exact BK609.out) hb); have n10_ := aZ (lT (by repeat (first | (with_reducible first | exact HB.out | apply lA | apply lN | apply lD | refine lS ?_ GE594.out | refine lS ?_ GE600.out | refine lS ?_ GE606.out | refine lS ?_ GE609.out) | exact HB.out)) hb); clear HO_3; clear HO_5; clear HO_7; clear HO612; clear HO616; clear BK594; clear BK600; clear BK606; clear BK609; clear HB; have HO_3 := n0_; have HO_5 := n1_; have HO_7 := n2_; have HO612 := n3_; have HO616 := n4_; have HO620 := n5_; have BK594 := n6_; have BK600 := n7_; have BK606 := n8_; have BK609 := n9_; have HB := n10_; clear n0_ n1_ n2_ n3_ n4_ n5_ n6_ n7_ n8_ n9_ n10_; (try clear hb); (try clear hb2); (try clear hk); (try clear hi); (try clear ho0); obtain ⟨Ao99, co99, eo99⟩ := Kd.R_slice HO_7.out; subst eo99; obtain ⟨Ao100, co100, eo100⟩ := Kd.R_slice HO620.out; subst eo100) | (go_at_call 20; (with_reducible refine (changeforgeref3_Ints.calls kj9 _ _ t601 _ _ t618 t621 _ ?side1 ?side2 ?side3 ?side4 A82.out).mono ?_); (case side1 => repeat (first | exact (Kd.R_reads' HO_7.out).2.2 | (with_reducible refine Kd.C_alloc ?_ _) | (with_reducible refine Kd.C_drewN ?_ _) | (with_reducible refine Kd.C_drew ?_))); (case side2 => exact (Kd.R_reads' HO_7.out).2.1); (case side3 => repeat (first | exact (Kd.R_reads' HO620.out).2.2 | (with_reducible refine Kd.C_alloc ?_ _) | (with_reducible refine Kd.C_drewN ?_ _) | (with_reducible refine Kd.C_drew ?_))); (case side4 => exact (Kd.R_reads' HO620.out).2.1); rintro e w' ⟨rfl, ⟨nd, rfl⟩⟩))
       go_ret
       exact ⟨by first | rfl | (simp [errW_none, errW_some] <;> rfl) | (simp [*, errW_none, errW_some] <;> rfl), by repeat (first | (with_reducible first | exact HB.out | apply lA | apply lN | apply lD | refine lS ?_ GE594.out | refine lS ?_ GE600.out | refine lS ?_ GE606.out | refine lS ?_ GE609.out) | exact HB.out)⟩
/-- THE PURE STATEMENT of changeforgelaw3_HistoryOrderMatchesSpec. -/
def changeforgelaw3_HistoryOrderMatchesSpec.Pure : Prop := ∀ (l0 : List (S49)), (l0.length * 64 ≤ 140737488351232 ∧ ∀ x_ ∈ l0, S49.ok x_) → ∃ k, changeforgelaw3_HistoryOrderMatchesSpec.f k l0 = some true

end Go.Proofs.Ytojhnjgnpjoacaa.P
