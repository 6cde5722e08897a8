/- What the Go functions of this seat compute, and that they do: printed by a program over the kit's print. -/
import Derived.Test.YtgmpnghgmcgghaaP0
import Derived.Test.YtgmpnghgmcgghaaP12
namespace Go.Proofs.Ytgmpnghgmcgghaa.P
open Go.RowKit Go.Proofs.YtgmpnghgmcgghaaW.PrintWords Go.Proofs.YtgmpnghgmcgghaaW.PrintLast Go.Proofs.YtgmpnghgmcgghaaW.PrintMore
attribute [local go_sem] max2_int min2_int max_two min_two max_three min_three max_four min_four   -- for this text's walks alone
set_option linter.unusedVariables false
set_option linter.unusedSimpArgs false

/-! ### changeforgeref3_ChainVersion: function 23 -/
def changeforgeref3_ChainVersion.f : Nat → List (S45) → Int → Option (List Int)
  | 0, _, _ => none
  | k + 1, l0, a1 => if 0 ≤ a1 then (if a1 < (l0.length : Int) then (if ((rd_T45 l0 a1).f0) < 0 then (some ((rd_T45 l0 a1).f1)) else ((changeforgeref3_ChainVersion.f k l0 ((rd_T45 l0 a1).f0)).bind fun t446 => ((changeforgeref3_ApplyDelta.f k t446 ((rd_T45 l0 a1).f2)).bind fun bt450 => (some bt450.1)))) else (none)) else (none)
theorem changeforgeref3_ChainVersion.mono_l : ∀ k, (∀ y0 y1, LeO (changeforgeref3_ChainVersion.f k y0 y1) (changeforgeref3_ChainVersion.f (k + 1) y0 y1))
  | 0 => fun _ _ r h => by simp [changeforgeref3_ChainVersion.f] at h
  | k + 1 => by
    have ih0 := changeforgeref3_ChainVersion.mono_l k
    · intro y0 y1
      unfold changeforgeref3_ChainVersion.f
      repeat' first
      | (with_reducible exact ih0 _ _)
      | (with_reducible exact changeforgeref3_ApplyDelta.mono _ _ _)
      | (with_reducible exact LeO.refl _)
      | (with_reducible exact LeO.none _)
      | (with_reducible refine LeO.ite ?_ ?_)
      | (with_reducible refine LeO.bind ?_ (fun _ => ?_))
      | exact ih0 _ _
      | exact changeforgeref3_ApplyDelta.mono _ _ _
      | exact LeO.none _
      | refine LeO.ite ?_ ?_
      | refine LeO.bind ?_ (fun _ => ?_)
theorem changeforgeref3_ChainVersion.mono : ∀ a0 a1 k, LeO (changeforgeref3_ChainVersion.f k a0 a1) (changeforgeref3_ChainVersion.f (k + 1) a0 a1) := by
  intro a0 a1 k
  have ih0 := changeforgeref3_ChainVersion.mono_l k
  exact ih0 a0 a1
def changeforgeref3_ChainVersion.T3 : Bool × List (List Nat × List Nat) := (true, [([], []), ([], []), ([], []), ([1, 2], [1, 2]), ([3], [3]), ([4], [4]), ([0, 5], [0, 5]), ([], []), ([], []), ([7, 8], [7, 8]), ([9], [9]), ([10], [10]), ([6, 11, 6], [6, 11]), ([12], [12]), ([13], [13]), ([13], [13]), ([], []), ([14, 12, 0, 1, 2, 3, 4, 5, 6, 7, 8, 9, 10, 11, 12, 13, 14, 16], [14]), ([16, 15, 17, 0, 1, 2, 3, 4, 5, 6, 7, 8, 9, 10, 11, 12, 13, 14, 15, 16, 17], [15, 16])])
def changeforgeref3_ChainVersion.B3 : List Nat := [0, 0, 0, 6, 14, 30, 63, 0, 0, 384, 896, 1920, 4095, 8191, 16383, 16383, 0, 98303, 262143]
theorem changeforgeref3_ChainVersion.tab3 : rtab .any (opsOf Try.f23 3) = changeforgeref3_ChainVersion.T3 := by kernel_rfl
theorem changeforgeref3_ChainVersion.bits3 : waitsOk changeforgeref3_ChainVersion.T3.2 changeforgeref3_ChainVersion.B3 = true := by kernel_rfl
abbrev changeforgeref3_ChainVersion.Z1 : Array Bool := #[false, false, false, false, false, false, false, false, false, false, false, false, false, false, false, false, false, false, false]
abbrev changeforgeref3_ChainVersion.Z2 : Array Bool := #[true, false, false, false, false, false, false, false, false, false, false, false, false, false, false, false, false, false, false]
abbrev changeforgeref3_ChainVersion.Z3 : Array Bool := #[true, true, false, false, false, false, false, false, false, false, false, false, false, false, false, false, false, false, false]
abbrev changeforgeref3_ChainVersion.Z4 : Array Bool := #[true, true, true, false, false, false, false, false, false, false, false, false, false, false, false, false, false, false, false]
abbrev changeforgeref3_ChainVersion.Z5 : Array Bool := #[true, true, true, true, false, false, false, false, false, false, false, false, false, false, false, false, false, false, false]
abbrev changeforgeref3_ChainVersion.Z6 : Array Bool := #[true, true, true, true, true, false, false, false, false, false, false, false, false, false, false, false, false, false, false]
abbrev changeforgeref3_ChainVersion.Z7 : Array Bool := #[true, true, true, true, true, false, false, true, false, false, false, false, false, false, false, false, false, false, false]
abbrev changeforgeref3_ChainVersion.Z8 : Array Bool := #[true, true, true, true, true, false, false, true, true, false, false, false, false, false, false, false, false, false, false]
abbrev changeforgeref3_ChainVersion.Z9 : Array Bool := #[true, true, true, true, true, false, false, true, true, true, false, false, false, false, false, false, false, false, false]
abbrev changeforgeref3_ChainVersion.Z10 : Array Bool := #[true, true, true, true, true, false, false, true, true, true, true, false, false, false, false, false, false, false, false]
abbrev changeforgeref3_ChainVersion.Z11 : Array Bool := #[true, true, true, true, true, true, false, true, true, true, true, false, false, false, false, false, false, false, false]
abbrev changeforgeref3_ChainVersion.Z12 : Array Bool := #[true, true, true, true, true, true, false, true, true, true, true, true, false, false, false, false, false, false, false]
abbrev changeforgeref3_ChainVersion.Z13 : Array Bool := #[true, true, true, true, true, true, true, true, true, true, true, true, true, true, true, true, true, false, false]
abbrev changeforgeref3_ChainVersion.Z14 : Array Bool := #[true, true, true, true, true, true, true, true, true, true, true, true, false, false, false, false, false, false, false]
abbrev changeforgeref3_ChainVersion.Z15 : Array Bool := #[true, true, true, true, true, true, false, true, true, true, true, true, false, false, false, false, true, false, false]
abbrev changeforgeref3_ChainVersion.Z16 : Array Bool := #[true, true, true, true, true, true, true, true, true, true, true, true, true, false, false, false, false, false, false]
abbrev changeforgeref3_ChainVersion.Z17 : Array Bool := #[true, true, true, true, true, true, true, true, true, true, true, true, false, false, false, false, true, false, false]
abbrev changeforgeref3_ChainVersion.Z18 : Array Bool := #[true, true, true, true, true, true, true, true, true, true, true, true, true, true, false, false, false, false, false]
abbrev changeforgeref3_ChainVersion.Z19 : Array Bool := #[true, true, true, true, true, true, true, true, true, true, true, true, true, true, true, false, false, false, false]
abbrev changeforgeref3_ChainVersion.Z20 : Array Bool := #[true, true, true, true, true, true, true, true, true, true, true, true, true, true, true, true, false, false, false]
abbrev changeforgeref3_ChainVersion.Z21 : Array Bool := #[true, true, true, true, true, true, true, true, true, true, true, true, true, false, false, false, true, false, false]
abbrev changeforgeref3_ChainVersion.Z22 : Array Bool := #[true, true, true, true, true, true, true, true, true, true, true, true, true, true, false, false, true, false, false]
abbrev changeforgeref3_ChainVersion.Z23 : Array Bool := #[true, true, true, true, true, true, true, true, true, true, true, true, true, true, true, false, true, false, false]
abbrev changeforgeref3_ChainVersion.Z24 : Array Bool := #[true, true, true, true, true, true, true, true, true, true, true, true, true, true, true, true, true, true, false]
abbrev changeforgeref3_ChainVersion.Z25 : Array Bool := #[true, true, true, true, true, true, true, true, true, true, true, true, true, true, true, true, true, true, true]
set_option maxHeartbeats 8000000 in
set_option maxRecDepth 100000 in
theorem changeforgeref3_ChainVersion.calls (k : Nat) : ∀ (P0_ : Nat → Prop) (A0 : Option Addr) (c0 : Nat) (l0 : List (S45)) (a1 : Int) (r : List Int) (w : World) (hs0 : Kd.V k45 45 w w.heap.size (fun k_ => P0_ k_) (.slice A0 l0.length c0) l0) (h : changeforgeref3_ChainVersion.f k l0 a1 = some r),
  Calls Try.prog 23 #[.slice A0 l0.length c0, .int .i64 a1] w fun e w' => ∃ v0_ : Value, e = .returned (v0_) ∧ Kd.V (Kd.int .u8) 5 w' w.heap.size (fun k_ => (P0_ k_ ∨ w.heap.size ≤ k_)) v0_ r ∧ Below w.heap.size w w' := by
  induction k using Nat.strongRecOn with
  | _ k ih =>
  intro P0_ A0 c0 l0 a1 r w hs0 h
  cases k with
  | zero => exact absurd h (by simp [changeforgeref3_ChainVersion.f])
  | succ k =>
  simp only [changeforgeref3_ChainVersion.f] at h
  have hu26 := Try.underlying26
  have HO0 := aZ (show Kd.V k45 45 w w.heap.size (fun k_ => (P0_ k_ ∨ w.heap.size ≤ k_)) (.slice A0 l0.length c0) l0 from Kd.V_mono hs0 (fun k_ hk => .inl hk))
  have HB := aZ (Below.refl w.heap.size w)
  have H : (if 0 ≤ a1 then (if a1 < (l0.length : Int) then (if ((rd_T45 l0 a1).f0) < 0 then (some ((rd_T45 l0 a1).f1)) else ((changeforgeref3_ChainVersion.f k l0 ((rd_T45 l0 a1).f0)).bind fun t446 => ((changeforgeref3_ApplyDelta.f k t446 ((rd_T45 l0 a1).f2)).bind fun bt450 => (some bt450.1)))) else (none)) else (none)) = some r := h
  clear h
  by_cases c3 : 0 ≤ a1
  rotate_left
  · rw [if_neg c3] at H
    exact absurd H (by simp)

  rw [if_pos c3] at H
  have c3b0 : decide (0 ≤ a1) = true := decide_eq_true c3
  clear c3
  by_cases c4 : a1 < (l0.length : Int)
  rotate_left
  · rw [if_neg c4] at H
    exact absurd H (by simp)
  rw [if_pos c4] at H
  have c4b0 : decide (a1 < (l0.length : Int)) = true := decide_eq_true c4
  clear c4
  by_cases c5 : ((rd_T45 l0 a1).f0) < 0
  · rw [if_pos c5] at H
    have c5b0 : decide (((rd_T45 l0 a1).f0) < 0) = true := decide_eq_true c5
    clear c5
    obtain rfl := Option.some.inj H
    have p443 : 0 ≤ (a1 : Int) := of_decide_eq_true (by first | (with_reducible assumption) | assumption)
    have q443 : a1 < (l0.length : Int) := of_decide_eq_true (by first | (with_reducible assumption) | assumption)
    obtain ⟨ad443, A443_1, c443_1, A443_2, c443_2, e443, hx443_0, hx443_1, hx443_2, hl443_1, hi443_1, hl443_2, hi443_2⟩ := at_T45 (Kd.V_reads' HO0.out).2.2 a1 p443 q443
    cases e443
    obtain ⟨ce443, hce443, hMe443, hcc443⟩ := Kd.V_get HO0.out z45 a1 p443 (by first | exact q443 | exact of_decide_eq_true (by first | (with_reducible assumption) | assumption) | (have e_ := (Kd.V_reads' HO0.out).1; omega))
    obtain ⟨ua443_1, uc443_1, ua443_2, uc443_2, rfl, ul443_1, ge443_1, ul443_2, ge443_2⟩ := k45_openF hMe443
    have hv443_1 := hcc443 1 _ rfl
    rw [add_field _ _ 1 (by omega)] at hv443_1
    replace hv443_1 := Option.some.inj (hv443_1.symm.trans hx443_1)
    injection hv443_1 with hva_ hvn_ hvc_
    rw [hva_] at ge443_1
    rw [hvc_] at ul443_1
    have HL443_1 := aZ (show Kd.V (Kd.int .u8) 5 _ w.heap.size _ _ ((rd_T45 l0 a1).f1) from Kd.V_mk ul443_1 ge443_1)
    clear hva_ hvn_ hvc_ ge443_1 ul443_1
    have hv443_2 := hcc443 2 _ rfl
    rw [add_field _ _ 2 (by omega)] at hv443_2
    replace hv443_2 := Option.some.inj (hv443_2.symm.trans hx443_2)
    injection hv443_2 with hva_ hvn_ hvc_
    rw [hva_] at ge443_2
    rw [hvc_] at ul443_2
    have HL443_2 := aZ (show Kd.V k37 37 _ w.heap.size _ _ ((rd_T45 l0 a1).f2) from Kd.V_mk ul443_2 ge443_2)
    clear hva_ hvn_ hvc_ ge443_2 ul443_2
    clear hcc443 hce443
    have HR443_1 := aZ hi443_1
    have HC443_1 := aZ hl443_1
    clear hi443_1 hl443_1
    have HR443_2 := aZ hi443_2
    have HC443_2 := aZ hl443_2
    clear hi443_2 hl443_2
    replace p443 := eq_true p443
    replace q443 := eq_true q443
    have p444 : 0 ≤ (a1 : Int) := of_decide_eq_true (by first | (with_reducible assumption) | assumption)
    have q444 : a1 < (l0.length : Int) := of_decide_eq_true (by first | (with_reducible assumption) | assumption)
    obtain ⟨ad444, A444_1, c444_1, A444_2, c444_2, e444, hx444_0, hx444_1, hx444_2, hl444_1, hi444_1, hl444_2, hi444_2⟩ := at_T45 (Kd.V_reads' HO0.out).2.2 a1 p444 q444
    obtain rfl : ad443 = ad444 := (by injection e444)
    obtain ⟨ce444, hce444, hMe444, hcc444⟩ := Kd.V_get HO0.out z45 a1 p444 (by first | exact q444 | exact of_decide_eq_true (by first | (with_reducible assumption) | assumption) | (have e_ := (Kd.V_reads' HO0.out).1; omega))
    obtain ⟨ua444_1, uc444_1, ua444_2, uc444_2, rfl, ul444_1, ge444_1, ul444_2, ge444_2⟩ := k45_openF hMe444
    have hv444_1 := hcc444 1 _ rfl
    rw [add_field _ _ 1 (by omega)] at hv444_1
    replace hv444_1 := Option.some.inj (hv444_1.symm.trans hx444_1)
    injection hv444_1 with hva_ hvn_ hvc_
    rw [hva_] at ge444_1
    rw [hvc_] at ul444_1
    have HL444_1 := aZ (show Kd.V (Kd.int .u8) 5 _ w.heap.size _ _ ((rd_T45 l0 a1).f1) from Kd.V_mk ul444_1 ge444_1)
    clear hva_ hvn_ hvc_ ge444_1 ul444_1
    have hv444_2 := hcc444 2 _ rfl
    rw [add_field _ _ 2 (by omega)] at hv444_2
    replace hv444_2 := Option.some.inj (hv444_2.symm.trans hx444_2)
    injection hv444_2 with hva_ hvn_ hvc_
    rw [hva_] at ge444_2
    rw [hvc_] at ul444_2
    have HL444_2 := aZ (show Kd.V k37 37 _ w.heap.size _ _ ((rd_T45 l0 a1).f2) from Kd.V_mk ul444_2 ge444_2)
    clear hva_ hvn_ hvc_ ge444_2 ul444_2
    clear hcc444 hce444
    have HR444_1 := aZ hi444_1
    have HC444_1 := aZ hl444_1
    clear hi444_1 hl444_1
    have HR444_2 := aZ hi444_2
    have HC444_2 := aZ hl444_2
    clear hi444_2 hl444_2
    replace p444 := eq_true p444
    replace q444 := eq_true q444
    have ea_ := Option.some.inj (hx443_1.symm.trans hx444_1)
    injection ea_ with ea_ en_ ec_
    subst ea_
    subst ec_
    clear en_
    have ea_ := Option.some.inj (hx443_2.symm.trans hx444_2)
    injection ea_ with ea_ en_ ec_
    subst ea_
    subst ec_
    clear en_
    go_enter Try.func23, Try.ntmps23
    go_wp2
    go_ret
    exact ⟨_, by first | rfl | (simp [errW_none, errW_some] <;> rfl) | (simp [*, errW_none, errW_some] <;> rfl), by (with_reducible repeat (first | apply Kd.V_alloc | apply Kd.V_drewN | apply Kd.V_drew)); exact HL444_1.out, by repeat (first | (with_reducible first | exact HB.out | apply lA | apply lN | apply lD) | exact HB.out)⟩
  rw [if_neg c5] at H
  have c5b0 : decide (((rd_T45 l0 a1).f0) < 0) = false := decide_eq_false c5
  clear c5
  replace H := Option.bind_eq_some_iff.mp H
  obtain ⟨t446, A60, H⟩ := H
  replace H : ((changeforgeref3_ApplyDelta.f k t446 ((rd_T45 l0 a1).f2)).bind fun bt450 => (some bt450.1)) = some r := H
  have A6 := aZ A60
  clear A60
  replace H := Option.bind_eq_some_iff.mp H
  obtain ⟨⟨t450, t453, t454⟩, A70, H⟩ := H
  replace H : (some t450) = some r := H
  have A7 := aZ A70
  clear A70
  obtain rfl := Option.some.inj H
  have p443 : 0 ≤ (a1 : Int) := of_decide_eq_true (by first | (with_reducible assumption) | assumption)
  have q443 : a1 < (l0.length : Int) := of_decide_eq_true (by first | (with_reducible assumption) | assumption)
  obtain ⟨ad443, A443_1, c443_1, A443_2, c443_2, e443, hx443_0, hx443_1, hx443_2, hl443_1, hi443_1, hl443_2, hi443_2⟩ := at_T45 (Kd.V_reads' HO0.out).2.2 a1 p443 q443
  cases e443
  obtain ⟨ce443, hce443, hMe443, hcc443⟩ := Kd.V_get HO0.out z45 a1 p443 (by first | exact q443 | exact of_decide_eq_true (by first | (with_reducible assumption) | assumption) | (have e_ := (Kd.V_reads' HO0.out).1; omega))
  obtain ⟨ua443_1, uc443_1, ua443_2, uc443_2, rfl, ul443_1, ge443_1, ul443_2, ge443_2⟩ := k45_openF hMe443
  have hv443_1 := hcc443 1 _ rfl
  rw [add_field _ _ 1 (by omega)] at hv443_1
  replace hv443_1 := Option.some.inj (hv443_1.symm.trans hx443_1)
  injection hv443_1 with hva_ hvn_ hvc_
  rw [hva_] at ge443_1
  rw [hvc_] at ul443_1
  have HL443_1 := aZ (show Kd.V (Kd.int .u8) 5 _ w.heap.size _ _ ((rd_T45 l0 a1).f1) from Kd.V_mk ul443_1 ge443_1)
  clear hva_ hvn_ hvc_ ge443_1 ul443_1
  have hv443_2 := hcc443 2 _ rfl
  rw [add_field _ _ 2 (by omega)] at hv443_2
  replace hv443_2 := Option.some.inj (hv443_2.symm.trans hx443_2)
  injection hv443_2 with hva_ hvn_ hvc_
  rw [hva_] at ge443_2
  rw [hvc_] at ul443_2
  have HL443_2 := aZ (show Kd.V k37 37 _ w.heap.size _ _ ((rd_T45 l0 a1).f2) from Kd.V_mk ul443_2 ge443_2)
  clear hva_ hvn_ hvc_ ge443_2 ul443_2
  clear hcc443 hce443
  have HR443_1 := aZ hi443_1
  have HC443_1 := aZ hl443_1
  clear hi443_1 hl443_1
  have HR443_2 := aZ hi443_2
  have HC443_2 := aZ hl443_2
  clear hi443_2 hl443_2
  replace p443 := eq_true p443
  replace q443 := eq_true q443
  go_enter Try.func23, Try.ntmps23
  try go_wp2
  have n0_ := aZ (Kd.V_drew HO0.out)
  have n1_ := aZ (Kd.V_drew HL443_1.out)
  have n2_ := aZ (Kd.V_drew HL443_2.out)
  have n3_ := aZ (Kd.C_drew HR443_1.out)
  have n4_ := aZ (Kd.C_drew HR443_2.out)
  have n5_ := aZ (lD HB.out)
  clear HO0
  clear HL443_1
  clear HL443_2
  clear HR443_1
  clear HR443_2
  clear HB
  have HO0 := n0_
  have HL443_1 := n1_
  have HL443_2 := n2_
  have HR443_1 := n3_
  have HR443_2 := n4_
  have HB := n5_
  clear n0_ n1_ n2_ n3_ n4_ n5_
  have p445 : 0 ≤ (a1 : Int) := of_decide_eq_true (by first | (with_reducible assumption) | assumption)
  have q445 : a1 < (l0.length : Int) := of_decide_eq_true (by first | (with_reducible assumption) | assumption)
  obtain ⟨ad445, A445_1, c445_1, A445_2, c445_2, e445, hx445_0, hx445_1, hx445_2, hl445_1, hi445_1, hl445_2, hi445_2⟩ := at_T45 (Kd.V_reads' HO0.out).2.2 a1 p445 q445
  obtain rfl : ad443 = ad445 := (by injection e445)
  obtain ⟨ce445, hce445, hMe445, hcc445⟩ := Kd.V_get HO0.out z45 a1 p445 (by first | exact q445 | exact of_decide_eq_true (by first | (with_reducible assumption) | assumption) | (have e_ := (Kd.V_reads' HO0.out).1; omega))
  obtain ⟨ua445_1, uc445_1, ua445_2, uc445_2, rfl, ul445_1, ge445_1, ul445_2, ge445_2⟩ := k45_openF hMe445
  have hv445_1 := hcc445 1 _ rfl
  rw [add_field _ _ 1 (by omega)] at hv445_1
  replace hv445_1 := Option.some.inj (hv445_1.symm.trans hx445_1)
  injection hv445_1 with hva_ hvn_ hvc_
  rw [hva_] at ge445_1
  rw [hvc_] at ul445_1
  have HL445_1 := aZ (show Kd.V (Kd.int .u8) 5 _ w.heap.size _ _ ((rd_T45 l0 a1).f1) from Kd.V_mk ul445_1 ge445_1)
  clear hva_ hvn_ hvc_ ge445_1 ul445_1
  have hv445_2 := hcc445 2 _ rfl
  rw [add_field _ _ 2 (by omega)] at hv445_2
  replace hv445_2 := Option.some.inj (hv445_2.symm.trans hx445_2)
  injection hv445_2 with hva_ hvn_ hvc_
  rw [hva_] at ge445_2
  rw [hvc_] at ul445_2
  have HL445_2 := aZ (show Kd.V k37 37 _ w.heap.size _ _ ((rd_T45 l0 a1).f2) from Kd.V_mk ul445_2 ge445_2)
  clear hva_ hvn_ hvc_ ge445_2 ul445_2
  clear hcc445 hce445
  have HR445_1 := aZ hi445_1
  have HC445_1 := aZ hl445_1
  clear hi445_1 hl445_1
  have HR445_2 := aZ hi445_2
  have HC445_2 := aZ hl445_2
  clear hi445_2 hl445_2
  replace p445 := eq_true p445
  replace q445 := eq_true q445
  have p449 : 0 ≤ (a1 : Int) := of_decide_eq_true (by first | (with_reducible assumption) | assumption)
  have q449 : a1 < (l0.length : Int) := of_decide_eq_true (by first | (with_reducible assumption) | assumption)
  obtain ⟨ad449, A449_1, c449_1, A449_2, c449_2, e449, hx449_0, hx449_1, hx449_2, hl449_1, hi449_1, hl449_2, hi449_2⟩ := at_T45 (Kd.V_reads' HO0.out).2.2 a1 p449 q449
  obtain rfl : ad443 = ad449 := (by injection e449)
  obtain ⟨ce449, hce449, hMe449, hcc449⟩ := Kd.V_get HO0.out z45 a1 p449 (by first | exact q449 | exact of_decide_eq_true (by first | (with_reducible assumption) | assumption) | (have e_ := (Kd.V_reads' HO0.out).1; omega))
  obtain ⟨ua449_1, uc449_1, ua449_2, uc449_2, rfl, ul449_1, ge449_1, ul449_2, ge449_2⟩ := k45_openF hMe449
  have hv449_1 := hcc449 1 _ rfl
  rw [add_field _ _ 1 (by omega)] at hv449_1
  replace hv449_1 := Option.some.inj (hv449_1.symm.trans hx449_1)
  injection hv449_1 with hva_ hvn_ hvc_
  rw [hva_] at ge449_1
  rw [hvc_] at ul449_1
  have HL449_1 := aZ (show Kd.V (Kd.int .u8) 5 _ w.heap.size _ _ ((rd_T45 l0 a1).f1) from Kd.V_mk ul449_1 ge449_1)
  clear hva_ hvn_ hvc_ ge449_1 ul449_1
  have hv449_2 := hcc449 2 _ rfl
  rw [add_field _ _ 2 (by omega)] at hv449_2
  replace hv449_2 := Option.some.inj (hv449_2.symm.trans hx449_2)
  injection hv449_2 with hva_ hvn_ hvc_
  rw [hva_] at ge449_2
  rw [hvc_] at ul449_2
  have HL449_2 := aZ (show Kd.V k37 37 _ w.heap.size _ _ ((rd_T45 l0 a1).f2) from Kd.V_mk ul449_2 ge449_2)
  clear hva_ hvn_ hvc_ ge449_2 ul449_2
  clear hcc449 hce449
  have HR449_1 := aZ hi449_1
  have HC449_1 := aZ hl449_1
  clear hi449_1 hl449_1
  have HR449_2 := aZ hi449_2
  have HC449_2 := aZ hl449_2
  clear hi449_2 hl449_2
  replace p449 := eq_true p449
  replace q449 := eq_true q449
  have ea_ := Option.some.inj (hx445_1.symm.trans hx449_1)
  injection ea_ with ea_ en_ ec_
  subst ea_
  subst ec_
  clear en_
  have ea_ := Option.some.inj (hx445_2.symm.trans hx449_2)
  injection ea_ with ea_ en_ ec_
  subst ea_
  subst ec_
  clear en_
  refine start_ (n := 19) (S := fun w' => w'.cell? (ad443.add ((a1).toNat * 3)) = some (.int .i64 ((rd_T45 l0 a1).f0)) ∧ w'.cell? ⟨(ad443.add ((a1).toNat * 3)).block, (ad443.add ((a1).toNat * 3)).off + 1, none⟩ = some (.slice A445_1 ((rd_T45 l0 a1).f1).length c445_1) ∧ w'.cell? ⟨(ad443.add ((a1).toNat * 3)).block, (ad443.add ((a1).toNat * 3)).off + 2, none⟩ = some (.slice A445_2 ((rd_T45 l0 a1).f2).length c445_2) ∧ w'.cell? (ad443.add ((a1).toNat * 3)) = some (.int .i64 ((rd_T45 l0 a1).f0)) ∧ w'.cell? ⟨(ad443.add ((a1).toNat * 3)).block, (ad443.add ((a1).toNat * 3)).off + 1, none⟩ = some (.slice A445_1 ((rd_T45 l0 a1).f1).length c445_1) ∧ w'.cell? ⟨(ad443.add ((a1).toNat * 3)).block, (ad443.add ((a1).toNat * 3)).off + 2, none⟩ = some (.slice A445_2 ((rd_T45 l0 a1).f2).length c445_2)) (ds := []) Z1 (by kernel_rfl) rfl rfl ⟨hx445_0, hx445_1, hx445_2, hx449_0, hx449_1, hx449_2⟩ (fun hHeld => ?_); refine with_tabW changeforgeref3_ChainVersion.tab3 changeforgeref3_ChainVersion.bits3 (fun HT_ HW_ => ?_)
  generalize w.drew = w8 at HO0 HL443_1 HL443_2 HR443_1 HR443_2 HB HL445_1 HL445_2 HL449_1 HL449_2 HR445_1 HR445_2 HR449_1 HR449_2 hx445_0 hx445_1 hx445_2 hx449_0 hx449_1 hx449_2 hHeld ⊢
  refine pu 0 19 Z2 HT_ rfl rfl (h := ?_)
  refine pu 1 20 Z3 HT_ rfl rfl (h := ?_)
  refine pu 2 21 Z4 HT_ rfl rfl (h := ?_)
  refine pu 3 22 Z5 HT_ rfl rfl (h := ?_)
  refine pu 4 23 Z6 HT_ rfl rfl (h := ?_)
  refine pu 7 26 Z7 HT_ rfl rfl (h := ?_)
  refine pu 8 27 Z8 HT_ rfl rfl (h := ?_)
  refine pu 9 28 Z9 HT_ rfl rfl (h := ?_)
  refine pu 10 29 Z10 HT_ rfl rfl (h := ?_)
  refine tk 5 24 Z11 HT_ HW_ rfl rfl hHeld (by rintro w' ⟨s0, s1, s2, s3, s4, s5⟩; go_simp; with_reducible rfl) (h := ?_)
  refine tk 11 30 Z12 HT_ HW_ rfl rfl hHeld (by rintro w' ⟨s0, s1, s2, s3, s4, s5⟩; go_simp; with_reducible rfl) (h := ?_)
  refine join_ (σ := Value × Value × Nat) 2 Z13 (fun s_ => [(25, s_.1), (31, .tuple #[s_.2.1, .agg #[.int .i64 t453, .int .i64 t454]]), (6, .pointer (some ⟨s_.2.2, 0, none⟩)), (18, .tuple #[s_.2.1, .agg #[.int .i64 t453, .int .i64 t454]]), (32, s_.2.1), (33, .agg #[.int .i64 t453, .int .i64 t454])]) (fun s_ w' => (w'.cell? (ad443.add ((a1).toNat * 3)) = some (.int .i64 ((rd_T45 l0 a1).f0)) ∧ w'.cell? ⟨(ad443.add ((a1).toNat * 3)).block, (ad443.add ((a1).toNat * 3)).off + 1, none⟩ = some (.slice A445_1 ((rd_T45 l0 a1).f1).length c445_1) ∧ w'.cell? ⟨(ad443.add ((a1).toNat * 3)).block, (ad443.add ((a1).toNat * 3)).off + 2, none⟩ = some (.slice A445_2 ((rd_T45 l0 a1).f2).length c445_2) ∧ w'.cell? (ad443.add ((a1).toNat * 3)) = some (.int .i64 ((rd_T45 l0 a1).f0)) ∧ w'.cell? ⟨(ad443.add ((a1).toNat * 3)).block, (ad443.add ((a1).toNat * 3)).off + 1, none⟩ = some (.slice A445_1 ((rd_T45 l0 a1).f1).length c445_1) ∧ w'.cell? ⟨(ad443.add ((a1).toNat * 3)).block, (ad443.add ((a1).toNat * 3)).off + 2, none⟩ = some (.slice A445_2 ((rd_T45 l0 a1).f2).length c445_2)) ∧ (Kd.V (Kd.int .u8) 5 w' w.heap.size (fun k_ => (P0_ k_ ∨ w.heap.size ≤ k_) ∧ some k_ ≠ (s_.2.1 : Value).ownBlock ∧ k_ ≠ s_.2.2) (.slice A443_1 ((rd_T45 l0 a1).f1).length c443_1) ((rd_T45 l0 a1).f1)) ∧ (Kd.V k37 37 w' w.heap.size (fun k_ => (P0_ k_ ∨ w.heap.size ≤ k_) ∧ some k_ ≠ (s_.2.1 : Value).ownBlock ∧ k_ ≠ s_.2.2) (.slice A443_2 ((rd_T45 l0 a1).f2).length c443_2) ((rd_T45 l0 a1).f2)) ∧ (Kd.V (Kd.int .u8) 5 w' w.heap.size (fun k_ => (P0_ k_ ∨ w.heap.size ≤ k_) ∧ some k_ ≠ (s_.2.1 : Value).ownBlock ∧ k_ ≠ s_.2.2) (.slice A445_1 ((rd_T45 l0 a1).f1).length c445_1) ((rd_T45 l0 a1).f1)) ∧ (Kd.V k37 37 w' w.heap.size (fun k_ => (P0_ k_ ∨ w.heap.size ≤ k_) ∧ some k_ ≠ (s_.2.1 : Value).ownBlock ∧ k_ ≠ s_.2.2) (.slice A445_2 ((rd_T45 l0 a1).f2).length c445_2) ((rd_T45 l0 a1).f2)) ∧ (Kd.V (Kd.int .u8) 5 w' w.heap.size (fun k_ => (P0_ k_ ∨ w.heap.size ≤ k_) ∧ some k_ ≠ (s_.2.1 : Value).ownBlock ∧ k_ ≠ s_.2.2) (.slice A445_1 ((rd_T45 l0 a1).f1).length c445_1) ((rd_T45 l0 a1).f1)) ∧ (Kd.V k37 37 w' w.heap.size (fun k_ => (P0_ k_ ∨ w.heap.size ≤ k_) ∧ some k_ ≠ (s_.2.1 : Value).ownBlock ∧ k_ ≠ s_.2.2) (.slice A445_2 ((rd_T45 l0 a1).f2).length c445_2) ((rd_T45 l0 a1).f2)) ∧ (Kd.V k45 45 w' w.heap.size (fun k_ => (P0_ k_ ∨ w.heap.size ≤ k_) ∧ some k_ ≠ (s_.2.1 : Value).ownBlock ∧ k_ ≠ s_.2.2) (.slice (some ad443) l0.length c0) l0) ∧ (Kd.V (Kd.int .u8) 5 w' w.heap.size (fun k_ => (P0_ k_ ∨ w.heap.size ≤ k_) ∧ some k_ ≠ (s_.2.1 : Value).ownBlock ∧ k_ ≠ s_.2.2) s_.1 t446) ∧ (Kd.R (Kd.int .u8) 5 w' w.heap.size (fun k_ => (w.heap.size ≤ k_)) s_.2.1 t450) ∧ (w'.heap[s_.2.2]? = some (.cells #[.int .i64 0, .int .i64 0] 26 (0, 0))) ∧ (w.heap.size ≤ s_.2.2) ∧ (w.heap.size ≤ s_.2.2) ∧ (Below w.heap.size w w')) ?_ ?_
  rotate_left
  · intro hCont
    refine two_ (i := 6) (j := 16) (Ni := some 25) (Nj := some 6) Z14 Z15 rfl rfl rfl rfl (two_of HT_.out (by kernel_rfl)) (by decide) (by decide) (fun K hK => ?_) (fun K hK => ?_)
    · skip
      refine goes_ Try.func23 (by kernel_rfl) rfl #[.slice (some ad443) l0.length c0, .int .i64 ((rd_T45 l0 a1).f0)] (by rfl) rfl rfl (by (try simp only [List.map_toArray, List.map_cons, List.map_nil]); first | done | rfl | (simp only [List.length_drop, List.length_take]; rfl)) ?_
      with_reducible refine (ih k (by omega) (fun k_ => (P0_ k_ ∨ w.heap.size ≤ k_)) _ _ l0 ((rd_T45 l0 a1).f0) t446 _ ?side1 A6.out).mono ?_
      (case side1 => exact HO0.out)
      rintro e w9 ⟨v447, rfl, ho0, hb⟩
      have HS0_ := (hb.cell (World.block_lt_of_cell? _ _ (hHeld.1))).trans (hHeld.1)
      have HS1_ := (hb.cell (World.block_lt_of_cell? _ _ (hHeld.2.1))).trans (hHeld.2.1)
      have HS2_ := (hb.cell (World.block_lt_of_cell? _ _ (hHeld.2.2.1))).trans (hHeld.2.2.1)
      have HS3_ := (hb.cell (World.block_lt_of_cell? _ _ (hHeld.2.2.2.1))).trans (hHeld.2.2.2.1)
      have HS4_ := (hb.cell (World.block_lt_of_cell? _ _ (hHeld.2.2.2.2.1))).trans (hHeld.2.2.2.2.1)
      have HS5_ := (hb.cell (World.block_lt_of_cell? _ _ (hHeld.2.2.2.2.2))).trans (hHeld.2.2.2.2.2)
      refine ⟨_, rfl, ?_⟩
      have n0_ := aZ (Kd.V_below (by (with_reducible repeat (first | apply Kd.V_alloc | apply Kd.V_drewN | apply Kd.V_drew)); exact HO0.out) hb)
      have n1_ := aZ (Kd.V_below (by (with_reducible repeat (first | apply Kd.V_alloc | apply Kd.V_drewN | apply Kd.V_drew)); exact HL443_1.out) hb)
      have n2_ := aZ (Kd.V_below (by (with_reducible repeat (first | apply Kd.V_alloc | apply Kd.V_drewN | apply Kd.V_drew)); exact HL443_2.out) hb)
      have n3_ := aZ (Kd.V_below (by (with_reducible repeat (first | apply Kd.V_alloc | apply Kd.V_drewN | apply Kd.V_drew)); exact HL445_1.out) hb)
      have n4_ := aZ (Kd.V_below (by (with_reducible repeat (first | apply Kd.V_alloc | apply Kd.V_drewN | apply Kd.V_drew)); exact HL445_2.out) hb)
      have n5_ := aZ (Kd.V_below (by (with_reducible repeat (first | apply Kd.V_alloc | apply Kd.V_drewN | apply Kd.V_drew)); exact HL449_1.out) hb)
      have n6_ := aZ (Kd.V_below (by (with_reducible repeat (first | apply Kd.V_alloc | apply Kd.V_drewN | apply Kd.V_drew)); exact HL449_2.out) hb)
      have n7_ := aZ (Kd.V_lower (Kd.V_mono (ok' := fun k_ => (P0_ k_ ∨ w.heap.size ≤ k_)) ho0 (fun k_ hk_ => Or.elim hk_ (fun hs_ => hs_) (fun hn_ => (.inr (Nat.le_trans (lZ (by repeat (first | (with_reducible first | exact HB.out | apply lA | apply lN | apply lD) | exact HB.out))) hn_))))) (lZ (by repeat (first | (with_reducible first | exact HB.out | apply lA | apply lN | apply lD) | exact HB.out))))
      have n8_ := aZ (Kd.C_below (by repeat (first | (with_reducible exact HR443_1.out) | (with_reducible refine Kd.C_alloc ?_ _) | (with_reducible refine Kd.C_drewN ?_ _) | (with_reducible refine Kd.C_drew ?_) | exact HR443_1.out)) hb)
      have n9_ := aZ (Kd.C_below (by repeat (first | (with_reducible exact HR443_2.out) | (with_reducible refine Kd.C_alloc ?_ _) | (with_reducible refine Kd.C_drewN ?_ _) | (with_reducible refine Kd.C_drew ?_) | exact HR443_2.out)) hb)
      have n10_ := aZ (Kd.C_below (by repeat (first | (with_reducible exact HR445_1.out) | (with_reducible refine Kd.C_alloc ?_ _) | (with_reducible refine Kd.C_drewN ?_ _) | (with_reducible refine Kd.C_drew ?_) | exact HR445_1.out)) hb)
      have n11_ := aZ (Kd.C_below (by repeat (first | (with_reducible exact HR445_2.out) | (with_reducible refine Kd.C_alloc ?_ _) | (with_reducible refine Kd.C_drewN ?_ _) | (with_reducible refine Kd.C_drew ?_) | exact HR445_2.out)) hb)
      have n12_ := aZ (Kd.C_below (by repeat (first | (with_reducible exact HR449_1.out) | (with_reducible refine Kd.C_alloc ?_ _) | (with_reducible refine Kd.C_drewN ?_ _) | (with_reducible refine Kd.C_drew ?_) | exact HR449_1.out)) hb)
      have n13_ := aZ (Kd.C_below (by repeat (first | (with_reducible exact HR449_2.out) | (with_reducible refine Kd.C_alloc ?_ _) | (with_reducible refine Kd.C_drewN ?_ _) | (with_reducible refine Kd.C_drew ?_) | exact HR449_2.out)) hb)
      have n14_ := aZ (lT (by repeat (first | (with_reducible first | exact HB.out | apply lA | apply lN | apply lD) | exact HB.out)) hb)
      clear HO0
      clear HL443_1
      clear HL443_2
      clear HL445_1
      clear HL445_2
      clear HL449_1
      clear HL449_2
      clear HR443_1
      clear HR443_2
      clear HR445_1
      clear HR445_2
      clear HR449_1
      clear HR449_2
      clear HB
      have HO0 := n0_
      have HL443_1 := n1_
      have HL443_2 := n2_
      have HL445_1 := n3_
      have HL445_2 := n4_
      have HL449_1 := n5_
      have HL449_2 := n6_
      have HO448 := n7_
      have HR443_1 := n8_
      have HR443_2 := n9_
      have HR445_1 := n10_
      have HR445_2 := n11_
      have HR449_1 := n12_
      have HR449_2 := n13_
      have HB := n14_
      clear n0_ n1_ n2_ n3_ n4_ n5_ n6_ n7_ n8_ n9_ n10_ n11_ n12_ n13_ n14_
      (try clear hb)
      (try clear hb2)
      (try clear hk)
      (try clear hi)
      (try clear ho0)
      obtain ⟨Ao10, co10, eo10⟩ := Kd.V_slice HO448.out
      (first | subst eo10 | (injection eo10 with f1_ f2_ f3_; have f4_ := f1_.symm; have f5_ := f3_.symm; clear f1_ f2_ f3_; subst f4_; subst f5_))
      refine hK.out _ _ ⟨HS0_, HS1_, HS2_, HS3_, HS4_, HS5_⟩ (fun hHeld => ?_)
      clear hK K
      refine norm_ (a' := ?_) ?_ ?_
      rotate_left
      · show Act.put _ (some 25) _ = _
        simp only [Act.put, List.setIfInBounds_toArray, List.set_cons_zero, List.set_cons_succ, i64_w, i32_w]
        rfl
      refine two_ (i := 12) (j := 16) (Ni := some 31) (Nj := some 6) Z16 Z17 rfl rfl rfl rfl (two_of HT_.out (by kernel_rfl)) (by decide) (by decide) (fun K hK => ?_) (fun K hK => ?_)
      · skip
        refine goes_ Try.func16 (by kernel_rfl) rfl #[.slice Ao10 t446.length co10, .slice A445_2 ((rd_T45 l0 a1).f2).length c445_2] (by rfl) rfl rfl (by (try simp only [List.map_toArray, List.map_cons, List.map_nil]); first | done | rfl | (simp only [List.length_drop, List.length_take]; rfl)) ?_
        with_reducible refine (changeforgeref3_ApplyDelta.calls k _ _ t446 _ _ ((rd_T45 l0 a1).f2) t450 t453 t454 _ ?side1 ?side2 ?side3 ?side4 A7.out).mono ?_
        (case side1 => repeat (first | exact (Kd.V_reads' HO448.out).2.2 | (with_reducible refine Kd.C_alloc ?_ _) | (with_reducible refine Kd.C_drewN ?_ _) | (with_reducible refine Kd.C_drew ?_)))
        (case side2 => exact (Kd.V_reads' HO448.out).2.1)
        (case side3 => repeat (first | exact (by repeat (first | (with_reducible exact HR449_2.out) | (with_reducible refine Kd.C_alloc ?_ _) | (with_reducible refine Kd.C_drewN ?_ _) | (with_reducible refine Kd.C_drew ?_) | exact HR449_2.out)) | (with_reducible refine Kd.C_alloc ?_ _) | (with_reducible refine Kd.C_drewN ?_ _) | (with_reducible refine Kd.C_drew ?_)))
        (case side4 => exact HC449_2.out)
        rintro e w11 ⟨v451, rfl, ho0, hb⟩
        have HS0_ := (hb.cell (World.block_lt_of_cell? _ _ (hHeld.1))).trans (hHeld.1)
        have HS1_ := (hb.cell (World.block_lt_of_cell? _ _ (hHeld.2.1))).trans (hHeld.2.1)
        have HS2_ := (hb.cell (World.block_lt_of_cell? _ _ (hHeld.2.2.1))).trans (hHeld.2.2.1)
        have HS3_ := (hb.cell (World.block_lt_of_cell? _ _ (hHeld.2.2.2.1))).trans (hHeld.2.2.2.1)
        have HS4_ := (hb.cell (World.block_lt_of_cell? _ _ (hHeld.2.2.2.2.1))).trans (hHeld.2.2.2.2.1)
        have HS5_ := (hb.cell (World.block_lt_of_cell? _ _ (hHeld.2.2.2.2.2))).trans (hHeld.2.2.2.2.2)
        refine ⟨_, rfl, ?_⟩
        have n0_ := aZ (Kd.V_elder' (by (with_reducible repeat (first | apply Kd.V_alloc | apply Kd.V_drewN | apply Kd.V_drew)); exact HO0.out) (Kd.R_base ho0) hb)
        have n1_ := aZ (Kd.V_elder' (by (with_reducible repeat (first | apply Kd.V_alloc | apply Kd.V_drewN | apply Kd.V_drew)); exact HL443_1.out) (Kd.R_base ho0) hb)
        have n2_ := aZ (Kd.V_elder' (by (with_reducible repeat (first | apply Kd.V_alloc | apply Kd.V_drewN | apply Kd.V_drew)); exact HL443_2.out) (Kd.R_base ho0) hb)
        have n3_ := aZ (Kd.V_elder' (by (with_reducible repeat (first | apply Kd.V_alloc | apply Kd.V_drewN | apply Kd.V_drew)); exact HL445_1.out) (Kd.R_base ho0) hb)
        have n4_ := aZ (Kd.V_elder' (by (with_reducible repeat (first | apply Kd.V_alloc | apply Kd.V_drewN | apply Kd.V_drew)); exact HL445_2.out) (Kd.R_base ho0) hb)
        have n5_ := aZ (Kd.V_elder' (by (with_reducible repeat (first | apply Kd.V_alloc | apply Kd.V_drewN | apply Kd.V_drew)); exact HL449_1.out) (Kd.R_base ho0) hb)
        have n6_ := aZ (Kd.V_elder' (by (with_reducible repeat (first | apply Kd.V_alloc | apply Kd.V_drewN | apply Kd.V_drew)); exact HL449_2.out) (Kd.R_base ho0) hb)
        have n7_ := aZ (Kd.V_elder' (by (with_reducible repeat (first | apply Kd.V_alloc | apply Kd.V_drewN | apply Kd.V_drew)); exact HO448.out) (Kd.R_base ho0) hb)
        have n8_ := aZ (Kd.R_lower (Kd.R_newM (M := fun k_ => (w.heap.size ≤ k_)) ho0 (lZ (by repeat (first | (with_reducible first | exact HB.out | apply lA | apply lN | apply lD) | exact HB.out))) (fun k_ h_ => h_)) (lZ (by repeat (first | (with_reducible first | exact HB.out | apply lA | apply lN | apply lD) | exact HB.out))))
        have n9_ := aZ (Kd.C_below (by repeat (first | (with_reducible exact HR443_1.out) | (with_reducible refine Kd.C_alloc ?_ _) | (with_reducible refine Kd.C_drewN ?_ _) | (with_reducible refine Kd.C_drew ?_) | exact HR443_1.out)) hb)
        have n10_ := aZ (Kd.C_below (by repeat (first | (with_reducible exact HR443_2.out) | (with_reducible refine Kd.C_alloc ?_ _) | (with_reducible refine Kd.C_drewN ?_ _) | (with_reducible refine Kd.C_drew ?_) | exact HR443_2.out)) hb)
        have n11_ := aZ (Kd.C_below (by repeat (first | (with_reducible exact HR445_1.out) | (with_reducible refine Kd.C_alloc ?_ _) | (with_reducible refine Kd.C_drewN ?_ _) | (with_reducible refine Kd.C_drew ?_) | exact HR445_1.out)) hb)
        have n12_ := aZ (Kd.C_below (by repeat (first | (with_reducible exact HR445_2.out) | (with_reducible refine Kd.C_alloc ?_ _) | (with_reducible refine Kd.C_drewN ?_ _) | (with_reducible refine Kd.C_drew ?_) | exact HR445_2.out)) hb)
        have n13_ := aZ (Kd.C_below (by repeat (first | (with_reducible exact HR449_1.out) | (with_reducible refine Kd.C_alloc ?_ _) | (with_reducible refine Kd.C_drewN ?_ _) | (with_reducible refine Kd.C_drew ?_) | exact HR449_1.out)) hb)
        have n14_ := aZ (Kd.C_below (by repeat (first | (with_reducible exact HR449_2.out) | (with_reducible refine Kd.C_alloc ?_ _) | (with_reducible refine Kd.C_drewN ?_ _) | (with_reducible refine Kd.C_drew ?_) | exact HR449_2.out)) hb)
        have n15_ := aZ (lT (by repeat (first | (with_reducible first | exact HB.out | apply lA | apply lN | apply lD) | exact HB.out)) hb)
        clear HO0
        clear HL443_1
        clear HL443_2
        clear HL445_1
        clear HL445_2
        clear HL449_1
        clear HL449_2
        clear HO448
        clear HR443_1
        clear HR443_2
        clear HR445_1
        clear HR445_2
        clear HR449_1
        clear HR449_2
        clear HB
        have HO0 := n0_
        have HL443_1 := n1_
        have HL443_2 := n2_
        have HL445_1 := n3_
        have HL445_2 := n4_
        have HL449_1 := n5_
        have HL449_2 := n6_
        have HO448 := n7_
        have HO452 := n8_
        have HR443_1 := n9_
        have HR443_2 := n10_
        have HR445_1 := n11_
        have HR445_2 := n12_
        have HR449_1 := n13_
        have HR449_2 := n14_
        have HB := n15_
        clear n0_ n1_ n2_ n3_ n4_ n5_ n6_ n7_ n8_ n9_ n10_ n11_ n12_ n13_ n14_ n15_
        (try clear hb)
        (try clear hb2)
        (try clear hk)
        (try clear hi)
        (try clear ho0)
        refine hK.out _ _ ⟨HS0_, HS1_, HS2_, HS3_, HS4_, HS5_⟩ (fun hHeld => ?_)
        clear hK K
        refine norm_ (a' := ?_) ?_ ?_
        rotate_left
        · show Act.put _ (some 31) _ = _
          simp only [Act.put, List.setIfInBounds_toArray, List.set_cons_zero, List.set_cons_succ, i64_w, i32_w]
          rfl
        refine pu 13 18 Z18 HT_ rfl rfl (h := ?_)
        refine pu 14 32 Z19 HT_ rfl rfl (h := ?_)
        refine pu 15 33 Z20 HT_ rfl rfl (h := ?_)
        refine one_ (i := 16) (N := some 6) Z13 rfl rfl (one_of HT_.out (by kernel_rfl)) (by decide) (fun K hK => ?_)
        refine box_step ?hg (N := 6) ?hd (cs := #[.int .i64 0, .int .i64 0]) (t := 26) ?hr ?_; (case hd => rfl); (case hg => rfl); (case hr => first | (go_simp; done) | (go_simp; rfl))
        intro gb455 hg w12 hbox hb
        have HS0_ := (hb.cell (World.block_lt_of_cell? _ _ (hHeld.1))).trans (hHeld.1)
        have HS1_ := (hb.cell (World.block_lt_of_cell? _ _ (hHeld.2.1))).trans (hHeld.2.1)
        have HS2_ := (hb.cell (World.block_lt_of_cell? _ _ (hHeld.2.2.1))).trans (hHeld.2.2.1)
        have HS3_ := (hb.cell (World.block_lt_of_cell? _ _ (hHeld.2.2.2.1))).trans (hHeld.2.2.2.1)
        have HS4_ := (hb.cell (World.block_lt_of_cell? _ _ (hHeld.2.2.2.2.1))).trans (hHeld.2.2.2.2.1)
        have HS5_ := (hb.cell (World.block_lt_of_cell? _ _ (hHeld.2.2.2.2.2))).trans (hHeld.2.2.2.2.2)
        have n0_ := aZ (Kd.V_below (Kd.V_elderB (by (with_reducible repeat (first | apply Kd.V_alloc | apply Kd.V_drewN | apply Kd.V_drew)); exact HO0.out) gb455 (Nat.le_of_eq hg.symm)) hb)
        have n1_ := aZ (Kd.V_below (Kd.V_elderB (by (with_reducible repeat (first | apply Kd.V_alloc | apply Kd.V_drewN | apply Kd.V_drew)); exact HL443_1.out) gb455 (Nat.le_of_eq hg.symm)) hb)
        have n2_ := aZ (Kd.V_below (Kd.V_elderB (by (with_reducible repeat (first | apply Kd.V_alloc | apply Kd.V_drewN | apply Kd.V_drew)); exact HL443_2.out) gb455 (Nat.le_of_eq hg.symm)) hb)
        have n3_ := aZ (Kd.V_below (Kd.V_elderB (by (with_reducible repeat (first | apply Kd.V_alloc | apply Kd.V_drewN | apply Kd.V_drew)); exact HL445_1.out) gb455 (Nat.le_of_eq hg.symm)) hb)
        have n4_ := aZ (Kd.V_below (Kd.V_elderB (by (with_reducible repeat (first | apply Kd.V_alloc | apply Kd.V_drewN | apply Kd.V_drew)); exact HL445_2.out) gb455 (Nat.le_of_eq hg.symm)) hb)
        have n5_ := aZ (Kd.V_below (Kd.V_elderB (by (with_reducible repeat (first | apply Kd.V_alloc | apply Kd.V_drewN | apply Kd.V_drew)); exact HL449_1.out) gb455 (Nat.le_of_eq hg.symm)) hb)
        have n6_ := aZ (Kd.V_below (Kd.V_elderB (by (with_reducible repeat (first | apply Kd.V_alloc | apply Kd.V_drewN | apply Kd.V_drew)); exact HL449_2.out) gb455 (Nat.le_of_eq hg.symm)) hb)
        have n7_ := aZ (Kd.V_below (Kd.V_elderB (by (with_reducible repeat (first | apply Kd.V_alloc | apply Kd.V_drewN | apply Kd.V_drew)); exact HO448.out) gb455 (Nat.le_of_eq hg.symm)) hb)
        have n8_ := aZ (Kd.R_below (by (with_reducible repeat (first | apply Kd.rA | apply Kd.rN | apply Kd.rD)); exact HO452.out) hb)
        have n9_ := aZ (Kd.C_below (by repeat (first | (with_reducible exact HR443_1.out) | (with_reducible refine Kd.C_alloc ?_ _) | (with_reducible refine Kd.C_drewN ?_ _) | (with_reducible refine Kd.C_drew ?_) | exact HR443_1.out)) hb)
        have n10_ := aZ (Kd.C_below (by repeat (first | (with_reducible exact HR443_2.out) | (with_reducible refine Kd.C_alloc ?_ _) | (with_reducible refine Kd.C_drewN ?_ _) | (with_reducible refine Kd.C_drew ?_) | exact HR443_2.out)) hb)
        have n11_ := aZ (Kd.C_below (by repeat (first | (with_reducible exact HR445_1.out) | (with_reducible refine Kd.C_alloc ?_ _) | (with_reducible refine Kd.C_drewN ?_ _) | (with_reducible refine Kd.C_drew ?_) | exact HR445_1.out)) hb)
        have n12_ := aZ (Kd.C_below (by repeat (first | (with_reducible exact HR445_2.out) | (with_reducible refine Kd.C_alloc ?_ _) | (with_reducible refine Kd.C_drewN ?_ _) | (with_reducible refine Kd.C_drew ?_) | exact HR445_2.out)) hb)
        have n13_ := aZ (Kd.C_below (by repeat (first | (with_reducible exact HR449_1.out) | (with_reducible refine Kd.C_alloc ?_ _) | (with_reducible refine Kd.C_drewN ?_ _) | (with_reducible refine Kd.C_drew ?_) | exact HR449_1.out)) hb)
        have n14_ := aZ (Kd.C_below (by repeat (first | (with_reducible exact HR449_2.out) | (with_reducible refine Kd.C_alloc ?_ _) | (with_reducible refine Kd.C_drewN ?_ _) | (with_reducible refine Kd.C_drew ?_) | exact HR449_2.out)) hb)
        have n15_ := aZ (lT (by repeat (first | (with_reducible first | exact HB.out | apply lA | apply lN | apply lD) | exact HB.out)) hb)
        have n16_ := aZ (hbox)
        have n17_ := aZ ((by rw [hg]; exact (lZ (by repeat (first | (with_reducible first | exact HB.out | apply lA | apply lN | apply lD) | exact HB.out))) : w.heap.size ≤ gb455))
        have n18_ := aZ ((by rw [hg]; exact (lZ (by repeat (first | (with_reducible first | exact HB.out | apply lA | apply lN | apply lD) | exact HB.out))) : w.heap.size ≤ gb455))
        clear HO0
        clear HL443_1
        clear HL443_2
        clear HL445_1
        clear HL445_2
        clear HL449_1
        clear HL449_2
        clear HO448
        clear HO452
        clear HR443_1
        clear HR443_2
        clear HR445_1
        clear HR445_2
        clear HR449_1
        clear HR449_2
        clear HB
        have HO0 := n0_
        have HL443_1 := n1_
        have HL443_2 := n2_
        have HL445_1 := n3_
        have HL445_2 := n4_
        have HL449_1 := n5_
        have HL449_2 := n6_
        have HO448 := n7_
        have HO452 := n8_
        have HR443_1 := n9_
        have HR443_2 := n10_
        have HR445_1 := n11_
        have HR445_2 := n12_
        have HR449_1 := n13_
        have HR449_2 := n14_
        have HB := n15_
        have BK455 := n16_
        have GW455 := n17_
        have GE455 := n18_
        clear n0_ n1_ n2_ n3_ n4_ n5_ n6_ n7_ n8_ n9_ n10_ n11_ n12_ n13_ n14_ n15_ n16_ n17_ n18_
        clear hb hbox hg
        refine hK.out _ _ ⟨HS0_, HS1_, HS2_, HS3_, HS4_, HS5_⟩ (fun hHeld => ?_)
        clear hK K
        refine norm_ (a' := ?_) ?_ ?_
        rotate_left
        · show Act.put _ (some 6) _ = _
          simp only [Act.put, List.setIfInBounds_toArray, List.set_cons_zero, List.set_cons_succ, i64_w, i32_w]
          rfl
        exact norm_ (by simp only [putAll, Act.put, List.setIfInBounds_toArray, List.set_cons_zero, List.set_cons_succ]) (hCont (.slice Ao10 t446.length co10, v451, gb455) _ ⟨hHeld, (by (with_reducible repeat (first | apply Kd.V_alloc | apply Kd.V_drewN | apply Kd.V_drew)); exact Kd.V_mono HL443_1.out (fun _ hk => ⟨hk.1.1, ⟨hk.1.2, hk.2⟩⟩)), (by (with_reducible repeat (first | apply Kd.V_alloc | apply Kd.V_drewN | apply Kd.V_drew)); exact Kd.V_mono HL443_2.out (fun _ hk => ⟨hk.1.1, ⟨hk.1.2, hk.2⟩⟩)), (by (with_reducible repeat (first | apply Kd.V_alloc | apply Kd.V_drewN | apply Kd.V_drew)); exact Kd.V_mono HL445_1.out (fun _ hk => ⟨hk.1.1, ⟨hk.1.2, hk.2⟩⟩)), (by (with_reducible repeat (first | apply Kd.V_alloc | apply Kd.V_drewN | apply Kd.V_drew)); exact Kd.V_mono HL445_2.out (fun _ hk => ⟨hk.1.1, ⟨hk.1.2, hk.2⟩⟩)), (by (with_reducible repeat (first | apply Kd.V_alloc | apply Kd.V_drewN | apply Kd.V_drew)); exact Kd.V_mono HL449_1.out (fun _ hk => ⟨hk.1.1, ⟨hk.1.2, hk.2⟩⟩)), (by (with_reducible repeat (first | apply Kd.V_alloc | apply Kd.V_drewN | apply Kd.V_drew)); exact Kd.V_mono HL449_2.out (fun _ hk => ⟨hk.1.1, ⟨hk.1.2, hk.2⟩⟩)), (by (with_reducible repeat (first | apply Kd.V_alloc | apply Kd.V_drewN | apply Kd.V_drew)); exact Kd.V_mono HO0.out (fun _ hk => ⟨hk.1.1, ⟨hk.1.2, hk.2⟩⟩)), (by (with_reducible repeat (first | apply Kd.V_alloc | apply Kd.V_drewN | apply Kd.V_drew)); exact Kd.V_mono HO448.out (fun _ hk => ⟨hk.1.1, ⟨hk.1.2, hk.2⟩⟩)), (by (with_reducible repeat (first | apply Kd.rA | apply Kd.rN | apply Kd.rD)); exact Kd.R_mono HO452.out (fun _ hk => hk.1)), (by (with_reducible repeat (first | refine bN ?_ _ | refine bD ?_ | refine bA ?_ _)); exact BK455.out), GW455.out, GE455.out, (by repeat (first | (with_reducible first | exact HB.out | apply lA | apply lN | apply lD | refine lS ?_ GE455.out) | exact HB.out))⟩)
      · skip
        refine box_step ?hg (N := 6) ?hd (cs := #[.int .i64 0, .int .i64 0]) (t := 26) ?hr ?_; (case hd => rfl); (case hg => rfl); (case hr => first | (go_simp; done) | (go_simp; rfl))
        intro gb455 hg w10 hbox hb
        have HS0_ := (hb.cell (World.block_lt_of_cell? _ _ (hHeld.1))).trans (hHeld.1)
        have HS1_ := (hb.cell (World.block_lt_of_cell? _ _ (hHeld.2.1))).trans (hHeld.2.1)
        have HS2_ := (hb.cell (World.block_lt_of_cell? _ _ (hHeld.2.2.1))).trans (hHeld.2.2.1)
        have HS3_ := (hb.cell (World.block_lt_of_cell? _ _ (hHeld.2.2.2.1))).trans (hHeld.2.2.2.1)
        have HS4_ := (hb.cell (World.block_lt_of_cell? _ _ (hHeld.2.2.2.2.1))).trans (hHeld.2.2.2.2.1)
        have HS5_ := (hb.cell (World.block_lt_of_cell? _ _ (hHeld.2.2.2.2.2))).trans (hHeld.2.2.2.2.2)
        have n0_ := aZ (Kd.V_below (Kd.V_elderB (by (with_reducible repeat (first | apply Kd.V_alloc | apply Kd.V_drewN | apply Kd.V_drew)); exact HO0.out) gb455 (Nat.le_of_eq hg.symm)) hb)
        have n1_ := aZ (Kd.V_below (Kd.V_elderB (by (with_reducible repeat (first | apply Kd.V_alloc | apply Kd.V_drewN | apply Kd.V_drew)); exact HL443_1.out) gb455 (Nat.le_of_eq hg.symm)) hb)
        have n2_ := aZ (Kd.V_below (Kd.V_elderB (by (with_reducible repeat (first | apply Kd.V_alloc | apply Kd.V_drewN | apply Kd.V_drew)); exact HL443_2.out) gb455 (Nat.le_of_eq hg.symm)) hb)
        have n3_ := aZ (Kd.V_below (Kd.V_elderB (by (with_reducible repeat (first | apply Kd.V_alloc | apply Kd.V_drewN | apply Kd.V_drew)); exact HL445_1.out) gb455 (Nat.le_of_eq hg.symm)) hb)
        have n4_ := aZ (Kd.V_below (Kd.V_elderB (by (with_reducible repeat (first | apply Kd.V_alloc | apply Kd.V_drewN | apply Kd.V_drew)); exact HL445_2.out) gb455 (Nat.le_of_eq hg.symm)) hb)
        have n5_ := aZ (Kd.V_below (Kd.V_elderB (by (with_reducible repeat (first | apply Kd.V_alloc | apply Kd.V_drewN | apply Kd.V_drew)); exact HL449_1.out) gb455 (Nat.le_of_eq hg.symm)) hb)
        have n6_ := aZ (Kd.V_below (Kd.V_elderB (by (with_reducible repeat (first | apply Kd.V_alloc | apply Kd.V_drewN | apply Kd.V_drew)); exact HL449_2.out) gb455 (Nat.le_of_eq hg.symm)) hb)
        have n7_ := aZ (Kd.V_below (Kd.V_elderB (by (with_reducible repeat (first | apply Kd.V_alloc | apply Kd.V_drewN | apply Kd.V_drew)); exact HO448.out) gb455 (Nat.le_of_eq hg.symm)) hb)
        have n8_ := aZ (Kd.C_below (by repeat (first | (with_reducible exact HR443_1.out) | (with_reducible refine Kd.C_alloc ?_ _) | (with_reducible refine Kd.C_drewN ?_ _) | (with_reducible refine Kd.C_drew ?_) | exact HR443_1.out)) hb)
        have n9_ := aZ (Kd.C_below (by repeat (first | (with_reducible exact HR443_2.out) | (with_reducible refine Kd.C_alloc ?_ _) | (with_reducible refine Kd.C_drewN ?_ _) | (with_reducible refine Kd.C_drew ?_) | exact HR443_2.out)) hb)
        have n10_ := aZ (Kd.C_below (by repeat (first | (with_reducible exact HR445_1.out) | (with_reducible refine Kd.C_alloc ?_ _) | (with_reducible refine Kd.C_drewN ?_ _) | (with_reducible refine Kd.C_drew ?_) | exact HR445_1.out)) hb)
        have n11_ := aZ (Kd.C_below (by repeat (first | (with_reducible exact HR445_2.out) | (with_reducible refine Kd.C_alloc ?_ _) | (with_reducible refine Kd.C_drewN ?_ _) | (with_reducible refine Kd.C_drew ?_) | exact HR445_2.out)) hb)
        have n12_ := aZ (Kd.C_below (by repeat (first | (with_reducible exact HR449_1.out) | (with_reducible refine Kd.C_alloc ?_ _) | (with_reducible refine Kd.C_drewN ?_ _) | (with_reducible refine Kd.C_drew ?_) | exact HR449_1.out)) hb)
        have n13_ := aZ (Kd.C_below (by repeat (first | (with_reducible exact HR449_2.out) | (with_reducible refine Kd.C_alloc ?_ _) | (with_reducible refine Kd.C_drewN ?_ _) | (with_reducible refine Kd.C_drew ?_) | exact HR449_2.out)) hb)
        have n14_ := aZ (lT (by repeat (first | (with_reducible first | exact HB.out | apply lA | apply lN | apply lD) | exact HB.out)) hb)
        have n15_ := aZ (hbox)
        have n16_ := aZ ((by rw [hg]; exact (lZ (by repeat (first | (with_reducible first | exact HB.out | apply lA | apply lN | apply lD) | exact HB.out))) : w.heap.size ≤ gb455))
        have n17_ := aZ ((by rw [hg]; exact (lZ (by repeat (first | (with_reducible first | exact HB.out | apply lA | apply lN | apply lD) | exact HB.out))) : w.heap.size ≤ gb455))
        clear HO0
        clear HL443_1
        clear HL443_2
        clear HL445_1
        clear HL445_2
        clear HL449_1
        clear HL449_2
        clear HO448
        clear HR443_1
        clear HR443_2
        clear HR445_1
        clear HR445_2
        clear HR449_1
        clear HR449_2
        clear HB
        have HO0 := n0_
        have HL443_1 := n1_
        have HL443_2 := n2_
        have HL445_1 := n3_
        have HL445_2 := n4_
        have HL449_1 := n5_
        have HL449_2 := n6_
        have HO448 := n7_
        have HR443_1 := n8_
        have HR443_2 := n9_
        have HR445_1 := n10_
        have HR445_2 := n11_
        have HR449_1 := n12_
        have HR449_2 := n13_
        have HB := n14_
        have BK455 := n15_
        have GW455 := n16_
        have GE455 := n17_
        clear n0_ n1_ n2_ n3_ n4_ n5_ n6_ n7_ n8_ n9_ n10_ n11_ n12_ n13_ n14_ n15_ n16_ n17_
        clear hb hbox hg
        obtain ⟨Ao11, co11, eo11⟩ := Kd.V_slice HO448.out
        (first | subst eo11 | (injection eo11 with f1_ f2_ f3_; have f4_ := f1_.symm; have f5_ := f3_.symm; clear f1_ f2_ f3_; subst f4_; subst f5_))
        refine hK.out _ _ ⟨HS0_, HS1_, HS2_, HS3_, HS4_, HS5_⟩ (fun hHeld => ?_)
        clear hK K
        refine norm_ (a' := ?_) ?_ ?_
        rotate_left
        · show Act.put _ (some 6) _ = _
          simp only [Act.put, List.setIfInBounds_toArray, List.set_cons_zero, List.set_cons_succ, i64_w, i32_w]
          rfl
        refine one_ (i := 12) (N := some 31) Z21 rfl rfl (one_of HT_.out (by kernel_rfl)) (by decide) (fun K hK => ?_)
        refine goes_ Try.func16 (by kernel_rfl) rfl #[.slice Ao11 t446.length co11, .slice A445_2 ((rd_T45 l0 a1).f2).length c445_2] (by rfl) rfl rfl (by (try simp only [List.map_toArray, List.map_cons, List.map_nil]); first | done | rfl | (simp only [List.length_drop, List.length_take]; rfl)) ?_
        with_reducible refine (changeforgeref3_ApplyDelta.calls k _ _ t446 _ _ ((rd_T45 l0 a1).f2) t450 t453 t454 _ ?side1 ?side2 ?side3 ?side4 A7.out).mono ?_
        (case side1 => repeat (first | exact (Kd.V_reads' HO448.out).2.2 | (with_reducible refine Kd.C_alloc ?_ _) | (with_reducible refine Kd.C_drewN ?_ _) | (with_reducible refine Kd.C_drew ?_)))
        (case side2 => exact (Kd.V_reads' HO448.out).2.1)
        (case side3 => repeat (first | exact (by repeat (first | (with_reducible exact HR449_2.out) | (with_reducible refine Kd.C_alloc ?_ _) | (with_reducible refine Kd.C_drewN ?_ _) | (with_reducible refine Kd.C_drew ?_) | exact HR449_2.out)) | (with_reducible refine Kd.C_alloc ?_ _) | (with_reducible refine Kd.C_drewN ?_ _) | (with_reducible refine Kd.C_drew ?_)))
        (case side4 => exact HC449_2.out)
        rintro e w12 ⟨v451, rfl, ho0, hb⟩
        have HS0_ := (hb.cell (World.block_lt_of_cell? _ _ (hHeld.1))).trans (hHeld.1)
        have HS1_ := (hb.cell (World.block_lt_of_cell? _ _ (hHeld.2.1))).trans (hHeld.2.1)
        have HS2_ := (hb.cell (World.block_lt_of_cell? _ _ (hHeld.2.2.1))).trans (hHeld.2.2.1)
        have HS3_ := (hb.cell (World.block_lt_of_cell? _ _ (hHeld.2.2.2.1))).trans (hHeld.2.2.2.1)
        have HS4_ := (hb.cell (World.block_lt_of_cell? _ _ (hHeld.2.2.2.2.1))).trans (hHeld.2.2.2.2.1)
        have HS5_ := (hb.cell (World.block_lt_of_cell? _ _ (hHeld.2.2.2.2.2))).trans (hHeld.2.2.2.2.2)
        refine ⟨_, rfl, ?_⟩
        have n0_ := aZ (Kd.V_elder' (by (with_reducible repeat (first | apply Kd.V_alloc | apply Kd.V_drewN | apply Kd.V_drew)); exact HO0.out) (Kd.R_base ho0) hb)
        have n1_ := aZ (Kd.V_elder' (by (with_reducible repeat (first | apply Kd.V_alloc | apply Kd.V_drewN | apply Kd.V_drew)); exact HL443_1.out) (Kd.R_base ho0) hb)
        have n2_ := aZ (Kd.V_elder' (by (with_reducible repeat (first | apply Kd.V_alloc | apply Kd.V_drewN | apply Kd.V_drew)); exact HL443_2.out) (Kd.R_base ho0) hb)
        have n3_ := aZ (Kd.V_elder' (by (with_reducible repeat (first | apply Kd.V_alloc | apply Kd.V_drewN | apply Kd.V_drew)); exact HL445_1.out) (Kd.R_base ho0) hb)
        have n4_ := aZ (Kd.V_elder' (by (with_reducible repeat (first | apply Kd.V_alloc | apply Kd.V_drewN | apply Kd.V_drew)); exact HL445_2.out) (Kd.R_base ho0) hb)
        have n5_ := aZ (Kd.V_elder' (by (with_reducible repeat (first | apply Kd.V_alloc | apply Kd.V_drewN | apply Kd.V_drew)); exact HL449_1.out) (Kd.R_base ho0) hb)
        have n6_ := aZ (Kd.V_elder' (by (with_reducible repeat (first | apply Kd.V_alloc | apply Kd.V_drewN | apply Kd.V_drew)); exact HL449_2.out) (Kd.R_base ho0) hb)
        have n7_ := aZ (Kd.V_elder' (by (with_reducible repeat (first | apply Kd.V_alloc | apply Kd.V_drewN | apply Kd.V_drew)); exact HO448.out) (Kd.R_base ho0) hb)
        have n8_ := aZ (Kd.R_lower (Kd.R_newM (M := fun k_ => (w.heap.size ≤ k_)) ho0 (lZ (by repeat (first | (with_reducible first | exact HB.out | apply lA | apply lN | apply lD | refine lS ?_ GE455.out) | exact HB.out))) (fun k_ h_ => h_)) (lZ (by repeat (first | (with_reducible first | exact HB.out | apply lA | apply lN | apply lD | refine lS ?_ GE455.out) | exact HB.out))))
        have n9_ := aZ (Kd.C_below (by repeat (first | (with_reducible exact HR443_1.out) | (with_reducible refine Kd.C_alloc ?_ _) | (with_reducible refine Kd.C_drewN ?_ _) | (with_reducible refine Kd.C_drew ?_) | exact HR443_1.out)) hb)
        have n10_ := aZ (Kd.C_below (by repeat (first | (with_reducible exact HR443_2.out) | (with_reducible refine Kd.C_alloc ?_ _) | (with_reducible refine Kd.C_drewN ?_ _) | (with_reducible refine Kd.C_drew ?_) | exact HR443_2.out)) hb)
        have n11_ := aZ (Kd.C_below (by repeat (first | (with_reducible exact HR445_1.out) | (with_reducible refine Kd.C_alloc ?_ _) | (with_reducible refine Kd.C_drewN ?_ _) | (with_reducible refine Kd.C_drew ?_) | exact HR445_1.out)) hb)
        have n12_ := aZ (Kd.C_below (by repeat (first | (with_reducible exact HR445_2.out) | (with_reducible refine Kd.C_alloc ?_ _) | (with_reducible refine Kd.C_drewN ?_ _) | (with_reducible refine Kd.C_drew ?_) | exact HR445_2.out)) hb)
        have n13_ := aZ (Kd.C_below (by repeat (first | (with_reducible exact HR449_1.out) | (with_reducible refine Kd.C_alloc ?_ _) | (with_reducible refine Kd.C_drewN ?_ _) | (with_reducible refine Kd.C_drew ?_) | exact HR449_1.out)) hb)
        have n14_ := aZ (Kd.C_below (by repeat (first | (with_reducible exact HR449_2.out) | (with_reducible refine Kd.C_alloc ?_ _) | (with_reducible refine Kd.C_drewN ?_ _) | (with_reducible refine Kd.C_drew ?_) | exact HR449_2.out)) hb)
        have n15_ := aZ (blk_below (g := gb455) (o := .cells #[.int .i64 0, .int .i64 0] 26 (0, 0)) (by (with_reducible repeat (first | refine bN ?_ _ | refine bD ?_ | refine bA ?_ _)); exact BK455.out) hb)
        have n16_ := aZ (lT (by repeat (first | (with_reducible first | exact HB.out | apply lA | apply lN | apply lD | refine lS ?_ GE455.out) | exact HB.out)) hb)
        clear HO0
        clear HL443_1
        clear HL443_2
        clear HL445_1
        clear HL445_2
        clear HL449_1
        clear HL449_2
        clear HO448
        clear HR443_1
        clear HR443_2
        clear HR445_1
        clear HR445_2
        clear HR449_1
        clear HR449_2
        clear BK455
        clear HB
        have HO0 := n0_
        have HL443_1 := n1_
        have HL443_2 := n2_
        have HL445_1 := n3_
        have HL445_2 := n4_
        have HL449_1 := n5_
        have HL449_2 := n6_
        have HO448 := n7_
        have HO452 := n8_
        have HR443_1 := n9_
        have HR443_2 := n10_
        have HR445_1 := n11_
        have HR445_2 := n12_
        have HR449_1 := n13_
        have HR449_2 := n14_
        have BK455 := n15_
        have HB := n16_
        clear n0_ n1_ n2_ n3_ n4_ n5_ n6_ n7_ n8_ n9_ n10_ n11_ n12_ n13_ n14_ n15_ n16_
        (try clear hb)
        (try clear hb2)
        (try clear hk)
        (try clear hi)
        (try clear ho0)
        refine hK.out _ _ ⟨HS0_, HS1_, HS2_, HS3_, HS4_, HS5_⟩ (fun hHeld => ?_)
        clear hK K
        refine norm_ (a' := ?_) ?_ ?_
        rotate_left
        · show Act.put _ (some 31) _ = _
          simp only [Act.put, List.setIfInBounds_toArray, List.set_cons_zero, List.set_cons_succ, i64_w, i32_w]
          rfl
        refine pu 13 18 Z22 HT_ rfl rfl (h := ?_)
        refine pu 14 32 Z23 HT_ rfl rfl (h := ?_)
        refine pu 15 33 Z13 HT_ rfl rfl (h := ?_)
        exact norm_ (by simp only [putAll, Act.put, List.setIfInBounds_toArray, List.set_cons_zero, List.set_cons_succ]) (hCont (.slice Ao11 t446.length co11, v451, gb455) _ ⟨hHeld, (by (with_reducible repeat (first | apply Kd.V_alloc | apply Kd.V_drewN | apply Kd.V_drew)); exact Kd.V_mono HL443_1.out (fun _ hk => ⟨hk.1.1, ⟨hk.2, hk.1.2⟩⟩)), (by (with_reducible repeat (first | apply Kd.V_alloc | apply Kd.V_drewN | apply Kd.V_drew)); exact Kd.V_mono HL443_2.out (fun _ hk => ⟨hk.1.1, ⟨hk.2, hk.1.2⟩⟩)), (by (with_reducible repeat (first | apply Kd.V_alloc | apply Kd.V_drewN | apply Kd.V_drew)); exact Kd.V_mono HL445_1.out (fun _ hk => ⟨hk.1.1, ⟨hk.2, hk.1.2⟩⟩)), (by (with_reducible repeat (first | apply Kd.V_alloc | apply Kd.V_drewN | apply Kd.V_drew)); exact Kd.V_mono HL445_2.out (fun _ hk => ⟨hk.1.1, ⟨hk.2, hk.1.2⟩⟩)), (by (with_reducible repeat (first | apply Kd.V_alloc | apply Kd.V_drewN | apply Kd.V_drew)); exact Kd.V_mono HL449_1.out (fun _ hk => ⟨hk.1.1, ⟨hk.2, hk.1.2⟩⟩)), (by (with_reducible repeat (first | apply Kd.V_alloc | apply Kd.V_drewN | apply Kd.V_drew)); exact Kd.V_mono HL449_2.out (fun _ hk => ⟨hk.1.1, ⟨hk.2, hk.1.2⟩⟩)), (by (with_reducible repeat (first | apply Kd.V_alloc | apply Kd.V_drewN | apply Kd.V_drew)); exact Kd.V_mono HO0.out (fun _ hk => ⟨hk.1.1, ⟨hk.2, hk.1.2⟩⟩)), (by (with_reducible repeat (first | apply Kd.V_alloc | apply Kd.V_drewN | apply Kd.V_drew)); exact Kd.V_mono HO448.out (fun _ hk => ⟨hk.1.1, ⟨hk.2, hk.1.2⟩⟩)), (by (with_reducible repeat (first | apply Kd.rA | apply Kd.rN | apply Kd.rD)); exact Kd.R_mono HO452.out (fun _ hk => hk.1)), (by (with_reducible repeat (first | refine bN ?_ _ | refine bD ?_ | refine bA ?_ _)); exact BK455.out), GW455.out, GE455.out, (by repeat (first | (with_reducible first | exact HB.out | apply lA | apply lN | apply lD | refine lS ?_ GE455.out) | exact HB.out))⟩)
    · skip
      refine box_step ?hg (N := 6) ?hd (cs := #[.int .i64 0, .int .i64 0]) (t := 26) ?hr ?_; (case hd => rfl); (case hg => rfl); (case hr => first | (go_simp; done) | (go_simp; rfl))
      intro gb455 hg w9 hbox hb
      have HS0_ := (hb.cell (World.block_lt_of_cell? _ _ (hHeld.1))).trans (hHeld.1)
      have HS1_ := (hb.cell (World.block_lt_of_cell? _ _ (hHeld.2.1))).trans (hHeld.2.1)
      have HS2_ := (hb.cell (World.block_lt_of_cell? _ _ (hHeld.2.2.1))).trans (hHeld.2.2.1)
      have HS3_ := (hb.cell (World.block_lt_of_cell? _ _ (hHeld.2.2.2.1))).trans (hHeld.2.2.2.1)
      have HS4_ := (hb.cell (World.block_lt_of_cell? _ _ (hHeld.2.2.2.2.1))).trans (hHeld.2.2.2.2.1)
      have HS5_ := (hb.cell (World.block_lt_of_cell? _ _ (hHeld.2.2.2.2.2))).trans (hHeld.2.2.2.2.2)
      have n0_ := aZ (Kd.V_below (Kd.V_elderB (by (with_reducible repeat (first | apply Kd.V_alloc | apply Kd.V_drewN | apply Kd.V_drew)); exact HO0.out) gb455 (Nat.le_of_eq hg.symm)) hb)
      have n1_ := aZ (Kd.V_below (Kd.V_elderB (by (with_reducible repeat (first | apply Kd.V_alloc | apply Kd.V_drewN | apply Kd.V_drew)); exact HL443_1.out) gb455 (Nat.le_of_eq hg.symm)) hb)
      have n2_ := aZ (Kd.V_below (Kd.V_elderB (by (with_reducible repeat (first | apply Kd.V_alloc | apply Kd.V_drewN | apply Kd.V_drew)); exact HL443_2.out) gb455 (Nat.le_of_eq hg.symm)) hb)
      have n3_ := aZ (Kd.V_below (Kd.V_elderB (by (with_reducible repeat (first | apply Kd.V_alloc | apply Kd.V_drewN | apply Kd.V_drew)); exact HL445_1.out) gb455 (Nat.le_of_eq hg.symm)) hb)
      have n4_ := aZ (Kd.V_below (Kd.V_elderB (by (with_reducible repeat (first | apply Kd.V_alloc | apply Kd.V_drewN | apply Kd.V_drew)); exact HL445_2.out) gb455 (Nat.le_of_eq hg.symm)) hb)
      have n5_ := aZ (Kd.V_below (Kd.V_elderB (by (with_reducible repeat (first | apply Kd.V_alloc | apply Kd.V_drewN | apply Kd.V_drew)); exact HL449_1.out) gb455 (Nat.le_of_eq hg.symm)) hb)
      have n6_ := aZ (Kd.V_below (Kd.V_elderB (by (with_reducible repeat (first | apply Kd.V_alloc | apply Kd.V_drewN | apply Kd.V_drew)); exact HL449_2.out) gb455 (Nat.le_of_eq hg.symm)) hb)
      have n7_ := aZ (Kd.C_below (by repeat (first | (with_reducible exact HR443_1.out) | (with_reducible refine Kd.C_alloc ?_ _) | (with_reducible refine Kd.C_drewN ?_ _) | (with_reducible refine Kd.C_drew ?_) | exact HR443_1.out)) hb)
      have n8_ := aZ (Kd.C_below (by repeat (first | (with_reducible exact HR443_2.out) | (with_reducible refine Kd.C_alloc ?_ _) | (with_reducible refine Kd.C_drewN ?_ _) | (with_reducible refine Kd.C_drew ?_) | exact HR443_2.out)) hb)
      have n9_ := aZ (Kd.C_below (by repeat (first | (with_reducible exact HR445_1.out) | (with_reducible refine Kd.C_alloc ?_ _) | (with_reducible refine Kd.C_drewN ?_ _) | (with_reducible refine Kd.C_drew ?_) | exact HR445_1.out)) hb)
      have n10_ := aZ (Kd.C_below (by repeat (first | (with_reducible exact HR445_2.out) | (with_reducible refine Kd.C_alloc ?_ _) | (with_reducible refine Kd.C_drewN ?_ _) | (with_reducible refine Kd.C_drew ?_) | exact HR445_2.out)) hb)
      have n11_ := aZ (Kd.C_below (by repeat (first | (with_reducible exact HR449_1.out) | (with_reducible refine Kd.C_alloc ?_ _) | (with_reducible refine Kd.C_drewN ?_ _) | (with_reducible refine Kd.C_drew ?_) | exact HR449_1.out)) hb)
      have n12_ := aZ (Kd.C_below (by repeat (first | (with_reducible exact HR449_2.out) | (with_reducible refine Kd.C_alloc ?_ _) | (with_reducible refine Kd.C_drewN ?_ _) | (with_reducible refine Kd.C_drew ?_) | exact HR449_2.out)) hb)
      have n13_ := aZ (lT (by repeat (first | (with_reducible first | exact HB.out | apply lA | apply lN | apply lD) | exact HB.out)) hb)
      have n14_ := aZ (hbox)
      have n15_ := aZ ((by rw [hg]; exact (lZ (by repeat (first | (with_reducible first | exact HB.out | apply lA | apply lN | apply lD) | exact HB.out))) : w.heap.size ≤ gb455))
      have n16_ := aZ ((by rw [hg]; exact (lZ (by repeat (first | (with_reducible first | exact HB.out | apply lA | apply lN | apply lD) | exact HB.out))) : w.heap.size ≤ gb455))
      clear HO0
      clear HL443_1
      clear HL443_2
      clear HL445_1
      clear HL445_2
      clear HL449_1
      clear HL449_2
      clear HR443_1
      clear HR443_2
      clear HR445_1
      clear HR445_2
      clear HR449_1
      clear HR449_2
      clear HB
      have HO0 := n0_
      have HL443_1 := n1_
      have HL443_2 := n2_
      have HL445_1 := n3_
      have HL445_2 := n4_
      have HL449_1 := n5_
      have HL449_2 := n6_
      have HR443_1 := n7_
      have HR443_2 := n8_
      have HR445_1 := n9_
      have HR445_2 := n10_
      have HR449_1 := n11_
      have HR449_2 := n12_
      have HB := n13_
      have BK455 := n14_
      have GW455 := n15_
      have GE455 := n16_
      clear n0_ n1_ n2_ n3_ n4_ n5_ n6_ n7_ n8_ n9_ n10_ n11_ n12_ n13_ n14_ n15_ n16_
      clear hb hbox hg
      refine hK.out _ _ ⟨HS0_, HS1_, HS2_, HS3_, HS4_, HS5_⟩ (fun hHeld => ?_)
      clear hK K
      refine norm_ (a' := ?_) ?_ ?_
      rotate_left
      · show Act.put _ (some 6) _ = _
        simp only [Act.put, List.setIfInBounds_toArray, List.set_cons_zero, List.set_cons_succ, i64_w, i32_w]
        rfl
      refine one_ (i := 6) (N := some 25) Z17 rfl rfl (one_of HT_.out (by kernel_rfl)) (by decide) (fun K hK => ?_)
      refine goes_ Try.func23 (by kernel_rfl) rfl #[.slice (some ad443) l0.length c0, .int .i64 ((rd_T45 l0 a1).f0)] (by rfl) rfl rfl (by (try simp only [List.map_toArray, List.map_cons, List.map_nil]); first | done | rfl | (simp only [List.length_drop, List.length_take]; rfl)) ?_
      with_reducible refine (ih k (by omega) (fun k_ => ((P0_ k_ ∨ w.heap.size ≤ k_) ∧ k_ ≠ gb455)) _ _ l0 ((rd_T45 l0 a1).f0) t446 _ ?side1 A6.out).mono ?_
      (case side1 => exact HO0.out)
      rintro e w10 ⟨v447, rfl, ho0, hb⟩
      have HS0_ := (hb.cell (World.block_lt_of_cell? _ _ (hHeld.1))).trans (hHeld.1)
      have HS1_ := (hb.cell (World.block_lt_of_cell? _ _ (hHeld.2.1))).trans (hHeld.2.1)
      have HS2_ := (hb.cell (World.block_lt_of_cell? _ _ (hHeld.2.2.1))).trans (hHeld.2.2.1)
      have HS3_ := (hb.cell (World.block_lt_of_cell? _ _ (hHeld.2.2.2.1))).trans (hHeld.2.2.2.1)
      have HS4_ := (hb.cell (World.block_lt_of_cell? _ _ (hHeld.2.2.2.2.1))).trans (hHeld.2.2.2.2.1)
      have HS5_ := (hb.cell (World.block_lt_of_cell? _ _ (hHeld.2.2.2.2.2))).trans (hHeld.2.2.2.2.2)
      refine ⟨_, rfl, ?_⟩
      have n0_ := aZ (Kd.V_below (by (with_reducible repeat (first | apply Kd.V_alloc | apply Kd.V_drewN | apply Kd.V_drew)); exact HO0.out) hb)
      have n1_ := aZ (Kd.V_below (by (with_reducible repeat (first | apply Kd.V_alloc | apply Kd.V_drewN | apply Kd.V_drew)); exact HL443_1.out) hb)
      have n2_ := aZ (Kd.V_below (by (with_reducible repeat (first | apply Kd.V_alloc | apply Kd.V_drewN | apply Kd.V_drew)); exact HL443_2.out) hb)
      have n3_ := aZ (Kd.V_below (by (with_reducible repeat (first | apply Kd.V_alloc | apply Kd.V_drewN | apply Kd.V_drew)); exact HL445_1.out) hb)
      have n4_ := aZ (Kd.V_below (by (with_reducible repeat (first | apply Kd.V_alloc | apply Kd.V_drewN | apply Kd.V_drew)); exact HL445_2.out) hb)
      have n5_ := aZ (Kd.V_below (by (with_reducible repeat (first | apply Kd.V_alloc | apply Kd.V_drewN | apply Kd.V_drew)); exact HL449_1.out) hb)
      have n6_ := aZ (Kd.V_below (by (with_reducible repeat (first | apply Kd.V_alloc | apply Kd.V_drewN | apply Kd.V_drew)); exact HL449_2.out) hb)
      have n7_ := aZ (Kd.V_lower (Kd.V_mono (ok' := fun k_ => (P0_ k_ ∨ w.heap.size ≤ k_) ∧ k_ ≠ gb455) ho0 (fun k_ hk_ => ⟨Or.elim hk_ (fun hs_ => hs_.1) (fun hn_ => (.inr (Nat.le_trans (lZ (by repeat (first | (with_reducible first | exact HB.out | apply lA | apply lN | apply lD | refine lS ?_ GE455.out) | exact HB.out))) hn_))), Or.elim hk_ (fun hs_ => hs_.2) (fun hn_ => (Kd.freshB (g := gb455) (o := .cells #[.int .i64 0, .int .i64 0] 26 (0, 0)) (by (with_reducible repeat (first | refine bN ?_ _ | refine bD ?_ | refine bA ?_ _)); exact BK455.out) k_ hn_))⟩)) (lZ (by repeat (first | (with_reducible first | exact HB.out | apply lA | apply lN | apply lD | refine lS ?_ GE455.out) | exact HB.out))))
      have n8_ := aZ (Kd.C_below (by repeat (first | (with_reducible exact HR443_1.out) | (with_reducible refine Kd.C_alloc ?_ _) | (with_reducible refine Kd.C_drewN ?_ _) | (with_reducible refine Kd.C_drew ?_) | exact HR443_1.out)) hb)
      have n9_ := aZ (Kd.C_below (by repeat (first | (with_reducible exact HR443_2.out) | (with_reducible refine Kd.C_alloc ?_ _) | (with_reducible refine Kd.C_drewN ?_ _) | (with_reducible refine Kd.C_drew ?_) | exact HR443_2.out)) hb)
      have n10_ := aZ (Kd.C_below (by repeat (first | (with_reducible exact HR445_1.out) | (with_reducible refine Kd.C_alloc ?_ _) | (with_reducible refine Kd.C_drewN ?_ _) | (with_reducible refine Kd.C_drew ?_) | exact HR445_1.out)) hb)
      have n11_ := aZ (Kd.C_below (by repeat (first | (with_reducible exact HR445_2.out) | (with_reducible refine Kd.C_alloc ?_ _) | (with_reducible refine Kd.C_drewN ?_ _) | (with_reducible refine Kd.C_drew ?_) | exact HR445_2.out)) hb)
      have n12_ := aZ (Kd.C_below (by repeat (first | (with_reducible exact HR449_1.out) | (with_reducible refine Kd.C_alloc ?_ _) | (with_reducible refine Kd.C_drewN ?_ _) | (with_reducible refine Kd.C_drew ?_) | exact HR449_1.out)) hb)
      have n13_ := aZ (Kd.C_below (by repeat (first | (with_reducible exact HR449_2.out) | (with_reducible refine Kd.C_alloc ?_ _) | (with_reducible refine Kd.C_drewN ?_ _) | (with_reducible refine Kd.C_drew ?_) | exact HR449_2.out)) hb)
      have n14_ := aZ (blk_below (g := gb455) (o := .cells #[.int .i64 0, .int .i64 0] 26 (0, 0)) (by (with_reducible repeat (first | refine bN ?_ _ | refine bD ?_ | refine bA ?_ _)); exact BK455.out) hb)
      have n15_ := aZ (lT (by repeat (first | (with_reducible first | exact HB.out | apply lA | apply lN | apply lD | refine lS ?_ GE455.out) | exact HB.out)) hb)
      clear HO0
      clear HL443_1
      clear HL443_2
      clear HL445_1
      clear HL445_2
      clear HL449_1
      clear HL449_2
      clear HR443_1
      clear HR443_2
      clear HR445_1
      clear HR445_2
      clear HR449_1
      clear HR449_2
      clear BK455
      clear HB
      have HO0 := n0_
      have HL443_1 := n1_
      have HL443_2 := n2_
      have HL445_1 := n3_
      have HL445_2 := n4_
      have HL449_1 := n5_
      have HL449_2 := n6_
      have HO448 := n7_
      have HR443_1 := n8_
      have HR443_2 := n9_
      have HR445_1 := n10_
      have HR445_2 := n11_
      have HR449_1 := n12_
      have HR449_2 := n13_
      have BK455 := n14_
      have HB := n15_
      clear n0_ n1_ n2_ n3_ n4_ n5_ n6_ n7_ n8_ n9_ n10_ n11_ n12_ n13_ n14_ n15_
      (try clear hb)
      (try clear hb2)
      (try clear hk)
      (try clear hi)
      (try clear ho0)
      obtain ⟨Ao11, co11, eo11⟩ := Kd.V_slice HO448.out
      (first | subst eo11 | (injection eo11 with f1_ f2_ f3_; have f4_ := f1_.symm; have f5_ := f3_.symm; clear f1_ f2_ f3_; subst f4_; subst f5_))
      refine hK.out _ _ ⟨HS0_, HS1_, HS2_, HS3_, HS4_, HS5_⟩ (fun hHeld => ?_)
      clear hK K
      refine norm_ (a' := ?_) ?_ ?_
      rotate_left
      · show Act.put _ (some 25) _ = _
        simp only [Act.put, List.setIfInBounds_toArray, List.set_cons_zero, List.set_cons_succ, i64_w, i32_w]
        rfl
      refine one_ (i := 12) (N := some 31) Z21 rfl rfl (one_of HT_.out (by kernel_rfl)) (by decide) (fun K hK => ?_)
      refine goes_ Try.func16 (by kernel_rfl) rfl #[.slice Ao11 t446.length co11, .slice A445_2 ((rd_T45 l0 a1).f2).length c445_2] (by rfl) rfl rfl (by (try simp only [List.map_toArray, List.map_cons, List.map_nil]); first | done | rfl | (simp only [List.length_drop, List.length_take]; rfl)) ?_
      with_reducible refine (changeforgeref3_ApplyDelta.calls k _ _ t446 _ _ ((rd_T45 l0 a1).f2) t450 t453 t454 _ ?side1 ?side2 ?side3 ?side4 A7.out).mono ?_
      (case side1 => repeat (first | exact (Kd.V_reads' HO448.out).2.2 | (with_reducible refine Kd.C_alloc ?_ _) | (with_reducible refine Kd.C_drewN ?_ _) | (with_reducible refine Kd.C_drew ?_)))
      (case side2 => exact (Kd.V_reads' HO448.out).2.1)
      (case side3 => repeat (first | exact (by repeat (first | (with_reducible exact HR449_2.out) | (with_reducible refine Kd.C_alloc ?_ _) | (with_reducible refine Kd.C_drewN ?_ _) | (with_reducible refine Kd.C_drew ?_) | exact HR449_2.out)) | (with_reducible refine Kd.C_alloc ?_ _) | (with_reducible refine Kd.C_drewN ?_ _) | (with_reducible refine Kd.C_drew ?_)))
      (case side4 => exact HC449_2.out)
      rintro e w12 ⟨v451, rfl, ho0, hb⟩
      have HS0_ := (hb.cell (World.block_lt_of_cell? _ _ (hHeld.1))).trans (hHeld.1)
      have HS1_ := (hb.cell (World.block_lt_of_cell? _ _ (hHeld.2.1))).trans (hHeld.2.1)
      have HS2_ := (hb.cell (World.block_lt_of_cell? _ _ (hHeld.2.2.1))).trans (hHeld.2.2.1)
      have HS3_ := (hb.cell (World.block_lt_of_cell? _ _ (hHeld.2.2.2.1))).trans (hHeld.2.2.2.1)
      have HS4_ := (hb.cell (World.block_lt_of_cell? _ _ (hHeld.2.2.2.2.1))).trans (hHeld.2.2.2.2.1)
      have HS5_ := (hb.cell (World.block_lt_of_cell? _ _ (hHeld.2.2.2.2.2))).trans (hHeld.2.2.2.2.2)
      refine ⟨_, rfl, ?_⟩
      have n0_ := aZ (Kd.V_elder' (by (with_reducible repeat (first | apply Kd.V_alloc | apply Kd.V_drewN | apply Kd.V_drew)); exact HO0.out) (Kd.R_base ho0) hb)
      have n1_ := aZ (Kd.V_elder' (by (with_reducible repeat (first | apply Kd.V_alloc | apply Kd.V_drewN | apply Kd.V_drew)); exact HL443_1.out) (Kd.R_base ho0) hb)
      have n2_ := aZ (Kd.V_elder' (by (with_reducible repeat (first | apply Kd.V_alloc | apply Kd.V_drewN | apply Kd.V_drew)); exact HL443_2.out) (Kd.R_base ho0) hb)
      have n3_ := aZ (Kd.V_elder' (by (with_reducible repeat (first | apply Kd.V_alloc | apply Kd.V_drewN | apply Kd.V_drew)); exact HL445_1.out) (Kd.R_base ho0) hb)
      have n4_ := aZ (Kd.V_elder' (by (with_reducible repeat (first | apply Kd.V_alloc | apply Kd.V_drewN | apply Kd.V_drew)); exact HL445_2.out) (Kd.R_base ho0) hb)
      have n5_ := aZ (Kd.V_elder' (by (with_reducible repeat (first | apply Kd.V_alloc | apply Kd.V_drewN | apply Kd.V_drew)); exact HL449_1.out) (Kd.R_base ho0) hb)
      have n6_ := aZ (Kd.V_elder' (by (with_reducible repeat (first | apply Kd.V_alloc | apply Kd.V_drewN | apply Kd.V_drew)); exact HL449_2.out) (Kd.R_base ho0) hb)
      have n7_ := aZ (Kd.V_elder' (by (with_reducible repeat (first | apply Kd.V_alloc | apply Kd.V_drewN | apply Kd.V_drew)); exact HO448.out) (Kd.R_base ho0) hb)
      have n8_ := aZ (Kd.R_lower (Kd.R_newM (M := fun k_ => (w.heap.size ≤ k_)) ho0 (lZ (by repeat (first | (with_reducible first | exact HB.out | apply lA | apply lN | apply lD | refine lS ?_ GE455.out) | exact HB.out))) (fun k_ h_ => h_)) (lZ (by repeat (first | (with_reducible first | exact HB.out | apply lA | apply lN | apply lD | refine lS ?_ GE455.out) | exact HB.out))))
      have n9_ := aZ (Kd.C_below (by repeat (first | (with_reducible exact HR443_1.out) | (with_reducible refine Kd.C_alloc ?_ _) | (with_reducible refine Kd.C_drewN ?_ _) | (with_reducible refine Kd.C_drew ?_) | exact HR443_1.out)) hb)
      have n10_ := aZ (Kd.C_below (by repeat (first | (with_reducible exact HR443_2.out) | (with_reducible refine Kd.C_alloc ?_ _) | (with_reducible refine Kd.C_drewN ?_ _) | (with_reducible refine Kd.C_drew ?_) | exact HR443_2.out)) hb)
      have n11_ := aZ (Kd.C_below (by repeat (first | (with_reducible exact HR445_1.out) | (with_reducible refine Kd.C_alloc ?_ _) | (with_reducible refine Kd.C_drewN ?_ _) | (with_reducible refine Kd.C_drew ?_) | exact HR445_1.out)) hb)
      have n12_ := aZ (Kd.C_below (by repeat (first | (with_reducible exact HR445_2.out) | (with_reducible refine Kd.C_alloc ?_ _) | (with_reducible refine Kd.C_drewN ?_ _) | (with_reducible refine Kd.C_drew ?_) | exact HR445_2.out)) hb)
      have n13_ := aZ (Kd.C_below (by repeat (first | (with_reducible exact HR449_1.out) | (with_reducible refine Kd.C_alloc ?_ _) | (with_reducible refine Kd.C_drewN ?_ _) | (with_reducible refine Kd.C_drew ?_) | exact HR449_1.out)) hb)
      have n14_ := aZ (Kd.C_below (by repeat (first | (with_reducible exact HR449_2.out) | (with_reducible refine Kd.C_alloc ?_ _) | (with_reducible refine Kd.C_drewN ?_ _) | (with_reducible refine Kd.C_drew ?_) | exact HR449_2.out)) hb)
      have n15_ := aZ (blk_below (g := gb455) (o := .cells #[.int .i64 0, .int .i64 0] 26 (0, 0)) (by (with_reducible repeat (first | refine bN ?_ _ | refine bD ?_ | refine bA ?_ _)); exact BK455.out) hb)
      have n16_ := aZ (lT (by repeat (first | (with_reducible first | exact HB.out | apply lA | apply lN | apply lD | refine lS ?_ GE455.out) | exact HB.out)) hb)
      clear HO0
      clear HL443_1
      clear HL443_2
      clear HL445_1
      clear HL445_2
      clear HL449_1
      clear HL449_2
      clear HO448
      clear HR443_1
      clear HR443_2
      clear HR445_1
      clear HR445_2
      clear HR449_1
      clear HR449_2
      clear BK455
      clear HB
      have HO0 := n0_
      have HL443_1 := n1_
      have HL443_2 := n2_
      have HL445_1 := n3_
      have HL445_2 := n4_
      have HL449_1 := n5_
      have HL449_2 := n6_
      have HO448 := n7_
      have HO452 := n8_
      have HR443_1 := n9_
      have HR443_2 := n10_
      have HR445_1 := n11_
      have HR445_2 := n12_
      have HR449_1 := n13_
      have HR449_2 := n14_
      have BK455 := n15_
      have HB := n16_
      clear n0_ n1_ n2_ n3_ n4_ n5_ n6_ n7_ n8_ n9_ n10_ n11_ n12_ n13_ n14_ n15_ n16_
      (try clear hb)
      (try clear hb2)
      (try clear hk)
      (try clear hi)
      (try clear ho0)
      refine hK.out _ _ ⟨HS0_, HS1_, HS2_, HS3_, HS4_, HS5_⟩ (fun hHeld => ?_)
      clear hK K
      refine norm_ (a' := ?_) ?_ ?_
      rotate_left
      · show Act.put _ (some 31) _ = _
        simp only [Act.put, List.setIfInBounds_toArray, List.set_cons_zero, List.set_cons_succ, i64_w, i32_w]
        rfl
      refine pu 13 18 Z22 HT_ rfl rfl (h := ?_)
      refine pu 14 32 Z23 HT_ rfl rfl (h := ?_)
      refine pu 15 33 Z13 HT_ rfl rfl (h := ?_)
      exact norm_ (by simp only [putAll, Act.put, List.setIfInBounds_toArray, List.set_cons_zero, List.set_cons_succ]) (hCont (.slice Ao11 t446.length co11, v451, gb455) _ ⟨hHeld, (by (with_reducible repeat (first | apply Kd.V_alloc | apply Kd.V_drewN | apply Kd.V_drew)); exact Kd.V_mono HL443_1.out (fun _ hk => ⟨hk.1.1, ⟨hk.2, hk.1.2⟩⟩)), (by (with_reducible repeat (first | apply Kd.V_alloc | apply Kd.V_drewN | apply Kd.V_drew)); exact Kd.V_mono HL443_2.out (fun _ hk => ⟨hk.1.1, ⟨hk.2, hk.1.2⟩⟩)), (by (with_reducible repeat (first | apply Kd.V_alloc | apply Kd.V_drewN | apply Kd.V_drew)); exact Kd.V_mono HL445_1.out (fun _ hk => ⟨hk.1.1, ⟨hk.2, hk.1.2⟩⟩)), (by (with_reducible repeat (first | apply Kd.V_alloc | apply Kd.V_drewN | apply Kd.V_drew)); exact Kd.V_mono HL445_2.out (fun _ hk => ⟨hk.1.1, ⟨hk.2, hk.1.2⟩⟩)), (by (with_reducible repeat (first | apply Kd.V_alloc | apply Kd.V_drewN | apply Kd.V_drew)); exact Kd.V_mono HL449_1.out (fun _ hk => ⟨hk.1.1, ⟨hk.2, hk.1.2⟩⟩)), (by (with_reducible repeat (first | apply Kd.V_alloc | apply Kd.V_drewN | apply Kd.V_drew)); exact Kd.V_mono HL449_2.out (fun _ hk => ⟨hk.1.1, ⟨hk.2, hk.1.2⟩⟩)), (by (with_reducible repeat (first | apply Kd.V_alloc | apply Kd.V_drewN | apply Kd.V_drew)); exact Kd.V_mono HO0.out (fun _ hk => ⟨hk.1.1, ⟨hk.2, hk.1.2⟩⟩)), (by (with_reducible repeat (first | apply Kd.V_alloc | apply Kd.V_drewN | apply Kd.V_drew)); exact Kd.V_mono HO448.out (fun _ hk => ⟨hk.1.1, ⟨hk.2, hk.1.2⟩⟩)), (by (with_reducible repeat (first | apply Kd.rA | apply Kd.rN | apply Kd.rD)); exact Kd.R_mono HO452.out (fun _ hk => hk.1)), (by (with_reducible repeat (first | refine bN ?_ _ | refine bD ?_ | refine bA ?_ _)); exact BK455.out), GW455.out, GE455.out, (by repeat (first | (with_reducible first | exact HB.out | apply lA | apply lN | apply lD | refine lS ?_ GE455.out) | exact HB.out))⟩)
  rintro ⟨v447, v451, gb455⟩ w13 ⟨hS_, h0_, h1_, h2_, h3_, h4_, h5_, h6_, h7_, h8_, h9_, h10_, h11_, h12_⟩
  have n0_ : Aside0 (Kd.V (Kd.int .u8) 5 w13 w.heap.size (fun k_ => (P0_ k_ ∨ w.heap.size ≤ k_) ∧ some k_ ≠ (v451 : Value).ownBlock ∧ k_ ≠ gb455) (.slice A443_1 ((rd_T45 l0 a1).f1).length c443_1) ((rd_T45 l0 a1).f1)) := ⟨h0_⟩
  have n1_ : Aside0 (Kd.V k37 37 w13 w.heap.size (fun k_ => (P0_ k_ ∨ w.heap.size ≤ k_) ∧ some k_ ≠ (v451 : Value).ownBlock ∧ k_ ≠ gb455) (.slice A443_2 ((rd_T45 l0 a1).f2).length c443_2) ((rd_T45 l0 a1).f2)) := ⟨h1_⟩
  have n2_ : Aside0 (Kd.V (Kd.int .u8) 5 w13 w.heap.size (fun k_ => (P0_ k_ ∨ w.heap.size ≤ k_) ∧ some k_ ≠ (v451 : Value).ownBlock ∧ k_ ≠ gb455) (.slice A445_1 ((rd_T45 l0 a1).f1).length c445_1) ((rd_T45 l0 a1).f1)) := ⟨h2_⟩
  have n3_ : Aside0 (Kd.V k37 37 w13 w.heap.size (fun k_ => (P0_ k_ ∨ w.heap.size ≤ k_) ∧ some k_ ≠ (v451 : Value).ownBlock ∧ k_ ≠ gb455) (.slice A445_2 ((rd_T45 l0 a1).f2).length c445_2) ((rd_T45 l0 a1).f2)) := ⟨h3_⟩
  have n4_ : Aside0 (Kd.V (Kd.int .u8) 5 w13 w.heap.size (fun k_ => (P0_ k_ ∨ w.heap.size ≤ k_) ∧ some k_ ≠ (v451 : Value).ownBlock ∧ k_ ≠ gb455) (.slice A445_1 ((rd_T45 l0 a1).f1).length c445_1) ((rd_T45 l0 a1).f1)) := ⟨h4_⟩
  have n5_ : Aside0 (Kd.V k37 37 w13 w.heap.size (fun k_ => (P0_ k_ ∨ w.heap.size ≤ k_) ∧ some k_ ≠ (v451 : Value).ownBlock ∧ k_ ≠ gb455) (.slice A445_2 ((rd_T45 l0 a1).f2).length c445_2) ((rd_T45 l0 a1).f2)) := ⟨h5_⟩
  have n6_ : Aside0 (Kd.V k45 45 w13 w.heap.size (fun k_ => (P0_ k_ ∨ w.heap.size ≤ k_) ∧ some k_ ≠ (v451 : Value).ownBlock ∧ k_ ≠ gb455) (.slice (some ad443) l0.length c0) l0) := ⟨h6_⟩
  have n7_ : Aside0 (Kd.V (Kd.int .u8) 5 w13 w.heap.size (fun k_ => (P0_ k_ ∨ w.heap.size ≤ k_) ∧ some k_ ≠ (v451 : Value).ownBlock ∧ k_ ≠ gb455) v447 t446) := ⟨h7_⟩
  have n8_ : Aside0 (Kd.R (Kd.int .u8) 5 w13 w.heap.size (fun k_ => (w.heap.size ≤ k_)) v451 t450) := ⟨h8_⟩
  have n9_ : Aside0 (w13.heap[gb455]? = some (.cells #[.int .i64 0, .int .i64 0] 26 (0, 0))) := ⟨h9_⟩
  have n10_ : Aside0 (w.heap.size ≤ gb455) := ⟨h10_⟩
  have n11_ : Aside0 (w.heap.size ≤ gb455) := ⟨h11_⟩
  have n12_ : Aside0 (Below w.heap.size w w13) := ⟨h12_⟩
  clear HO0
  clear HL443_1
  clear HL443_2
  clear HR443_1
  clear HR443_2
  clear HB
  clear h0_ h1_ h2_ h3_ h4_ h5_ h6_ h7_ h8_ h9_ h10_ h11_ h12_
  have HL443_1 := n0_
  have HL443_2 := n1_
  have HL445_1 := n2_
  have HL445_2 := n3_
  have HL449_1 := n4_
  have HL449_2 := n5_
  have HO0 := n6_
  have HO448 := n7_
  have HO452 := n8_
  have BK455 := n9_
  have GW455 := n10_
  have GE455 := n11_
  have HB := n12_
  clear n0_ n1_ n2_ n3_ n4_ n5_ n6_ n7_ n8_ n9_ n10_ n11_ n12_
  have hHeld : w13.cell? (ad443.add ((a1).toNat * 3)) = some (.int .i64 ((rd_T45 l0 a1).f0)) ∧ w13.cell? ⟨(ad443.add ((a1).toNat * 3)).block, (ad443.add ((a1).toNat * 3)).off + 1, none⟩ = some (.slice A445_1 ((rd_T45 l0 a1).f1).length c445_1) ∧ w13.cell? ⟨(ad443.add ((a1).toNat * 3)).block, (ad443.add ((a1).toNat * 3)).off + 2, none⟩ = some (.slice A445_2 ((rd_T45 l0 a1).f2).length c445_2) ∧ w13.cell? (ad443.add ((a1).toNat * 3)) = some (.int .i64 ((rd_T45 l0 a1).f0)) ∧ w13.cell? ⟨(ad443.add ((a1).toNat * 3)).block, (ad443.add ((a1).toNat * 3)).off + 1, none⟩ = some (.slice A445_1 ((rd_T45 l0 a1).f1).length c445_1) ∧ w13.cell? ⟨(ad443.add ((a1).toNat * 3)).block, (ad443.add ((a1).toNat * 3)).off + 2, none⟩ = some (.slice A445_2 ((rd_T45 l0 a1).f2).length c445_2) := hS_
  refine norm_ (a' := ?_) ?_ ?_
  rotate_left
  · simp only [putAll, Act.put, List.setIfInBounds_toArray, List.set_cons_zero, List.set_cons_succ]
    rfl
  refine pu 17 5 Z24 HT_ rfl rfl (h := ?_)
  refine one_ (i := 18) (N := none) Z25 rfl rfl (one_of HT_.out (by kernel_rfl)) (by decide) (fun K hK => ?_)
  have hs14 : w13.cell? ⟨gb455, 0, none⟩ = some (.int .i64 0) := (blk_cell BK455.out 0).trans rfl
  have hfs14 := blk_frozen BK455.out 0
  have hs15 : w13.cell? ⟨gb455, 1, none⟩ = some (.int .i64 0) := (blk_cell BK455.out 1).trans rfl
  have hfs15 := blk_frozen BK455.out 1
  refine skip_ (w1 := ?_) (by rfl) rfl ?_ ?_
  rotate_left
  · go_simp
    rfl
  refine hK.out _ _ ⟨((cell_far (p := ⟨gb455, _, none⟩) (by first | exact Kd.own_blk (Kd.V_away HO0.out (fun _ hk => hk.2.2) (by have p_ := of_eq_true p449; have q_ := of_eq_true q449; omega)) | (rw [add_block]; exact Kd.own_blk (Kd.V_away HO0.out (fun _ hk => hk.2.2) (by have p_ := of_eq_true p449; have q_ := of_eq_true q449; omega))) | (show (Addr.add _ _).block ≠ _; rw [add_block]; exact Kd.own_blk (Kd.V_away HO0.out (fun _ hk => hk.2.2) (by have p_ := of_eq_true p449; have q_ := of_eq_true q449; omega))) | (dsimp only; exact Kd.own_blk (Kd.V_away HO0.out (fun _ hk => hk.2.2) (by have p_ := of_eq_true p449; have q_ := of_eq_true q449; omega)))) _).trans (((cell_far (p := ⟨gb455, _, none⟩) (by first | exact Kd.own_blk (Kd.V_away HO0.out (fun _ hk => hk.2.2) (by have p_ := of_eq_true p449; have q_ := of_eq_true q449; omega)) | (rw [add_block]; exact Kd.own_blk (Kd.V_away HO0.out (fun _ hk => hk.2.2) (by have p_ := of_eq_true p449; have q_ := of_eq_true q449; omega))) | (show (Addr.add _ _).block ≠ _; rw [add_block]; exact Kd.own_blk (Kd.V_away HO0.out (fun _ hk => hk.2.2) (by have p_ := of_eq_true p449; have q_ := of_eq_true q449; omega))) | (dsimp only; exact Kd.own_blk (Kd.V_away HO0.out (fun _ hk => hk.2.2) (by have p_ := of_eq_true p449; have q_ := of_eq_true q449; omega)))) _).trans (hHeld.1)))), ((cell_far (p := ⟨gb455, _, none⟩) (by first | exact Kd.own_blk (Kd.V_away HO0.out (fun _ hk => hk.2.2) (by have p_ := of_eq_true p449; have q_ := of_eq_true q449; omega)) | (rw [add_block]; exact Kd.own_blk (Kd.V_away HO0.out (fun _ hk => hk.2.2) (by have p_ := of_eq_true p449; have q_ := of_eq_true q449; omega))) | (show (Addr.add _ _).block ≠ _; rw [add_block]; exact Kd.own_blk (Kd.V_away HO0.out (fun _ hk => hk.2.2) (by have p_ := of_eq_true p449; have q_ := of_eq_true q449; omega))) | (dsimp only; exact Kd.own_blk (Kd.V_away HO0.out (fun _ hk => hk.2.2) (by have p_ := of_eq_true p449; have q_ := of_eq_true q449; omega)))) _).trans (((cell_far (p := ⟨gb455, _, none⟩) (by first | exact Kd.own_blk (Kd.V_away HO0.out (fun _ hk => hk.2.2) (by have p_ := of_eq_true p449; have q_ := of_eq_true q449; omega)) | (rw [add_block]; exact Kd.own_blk (Kd.V_away HO0.out (fun _ hk => hk.2.2) (by have p_ := of_eq_true p449; have q_ := of_eq_true q449; omega))) | (show (Addr.add _ _).block ≠ _; rw [add_block]; exact Kd.own_blk (Kd.V_away HO0.out (fun _ hk => hk.2.2) (by have p_ := of_eq_true p449; have q_ := of_eq_true q449; omega))) | (dsimp only; exact Kd.own_blk (Kd.V_away HO0.out (fun _ hk => hk.2.2) (by have p_ := of_eq_true p449; have q_ := of_eq_true q449; omega)))) _).trans (hHeld.2.1)))), ((cell_far (p := ⟨gb455, _, none⟩) (by first | exact Kd.own_blk (Kd.V_away HO0.out (fun _ hk => hk.2.2) (by have p_ := of_eq_true p449; have q_ := of_eq_true q449; omega)) | (rw [add_block]; exact Kd.own_blk (Kd.V_away HO0.out (fun _ hk => hk.2.2) (by have p_ := of_eq_true p449; have q_ := of_eq_true q449; omega))) | (show (Addr.add _ _).block ≠ _; rw [add_block]; exact Kd.own_blk (Kd.V_away HO0.out (fun _ hk => hk.2.2) (by have p_ := of_eq_true p449; have q_ := of_eq_true q449; omega))) | (dsimp only; exact Kd.own_blk (Kd.V_away HO0.out (fun _ hk => hk.2.2) (by have p_ := of_eq_true p449; have q_ := of_eq_true q449; omega)))) _).trans (((cell_far (p := ⟨gb455, _, none⟩) (by first | exact Kd.own_blk (Kd.V_away HO0.out (fun _ hk => hk.2.2) (by have p_ := of_eq_true p449; have q_ := of_eq_true q449; omega)) | (rw [add_block]; exact Kd.own_blk (Kd.V_away HO0.out (fun _ hk => hk.2.2) (by have p_ := of_eq_true p449; have q_ := of_eq_true q449; omega))) | (show (Addr.add _ _).block ≠ _; rw [add_block]; exact Kd.own_blk (Kd.V_away HO0.out (fun _ hk => hk.2.2) (by have p_ := of_eq_true p449; have q_ := of_eq_true q449; omega))) | (dsimp only; exact Kd.own_blk (Kd.V_away HO0.out (fun _ hk => hk.2.2) (by have p_ := of_eq_true p449; have q_ := of_eq_true q449; omega)))) _).trans (hHeld.2.2.1)))), ((cell_far (p := ⟨gb455, _, none⟩) (by first | exact Kd.own_blk (Kd.V_away HO0.out (fun _ hk => hk.2.2) (by have p_ := of_eq_true p449; have q_ := of_eq_true q449; omega)) | (rw [add_block]; exact Kd.own_blk (Kd.V_away HO0.out (fun _ hk => hk.2.2) (by have p_ := of_eq_true p449; have q_ := of_eq_true q449; omega))) | (show (Addr.add _ _).block ≠ _; rw [add_block]; exact Kd.own_blk (Kd.V_away HO0.out (fun _ hk => hk.2.2) (by have p_ := of_eq_true p449; have q_ := of_eq_true q449; omega))) | (dsimp only; exact Kd.own_blk (Kd.V_away HO0.out (fun _ hk => hk.2.2) (by have p_ := of_eq_true p449; have q_ := of_eq_true q449; omega)))) _).trans (((cell_far (p := ⟨gb455, _, none⟩) (by first | exact Kd.own_blk (Kd.V_away HO0.out (fun _ hk => hk.2.2) (by have p_ := of_eq_true p449; have q_ := of_eq_true q449; omega)) | (rw [add_block]; exact Kd.own_blk (Kd.V_away HO0.out (fun _ hk => hk.2.2) (by have p_ := of_eq_true p449; have q_ := of_eq_true q449; omega))) | (show (Addr.add _ _).block ≠ _; rw [add_block]; exact Kd.own_blk (Kd.V_away HO0.out (fun _ hk => hk.2.2) (by have p_ := of_eq_true p449; have q_ := of_eq_true q449; omega))) | (dsimp only; exact Kd.own_blk (Kd.V_away HO0.out (fun _ hk => hk.2.2) (by have p_ := of_eq_true p449; have q_ := of_eq_true q449; omega)))) _).trans (hHeld.2.2.2.1)))), ((cell_far (p := ⟨gb455, _, none⟩) (by first | exact Kd.own_blk (Kd.V_away HO0.out (fun _ hk => hk.2.2) (by have p_ := of_eq_true p449; have q_ := of_eq_true q449; omega)) | (rw [add_block]; exact Kd.own_blk (Kd.V_away HO0.out (fun _ hk => hk.2.2) (by have p_ := of_eq_true p449; have q_ := of_eq_true q449; omega))) | (show (Addr.add _ _).block ≠ _; rw [add_block]; exact Kd.own_blk (Kd.V_away HO0.out (fun _ hk => hk.2.2) (by have p_ := of_eq_true p449; have q_ := of_eq_true q449; omega))) | (dsimp only; exact Kd.own_blk (Kd.V_away HO0.out (fun _ hk => hk.2.2) (by have p_ := of_eq_true p449; have q_ := of_eq_true q449; omega)))) _).trans (((cell_far (p := ⟨gb455, _, none⟩) (by first | exact Kd.own_blk (Kd.V_away HO0.out (fun _ hk => hk.2.2) (by have p_ := of_eq_true p449; have q_ := of_eq_true q449; omega)) | (rw [add_block]; exact Kd.own_blk (Kd.V_away HO0.out (fun _ hk => hk.2.2) (by have p_ := of_eq_true p449; have q_ := of_eq_true q449; omega))) | (show (Addr.add _ _).block ≠ _; rw [add_block]; exact Kd.own_blk (Kd.V_away HO0.out (fun _ hk => hk.2.2) (by have p_ := of_eq_true p449; have q_ := of_eq_true q449; omega))) | (dsimp only; exact Kd.own_blk (Kd.V_away HO0.out (fun _ hk => hk.2.2) (by have p_ := of_eq_true p449; have q_ := of_eq_true q449; omega)))) _).trans (hHeld.2.2.2.2.1)))), ((cell_far (p := ⟨gb455, _, none⟩) (by first | exact Kd.own_blk (Kd.V_away HO0.out (fun _ hk => hk.2.2) (by have p_ := of_eq_true p449; have q_ := of_eq_true q449; omega)) | (rw [add_block]; exact Kd.own_blk (Kd.V_away HO0.out (fun _ hk => hk.2.2) (by have p_ := of_eq_true p449; have q_ := of_eq_true q449; omega))) | (show (Addr.add _ _).block ≠ _; rw [add_block]; exact Kd.own_blk (Kd.V_away HO0.out (fun _ hk => hk.2.2) (by have p_ := of_eq_true p449; have q_ := of_eq_true q449; omega))) | (dsimp only; exact Kd.own_blk (Kd.V_away HO0.out (fun _ hk => hk.2.2) (by have p_ := of_eq_true p449; have q_ := of_eq_true q449; omega)))) _).trans (((cell_far (p := ⟨gb455, _, none⟩) (by first | exact Kd.own_blk (Kd.V_away HO0.out (fun _ hk => hk.2.2) (by have p_ := of_eq_true p449; have q_ := of_eq_true q449; omega)) | (rw [add_block]; exact Kd.own_blk (Kd.V_away HO0.out (fun _ hk => hk.2.2) (by have p_ := of_eq_true p449; have q_ := of_eq_true q449; omega))) | (show (Addr.add _ _).block ≠ _; rw [add_block]; exact Kd.own_blk (Kd.V_away HO0.out (fun _ hk => hk.2.2) (by have p_ := of_eq_true p449; have q_ := of_eq_true q449; omega))) | (dsimp only; exact Kd.own_blk (Kd.V_away HO0.out (fun _ hk => hk.2.2) (by have p_ := of_eq_true p449; have q_ := of_eq_true q449; omega)))) _).trans (hHeld.2.2.2.2.2))))⟩ (fun hHeld => ?_)
  clear hK K
  refine done_ (done_of HT_.out (by kernel_rfl)) ?_
  try go_wp2
  go_ret
  exact ⟨_, by first | rfl | (simp [errW_none, errW_some] <;> rfl) | (simp [*, errW_none, errW_some] <;> rfl), Kd.V_mono (Kd.R_V (by (with_reducible repeat (first | apply Kd.rA | apply Kd.rN | apply Kd.rD)); exact Kd.R_mono (Kd.R_far (p := ⟨gb455, 1, none⟩) (Kd.R_far (p := ⟨gb455, 0, none⟩) (Kd.R_types HO452.out BK455.out (by decide)) (fun _ hk => hk.2) (.int .i64 t453)) (fun _ hk => hk.2) (.int .i64 t454)) (fun _ hk => hk.1))) (fun k_ hk => by first | exact ⟨(.inr (hk.1)), hk.2⟩ | exact (.inr (hk))), by repeat (first | (with_reducible first | exact HB.out | apply lA | apply lN | apply lD | refine lS ?_ GE455.out) | exact HB.out)⟩
end Go.Proofs.Ytgmpnghgmcgghaa.P
