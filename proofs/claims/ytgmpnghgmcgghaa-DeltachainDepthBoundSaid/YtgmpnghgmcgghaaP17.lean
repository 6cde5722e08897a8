/- What the Go functions of this seat compute, and that they do: printed by a program over the kit's print. -/
import Derived.Test.YtgmpnghgmcgghaaP0
import Derived.Test.YtgmpnghgmcgghaaP2
import Derived.Test.YtgmpnghgmcgghaaP4
import Derived.Test.YtgmpnghgmcgghaaP16
namespace Go.Proofs.Ytgmpnghgmcgghaa.P
open Go.RowKit Go.Proofs.YtgmpnghgmcgghaaW.PrintWords Go.Proofs.YtgmpnghgmcgghaaW.PrintLast Go.Proofs.YtgmpnghgmcgghaaW.PrintMore
attribute [local go_sem] max2_int min2_int max_two min_two max_three min_three max_four min_four   -- for this text's walks alone
set_option linter.unusedVariables false
set_option linter.unusedSimpArgs false

/-! ### deltachain_Pack: function 17 -/
mutual
def deltachain_Pack.j0 : Nat → List (List Int) → Int → Bool → Option ((List (S45)) × Int × Int)
  | 0, _, _, _ => none
  | k + 1, x0, x1, x20 => if x20 = true then (some (([] : List (S45)), 3, (-1))) else (deltachain_Pack.l0 k x0 x1 ([] : List (S45)) x0 (x0.length : Int) 0)
def deltachain_Pack.l0 : Nat → List (List Int) → Int → List (S45) → List (List Int) → Int → Int → Option ((List (S45)) × Int × Int)
  | 0, _, _, _, _, _, _ => none
  | k + 1, x0, x1, x6, x22, x23, x24 => if x24 < x23 then (if 0 ≤ x24 then (if x24 < (x22.length : Int) then ((deltachain_sized.f k (([rd_L1 x22 x24] : List (List Int)))).bind fun t333 => (if t333 = true then (if (wrap64 (x1 + 1)) = 0 then (none) else (if (Int.tmod x24 (wrap64 (x1 + 1))) = 0 then ((bytes_Clone.f (rd_L1 x22 x24)).bind fun t334 => (if x6.length < 2513169434916 then (deltachain_Pack.l0 k x0 x1 (x6 ++ [(⟨(-1), t334, ([] : List (S37))⟩ : S45)]) x22 x23 (wrap64 (x24 + 1))) else (none))) else (if 0 ≤ (wrap64 (x24 - 1)) then (if (wrap64 (x24 - 1)) < (x0.length : Int) then ((deltachain_Encode.f k (rd_L1 x0 (wrap64 (x24 - 1))) (rd_L1 x22 x24)).bind fun bt341 => (if x6.length < 2513169434916 then (deltachain_Pack.l0 k x0 x1 (x6 ++ [(⟨wrap64 (x24 - 1), ([] : List Int), bt341.1⟩ : S45)]) x22 x23 (wrap64 (x24 + 1))) else (none))) else (none)) else (none)))) else (some (([] : List (S45)), 10, x24)))) else (none)) else (none)) else (some (x6, 0, 0))
end
def deltachain_Pack.f (k : Nat) (l0 : List (List Int)) (a1 : Int) : Option ((List (S45)) × Int × Int) := if (l0.length : Int) > 20 then (some (([] : List (S45)), 2, (-1))) else (if a1 < 0 then (deltachain_Pack.j0 k l0 a1 true) else (deltachain_Pack.j0 k l0 a1 (decide (a1 > 20))))
theorem deltachain_Pack.mono_l : ∀ k, (∀ y0 y1 y2, LeO (deltachain_Pack.j0 k y0 y1 y2) (deltachain_Pack.j0 (k + 1) y0 y1 y2)) ∧ (∀ y0 y1 y2 y3 y4 y5, LeO (deltachain_Pack.l0 k y0 y1 y2 y3 y4 y5) (deltachain_Pack.l0 (k + 1) y0 y1 y2 y3 y4 y5))
  | 0 => ⟨fun _ _ _ r h => by simp [deltachain_Pack.j0] at h, fun _ _ _ _ _ _ r h => by simp [deltachain_Pack.l0] at h⟩
  | k + 1 => by
    obtain ⟨ih0, ih1⟩ := deltachain_Pack.mono_l k
    refine ⟨?_, ?_⟩
    · intro y0 y1 y2
      unfold deltachain_Pack.j0
      repeat' first
      | (with_reducible exact ih0 _ _ _)
      | (with_reducible exact ih1 _ _ _ _ _ _)
      | (with_reducible exact deltachain_Encode.mono _ _ _)
      | (with_reducible exact deltachain_sized.mono _ _)
      | (with_reducible exact LeO.refl _)
      | (with_reducible exact LeO.none _)
      | (with_reducible refine LeO.ite ?_ ?_)
      | (with_reducible refine LeO.bind ?_ (fun _ => ?_))
      | exact ih0 _ _ _
      | exact ih1 _ _ _ _ _ _
      | exact deltachain_Encode.mono _ _ _
      | exact deltachain_sized.mono _ _
      | exact LeO.none _
      | refine LeO.ite ?_ ?_
      | refine LeO.bind ?_ (fun _ => ?_)
    · intro y0 y1 y2 y3 y4 y5
      unfold deltachain_Pack.l0
      repeat' first
      | (with_reducible exact ih0 _ _ _)
      | (with_reducible exact ih1 _ _ _ _ _ _)
      | (with_reducible exact deltachain_Encode.mono _ _ _)
      | (with_reducible exact deltachain_sized.mono _ _)
      | (with_reducible exact LeO.refl _)
      | (with_reducible exact LeO.none _)
      | (with_reducible refine LeO.ite ?_ ?_)
      | (with_reducible refine LeO.bind ?_ (fun _ => ?_))
      | exact ih0 _ _ _
      | exact ih1 _ _ _ _ _ _
      | exact deltachain_Encode.mono _ _ _
      | exact deltachain_sized.mono _ _
      | exact LeO.none _
      | refine LeO.ite ?_ ?_
      | refine LeO.bind ?_ (fun _ => ?_)
theorem deltachain_Pack.mono : ∀ a0 a1 k, LeO (deltachain_Pack.f k a0 a1) (deltachain_Pack.f (k + 1) a0 a1) := by
  intro a0 a1 k
  obtain ⟨ih0, ih1⟩ := deltachain_Pack.mono_l k
  unfold deltachain_Pack.f
  repeat' first
      | (with_reducible exact ih0 _ _ _)
      | (with_reducible exact ih1 _ _ _ _ _ _)
      | (with_reducible exact deltachain_Encode.mono _ _ _)
      | (with_reducible exact deltachain_sized.mono _ _)
      | (with_reducible exact LeO.refl _)
      | (with_reducible exact LeO.none _)
      | (with_reducible refine LeO.ite ?_ ?_)
      | (with_reducible refine LeO.bind ?_ (fun _ => ?_))
      | exact ih0 _ _ _
      | exact ih1 _ _ _ _ _ _
      | exact deltachain_Encode.mono _ _ _
      | exact deltachain_sized.mono _ _
      | exact LeO.none _
      | refine LeO.ite ?_ ?_
      | refine LeO.bind ?_ (fun _ => ?_)
set_option maxHeartbeats 8000000 in
set_option maxRecDepth 100000 in
theorem deltachain_Pack.calls (k : Nat) (A0 : Option Addr) (c0 : Nat) (l0 : List (List Int)) (a1 : Int) (r1 : List (S45)) (r2 : Int) (r3 : Int) (w : World) (hr0 : Kd.C (Kd.slice 5 (Kd.int .u8)) w A0 l0.length l0) (hc0 : l0.length ≤ c0) (h : deltachain_Pack.f k l0 a1 = some (r1, r2, r3)) :
  Calls Try.prog 17 #[.slice A0 l0.length c0, .int .i64 a1] w fun e w' => ∃ v0_ : Value, e = .returned (.tuple #[v0_, .agg #[.int .i64 r2, .int .i64 r3]]) ∧ Kd.R k45 45 w' w.heap.size (fun _ => True) v0_ r1 ∧ Below w.heap.size w w' := by
  have hu26 := Try.underlying26
  have hu45 := Try.underlying45
  have HR0 := aZ hr0
  have HC0 := aZ hc0
  clear hr0 hc0
  have HB := aZ (Below.refl w.heap.size w)
  have H : (if (l0.length : Int) > 20 then (some (([] : List (S45)), 2, (-1))) else (if a1 < 0 then (deltachain_Pack.j0 k l0 a1 true) else (deltachain_Pack.j0 k l0 a1 (decide (a1 > 20))))) = some (r1, r2, r3) := h
  clear h
  by_cases c3 : (l0.length : Int) > 20
  · rw [if_pos c3] at H
    have c3b0 : decide (20 < (l0.length : Int)) = true := decide_eq_true c3
    have c3b1 : decide (20 < l0.length) = true := decide_eq_true (by omega)
    clear c3
    simp only [Option.some.injEq, Prod.mk.injEq] at H
    obtain ⟨rfl, rfl, rfl⟩ := H
    go_enter Try.func17, Try.ntmps17
    go_wp2_with (first | ((with_reducible refine gate_dst (N := 5) rfl ?_); refine box_event ?hg (N := 5) ?hd (cs := #[.int .i64 0, .int .i64 0]) (t := 26) ?hr ?_; (case hd => rfl); (case hg => rfl); (case hr => first | (go_simp; done) | (go_simp; rfl)); intro gb327 hg w4 hbox hb; have n0_ := aZ (lT (by repeat (first | (with_reducible first | exact HB.out | apply lA | apply lN | apply lD) | exact HB.out)) hb); have n1_ := aZ (hbox); have n2_ := aZ ((by rw [hg]; exact (lZ (by repeat (first | (with_reducible first | exact HB.out | apply lA | apply lN | apply lD) | exact HB.out))) : w.heap.size ≤ gb327)); have n3_ := aZ ((by rw [hg]; exact (lZ (by repeat (first | (with_reducible first | exact HB.out | apply lA | apply lN | apply lD) | exact HB.out))) : w.heap.size ≤ gb327)); clear HB; have HB := n0_; have BK327 := n1_; have GW327 := n2_; have GE327 := n3_; clear n0_ n1_ n2_ n3_; clear hb hbox hg; have hcz5_0 : w4.cell? ⟨gb327, 0, none⟩ = some (.int .i64 0) := (blk_cell BK327.out 0).trans rfl; have hcz5_1 : w4.cell? ⟨gb327, 1, none⟩ = some (.int .i64 0) := (blk_cell BK327.out 1).trans rfl; have hfz5_0 := blk_frozen BK327.out 0; have hfz5_1 := blk_frozen BK327.out 1))
    refine bodyPost_ret (results_tc rfl _ _ gb327 26 #[.int .i64 2, .int .i64 (-1)] (0, 0) _ rfl (by (with_reducible repeat (first | refine bN ?_ _ | refine bD ?_ | refine bA ?_ _)); refine blk_put (cs := #[.int .i64 2, .int .i64 0]) ?_ 1 _ rfl; (with_reducible repeat (first | refine bN ?_ _ | refine bD ?_ | refine bA ?_ _)); refine blk_put (cs := #[.int .i64 0, .int .i64 0]) ?_ 0 _ rfl; (with_reducible repeat (first | refine bN ?_ _ | refine bD ?_ | refine bA ?_ _)); exact BK327.out) Try.underlying26 rfl (by kernel_rfl)) rfl ?_
    exact ⟨_, by first | rfl | (simp [errW_none, errW_some] <;> rfl) | (simp [*, errW_none, errW_some] <;> rfl), by first | exact Kd.R_nil _ _ _ _ _ | exact Kd.N_nil _ _ _ _ _ | exact Kd.V_nil _ _ _ _ _ | exact Kd.Q_nil _ _ _ _ _ | exact Kd.S_nil _ _ _ _ _, by repeat (first | (with_reducible first | exact HB.out | apply lA | apply lN | apply lD | refine lS ?_ GE327.out) | exact HB.out)⟩
  rw [if_neg c3] at H
  have c3b0 : decide (20 < (l0.length : Int)) = false := decide_eq_false c3
  have c3b1 : decide (20 < l0.length) = false := decide_eq_false (by omega)
  clear c3
  have HC6 := aZ H
  clear H
  go_enter Try.func17, Try.ntmps17
  go_upto_region 3 with (first | ((with_reducible refine gate_dst (N := 5) rfl ?_); refine box_event ?hg (N := 5) ?hd (cs := #[.int .i64 0, .int .i64 0]) (t := 26) ?hr ?_; (case hd => rfl); (case hg => rfl); (case hr => first | (go_simp; done) | (go_simp; rfl)); intro gb327 hg w7 hbox hb; have n0_ := aZ (lT (by repeat (first | (with_reducible first | exact HB.out | apply lA | apply lN | apply lD) | exact HB.out)) hb); have n1_ := aZ (hbox); have n2_ := aZ ((by rw [hg]; exact (lZ (by repeat (first | (with_reducible first | exact HB.out | apply lA | apply lN | apply lD) | exact HB.out))) : w.heap.size ≤ gb327)); have n3_ := aZ ((by rw [hg]; exact (lZ (by repeat (first | (with_reducible first | exact HB.out | apply lA | apply lN | apply lD) | exact HB.out))) : w.heap.size ≤ gb327)); clear HB; have HB := n0_; have BK327 := n1_; have GW327 := n2_; have GE327 := n3_; clear n0_ n1_ n2_ n3_; clear hb hbox hg))
  (try simp only [Act.put, List.setIfInBounds_toArray, List.set_cons_zero, List.set_cons_succ])
  go_cut [20] (fun v20 wc => ∃ (kq : Nat) (x20_5 : Bool), v20 = .bool x20_5 ∧ Aside0 (deltachain_Pack.j0 kq l0 a1 x20_5 = some (r1, r2, r3)) ∧ Aside0 (kq ≤ k) ∧ Aside0 (wc.heap[gb327]? = some (.cells #[.int .i64 0, .int .i64 0] 26 (0, 0))) ∧ Aside0 (Below w.heap.size w wc))
  case first =>
   have H := HC6.out
   clear HC6
   by_cases c8 : a1 < 0
   · rw [if_pos c8] at H
     have c8b0 : decide (a1 < 0) = true := decide_eq_true c8
     clear c8
     (first | rw [c8b0] | (simp only [i64_w, i32_w]; rw [c8b0]) | skip)
     have H' := aZ H
     clear H
     go_wp2
     go_meet
     case rel => exact ⟨_, (true), (by first | rfl | (simp; done) | (simp [*]; done) | (simp [i64_w]; done)), H', ⟨by first | omega | exact Nat.le_refl _⟩, ⟨by (with_reducible repeat (first | refine bN ?_ _ | refine bD ?_ | refine bA ?_ _)); exact BK327.out⟩, ⟨by repeat (first | (with_reducible first | exact HB.out | apply lA | apply lN | apply lD | refine lS ?_ GE327.out) | exact HB.out)⟩⟩
   rw [if_neg c8] at H
   have c8b0 : decide (a1 < 0) = false := decide_eq_false c8
   clear c8
   (first | rw [c8b0] | (simp only [i64_w, i32_w]; rw [c8b0]) | skip)
   have H' := aZ H
   clear H
   go_wp2
   go_meet
   case rel => exact ⟨_, (decide (a1 > 20)), (by first | rfl | (simp; done) | (simp [*]; done) | (simp [i64_w]; done)), H', ⟨by first | omega | exact Nat.le_refl _⟩, ⟨by (with_reducible repeat (first | refine bN ?_ _ | refine bD ?_ | refine bA ?_ _)); exact BK327.out⟩, ⟨by repeat (first | (with_reducible first | exact HB.out | apply lA | apply lN | apply lD | refine lS ?_ GE327.out) | exact HB.out)⟩⟩
  case rest =>
   clear HC6
   (try clear c3); (try clear c3b0); (try clear c3b1)
   obtain ⟨kq, x20_5, rfl, HA, HJ5, BK327, HB⟩ := hcut
   cases kq with
   | zero => exact absurd HA.out (by simp [deltachain_Pack.j0])
   | succ kj5 =>
    have H := HA.out
    clear HA
    simp only [deltachain_Pack.j0] at H
    by_cases c9 : x20_5 = true
    · subst c9
      have H1 : (some (([] : List (S45)), 3, (-1))) = some (r1, r2, r3) := by rw [if_pos rfl] at H; exact H
      clear H
      have H := H1
      clear H1
      simp only [Option.some.injEq, Prod.mk.injEq] at H
      obtain ⟨rfl, rfl, rfl⟩ := H
      have hcz10_0 : wc.cell? ⟨gb327, 0, none⟩ = some (.int .i64 0) := (blk_cell BK327.out 0).trans rfl
      have hcz10_1 : wc.cell? ⟨gb327, 1, none⟩ = some (.int .i64 0) := (blk_cell BK327.out 1).trans rfl
      have hfz10_0 := blk_frozen BK327.out 0
      have hfz10_1 := blk_frozen BK327.out 1
      go_wp2
      refine bodyPost_ret (results_tc rfl _ _ gb327 26 #[.int .i64 3, .int .i64 (-1)] (0, 0) _ rfl (by (with_reducible repeat (first | refine bN ?_ _ | refine bD ?_ | refine bA ?_ _)); refine blk_put (cs := #[.int .i64 3, .int .i64 0]) ?_ 1 _ rfl; (with_reducible repeat (first | refine bN ?_ _ | refine bD ?_ | refine bA ?_ _)); refine blk_put (cs := #[.int .i64 0, .int .i64 0]) ?_ 0 _ rfl; (with_reducible repeat (first | refine bN ?_ _ | refine bD ?_ | refine bA ?_ _)); exact BK327.out) Try.underlying26 rfl (by kernel_rfl)) rfl ?_
      exact ⟨_, by first | rfl | (simp [errW_none, errW_some] <;> rfl) | (simp [*, errW_none, errW_some] <;> rfl), by first | exact Kd.R_nil _ _ _ _ _ | exact Kd.N_nil _ _ _ _ _ | exact Kd.V_nil _ _ _ _ _ | exact Kd.Q_nil _ _ _ _ _ | exact Kd.S_nil _ _ _ _ _, by repeat (first | (with_reducible first | exact HB.out | apply lA | apply lN | apply lD | refine lS ?_ GE327.out) | exact HB.out)⟩
    replace c9 := Bool.eq_false_iff.mpr c9
    subst c9
    have H1 : (deltachain_Pack.l0 kj5 l0 a1 ([] : List (S45)) l0 (l0.length : Int) 0) = some (r1, r2, r3) := by rw [if_neg (show ¬ (false = true) by decide)] at H; exact H
    clear H
    have H := H1
    clear H1
    have H' := aZ H
    clear H
    go_wp2
    go_loopg [6, 24] kj5 (fun kq v6 v24 w' => ∃ (x6_2 : List (S45)) (x24_2 : Int) (x328000_2 : Int) (x328001_2 : Int), v24 = .int .i64 x24_2 ∧ Aside0 (deltachain_Pack.l0 kq l0 a1 x6_2 l0 (l0.length : Int) x24_2 = some (r1, r2, r3)) ∧ Aside0 (kq ≤ kj5) ∧ Aside0 (Kd.R k45 45 w' w.heap.size (fun _ => True) v6 x6_2) ∧ Aside0 (w'.heap[gb327]? = some (.cells #[.int .i64 x328000_2, .int .i64 x328001_2] 26 (0, 0))) ∧ Aside0 (Below w.heap.size w w'))
    case atStart => exact ⟨(([] : List (S45))), (0), (0), (0), (by first | rfl | (simp; done) | (simp [*]; done) | (simp [i64_w]; done)), H', ⟨Nat.le_refl _⟩, ⟨by first | exact Kd.R_nil _ _ _ _ _ | exact Kd.N_nil _ _ _ _ _ | exact Kd.V_nil _ _ _ _ _ | exact Kd.Q_nil _ _ _ _ _ | exact Kd.S_nil _ _ _ _ _⟩, ⟨by (with_reducible repeat (first | refine bN ?_ _ | refine bD ?_ | refine bA ?_ _)); exact BK327.out⟩, ⟨by repeat (first | (with_reducible first | exact HB.out | apply lA | apply lN | apply lD | refine lS ?_ GE327.out) | exact HB.out)⟩⟩
    case round =>
     clear H'
     (try clear c9)
     obtain ⟨x6_2, x24_2, x328000_2, x328001_2, rfl, HA, HK2, HO_6, BK327, HB⟩ := hrel
     cases gk with
     | zero => exact absurd HA.out (by simp [deltachain_Pack.l0])
     | succ k2 =>
      have H := HA.out
      clear HA
      simp only [deltachain_Pack.l0] at H
      by_cases c11 : x24_2 < (l0.length : Int)
      rotate_left
      · rw [if_neg c11] at H
        have c11b0 : decide (x24_2 < (l0.length : Int)) = false := decide_eq_false c11
        clear c11
        simp only [Option.some.injEq, Prod.mk.injEq] at H
        obtain ⟨rfl, rfl, rfl⟩ := H
        have hcz39_0 : wr.cell? ⟨gb327, 0, none⟩ = some (.int .i64 x328000_2) := (blk_cell BK327.out 0).trans rfl
        have hcz39_1 : wr.cell? ⟨gb327, 1, none⟩ = some (.int .i64 x328001_2) := (blk_cell BK327.out 1).trans rfl
        have hfz39_0 := blk_frozen BK327.out 0
        have hfz39_1 := blk_frozen BK327.out 1
        go_wp2
        refine bodyPost_ret (results_tc rfl _ _ gb327 26 #[.int .i64 0, .int .i64 0] (0, 0) _ rfl (by (with_reducible repeat (first | refine bN ?_ _ | refine bD ?_ | refine bA ?_ _)); refine blk_put (cs := #[.int .i64 0, .int .i64 x328001_2]) ?_ 1 _ rfl; (with_reducible repeat (first | refine bN ?_ _ | refine bD ?_ | refine bA ?_ _)); refine blk_put (cs := #[.int .i64 x328000_2, .int .i64 x328001_2]) ?_ 0 _ rfl; (with_reducible repeat (first | refine bN ?_ _ | refine bD ?_ | refine bA ?_ _)); exact BK327.out) Try.underlying26 rfl (by kernel_rfl)) rfl ?_
        exact ⟨_, by first | rfl | (simp [errW_none, errW_some] <;> rfl) | (simp [*, errW_none, errW_some] <;> rfl), by (with_reducible repeat (first | apply Kd.rA | apply Kd.rN | apply Kd.rD)); exact Kd.R_mono (Kd.R_far (p := ⟨gb327, 1, none⟩) (Kd.R_far (p := ⟨gb327, 0, none⟩) (Kd.R_types HO_6.out BK327.out (by decide)) (fun _ hk => hk.2) (.int .i64 0)) (fun _ hk => hk.2) (.int .i64 0)) (fun _ hk => trivial), by repeat (first | (with_reducible first | exact HB.out | apply lA | apply lN | apply lD | refine lS ?_ GE327.out) | exact HB.out)⟩

      rw [if_pos c11] at H
      have c11b0 : decide (x24_2 < (l0.length : Int)) = true := decide_eq_true c11
      clear c11
      by_cases c12 : 0 ≤ x24_2
      rotate_left
      · rw [if_neg c12] at H
        exact absurd H (by simp)
      rw [if_pos c12] at H
      have c12b0 : decide (0 ≤ x24_2) = true := decide_eq_true c12
      clear c12
      by_cases c13 : x24_2 < (l0.length : Int)
      rotate_left
      · rw [if_neg c13] at H
        exact absurd H (by simp)
      rw [if_pos c13] at H
      have c13b0 : decide (x24_2 < (l0.length : Int)) = true := decide_eq_true c13
      clear c13
      obtain ⟨y329, hy329⟩ : ∃ y_ : List (List Int), y_ = (([rd_L1 l0 x24_2] : List (List Int))) := ⟨_, rfl⟩
      replace H : ((deltachain_sized.f k2 y329).bind fun t333 => (if t333 = true then (if (wrap64 (a1 + 1)) = 0 then (none) else (if (Int.tmod x24_2 (wrap64 (a1 + 1))) = 0 then ((bytes_Clone.f (rd_L1 l0 x24_2)).bind fun t334 => (if x6_2.length < 2513169434916 then (deltachain_Pack.l0 k2 l0 a1 (x6_2 ++ [(⟨(-1), t334, ([] : List (S37))⟩ : S45)]) l0 (l0.length : Int) (wrap64 (x24_2 + 1))) else (none))) else (if 0 ≤ (wrap64 (x24_2 - 1)) then (if (wrap64 (x24_2 - 1)) < (l0.length : Int) then ((deltachain_Encode.f k2 (rd_L1 l0 (wrap64 (x24_2 - 1))) (rd_L1 l0 x24_2)).bind fun bt341 => (if x6_2.length < 2513169434916 then (deltachain_Pack.l0 k2 l0 a1 (x6_2 ++ [(⟨wrap64 (x24_2 - 1), ([] : List Int), bt341.1⟩ : S45)]) l0 (l0.length : Int) (wrap64 (x24_2 + 1))) else (none))) else (none)) else (none)))) else (some (([] : List (S45)), 10, x24_2)))) = some (r1, r2, r3) := by first | (rw [hy329]; with_reducible exact H) | (have H2_ := (Option.bind_some _ _).symm.trans H; rw [hy329]; with_reducible exact H2_) | (have H2_ := (Option.bind_some _ _).symm.trans H; with_reducible exact H2_) | with_reducible exact H | (rw [hy329]; exact H) | exact H
      have Ny329 := aZ hy329
      clear hy329
      replace H := Option.bind_eq_some_iff.mp H
      obtain ⟨t333, A140, H⟩ := H
      replace H : (if t333 = true then (if (wrap64 (a1 + 1)) = 0 then (none) else (if (Int.tmod x24_2 (wrap64 (a1 + 1))) = 0 then ((bytes_Clone.f (rd_L1 l0 x24_2)).bind fun t334 => (if x6_2.length < 2513169434916 then (deltachain_Pack.l0 k2 l0 a1 (x6_2 ++ [(⟨(-1), t334, ([] : List (S37))⟩ : S45)]) l0 (l0.length : Int) (wrap64 (x24_2 + 1))) else (none))) else (if 0 ≤ (wrap64 (x24_2 - 1)) then (if (wrap64 (x24_2 - 1)) < (l0.length : Int) then ((deltachain_Encode.f k2 (rd_L1 l0 (wrap64 (x24_2 - 1))) (rd_L1 l0 x24_2)).bind fun bt341 => (if x6_2.length < 2513169434916 then (deltachain_Pack.l0 k2 l0 a1 (x6_2 ++ [(⟨wrap64 (x24_2 - 1), ([] : List Int), bt341.1⟩ : S45)]) l0 (l0.length : Int) (wrap64 (x24_2 + 1))) else (none))) else (none)) else (none)))) else (some (([] : List (S45)), 10, x24_2))) = some (r1, r2, r3) := H
      have A14 := aZ A140
      clear A140
      by_cases c15 : t333 = true
      rotate_left
      · replace c15 := Bool.eq_false_iff.mpr c15
        subst c15
        have H1 : (some (([] : List (S45)), 10, x24_2)) = some (r1, r2, r3) := by rw [if_neg (show ¬ (false = true) by decide)] at H; exact H
        clear H
        have H := H1
        clear H1
        simp only [Option.some.injEq, Prod.mk.injEq] at H
        obtain ⟨rfl, rfl, rfl⟩ := H
        have p328 : 0 ≤ (x24_2 : Int) := of_decide_eq_true (by first | (with_reducible assumption) | assumption)
        have q328 : x24_2 < (l0.length : Int) := of_decide_eq_true (by first | (with_reducible assumption) | assumption)
        obtain ⟨ad328, A328_0, c328_0, e328, hx328_0, hl328_0, hi328_0⟩ := at_L1 HR0.out x24_2 p328 q328
        cases e328
        replace hx328_0 := (HB.out.cell (World.block_lt_of_cell? w _ hx328_0)).trans hx328_0
        have HR328_0 := aZ hi328_0
        have HC328_0 := aZ hl328_0
        clear hi328_0 hl328_0
        replace p328 := eq_true p328
        replace q328 := eq_true q328
        go_wp2_with (first | ((with_reducible refine gate_dst (N := 30) rfl ?_); refine Kd.lit_read (Kd.slice 5 (Kd.int .u8)) 22 ?hg (N := 30) ?hd (ys := y329) (xs := ([rd_L1 l0 x24_2] : List (List Int))) (inner := [.slice A328_0 (rd_L1 l0 x24_2).length c328_0]) Ny329.out ?hr ?hp (by simp) ?_; (case hd => rfl); (case hg => rfl); (case hr => first | (go_simp; done) | (go_simp; rfl)); (case hp => exact (Reps.one (show Kd.K (Kd.slice 5 (Kd.int .u8)) _ (rd_L1 l0 x24_2) [.slice A328_0 (rd_L1 l0 x24_2).length c328_0] from ⟨_, _, rfl, by exact HC328_0.out, by repeat (first | exact (Kd.C_below HR328_0.out HB.out) | (with_reducible refine Kd.C_alloc ?_ _) | (with_reducible refine Kd.C_drewN ?_ _) | (with_reducible refine Kd.C_drew ?_))⟩) (Reps.none _ _))); intro A332 w37 hnew_ hb; have n0_ := aZ (Kd.R_below (by (with_reducible repeat (first | apply Kd.rA | apply Kd.rN | apply Kd.rD)); exact HO_6.out) hb); have n1_ := aZ (blk_below (g := gb327) (o := .cells #[.int .i64 x328000_2, .int .i64 x328001_2] 26 (0, 0)) (by (with_reducible repeat (first | refine bN ?_ _ | refine bD ?_ | refine bA ?_ _)); exact BK327.out) hb); have n2_ := aZ (lT (by repeat (first | (with_reducible first | exact HB.out | apply lA | apply lN | apply lD | refine lS ?_ GE327.out) | exact HB.out)) hb); have n3_ := aZ (hnew_); have n4_ := aZ (Nat.le_refl y329.length); clear HO_6; clear BK327; clear HB; have HO_6 := n0_; have BK327 := n1_; have HB := n2_; have HR332 := n3_; have HC332 := n4_; clear n0_ n1_ n2_ n3_ n4_; clear hb hnew_) | ((with_reducible refine gate_callee (f := 24) rfl ?_); refine goesL_ (some 31) rfl rfl Try.func24 (by kernel_rfl) rfl #[.slice A332 y329.length y329.length] rfl (by (try simp only [List.map_toArray, List.map_cons, List.map_nil]); first | done | rfl | (simp only [List.length_drop, List.length_take]; rfl)) ?_; (with_reducible refine (deltachain_sized.calls k2 _ _ y329 false _ ?side1 ?side2 A14.out).mono ?_); (case side1 => repeat (first | exact (by repeat (first | (with_reducible exact HR332.out) | (with_reducible refine Kd.C_alloc ?_ _) | (with_reducible refine Kd.C_drewN ?_ _) | (with_reducible refine Kd.C_drew ?_) | exact HR332.out)) | (with_reducible refine Kd.C_alloc ?_ _) | (with_reducible refine Kd.C_drewN ?_ _) | (with_reducible refine Kd.C_drew ?_))); (case side2 => exact HC332.out); rintro e w' ⟨rfl, ⟨nd, rfl⟩⟩; refine ⟨_, rfl, ?_⟩; (try (rw [drewN_self w37]; generalize hq_ : World.drewN w37 _ = w37; have n0_ : Aside0 (Kd.R k45 45 w37 w.heap.size (fun _ => True) u6 x6_2) := ⟨by rw [← hq_]; exact (by (with_reducible repeat (first | apply Kd.rA | apply Kd.rN | apply Kd.rD)); exact HO_6.out)⟩; have n1_ : Aside0 (w37.heap[gb327]? = some (.cells #[.int .i64 x328000_2, .int .i64 x328001_2] 26 (0, 0))) := ⟨by rw [← hq_]; exact (by (with_reducible repeat (first | refine bN ?_ _ | refine bD ?_ | refine bA ?_ _)); exact BK327.out)⟩; have n2_ : Aside0 (Below w.heap.size w w37) := ⟨by rw [← hq_]; exact (by repeat (first | (with_reducible first | exact HB.out | apply lA | apply lN | apply lD | refine lS ?_ GE327.out) | exact HB.out))⟩; have n3_ : Aside0 (Kd.C (Kd.slice 5 (Kd.int .u8)) w37 A332 y329.length y329) := ⟨by rw [← hq_]; exact (by repeat (first | (with_reducible exact HR332.out) | (with_reducible refine Kd.C_alloc ?_ _) | (with_reducible refine Kd.C_drewN ?_ _) | (with_reducible refine Kd.C_drew ?_) | exact HR332.out))⟩; clear HO_6 BK327 HB HR332 hq_; have HO_6 := n0_; have BK327 := n1_; have HB := n2_; have HR332 := n3_; clear n0_ n1_ n2_ n3_)); have hcz38_0 : w37.cell? ⟨gb327, 0, none⟩ = some (.int .i64 x328000_2) := (blk_cell BK327.out 0).trans rfl; have hcz38_1 : w37.cell? ⟨gb327, 1, none⟩ = some (.int .i64 x328001_2) := (blk_cell BK327.out 1).trans rfl; have hfz38_0 := blk_frozen BK327.out 0; have hfz38_1 := blk_frozen BK327.out 1))
        refine bodyPost_ret (results_tc rfl _ _ gb327 26 #[.int .i64 10, .int .i64 x24_2] (0, 0) _ rfl (by (with_reducible repeat (first | refine bN ?_ _ | refine bD ?_ | refine bA ?_ _)); refine blk_put (cs := #[.int .i64 10, .int .i64 x328001_2]) ?_ 1 _ rfl; (with_reducible repeat (first | refine bN ?_ _ | refine bD ?_ | refine bA ?_ _)); refine blk_put (cs := #[.int .i64 x328000_2, .int .i64 x328001_2]) ?_ 0 _ rfl; (with_reducible repeat (first | refine bN ?_ _ | refine bD ?_ | refine bA ?_ _)); exact BK327.out) Try.underlying26 rfl (by kernel_rfl)) rfl ?_
        exact ⟨_, by first | rfl | (simp [errW_none, errW_some] <;> rfl) | (simp [*, errW_none, errW_some] <;> rfl), by first | exact Kd.R_nil _ _ _ _ _ | exact Kd.N_nil _ _ _ _ _ | exact Kd.V_nil _ _ _ _ _ | exact Kd.Q_nil _ _ _ _ _ | exact Kd.S_nil _ _ _ _ _, by repeat (first | (with_reducible first | exact HB.out | apply lA | apply lN | apply lD | refine lS ?_ GE327.out) | exact HB.out)⟩
      subst c15
      have H1 : (if (wrap64 (a1 + 1)) = 0 then (none) else (if (Int.tmod x24_2 (wrap64 (a1 + 1))) = 0 then ((bytes_Clone.f (rd_L1 l0 x24_2)).bind fun t334 => (if x6_2.length < 2513169434916 then (deltachain_Pack.l0 k2 l0 a1 (x6_2 ++ [(⟨(-1), t334, ([] : List (S37))⟩ : S45)]) l0 (l0.length : Int) (wrap64 (x24_2 + 1))) else (none))) else (if 0 ≤ (wrap64 (x24_2 - 1)) then (if (wrap64 (x24_2 - 1)) < (l0.length : Int) then ((deltachain_Encode.f k2 (rd_L1 l0 (wrap64 (x24_2 - 1))) (rd_L1 l0 x24_2)).bind fun bt341 => (if x6_2.length < 2513169434916 then (deltachain_Pack.l0 k2 l0 a1 (x6_2 ++ [(⟨wrap64 (x24_2 - 1), ([] : List Int), bt341.1⟩ : S45)]) l0 (l0.length : Int) (wrap64 (x24_2 + 1))) else (none))) else (none)) else (none)))) = some (r1, r2, r3) := by rw [if_pos rfl] at H; exact H
      clear H
      have H := H1
      clear H1
      by_cases c16 : (wrap64 (a1 + 1)) = 0
      · rw [if_pos c16] at H
        exact absurd H (by simp)
      rw [if_neg c16] at H
      have c16b0 : ((wrap64 (a1 + 1)) == 0) = false := beq_eq_false_iff_ne.mpr c16
      have c16b1 : ((wrap64 (a1 + 1)) != 0) = true := bne_iff_ne.mpr c16
      by_cases c17 : (Int.tmod x24_2 (wrap64 (a1 + 1))) = 0
      · rw [if_pos c17] at H
        have c17b0 : ((Int.tmod x24_2 (wrap64 (a1 + 1))) == 0) = true := beq_iff_eq.mpr c17
        have c17b1 : ((Int.tmod x24_2 (wrap64 (a1 + 1))) != 0) = false := bne_eq_false_iff_eq.mpr c17
        clear c17
        replace H := Option.bind_eq_some_iff.mp H
        obtain ⟨t334, A180, H⟩ := H
        replace H : (if x6_2.length < 2513169434916 then (deltachain_Pack.l0 k2 l0 a1 (x6_2 ++ [(⟨(-1), t334, ([] : List (S37))⟩ : S45)]) l0 (l0.length : Int) (wrap64 (x24_2 + 1))) else (none)) = some (r1, r2, r3) := H
        have A18 := aZ A180
        clear A180
        by_cases c19 : x6_2.length < 2513169434916
        rotate_left
        · rw [if_neg c19] at H
          exact absurd H (by simp)
        rw [if_pos c19] at H
        have LMc19 := aZ c19
        clear c19
        obtain ⟨y337, hy337⟩ : ∃ y_ : List (S45), y_ = (x6_2 ++ [(⟨(-1), t334, ([] : List (S37))⟩ : S45)]) := ⟨_, rfl⟩
        replace H : (deltachain_Pack.l0 k2 l0 a1 y337 l0 (l0.length : Int) (wrap64 (x24_2 + 1))) = some (r1, r2, r3) := by first | (rw [hy337]; with_reducible exact H) | (have H2_ := (Option.bind_some _ _).symm.trans H; rw [hy337]; with_reducible exact H2_) | (have H2_ := (Option.bind_some _ _).symm.trans H; with_reducible exact H2_) | with_reducible exact H | (rw [hy337]; exact H) | exact H
        have Ny337 := aZ hy337
        clear hy337
        have H' := aZ H
        clear H
        have p328 : 0 ≤ (x24_2 : Int) := of_decide_eq_true (by first | (with_reducible assumption) | assumption)
        have q328 : x24_2 < (l0.length : Int) := of_decide_eq_true (by first | (with_reducible assumption) | assumption)
        obtain ⟨ad328, A328_0, c328_0, e328, hx328_0, hl328_0, hi328_0⟩ := at_L1 HR0.out x24_2 p328 q328
        cases e328
        replace hx328_0 := (HB.out.cell (World.block_lt_of_cell? w _ hx328_0)).trans hx328_0
        have HR328_0 := aZ hi328_0
        have HC328_0 := aZ hl328_0
        clear hi328_0 hl328_0
        replace p328 := eq_true p328
        replace q328 := eq_true q328
        go_wp2_with (first | ((with_reducible refine gate_dst (N := 30) rfl ?_); refine Kd.lit_read (Kd.slice 5 (Kd.int .u8)) 22 ?hg (N := 30) ?hd (ys := y329) (xs := ([rd_L1 l0 x24_2] : List (List Int))) (inner := [.slice A328_0 (rd_L1 l0 x24_2).length c328_0]) Ny329.out ?hr ?hp (by simp) ?_; (case hd => rfl); (case hg => rfl); (case hr => first | (go_simp; done) | (go_simp; rfl)); (case hp => exact (Reps.one (show Kd.K (Kd.slice 5 (Kd.int .u8)) _ (rd_L1 l0 x24_2) [.slice A328_0 (rd_L1 l0 x24_2).length c328_0] from ⟨_, _, rfl, by exact HC328_0.out, by repeat (first | exact (Kd.C_below HR328_0.out HB.out) | (with_reducible refine Kd.C_alloc ?_ _) | (with_reducible refine Kd.C_drewN ?_ _) | (with_reducible refine Kd.C_drew ?_))⟩) (Reps.none _ _))); intro A332 w20 hnew_ hb; have n0_ := aZ (Kd.R_below (by (with_reducible repeat (first | apply Kd.rA | apply Kd.rN | apply Kd.rD)); exact HO_6.out) hb); have n1_ := aZ (blk_below (g := gb327) (o := .cells #[.int .i64 x328000_2, .int .i64 x328001_2] 26 (0, 0)) (by (with_reducible repeat (first | refine bN ?_ _ | refine bD ?_ | refine bA ?_ _)); exact BK327.out) hb); have n2_ := aZ (lT (by repeat (first | (with_reducible first | exact HB.out | apply lA | apply lN | apply lD | refine lS ?_ GE327.out) | exact HB.out)) hb); have n3_ := aZ (hnew_); have n4_ := aZ (Nat.le_refl y329.length); clear HO_6; clear BK327; clear HB; have HO_6 := n0_; have BK327 := n1_; have HB := n2_; have HR332 := n3_; have HC332 := n4_; clear n0_ n1_ n2_ n3_ n4_; clear hb hnew_) | ((with_reducible refine gate_callee (f := 24) rfl ?_); refine goesL_ (some 31) rfl rfl Try.func24 (by kernel_rfl) rfl #[.slice A332 y329.length y329.length] rfl (by (try simp only [List.map_toArray, List.map_cons, List.map_nil]); first | done | rfl | (simp only [List.length_drop, List.length_take]; rfl)) ?_; (with_reducible refine (deltachain_sized.calls k2 _ _ y329 true _ ?side1 ?side2 A14.out).mono ?_); (case side1 => repeat (first | exact (by repeat (first | (with_reducible exact HR332.out) | (with_reducible refine Kd.C_alloc ?_ _) | (with_reducible refine Kd.C_drewN ?_ _) | (with_reducible refine Kd.C_drew ?_) | exact HR332.out)) | (with_reducible refine Kd.C_alloc ?_ _) | (with_reducible refine Kd.C_drewN ?_ _) | (with_reducible refine Kd.C_drew ?_))); (case side2 => exact HC332.out); rintro e w' ⟨rfl, ⟨nd, rfl⟩⟩; refine ⟨_, rfl, ?_⟩) | ((with_reducible refine gate_callee (f := 26) rfl ?_); refine goesL_ (some 42) rfl rfl Try.func26 (by kernel_rfl) rfl #[.slice A328_0 (rd_L1 l0 x24_2).length c328_0] rfl (by (try simp only [List.map_toArray, List.map_cons, List.map_nil]); first | done | rfl | (simp only [List.length_drop, List.length_take]; rfl)) ?_; (with_reducible refine (bytes_Clone.calls _ _ (rd_L1 l0 x24_2) t334 _ ?side1 ?side2 A18.out).mono ?_); (case side1 => repeat (first | exact (Kd.C_below HR328_0.out (by repeat (first | (with_reducible first | exact HB.out | apply lA | apply lN | apply lD | refine lS ?_ GE327.out) | exact HB.out))) | (with_reducible refine Kd.C_alloc ?_ _) | (with_reducible refine Kd.C_drewN ?_ _) | (with_reducible refine Kd.C_drew ?_))); (case side2 => exact HC328_0.out); rintro e w21 ⟨v335, rfl, ho0, hb⟩; refine ⟨_, rfl, ?_⟩; have n0_ := aZ (Kd.R_elder' (by (with_reducible repeat (first | apply Kd.rA | apply Kd.rN | apply Kd.rD)); exact HO_6.out) (Kd.R_base ho0) hb); have n1_ := aZ (Kd.R_lower ho0 (lZ (by repeat (first | (with_reducible first | exact HB.out | apply lA | apply lN | apply lD | refine lS ?_ GE327.out) | exact HB.out)))); have n2_ := aZ (blk_below (g := gb327) (o := .cells #[.int .i64 x328000_2, .int .i64 x328001_2] 26 (0, 0)) (by (with_reducible repeat (first | refine bN ?_ _ | refine bD ?_ | refine bA ?_ _)); exact BK327.out) hb); have n3_ := aZ (lT (by repeat (first | (with_reducible first | exact HB.out | apply lA | apply lN | apply lD | refine lS ?_ GE327.out) | exact HB.out)) hb); clear HO_6; clear BK327; clear HB; have HO_6 := n0_; have HO336 := n1_; have BK327 := n2_; have HB := n3_; clear n0_ n1_ n2_ n3_; (try clear hb); (try clear hb2); (try clear hk); (try clear hi); (try clear ho0); obtain ⟨Ao22, co22, eo22⟩ := Kd.R_slice HO336.out; subst eo22) | ((with_reducible refine gate_builtin (b := .append) (xs := #[.tmp 40, .tmp 44]) rfl ?_); at_builtin; refine Kd.R_append k45 (w0 := w) w.heap.size rfl (.tmp 40) (.tmp 44) 40 45 (.agg #[(.int .i64 0), (.slice none 0 0), (.slice none 0 0)]) 56 rfl Try.underlying40 info45 rfl (by decide) (by omega) u6 x6_2 (⟨(-1), t334, ([] : List (S37))⟩ : S45) [.int .i64 (-1), .slice Ao22 t334.length co22, .slice none 0 0] (fun _ => True) (fun k_ => ((fun _ => True)) k_ ∧ some k_ ≠ (u6 : Value).ownBlock) rfl rfl ?aP (fun _ hk => hk) ?aF ?aO ?aB ?aS ?aL ?_; (case aP => exact k45_mkM _ _ _ (⟨(-1), t334, ([] : List (S37))⟩ : S45) (Kd.R_mono (Kd.R_apart' (HO336.out) (Kd.R_typed HO_6.out) (by decide)) (fun k_ hk => ⟨trivial, hk.2⟩)) (Kd.R_nil _ _ _ _ _)); (case aB => exact (by repeat (first | (with_reducible first | exact HB.out | apply lA | apply lN | apply lD | refine lS ?_ GE327.out) | exact HB.out))); (case aF => exact (fun _ _ => trivial)); (case aO => exact (by (with_reducible repeat (first | apply Kd.rA | apply Kd.rN | apply Kd.rD)); exact Kd.R_mono HO_6.out (fun _ hk => trivial))); (case aS => exact (lZ (by repeat (first | (with_reducible first | exact HB.out | apply lA | apply lN | apply lD | refine lS ?_ GE327.out) | exact HB.out)))); (case aL => have := LMc19.out; omega); intro v338 w23 ho hb hg hat; rw [← Ny337.out] at ho; have n0_ := aZ (blk_grown (g := gb327) (o := .cells #[.int .i64 x328000_2, .int .i64 x328001_2] 26 (0, 0)) (by (with_reducible repeat (first | refine bN ?_ _ | refine bD ?_ | refine bA ?_ _)); exact BK327.out) hg (Kd.R_ne HO_6.out BK327.out (by decide))); have n1_ := aZ (hb); have n2_ := aZ (ho); clear BK327; clear HB; clear HO_6; clear HO336; have BK327 := n0_; have HB := n1_; have HO339 := n2_; clear n0_ n1_ n2_; clear ho hb hg hat))
        go_roundg k2
        case measure => have := HJ5.out; have := HK2.out; omega
        case rel => exact ⟨(y337), (wrap64 (x24_2 + 1)), (x328000_2), (x328001_2), (by first | rfl | (simp; done) | (simp [*]; done) | (simp [i64_w]; done)), H', ⟨by have := HJ5.out; have := HK2.out; omega⟩, ⟨by (with_reducible repeat (first | apply Kd.rA | apply Kd.rN | apply Kd.rD)); exact HO339.out⟩, ⟨by (with_reducible repeat (first | refine bN ?_ _ | refine bD ?_ | refine bA ?_ _)); exact BK327.out⟩, ⟨by repeat (first | (with_reducible first | exact HB.out | apply lA | apply lN | apply lD | refine lS ?_ GE327.out) | exact HB.out)⟩⟩
      rw [if_neg c17] at H
      have c17b0 : ((Int.tmod x24_2 (wrap64 (a1 + 1))) == 0) = false := beq_eq_false_iff_ne.mpr c17
      have c17b1 : ((Int.tmod x24_2 (wrap64 (a1 + 1))) != 0) = true := bne_iff_ne.mpr c17
      obtain ⟨ji24, hji24⟩ : ∃ j_ : Int, (wrap64 (x24_2 - 1)) = j_ := ⟨_, rfl⟩
      replace H : (if 0 ≤ (ji24) then (if (ji24) < (l0.length : Int) then ((deltachain_Encode.f k2 (rd_L1 l0 (ji24)) (rd_L1 l0 x24_2)).bind fun bt341 => (if x6_2.length < 2513169434916 then (deltachain_Pack.l0 k2 l0 a1 (x6_2 ++ [(⟨ji24, ([] : List Int), bt341.1⟩ : S45)]) l0 (l0.length : Int) (wrap64 (x24_2 + 1))) else (none))) else (none)) else (none)) = some (r1, r2, r3) := by first | (rw [hji24] at H; exact H) | (simp only [hji24] at H ⊢; exact H)
      (try rw [hji24] at A14)
      have hji24w : (IntKind.i64.wrap (x24_2 - 1)) = ji24 := (i64_w _).trans hji24
      by_cases c25 : 0 ≤ (ji24)
      rotate_left
      · rw [if_neg c25] at H
        exact absurd H (by simp)
      rw [if_pos c25] at H
      have c25b0 : decide (0 ≤ (ji24)) = true := decide_eq_true c25
      clear c25
      by_cases c26 : (ji24) < (l0.length : Int)
      rotate_left
      · rw [if_neg c26] at H
        exact absurd H (by simp)
      rw [if_pos c26] at H
      have c26b0 : decide ((ji24) < (l0.length : Int)) = true := decide_eq_true c26
      clear c26
      replace H := Option.bind_eq_some_iff.mp H
      obtain ⟨⟨t341, t344, t345⟩, A270, H⟩ := H
      replace H : (if x6_2.length < 2513169434916 then (deltachain_Pack.l0 k2 l0 a1 (x6_2 ++ [(⟨ji24, ([] : List Int), t341⟩ : S45)]) l0 (l0.length : Int) (wrap64 (x24_2 + 1))) else (none)) = some (r1, r2, r3) := H
      have A27 := aZ A270
      clear A270
      by_cases c28 : x6_2.length < 2513169434916
      rotate_left
      · rw [if_neg c28] at H
        exact absurd H (by simp)
      rw [if_pos c28] at H
      have LMc28 := aZ c28
      clear c28
      obtain ⟨y347, hy347⟩ : ∃ y_ : List (S45), y_ = (x6_2 ++ [(⟨ji24, ([] : List Int), t341⟩ : S45)]) := ⟨_, rfl⟩
      replace H : (deltachain_Pack.l0 k2 l0 a1 y347 l0 (l0.length : Int) (wrap64 (x24_2 + 1))) = some (r1, r2, r3) := by first | (rw [hy347]; with_reducible exact H) | (have H2_ := (Option.bind_some _ _).symm.trans H; rw [hy347]; with_reducible exact H2_) | (have H2_ := (Option.bind_some _ _).symm.trans H; with_reducible exact H2_) | with_reducible exact H | (rw [hy347]; exact H) | exact H
      have Ny347 := aZ hy347
      clear hy347
      have H' := aZ H
      clear H
      have p328 : 0 ≤ (x24_2 : Int) := of_decide_eq_true (by first | (with_reducible assumption) | assumption)
      have q328 : x24_2 < (l0.length : Int) := of_decide_eq_true (by first | (with_reducible assumption) | assumption)
      obtain ⟨ad328, A328_0, c328_0, e328, hx328_0, hl328_0, hi328_0⟩ := at_L1 HR0.out x24_2 p328 q328
      cases e328
      replace hx328_0 := (HB.out.cell (World.block_lt_of_cell? w _ hx328_0)).trans hx328_0
      have HR328_0 := aZ hi328_0
      have HC328_0 := aZ hl328_0
      clear hi328_0 hl328_0
      replace p328 := eq_true p328
      replace q328 := eq_true q328
      go_wp2_with (first | ((with_reducible refine gate_dst (N := 30) rfl ?_); refine Kd.lit_read (Kd.slice 5 (Kd.int .u8)) 22 ?hg (N := 30) ?hd (ys := y329) (xs := ([rd_L1 l0 x24_2] : List (List Int))) (inner := [.slice A328_0 (rd_L1 l0 x24_2).length c328_0]) Ny329.out ?hr ?hp (by simp) ?_; (case hd => rfl); (case hg => rfl); (case hr => first | (go_simp; done) | (go_simp; rfl)); (case hp => exact (Reps.one (show Kd.K (Kd.slice 5 (Kd.int .u8)) _ (rd_L1 l0 x24_2) [.slice A328_0 (rd_L1 l0 x24_2).length c328_0] from ⟨_, _, rfl, by exact HC328_0.out, by repeat (first | exact (Kd.C_below HR328_0.out HB.out) | (with_reducible refine Kd.C_alloc ?_ _) | (with_reducible refine Kd.C_drewN ?_ _) | (with_reducible refine Kd.C_drew ?_))⟩) (Reps.none _ _))); intro A332 w29 hnew_ hb; have n0_ := aZ (Kd.R_below (by (with_reducible repeat (first | apply Kd.rA | apply Kd.rN | apply Kd.rD)); exact HO_6.out) hb); have n1_ := aZ (blk_below (g := gb327) (o := .cells #[.int .i64 x328000_2, .int .i64 x328001_2] 26 (0, 0)) (by (with_reducible repeat (first | refine bN ?_ _ | refine bD ?_ | refine bA ?_ _)); exact BK327.out) hb); have n2_ := aZ (lT (by repeat (first | (with_reducible first | exact HB.out | apply lA | apply lN | apply lD | refine lS ?_ GE327.out) | exact HB.out)) hb); have n3_ := aZ (hnew_); have n4_ := aZ (Nat.le_refl y329.length); clear HO_6; clear BK327; clear HB; have HO_6 := n0_; have BK327 := n1_; have HB := n2_; have HR332 := n3_; have HC332 := n4_; clear n0_ n1_ n2_ n3_ n4_; clear hb hnew_) | ((with_reducible refine gate_callee (f := 24) rfl ?_); refine goesL_ (some 31) rfl rfl Try.func24 (by kernel_rfl) rfl #[.slice A332 y329.length y329.length] rfl (by (try simp only [List.map_toArray, List.map_cons, List.map_nil]); first | done | rfl | (simp only [List.length_drop, List.length_take]; rfl)) ?_; (with_reducible refine (deltachain_sized.calls k2 _ _ y329 true _ ?side1 ?side2 A14.out).mono ?_); (case side1 => repeat (first | exact (by repeat (first | (with_reducible exact HR332.out) | (with_reducible refine Kd.C_alloc ?_ _) | (with_reducible refine Kd.C_drewN ?_ _) | (with_reducible refine Kd.C_drew ?_) | exact HR332.out)) | (with_reducible refine Kd.C_alloc ?_ _) | (with_reducible refine Kd.C_drewN ?_ _) | (with_reducible refine Kd.C_drew ?_))); (case side2 => exact HC332.out); rintro e w' ⟨rfl, ⟨nd, rfl⟩⟩; refine ⟨_, rfl, ?_⟩; (try (rw [drewN_self w29]; generalize hq_ : World.drewN w29 _ = w29; have n0_ : Aside0 (Kd.R k45 45 w29 w.heap.size (fun _ => True) u6 x6_2) := ⟨by rw [← hq_]; exact (by (with_reducible repeat (first | apply Kd.rA | apply Kd.rN | apply Kd.rD)); exact HO_6.out)⟩; have n1_ : Aside0 (w29.heap[gb327]? = some (.cells #[.int .i64 x328000_2, .int .i64 x328001_2] 26 (0, 0))) := ⟨by rw [← hq_]; exact (by (with_reducible repeat (first | refine bN ?_ _ | refine bD ?_ | refine bA ?_ _)); exact BK327.out)⟩; have n2_ : Aside0 (Below w.heap.size w w29) := ⟨by rw [← hq_]; exact (by repeat (first | (with_reducible first | exact HB.out | apply lA | apply lN | apply lD | refine lS ?_ GE327.out) | exact HB.out))⟩; have n3_ : Aside0 (Kd.C (Kd.slice 5 (Kd.int .u8)) w29 A332 y329.length y329) := ⟨by rw [← hq_]; exact (by repeat (first | (with_reducible exact HR332.out) | (with_reducible refine Kd.C_alloc ?_ _) | (with_reducible refine Kd.C_drewN ?_ _) | (with_reducible refine Kd.C_drew ?_) | exact HR332.out))⟩; clear HO_6 BK327 HB HR332 hq_; have HO_6 := n0_; have BK327 := n1_; have HB := n2_; have HR332 := n3_; clear n0_ n1_ n2_ n3_)); have p340 : 0 ≤ ((ji24) : Int) := of_decide_eq_true (by first | (with_reducible assumption) | assumption); have q340 : (ji24) < (l0.length : Int) := of_decide_eq_true (by first | (with_reducible assumption) | assumption); obtain ⟨ad340, A340_0, c340_0, e340, hx340_0, hl340_0, hi340_0⟩ := at_L1 HR0.out (ji24) p340 q340; obtain rfl : ad328 = ad340 := (by injection e340); replace hx340_0 := (HB.out.cell (World.block_lt_of_cell? w _ hx340_0)).trans hx340_0; have HR340_0 := aZ hi340_0; have HC340_0 := aZ hl340_0; clear hi340_0 hl340_0; replace p340 := eq_true p340; replace q340 := eq_true q340) | ((with_reducible refine gate_callee (f := 11) rfl ?_); refine goesL_ (some 53) rfl rfl Try.func11 (by kernel_rfl) rfl #[.slice A340_0 (rd_L1 l0 (ji24)).length c340_0, .slice A328_0 (rd_L1 l0 x24_2).length c328_0] rfl (by (try simp only [List.map_toArray, List.map_cons, List.map_nil]); first | done | (simp only [hji24]; rfl) | rfl | (simp only [List.length_drop, List.length_take]; rfl)) ?_; (with_reducible refine (deltachain_Encode.calls k2 _ _ (rd_L1 l0 (ji24)) _ _ (rd_L1 l0 x24_2) t341 t344 t345 _ ?side1 ?side2 ?side3 ?side4 A27.out).mono ?_); (case side1 => repeat (first | exact (Kd.C_below HR340_0.out HB.out) | (with_reducible refine Kd.C_alloc ?_ _) | (with_reducible refine Kd.C_drewN ?_ _) | (with_reducible refine Kd.C_drew ?_))); (case side2 => exact HC340_0.out); (case side3 => repeat (first | exact (Kd.C_below HR328_0.out HB.out) | (with_reducible refine Kd.C_alloc ?_ _) | (with_reducible refine Kd.C_drewN ?_ _) | (with_reducible refine Kd.C_drew ?_))); (case side4 => exact HC328_0.out); rintro e w30 ⟨v342, rfl, ho0, hb⟩; refine ⟨_, rfl, ?_⟩; have n0_ := aZ (Kd.R_elder' (by (with_reducible repeat (first | apply Kd.rA | apply Kd.rN | apply Kd.rD)); exact HO_6.out) (Kd.S_base ho0) hb); have n1_ := aZ (Kd.S_lower ho0 (lZ (by repeat (first | (with_reducible first | exact HB.out | apply lA | apply lN | apply lD | refine lS ?_ GE327.out) | exact HB.out)))); have n2_ := aZ (blk_below (g := gb327) (o := .cells #[.int .i64 x328000_2, .int .i64 x328001_2] 26 (0, 0)) (by (with_reducible repeat (first | refine bN ?_ _ | refine bD ?_ | refine bA ?_ _)); exact BK327.out) hb); have n3_ := aZ (lT (by repeat (first | (with_reducible first | exact HB.out | apply lA | apply lN | apply lD | refine lS ?_ GE327.out) | exact HB.out)) hb); clear HO_6; clear BK327; clear HB; have HO_6 := n0_; have HO343 := n1_; have BK327 := n2_; have HB := n3_; clear n0_ n1_ n2_ n3_; (try clear hb); (try clear hb2); (try clear hk); (try clear hi); (try clear ho0)) | ((with_reducible refine gate_dst (N := 10) rfl ?_); refine box_event ?hg (N := 10) ?hd (cs := #[.int .i64 0, .int .i64 0]) (t := 26) ?hr ?_; (case hd => rfl); (case hg => rfl); (case hr => first | (go_simp; done) | (go_simp; rfl)); intro gb346 hg w31 hbox hb; have n0_ := aZ (Kd.R_below (by (with_reducible repeat (first | apply Kd.rA | apply Kd.rN | apply Kd.rD)); exact HO_6.out) hb); have n1_ := aZ (Kd.S_below (by (with_reducible repeat (first | apply Kd.S_alloc | apply Kd.S_drewN | apply Kd.S_drew)); exact HO343.out) hb); have n2_ := aZ (blk_below (g := gb327) (o := .cells #[.int .i64 x328000_2, .int .i64 x328001_2] 26 (0, 0)) (by (with_reducible repeat (first | refine bN ?_ _ | refine bD ?_ | refine bA ?_ _)); exact BK327.out) hb); have n3_ := aZ (lT (by repeat (first | (with_reducible first | exact HB.out | apply lA | apply lN | apply lD | refine lS ?_ GE327.out) | exact HB.out)) hb); have n4_ := aZ (hbox); have n5_ := aZ ((by rw [hg]; exact (lZ (by repeat (first | (with_reducible first | exact HB.out | apply lA | apply lN | apply lD | refine lS ?_ GE327.out) | exact HB.out))) : w.heap.size ≤ gb346)); have n6_ := aZ ((by rw [hg]; exact (lZ (by repeat (first | (with_reducible first | exact HB.out | apply lA | apply lN | apply lD | refine lS ?_ GE327.out) | exact HB.out))) : w.heap.size ≤ gb346)); have n7_ := aZ ((by rw [hg]; exact Nat.ne_of_lt (blk_lt (g := gb327) (o := .cells #[.int .i64 x328000_2, .int .i64 x328001_2] 26 (0, 0)) (by (with_reducible repeat (first | refine bN ?_ _ | refine bD ?_ | refine bA ?_ _)); exact BK327.out)) : gb327 ≠ gb346)); have n8_ := aZ ((by rw [hg]; exact Nat.ne_of_gt (blk_lt (g := gb327) (o := .cells #[.int .i64 x328000_2, .int .i64 x328001_2] 26 (0, 0)) (by (with_reducible repeat (first | refine bN ?_ _ | refine bD ?_ | refine bA ?_ _)); exact BK327.out)) : gb346 ≠ gb327)); clear HO_6; clear HO343; clear BK327; clear HB; have HO_6 := n0_; have HO343 := n1_; have BK327 := n2_; have HB := n3_; have BK346 := n4_; have GW346 := n5_; have GE346 := n6_; have NB327_346 := n7_; have NB346_327 := n8_; clear n0_ n1_ n2_ n3_ n4_ n5_ n6_ n7_ n8_; clear hb hbox hg; have hnb32 := NB346_327.out; have hnc32 := NB327_346.out; have hcz33_0 : w31.cell? ⟨gb346, 0, none⟩ = some (.int .i64 0) := (blk_cell BK346.out 0).trans rfl; have hcz33_1 : w31.cell? ⟨gb346, 1, none⟩ = some (.int .i64 0) := (blk_cell BK346.out 1).trans rfl; have hfz33_0 := blk_frozen BK346.out 0; have hfz33_1 := blk_frozen BK346.out 1) | ((with_reducible refine gate_store (t := 26) (p := 10) rfl ?_); refine store_event (t := 26) (p := 10) (v := ?vo_w34) (w1 := ((w31.setCell ⟨gb346, 0, none⟩ (.int .i64 t344)).setCell ⟨gb346, 1, none⟩ (.int .i64 t345))) ?hg ?ho ?hn ?hr ?_; (case ho => rfl); (case hg => rfl); (case hn => rfl); (case hr => first | (go_simp; done) | (go_simp; rfl)); intro w34 hw; have n0_ : Aside0 (Kd.R k45 45 w34 w.heap.size (fun k_ => some k_ ≠ (v342 : Value).ownBlock) u6 x6_2) := ⟨(by rw [hw]; exact (by (with_reducible repeat (first | apply Kd.rA | apply Kd.rN | apply Kd.rD)); exact Kd.R_mono (Kd.R_far (p := ⟨gb346, 1, none⟩) (Kd.R_far (p := ⟨gb346, 0, none⟩) (Kd.R_types HO_6.out BK346.out (by decide)) (fun _ hk => hk.2) (.int .i64 t344)) (fun _ hk => hk.2) (.int .i64 t345)) (fun _ hk => hk.1.2)))⟩; have n1_ : Aside0 (Kd.S k37 37 w34 w.heap.size (fun _ => True) v342 t341) := ⟨(by rw [hw]; exact (by (with_reducible repeat (first | apply Kd.S_alloc | apply Kd.S_drewN | apply Kd.S_drew)); exact Kd.S_mono (Kd.S_far (p := ⟨gb346, 1, none⟩) (Kd.S_far (p := ⟨gb346, 0, none⟩) (Kd.S_types HO343.out BK346.out (by decide)) (fun _ hk => hk.2) (.int .i64 t344)) (fun _ hk => hk.2) (.int .i64 t345)) (fun _ hk => trivial)))⟩; have n2_ : Aside0 (w34.heap[gb327]? = some (.cells #[.int .i64 x328000_2, .int .i64 x328001_2] 26 (0, 0))) := ⟨(by rw [hw]; exact (by (with_reducible repeat (first | refine bN ?_ _ | refine bD ?_ | refine bA ?_ _)); refine blk_far ?_ NB327_346.out _; (with_reducible repeat (first | refine bN ?_ _ | refine bD ?_ | refine bA ?_ _)); refine blk_far ?_ NB327_346.out _; (with_reducible repeat (first | refine bN ?_ _ | refine bD ?_ | refine bA ?_ _)); exact BK327.out))⟩; have n3_ : Aside0 (w34.heap[gb346]? = some (.cells #[.int .i64 t344, .int .i64 t345] 26 (0, 0))) := ⟨(by rw [hw]; exact (by (with_reducible repeat (first | refine bN ?_ _ | refine bD ?_ | refine bA ?_ _)); refine blk_put (cs := #[.int .i64 t344, .int .i64 0]) ?_ 1 _ rfl; (with_reducible repeat (first | refine bN ?_ _ | refine bD ?_ | refine bA ?_ _)); refine blk_put (cs := #[.int .i64 0, .int .i64 0]) ?_ 0 _ rfl; (with_reducible repeat (first | refine bN ?_ _ | refine bD ?_ | refine bA ?_ _)); exact BK346.out))⟩; have n4_ : Aside0 (Below w.heap.size w w34) := ⟨(by rw [hw]; exact (by repeat (first | (with_reducible first | exact HB.out | apply lA | apply lN | apply lD | refine lS ?_ GE327.out | refine lS ?_ GE346.out) | exact HB.out)))⟩; clear hw; clear HO_6; clear HO343; clear BK327; clear BK346; clear HB; have HO_6 := n0_; have HO343 := n1_; have BK327 := n2_; have BK346 := n3_; have HB := n4_; clear n0_ n1_ n2_ n3_ n4_; obtain ⟨Ao35, co35, eo35⟩ := Kd.S_slice HO343.out; subst eo35) | ((with_reducible refine gate_builtin (b := .append) (xs := #[.tmp 56, .tmp 61]) rfl ?_); at_builtin; refine Kd.R_append k45 (w0 := w) w.heap.size rfl (.tmp 56) (.tmp 61) 40 45 (.agg #[(.int .i64 0), (.slice none 0 0), (.slice none 0 0)]) 56 rfl Try.underlying40 info45 rfl (by decide) (by omega) u6 x6_2 (⟨ji24, ([] : List Int), t341⟩ : S45) [.int .i64 ji24, .slice none 0 0, .slice Ao35 t341.length co35] (fun _ => True) (fun k_ => ((fun _ => True)) k_ ∧ some k_ ≠ (u6 : Value).ownBlock) rfl rfl ?aP (fun _ hk => hk) ?aF ?aO ?aB ?aS ?aL ?_; (case aP => exact k45_mkM _ _ _ (⟨ji24, ([] : List Int), t341⟩ : S45) (Kd.R_nil _ _ _ _ _) (Kd.R_mono (Kd.R_apart' ((Kd.S_R HO343.out)) (Kd.R_typed HO_6.out) (by decide)) (fun k_ hk => ⟨trivial, hk.2⟩))); (case aB => exact (by repeat (first | (with_reducible first | exact HB.out | apply lA | apply lN | apply lD | refine lS ?_ GE327.out | refine lS ?_ GE346.out) | exact HB.out))); (case aF => exact (fun _ _ => trivial)); (case aO => exact (by (with_reducible repeat (first | apply Kd.rA | apply Kd.rN | apply Kd.rD)); exact Kd.R_mono HO_6.out (fun _ hk => trivial))); (case aS => exact (lZ (by repeat (first | (with_reducible first | exact HB.out | apply lA | apply lN | apply lD | refine lS ?_ GE327.out | refine lS ?_ GE346.out) | exact HB.out)))); (case aL => have := LMc28.out; omega); intro v348 w36 ho hb hg hat; rw [← Ny347.out] at ho; have n0_ := aZ (blk_grown (g := gb327) (o := .cells #[.int .i64 x328000_2, .int .i64 x328001_2] 26 (0, 0)) (by (with_reducible repeat (first | refine bN ?_ _ | refine bD ?_ | refine bA ?_ _)); exact BK327.out) hg (Kd.R_ne HO_6.out BK327.out (by decide))); have n1_ := aZ (blk_grown (g := gb346) (o := .cells #[.int .i64 t344, .int .i64 t345] 26 (0, 0)) (by (with_reducible repeat (first | refine bN ?_ _ | refine bD ?_ | refine bA ?_ _)); exact BK346.out) hg (Kd.R_ne HO_6.out BK346.out (by decide))); have n2_ := aZ (hb); have n3_ := aZ (ho); clear BK327; clear BK346; clear HB; clear HO_6; clear HO343; have BK327 := n0_; have BK346 := n1_; have HB := n2_; have HO349 := n3_; clear n0_ n1_ n2_ n3_; clear ho hb hg hat))
      go_roundg k2
      case measure => have := HJ5.out; have := HK2.out; omega
      case rel => exact ⟨(y347), (wrap64 (x24_2 + 1)), (x328000_2), (x328001_2), (by first | rfl | (simp; done) | (simp [*]; done) | (simp [i64_w]; done)), H', ⟨by have := HJ5.out; have := HK2.out; omega⟩, ⟨by (with_reducible repeat (first | apply Kd.rA | apply Kd.rN | apply Kd.rD)); exact HO349.out⟩, ⟨by (with_reducible repeat (first | refine bN ?_ _ | refine bD ?_ | refine bA ?_ _)); exact BK327.out⟩, ⟨by repeat (first | (with_reducible first | exact HB.out | apply lA | apply lN | apply lD | refine lS ?_ GE327.out | refine lS ?_ GE346.out) | exact HB.out)⟩⟩
end Go.Proofs.Ytgmpnghgmcgghaa.P
