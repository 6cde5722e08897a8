/- What the Go functions of this seat compute, and that they do: printed by a program over the kit's print. -/
import Derived.Test.YtgmpnghgmcgghaaP0
import Derived.Test.YtgmpnghgmcgghaaP2
import Derived.Test.YtgmpnghgmcgghaaP3
namespace Go.Proofs.Ytgmpnghgmcgghaa.P
open Go.RowKit Go.Proofs.YtgmpnghgmcgghaaW.PrintWords Go.Proofs.YtgmpnghgmcgghaaW.PrintLast Go.Proofs.YtgmpnghgmcgghaaW.PrintMore
attribute [local go_sem] max2_int min2_int max_two min_two max_three min_three max_four min_four   -- for this text's walks alone
set_option linter.unusedVariables false
set_option linter.unusedSimpArgs false

/-! ### deltachain_Encode: function 11 -/
def deltachain_Encode.l0 : Nat → List Int → List Int → List (S37) → Bool → Option ((List (S37)) × Int × Int)
  | 0, _, _, _, _ => none
  | k + 1, x0, x1, x6, x7 => if (x1.length : Int) > 0 then ((deltachain_match.f k x0 x1).bind fun bt115 => (if bt115.2 ≥ 4 then (if x6.length < 3518437208883 then (if 0 ≤ bt115.2 then (if bt115.2 ≤ (x1.length : Int) then (deltachain_Encode.l0 k x0 (x1.drop (bt115.2 : Int).toNat) (x6 ++ [(⟨bt115.1, bt115.2, ([] : List Int)⟩ : S37)]) false) else (none)) else (none)) else (none)) else (if x7 = true then (if 0 ≤ (wrap64 ((x6.length : Int) - 1)) then (if (wrap64 ((x6.length : Int) - 1)) < (x6.length : Int) then (if 0 < (x1.length : Int) then (if ((rd_T37 x6 (wrap64 ((x6.length : Int) - 1))).f2).length < 140737488355328 then (if 1 ≤ (x1.length : Int) then (deltachain_Encode.l0 k x0 (x1.drop (1 : Int).toNat) (x6.set ((wrap64 ((x6.length : Int) - 1)) : Int).toNat (⟨(rd_T37 x6 (wrap64 ((x6.length : Int) - 1))).f0, (rd_T37 x6 (wrap64 ((x6.length : Int) - 1))).f1, (((rd_T37 x6 (wrap64 ((x6.length : Int) - 1))).f2) ++ [rd x1 0])⟩ : S37)) x7) else (none)) else (none)) else (none)) else (none)) else (none)) else (if 0 < (x1.length : Int) then (if x6.length < 3518437208883 then (if 1 ≤ (x1.length : Int) then (deltachain_Encode.l0 k x0 (x1.drop (1 : Int).toNat) (x6 ++ [(⟨0, 0, (([rd x1 0] : List Int))⟩ : S37)]) true) else (none)) else (none)) else (none))))) else (some (x6, 0, 0))
def deltachain_Encode.f (k : Nat) (l0 : List Int) (l1 : List Int) : Option ((List (S37)) × Int × Int) := (deltachain_sized.f k (([l0] : List (List Int)))).bind fun t109 => (if t109 = true then ((deltachain_sized.f k (([l1] : List (List Int)))).bind fun t114 => (if t114 = true then (deltachain_Encode.l0 k l0 l1 ([] : List (S37)) false) else (some (([] : List (S37)), 10, 1)))) else (some (([] : List (S37)), 10, 0)))
theorem deltachain_Encode.mono_l : ∀ k, (∀ y0 y1 y2 y3, LeO (deltachain_Encode.l0 k y0 y1 y2 y3) (deltachain_Encode.l0 (k + 1) y0 y1 y2 y3))
  | 0 => fun _ _ _ _ r h => by simp [deltachain_Encode.l0] at h
  | k + 1 => by
    have ih0 := deltachain_Encode.mono_l k
    · intro y0 y1 y2 y3
      unfold deltachain_Encode.l0
      repeat' first
      | (with_reducible exact ih0 _ _ _ _)
      | (with_reducible exact deltachain_match.mono _ _ _)
      | (with_reducible exact deltachain_sized.mono _ _)
      | (with_reducible exact LeO.refl _)
      | (with_reducible exact LeO.none _)
      | (with_reducible refine LeO.ite ?_ ?_)
      | (with_reducible refine LeO.bind ?_ (fun _ => ?_))
      | exact ih0 _ _ _ _
      | exact deltachain_match.mono _ _ _
      | exact deltachain_sized.mono _ _
      | exact LeO.none _
      | refine LeO.ite ?_ ?_
      | refine LeO.bind ?_ (fun _ => ?_)
theorem deltachain_Encode.mono : ∀ a0 a1 k, LeO (deltachain_Encode.f k a0 a1) (deltachain_Encode.f (k + 1) a0 a1) := by
  intro a0 a1 k
  have ih0 := deltachain_Encode.mono_l k
  unfold deltachain_Encode.f
  repeat' first
      | (with_reducible exact ih0 _ _ _ _)
      | (with_reducible exact deltachain_match.mono _ _ _)
      | (with_reducible exact deltachain_sized.mono _ _)
      | (with_reducible exact LeO.refl _)
      | (with_reducible exact LeO.none _)
      | (with_reducible refine LeO.ite ?_ ?_)
      | (with_reducible refine LeO.bind ?_ (fun _ => ?_))
      | exact ih0 _ _ _ _
      | exact deltachain_match.mono _ _ _
      | exact deltachain_sized.mono _ _
      | exact LeO.none _
      | refine LeO.ite ?_ ?_
      | refine LeO.bind ?_ (fun _ => ?_)
def deltachain_Encode.T18 : Bool × List (List Nat × List Nat) := (true, [([], []), ([], []), ([1], [1]), ([2], [2]), ([3], [3]), ([], []), ([5], [5]), ([6], [6]), ([7], [7]), ([4, 8], [4, 8]), ([0, 0, 1, 2, 3, 4, 5, 6, 7, 8, 9], [0]), ([10, 0, 1, 2, 3, 4, 5, 6, 7, 8, 9], [10]), ([11, 9, 9, 0, 1, 2, 3, 4, 5, 6, 7, 8, 9], [9, 11])])
def deltachain_Encode.B18 : List Nat := [0, 0, 2, 6, 14, 0, 32, 96, 224, 510, 1023, 2047, 4095]
theorem deltachain_Encode.tab18 : rtab .any (opsOf Try.f11 18) = deltachain_Encode.T18 := by kernel_rfl
theorem deltachain_Encode.bits18 : waitsOk deltachain_Encode.T18.2 deltachain_Encode.B18 = true := by kernel_rfl
abbrev deltachain_Encode.Z1 : Array Bool := #[false, false, false, false, false, false, false, false, false, false, false, false, false]
abbrev deltachain_Encode.Z2 : Array Bool := #[true, false, false, false, false, false, false, false, false, false, false, false, false]
abbrev deltachain_Encode.Z3 : Array Bool := #[true, true, false, false, false, false, false, false, false, false, false, false, false]
abbrev deltachain_Encode.Z4 : Array Bool := #[true, true, true, false, false, false, false, false, false, false, false, false, false]
abbrev deltachain_Encode.Z5 : Array Bool := #[true, true, true, true, false, false, false, false, false, false, false, false, false]
abbrev deltachain_Encode.Z6 : Array Bool := #[true, true, true, true, false, true, false, false, false, false, false, false, false]
abbrev deltachain_Encode.Z7 : Array Bool := #[true, true, true, true, false, true, true, false, false, false, false, false, false]
abbrev deltachain_Encode.Z8 : Array Bool := #[true, true, true, true, true, true, true, false, false, false, false, false, false]
abbrev deltachain_Encode.Z9 : Array Bool := #[true, true, true, true, true, true, true, true, false, false, false, false, false]
abbrev deltachain_Encode.Z10 : Array Bool := #[true, true, true, true, true, true, true, true, true, false, false, false, false]
abbrev deltachain_Encode.Z11 : Array Bool := #[true, true, true, true, true, true, true, true, true, true, false, false, false]
abbrev deltachain_Encode.Z12 : Array Bool := #[true, true, true, true, true, true, true, true, true, true, true, false, false]
abbrev deltachain_Encode.Z13 : Array Bool := #[true, true, true, true, true, true, true, true, true, true, true, true, false]
abbrev deltachain_Encode.Z14 : Array Bool := #[true, true, true, true, true, true, true, true, true, true, true, true, true]
set_option maxHeartbeats 8000000 in
set_option maxRecDepth 100000 in
theorem deltachain_Encode.calls (k : Nat) (A0 : Option Addr) (c0 : Nat) (l0 : List Int) (A1 : Option Addr) (c1 : Nat) (l1 : List Int) (r1 : List (S37)) (r2 : Int) (r3 : Int) (w : World) (hr0 : Kd.C (Kd.int .u8) w A0 l0.length l0) (hc0 : l0.length ≤ c0) (hr1 : Kd.C (Kd.int .u8) w A1 l1.length l1) (hc1 : l1.length ≤ c1) (h : deltachain_Encode.f k l0 l1 = some (r1, r2, r3)) :
  Calls Try.prog 11 #[.slice A0 l0.length c0, .slice A1 l1.length c1] w fun e w' => ∃ v0_ : Value, e = .returned (.tuple #[v0_, .agg #[.int .i64 r2, .int .i64 r3]]) ∧ Kd.S k37 37 w' w.heap.size (fun _ => True) v0_ r1 ∧ Below w.heap.size w w' := by
  have hu26 := Try.underlying26
  have hu37 := Try.underlying37
  have HR0 := aZ hr0
  have HC0 := aZ hc0
  clear hr0 hc0
  have HR1 := aZ hr1
  have HC1 := aZ hc1
  clear hr1 hc1
  have HB := aZ (Below.refl w.heap.size w)
  have H : ((deltachain_sized.f k (([l0] : List (List Int)))).bind fun t109 => (if t109 = true then ((deltachain_sized.f k (([l1] : List (List Int)))).bind fun t114 => (if t114 = true then (deltachain_Encode.l0 k l0 l1 ([] : List (S37)) false) else (some (([] : List (S37)), 10, 1)))) else (some (([] : List (S37)), 10, 0)))) = some (r1, r2, r3) := h
  clear h
  obtain ⟨y105, hy105⟩ : ∃ y_ : List (List Int), y_ = (([l0] : List (List Int))) := ⟨_, rfl⟩
  replace H : ((deltachain_sized.f k y105).bind fun t109 => (if t109 = true then ((deltachain_sized.f k (([l1] : List (List Int)))).bind fun t114 => (if t114 = true then (deltachain_Encode.l0 k l0 l1 ([] : List (S37)) false) else (some (([] : List (S37)), 10, 1)))) else (some (([] : List (S37)), 10, 0)))) = some (r1, r2, r3) := by first | (rw [hy105]; with_reducible exact H) | (have H2_ := (Option.bind_some _ _).symm.trans H; rw [hy105]; with_reducible exact H2_) | (have H2_ := (Option.bind_some _ _).symm.trans H; with_reducible exact H2_) | with_reducible exact H | (rw [hy105]; exact H) | exact H
  have Ny105 := aZ hy105
  clear hy105
  replace H := Option.bind_eq_some_iff.mp H
  obtain ⟨t109, A30, H⟩ := H
  replace H : (if t109 = true then ((deltachain_sized.f k (([l1] : List (List Int)))).bind fun t114 => (if t114 = true then (deltachain_Encode.l0 k l0 l1 ([] : List (S37)) false) else (some (([] : List (S37)), 10, 1)))) else (some (([] : List (S37)), 10, 0))) = some (r1, r2, r3) := H
  have A3 := aZ A30
  clear A30
  by_cases c4 : t109 = true
  rotate_left
  · replace c4 := Bool.eq_false_iff.mpr c4
    subst c4
    have H1 : (some (([] : List (S37)), 10, 0)) = some (r1, r2, r3) := by rw [if_neg (show ¬ (false = true) by decide)] at H; exact H
    clear H
    have H := H1
    clear H1
    simp only [Option.some.injEq, Prod.mk.injEq] at H
    obtain ⟨rfl, rfl, rfl⟩ := H
    go_enter Try.func11, Try.ntmps11
    go_wp2_with (first | ((with_reducible refine gate_dst (N := 5) rfl ?_); refine box_event ?hg (N := 5) ?hd (cs := #[.int .i64 0, .int .i64 0]) (t := 26) ?hr ?_; (case hd => rfl); (case hg => rfl); (case hr => first | (go_simp; done) | (go_simp; rfl)); intro gb104 hg w47 hbox hb; have n0_ := aZ (lT (by repeat (first | (with_reducible first | exact HB.out | apply lA | apply lN | apply lD) | exact HB.out)) hb); have n1_ := aZ (hbox); have n2_ := aZ ((by rw [hg]; exact (lZ (by repeat (first | (with_reducible first | exact HB.out | apply lA | apply lN | apply lD) | exact HB.out))) : w.heap.size ≤ gb104)); have n3_ := aZ ((by rw [hg]; exact (lZ (by repeat (first | (with_reducible first | exact HB.out | apply lA | apply lN | apply lD) | exact HB.out))) : w.heap.size ≤ gb104)); clear HB; have HB := n0_; have BK104 := n1_; have GW104 := n2_; have GE104 := n3_; clear n0_ n1_ n2_ n3_; clear hb hbox hg) | ((with_reducible refine gate_dst (N := 12) rfl ?_); refine Kd.lit_read (Kd.slice 5 (Kd.int .u8)) 22 ?hg (N := 12) ?hd (ys := y105) (xs := ([l0] : List (List Int))) (inner := [.slice A0 l0.length c0]) Ny105.out ?hr ?hp (by simp) ?_; (case hd => rfl); (case hg => rfl); (case hr => first | (go_simp; done) | (go_simp; rfl)); (case hp => exact (Reps.one (show Kd.K (Kd.slice 5 (Kd.int .u8)) _ l0 [.slice A0 l0.length c0] from ⟨_, _, rfl, by exact HC0.out, by repeat (first | exact (Kd.C_below HR0.out HB.out) | (with_reducible refine Kd.C_alloc ?_ _) | (with_reducible refine Kd.C_drewN ?_ _) | (with_reducible refine Kd.C_drew ?_))⟩) (Reps.none _ _))); intro A108 w48 hnew_ hb; have n0_ := aZ (blk_below (g := gb104) (o := .cells #[.int .i64 0, .int .i64 0] 26 (0, 0)) (by (with_reducible repeat (first | refine bN ?_ _ | refine bD ?_ | refine bA ?_ _)); exact BK104.out) hb); have n1_ := aZ (lT (by repeat (first | (with_reducible first | exact HB.out | apply lA | apply lN | apply lD | refine lS ?_ GE104.out) | exact HB.out)) hb); have n2_ := aZ (hnew_); have n3_ := aZ (Nat.le_refl y105.length); clear BK104; clear HB; have BK104 := n0_; have HB := n1_; have HR108 := n2_; have HC108 := n3_; clear n0_ n1_ n2_ n3_; clear hb hnew_) | ((with_reducible refine gate_callee (f := 24) rfl ?_); refine goesL_ (some 13) rfl rfl Try.func24 (by kernel_rfl) rfl #[.slice A108 y105.length y105.length] rfl (by (try simp only [List.map_toArray, List.map_cons, List.map_nil]); first | done | rfl | (simp only [List.length_drop, List.length_take]; rfl)) ?_; (with_reducible refine (deltachain_sized.calls k _ _ y105 false _ ?side1 ?side2 A3.out).mono ?_); (case side1 => repeat (first | exact (by repeat (first | (with_reducible exact HR108.out) | (with_reducible refine Kd.C_alloc ?_ _) | (with_reducible refine Kd.C_drewN ?_ _) | (with_reducible refine Kd.C_drew ?_) | exact HR108.out)) | (with_reducible refine Kd.C_alloc ?_ _) | (with_reducible refine Kd.C_drewN ?_ _) | (with_reducible refine Kd.C_drew ?_))); (case side2 => exact HC108.out); rintro e w' ⟨rfl, ⟨nd, rfl⟩⟩; refine ⟨_, rfl, ?_⟩; (try (rw [drewN_self w48]; generalize hq_ : World.drewN w48 _ = w48; have n0_ : Aside0 (w48.heap[gb104]? = some (.cells #[.int .i64 0, .int .i64 0] 26 (0, 0))) := ⟨by rw [← hq_]; exact (by (with_reducible repeat (first | refine bN ?_ _ | refine bD ?_ | refine bA ?_ _)); exact BK104.out)⟩; have n1_ : Aside0 (Below w.heap.size w w48) := ⟨by rw [← hq_]; exact (by repeat (first | (with_reducible first | exact HB.out | apply lA | apply lN | apply lD | refine lS ?_ GE104.out) | exact HB.out))⟩; have n2_ : Aside0 (Kd.C (Kd.slice 5 (Kd.int .u8)) w48 A108 y105.length y105) := ⟨by rw [← hq_]; exact (by repeat (first | (with_reducible exact HR108.out) | (with_reducible refine Kd.C_alloc ?_ _) | (with_reducible refine Kd.C_drewN ?_ _) | (with_reducible refine Kd.C_drew ?_) | exact HR108.out))⟩; clear BK104 HB HR108 hq_; have BK104 := n0_; have HB := n1_; have HR108 := n2_; clear n0_ n1_ n2_)); have hcz49_0 : w48.cell? ⟨gb104, 0, none⟩ = some (.int .i64 0) := (blk_cell BK104.out 0).trans rfl; have hcz49_1 : w48.cell? ⟨gb104, 1, none⟩ = some (.int .i64 0) := (blk_cell BK104.out 1).trans rfl; have hfz49_0 := blk_frozen BK104.out 0; have hfz49_1 := blk_frozen BK104.out 1))
    refine bodyPost_ret (results_tc rfl _ _ gb104 26 #[.int .i64 10, .int .i64 0] (0, 0) _ rfl (by (with_reducible repeat (first | refine bN ?_ _ | refine bD ?_ | refine bA ?_ _)); refine blk_put (cs := #[.int .i64 10, .int .i64 0]) ?_ 1 _ rfl; (with_reducible repeat (first | refine bN ?_ _ | refine bD ?_ | refine bA ?_ _)); refine blk_put (cs := #[.int .i64 0, .int .i64 0]) ?_ 0 _ rfl; (with_reducible repeat (first | refine bN ?_ _ | refine bD ?_ | refine bA ?_ _)); exact BK104.out) Try.underlying26 rfl (by kernel_rfl)) rfl ?_
    exact ⟨_, by first | rfl | (simp [errW_none, errW_some] <;> rfl) | (simp [*, errW_none, errW_some] <;> rfl), by first | exact Kd.S_nil _ _ _ _ _ | exact Kd.N_nil _ _ _ _ _ | exact Kd.V_nil _ _ _ _ _ | exact Kd.Q_nil _ _ _ _ _ | exact Kd.R_nil _ _ _ _ _, by repeat (first | (with_reducible first | exact HB.out | apply lA | apply lN | apply lD | refine lS ?_ GE104.out) | exact HB.out)⟩

  subst c4
  have H1 : ((deltachain_sized.f k (([l1] : List (List Int)))).bind fun t114 => (if t114 = true then (deltachain_Encode.l0 k l0 l1 ([] : List (S37)) false) else (some (([] : List (S37)), 10, 1)))) = some (r1, r2, r3) := by rw [if_pos rfl] at H; exact H
  clear H
  have H := H1
  clear H1
  obtain ⟨y110, hy110⟩ : ∃ y_ : List (List Int), y_ = (([l1] : List (List Int))) := ⟨_, rfl⟩
  replace H : ((deltachain_sized.f k y110).bind fun t114 => (if t114 = true then (deltachain_Encode.l0 k l0 l1 ([] : List (S37)) false) else (some (([] : List (S37)), 10, 1)))) = some (r1, r2, r3) := by first | (rw [hy110]; with_reducible exact H) | (have H2_ := (Option.bind_some _ _).symm.trans H; rw [hy110]; with_reducible exact H2_) | (have H2_ := (Option.bind_some _ _).symm.trans H; with_reducible exact H2_) | with_reducible exact H | (rw [hy110]; exact H) | exact H
  have Ny110 := aZ hy110
  clear hy110
  replace H := Option.bind_eq_some_iff.mp H
  obtain ⟨t114, A50, H⟩ := H
  replace H : (if t114 = true then (deltachain_Encode.l0 k l0 l1 ([] : List (S37)) false) else (some (([] : List (S37)), 10, 1))) = some (r1, r2, r3) := H
  have A5 := aZ A50
  clear A50
  by_cases c6 : t114 = true
  rotate_left
  · replace c6 := Bool.eq_false_iff.mpr c6
    subst c6
    have H1 : (some (([] : List (S37)), 10, 1)) = some (r1, r2, r3) := by rw [if_neg (show ¬ (false = true) by decide)] at H; exact H
    clear H
    have H := H1
    clear H1
    simp only [Option.some.injEq, Prod.mk.injEq] at H
    obtain ⟨rfl, rfl, rfl⟩ := H
    go_enter Try.func11, Try.ntmps11
    go_wp2_with (first | ((with_reducible refine gate_dst (N := 5) rfl ?_); refine box_event ?hg (N := 5) ?hd (cs := #[.int .i64 0, .int .i64 0]) (t := 26) ?hr ?_; (case hd => rfl); (case hg => rfl); (case hr => first | (go_simp; done) | (go_simp; rfl)); intro gb104 hg w43 hbox hb; have n0_ := aZ (lT (by repeat (first | (with_reducible first | exact HB.out | apply lA | apply lN | apply lD) | exact HB.out)) hb); have n1_ := aZ (hbox); have n2_ := aZ ((by rw [hg]; exact (lZ (by repeat (first | (with_reducible first | exact HB.out | apply lA | apply lN | apply lD) | exact HB.out))) : w.heap.size ≤ gb104)); have n3_ := aZ ((by rw [hg]; exact (lZ (by repeat (first | (with_reducible first | exact HB.out | apply lA | apply lN | apply lD) | exact HB.out))) : w.heap.size ≤ gb104)); clear HB; have HB := n0_; have BK104 := n1_; have GW104 := n2_; have GE104 := n3_; clear n0_ n1_ n2_ n3_; clear hb hbox hg) | ((with_reducible refine gate_dst (N := 12) rfl ?_); refine Kd.lit_read (Kd.slice 5 (Kd.int .u8)) 22 ?hg (N := 12) ?hd (ys := y105) (xs := ([l0] : List (List Int))) (inner := [.slice A0 l0.length c0]) Ny105.out ?hr ?hp (by simp) ?_; (case hd => rfl); (case hg => rfl); (case hr => first | (go_simp; done) | (go_simp; rfl)); (case hp => exact (Reps.one (show Kd.K (Kd.slice 5 (Kd.int .u8)) _ l0 [.slice A0 l0.length c0] from ⟨_, _, rfl, by exact HC0.out, by repeat (first | exact (Kd.C_below HR0.out HB.out) | (with_reducible refine Kd.C_alloc ?_ _) | (with_reducible refine Kd.C_drewN ?_ _) | (with_reducible refine Kd.C_drew ?_))⟩) (Reps.none _ _))); intro A108 w44 hnew_ hb; have n0_ := aZ (blk_below (g := gb104) (o := .cells #[.int .i64 0, .int .i64 0] 26 (0, 0)) (by (with_reducible repeat (first | refine bN ?_ _ | refine bD ?_ | refine bA ?_ _)); exact BK104.out) hb); have n1_ := aZ (lT (by repeat (first | (with_reducible first | exact HB.out | apply lA | apply lN | apply lD | refine lS ?_ GE104.out) | exact HB.out)) hb); have n2_ := aZ (hnew_); have n3_ := aZ (Nat.le_refl y105.length); clear BK104; clear HB; have BK104 := n0_; have HB := n1_; have HR108 := n2_; have HC108 := n3_; clear n0_ n1_ n2_ n3_; clear hb hnew_) | ((with_reducible refine gate_callee (f := 24) rfl ?_); refine goesL_ (some 13) rfl rfl Try.func24 (by kernel_rfl) rfl #[.slice A108 y105.length y105.length] rfl (by (try simp only [List.map_toArray, List.map_cons, List.map_nil]); first | done | rfl | (simp only [List.length_drop, List.length_take]; rfl)) ?_; (with_reducible refine (deltachain_sized.calls k _ _ y105 true _ ?side1 ?side2 A3.out).mono ?_); (case side1 => repeat (first | exact (by repeat (first | (with_reducible exact HR108.out) | (with_reducible refine Kd.C_alloc ?_ _) | (with_reducible refine Kd.C_drewN ?_ _) | (with_reducible refine Kd.C_drew ?_) | exact HR108.out)) | (with_reducible refine Kd.C_alloc ?_ _) | (with_reducible refine Kd.C_drewN ?_ _) | (with_reducible refine Kd.C_drew ?_))); (case side2 => exact HC108.out); rintro e w' ⟨rfl, ⟨nd, rfl⟩⟩; refine ⟨_, rfl, ?_⟩; (try (rw [drewN_self w44]; generalize hq_ : World.drewN w44 _ = w44; have n0_ : Aside0 (w44.heap[gb104]? = some (.cells #[.int .i64 0, .int .i64 0] 26 (0, 0))) := ⟨by rw [← hq_]; exact (by (with_reducible repeat (first | refine bN ?_ _ | refine bD ?_ | refine bA ?_ _)); exact BK104.out)⟩; have n1_ : Aside0 (Below w.heap.size w w44) := ⟨by rw [← hq_]; exact (by repeat (first | (with_reducible first | exact HB.out | apply lA | apply lN | apply lD | refine lS ?_ GE104.out) | exact HB.out))⟩; have n2_ : Aside0 (Kd.C (Kd.slice 5 (Kd.int .u8)) w44 A108 y105.length y105) := ⟨by rw [← hq_]; exact (by repeat (first | (with_reducible exact HR108.out) | (with_reducible refine Kd.C_alloc ?_ _) | (with_reducible refine Kd.C_drewN ?_ _) | (with_reducible refine Kd.C_drew ?_) | exact HR108.out))⟩; clear BK104 HB HR108 hq_; have BK104 := n0_; have HB := n1_; have HR108 := n2_; clear n0_ n1_ n2_))) | ((with_reducible refine gate_dst (N := 17) rfl ?_); refine Kd.lit_read (Kd.slice 5 (Kd.int .u8)) 22 ?hg (N := 17) ?hd (ys := y110) (xs := ([l1] : List (List Int))) (inner := [.slice A1 l1.length c1]) Ny110.out ?hr ?hp (by simp) ?_; (case hd => rfl); (case hg => rfl); (case hr => first | (go_simp; done) | (go_simp; rfl)); (case hp => exact (Reps.one (show Kd.K (Kd.slice 5 (Kd.int .u8)) _ l1 [.slice A1 l1.length c1] from ⟨_, _, rfl, by exact HC1.out, by repeat (first | exact (Kd.C_below HR1.out HB.out) | (with_reducible refine Kd.C_alloc ?_ _) | (with_reducible refine Kd.C_drewN ?_ _) | (with_reducible refine Kd.C_drew ?_))⟩) (Reps.none _ _))); intro A113 w45 hnew_ hb; have n0_ := aZ (blk_below (g := gb104) (o := .cells #[.int .i64 0, .int .i64 0] 26 (0, 0)) (by (with_reducible repeat (first | refine bN ?_ _ | refine bD ?_ | refine bA ?_ _)); exact BK104.out) hb); have n1_ := aZ (lT (by repeat (first | (with_reducible first | exact HB.out | apply lA | apply lN | apply lD | refine lS ?_ GE104.out) | exact HB.out)) hb); have n2_ := aZ (hnew_); have n3_ := aZ (Nat.le_refl y110.length); clear BK104; clear HB; have BK104 := n0_; have HB := n1_; have HR113 := n2_; have HC113 := n3_; clear n0_ n1_ n2_ n3_; clear hb hnew_) | ((with_reducible refine gate_callee (f := 24) rfl ?_); refine goesL_ (some 18) rfl rfl Try.func24 (by kernel_rfl) rfl #[.slice A113 y110.length y110.length] rfl (by (try simp only [List.map_toArray, List.map_cons, List.map_nil]); first | done | rfl | (simp only [List.length_drop, List.length_take]; rfl)) ?_; (with_reducible refine (deltachain_sized.calls k _ _ y110 false _ ?side1 ?side2 A5.out).mono ?_); (case side1 => repeat (first | exact (by repeat (first | (with_reducible exact HR113.out) | (with_reducible refine Kd.C_alloc ?_ _) | (with_reducible refine Kd.C_drewN ?_ _) | (with_reducible refine Kd.C_drew ?_) | exact HR113.out)) | (with_reducible refine Kd.C_alloc ?_ _) | (with_reducible refine Kd.C_drewN ?_ _) | (with_reducible refine Kd.C_drew ?_))); (case side2 => exact HC113.out); rintro e w' ⟨rfl, ⟨nd, rfl⟩⟩; refine ⟨_, rfl, ?_⟩; (try (rw [drewN_self w45]; generalize hq_ : World.drewN w45 _ = w45; have n0_ : Aside0 (w45.heap[gb104]? = some (.cells #[.int .i64 0, .int .i64 0] 26 (0, 0))) := ⟨by rw [← hq_]; exact (by (with_reducible repeat (first | refine bN ?_ _ | refine bD ?_ | refine bA ?_ _)); exact BK104.out)⟩; have n1_ : Aside0 (Below w.heap.size w w45) := ⟨by rw [← hq_]; exact (by repeat (first | (with_reducible first | exact HB.out | apply lA | apply lN | apply lD | refine lS ?_ GE104.out) | exact HB.out))⟩; have n2_ : Aside0 (Kd.C (Kd.slice 5 (Kd.int .u8)) w45 A113 y110.length y110) := ⟨by rw [← hq_]; exact (by repeat (first | (with_reducible exact HR113.out) | (with_reducible refine Kd.C_alloc ?_ _) | (with_reducible refine Kd.C_drewN ?_ _) | (with_reducible refine Kd.C_drew ?_) | exact HR113.out))⟩; clear BK104 HB HR113 hq_; have BK104 := n0_; have HB := n1_; have HR113 := n2_; clear n0_ n1_ n2_)); have hcz46_0 : w45.cell? ⟨gb104, 0, none⟩ = some (.int .i64 0) := (blk_cell BK104.out 0).trans rfl; have hcz46_1 : w45.cell? ⟨gb104, 1, none⟩ = some (.int .i64 0) := (blk_cell BK104.out 1).trans rfl; have hfz46_0 := blk_frozen BK104.out 0; have hfz46_1 := blk_frozen BK104.out 1))
    refine bodyPost_ret (results_tc rfl _ _ gb104 26 #[.int .i64 10, .int .i64 1] (0, 0) _ rfl (by (with_reducible repeat (first | refine bN ?_ _ | refine bD ?_ | refine bA ?_ _)); refine blk_put (cs := #[.int .i64 10, .int .i64 0]) ?_ 1 _ rfl; (with_reducible repeat (first | refine bN ?_ _ | refine bD ?_ | refine bA ?_ _)); refine blk_put (cs := #[.int .i64 0, .int .i64 0]) ?_ 0 _ rfl; (with_reducible repeat (first | refine bN ?_ _ | refine bD ?_ | refine bA ?_ _)); exact BK104.out) Try.underlying26 rfl (by kernel_rfl)) rfl ?_
    exact ⟨_, by first | rfl | (simp [errW_none, errW_some] <;> rfl) | (simp [*, errW_none, errW_some] <;> rfl), by first | exact Kd.S_nil _ _ _ _ _ | exact Kd.N_nil _ _ _ _ _ | exact Kd.V_nil _ _ _ _ _ | exact Kd.Q_nil _ _ _ _ _ | exact Kd.R_nil _ _ _ _ _, by repeat (first | (with_reducible first | exact HB.out | apply lA | apply lN | apply lD | refine lS ?_ GE104.out) | exact HB.out)⟩
  subst c6
  have H1 : (deltachain_Encode.l0 k l0 l1 ([] : List (S37)) false) = some (r1, r2, r3) := by rw [if_pos rfl] at H; exact H
  clear H
  have H := H1
  clear H1
  have H' := aZ H
  clear H
  go_enter Try.func11, Try.ntmps11
  go_wp2_with (first | ((with_reducible refine gate_dst (N := 5) rfl ?_); refine box_event ?hg (N := 5) ?hd (cs := #[.int .i64 0, .int .i64 0]) (t := 26) ?hr ?_; (case hd => rfl); (case hg => rfl); (case hr => first | (go_simp; done) | (go_simp; rfl)); intro gb104 hg w7 hbox hb; have n0_ := aZ (lT (by repeat (first | (with_reducible first | exact HB.out | apply lA | apply lN | apply lD) | exact HB.out)) hb); have n1_ := aZ (hbox); have n2_ := aZ ((by rw [hg]; exact (lZ (by repeat (first | (with_reducible first | exact HB.out | apply lA | apply lN | apply lD) | exact HB.out))) : w.heap.size ≤ gb104)); have n3_ := aZ ((by rw [hg]; exact (lZ (by repeat (first | (with_reducible first | exact HB.out | apply lA | apply lN | apply lD) | exact HB.out))) : w.heap.size ≤ gb104)); clear HB; have HB := n0_; have BK104 := n1_; have GW104 := n2_; have GE104 := n3_; clear n0_ n1_ n2_ n3_; clear hb hbox hg) | ((with_reducible refine gate_dst (N := 12) rfl ?_); refine Kd.lit_read (Kd.slice 5 (Kd.int .u8)) 22 ?hg (N := 12) ?hd (ys := y105) (xs := ([l0] : List (List Int))) (inner := [.slice A0 l0.length c0]) Ny105.out ?hr ?hp (by simp) ?_; (case hd => rfl); (case hg => rfl); (case hr => first | (go_simp; done) | (go_simp; rfl)); (case hp => exact (Reps.one (show Kd.K (Kd.slice 5 (Kd.int .u8)) _ l0 [.slice A0 l0.length c0] from ⟨_, _, rfl, by exact HC0.out, by repeat (first | exact (Kd.C_below HR0.out HB.out) | (with_reducible refine Kd.C_alloc ?_ _) | (with_reducible refine Kd.C_drewN ?_ _) | (with_reducible refine Kd.C_drew ?_))⟩) (Reps.none _ _))); intro A108 w8 hnew_ hb; have n0_ := aZ (blk_below (g := gb104) (o := .cells #[.int .i64 0, .int .i64 0] 26 (0, 0)) (by (with_reducible repeat (first | refine bN ?_ _ | refine bD ?_ | refine bA ?_ _)); exact BK104.out) hb); have n1_ := aZ (lT (by repeat (first | (with_reducible first | exact HB.out | apply lA | apply lN | apply lD | refine lS ?_ GE104.out) | exact HB.out)) hb); have n2_ := aZ (hnew_); have n3_ := aZ (Nat.le_refl y105.length); clear BK104; clear HB; have BK104 := n0_; have HB := n1_; have HR108 := n2_; have HC108 := n3_; clear n0_ n1_ n2_ n3_; clear hb hnew_) | ((with_reducible refine gate_callee (f := 24) rfl ?_); refine goesL_ (some 13) rfl rfl Try.func24 (by kernel_rfl) rfl #[.slice A108 y105.length y105.length] rfl (by (try simp only [List.map_toArray, List.map_cons, List.map_nil]); first | done | rfl | (simp only [List.length_drop, List.length_take]; rfl)) ?_; (with_reducible refine (deltachain_sized.calls k _ _ y105 true _ ?side1 ?side2 A3.out).mono ?_); (case side1 => repeat (first | exact (by repeat (first | (with_reducible exact HR108.out) | (with_reducible refine Kd.C_alloc ?_ _) | (with_reducible refine Kd.C_drewN ?_ _) | (with_reducible refine Kd.C_drew ?_) | exact HR108.out)) | (with_reducible refine Kd.C_alloc ?_ _) | (with_reducible refine Kd.C_drewN ?_ _) | (with_reducible refine Kd.C_drew ?_))); (case side2 => exact HC108.out); rintro e w' ⟨rfl, ⟨nd, rfl⟩⟩; refine ⟨_, rfl, ?_⟩) | ((with_reducible refine gate_dst (N := 17) rfl ?_); refine Kd.lit_read (Kd.slice 5 (Kd.int .u8)) 22 ?hg (N := 17) ?hd (ys := y110) (xs := ([l1] : List (List Int))) (inner := [.slice A1 l1.length c1]) Ny110.out ?hr ?hp (by simp) ?_; (case hd => rfl); (case hg => rfl); (case hr => first | (go_simp; done) | (go_simp; rfl)); (case hp => exact (Reps.one (show Kd.K (Kd.slice 5 (Kd.int .u8)) _ l1 [.slice A1 l1.length c1] from ⟨_, _, rfl, by exact HC1.out, by repeat (first | exact (Kd.C_below HR1.out (by repeat (first | (with_reducible first | exact HB.out | apply lA | apply lN | apply lD | refine lS ?_ GE104.out) | exact HB.out))) | (with_reducible refine Kd.C_alloc ?_ _) | (with_reducible refine Kd.C_drewN ?_ _) | (with_reducible refine Kd.C_drew ?_))⟩) (Reps.none _ _))); intro A113 w9 hnew_ hb; have n0_ := aZ (blk_below (g := gb104) (o := .cells #[.int .i64 0, .int .i64 0] 26 (0, 0)) (by (with_reducible repeat (first | refine bN ?_ _ | refine bD ?_ | refine bA ?_ _)); exact BK104.out) hb); have n1_ := aZ (lT (by repeat (first | (with_reducible first | exact HB.out | apply lA | apply lN | apply lD | refine lS ?_ GE104.out) | exact HB.out)) hb); have n2_ := aZ (hnew_); have n3_ := aZ (Nat.le_refl y110.length); clear BK104; clear HB; have BK104 := n0_; have HB := n1_; have HR113 := n2_; have HC113 := n3_; clear n0_ n1_ n2_ n3_; clear hb hnew_) | ((with_reducible refine gate_callee (f := 24) rfl ?_); refine goesL_ (some 18) rfl rfl Try.func24 (by kernel_rfl) rfl #[.slice A113 y110.length y110.length] rfl (by (try simp only [List.map_toArray, List.map_cons, List.map_nil]); first | done | rfl | (simp only [List.length_drop, List.length_take]; rfl)) ?_; (with_reducible refine (deltachain_sized.calls k _ _ y110 true _ ?side1 ?side2 A5.out).mono ?_); (case side1 => repeat (first | exact (by repeat (first | (with_reducible exact HR113.out) | (with_reducible refine Kd.C_alloc ?_ _) | (with_reducible refine Kd.C_drewN ?_ _) | (with_reducible refine Kd.C_drew ?_) | exact HR113.out)) | (with_reducible refine Kd.C_alloc ?_ _) | (with_reducible refine Kd.C_drewN ?_ _) | (with_reducible refine Kd.C_drew ?_))); (case side2 => exact HC113.out); rintro e w' ⟨rfl, ⟨nd, rfl⟩⟩; refine ⟨_, rfl, ?_⟩))
  go_loopg [1, 6, 7] k (fun kq v1 v6 v7 w' => ∃ (lt_ : List Int) (At_ : Option Addr) (ct_ : Nat) (x6_1 : List (S37)) (x7_1 : Bool), v1 = .slice At_ lt_.length ct_ ∧ Aside0 (Kd.C (Kd.int .u8) w At_ lt_.length lt_) ∧ Aside0 (lt_.length ≤ ct_) ∧ v7 = .bool x7_1 ∧ Aside0 (deltachain_Encode.l0 kq l0 lt_ x6_1 x7_1 = some (r1, r2, r3)) ∧ Aside0 (kq ≤ k) ∧ Aside0 (Kd.S k37 37 w' w.heap.size (fun _ => True) v6 x6_1) ∧ Aside0 (w'.heap[gb104]? = some (.cells #[.int .i64 0, .int .i64 0] 26 (0, 0))) ∧ Aside0 (Below w.heap.size w w'))
  case atStart => exact ⟨l1, A1, c1, (([] : List (S37))), (false), rfl, HR1, HC1, (by first | rfl | (simp; done) | (simp [*]; done) | (simp [i64_w]; done)), H', ⟨Nat.le_refl _⟩, ⟨by first | exact Kd.S_nil _ _ _ _ _ | exact Kd.N_nil _ _ _ _ _ | exact Kd.V_nil _ _ _ _ _ | exact Kd.Q_nil _ _ _ _ _ | exact Kd.R_nil _ _ _ _ _⟩, ⟨by (with_reducible repeat (first | refine bN ?_ _ | refine bD ?_ | refine bA ?_ _)); exact BK104.out⟩, ⟨by repeat (first | (with_reducible first | exact HB.out | apply lA | apply lN | apply lD | refine lS ?_ GE104.out) | exact HB.out)⟩⟩
  case round =>
   clear H'
   (try clear c1); (try clear c4); (try clear c6)
   clear HR1 HC1
   obtain ⟨l1, A1, c1, x6_1, x7_1, rfl, HR1, HC1, rfl, HA, HK1, HO_6, BK104, HB⟩ := hrel
   cases gk with
   | zero => exact absurd HA.out (by simp [deltachain_Encode.l0])
   | succ k1 =>
    have H := HA.out
    clear HA
    simp only [deltachain_Encode.l0] at H
    by_cases c10 : (l1.length : Int) > 0
    rotate_left
    · rw [if_neg c10] at H
      have c10b0 : decide (0 < (l1.length : Int)) = false := decide_eq_false c10
      have c10b1 : decide (0 < l1.length) = false := decide_eq_false (by omega)
      clear c10
      simp only [Option.some.injEq, Prod.mk.injEq] at H
      obtain ⟨rfl, rfl, rfl⟩ := H
      have hcz42_0 : wr.cell? ⟨gb104, 0, none⟩ = some (.int .i64 0) := (blk_cell BK104.out 0).trans rfl
      have hcz42_1 : wr.cell? ⟨gb104, 1, none⟩ = some (.int .i64 0) := (blk_cell BK104.out 1).trans rfl
      have hfz42_0 := blk_frozen BK104.out 0
      have hfz42_1 := blk_frozen BK104.out 1
      go_wp2
      refine bodyPost_ret (results_tc rfl _ _ gb104 26 #[.int .i64 0, .int .i64 0] (0, 0) _ rfl (by (with_reducible repeat (first | refine bN ?_ _ | refine bD ?_ | refine bA ?_ _)); refine blk_put (cs := #[.int .i64 0, .int .i64 0]) ?_ 1 _ rfl; (with_reducible repeat (first | refine bN ?_ _ | refine bD ?_ | refine bA ?_ _)); refine blk_put (cs := #[.int .i64 0, .int .i64 0]) ?_ 0 _ rfl; (with_reducible repeat (first | refine bN ?_ _ | refine bD ?_ | refine bA ?_ _)); exact BK104.out) Try.underlying26 rfl (by kernel_rfl)) rfl ?_
      exact ⟨_, by first | rfl | (simp [errW_none, errW_some] <;> rfl) | (simp [*, errW_none, errW_some] <;> rfl), by (with_reducible repeat (first | apply Kd.S_alloc | apply Kd.S_drewN | apply Kd.S_drew)); exact Kd.S_mono (Kd.S_far (p := ⟨gb104, 1, none⟩) (Kd.S_far (p := ⟨gb104, 0, none⟩) (Kd.S_types HO_6.out BK104.out (by decide)) (fun _ hk => hk.2) (.int .i64 0)) (fun _ hk => hk.2) (.int .i64 0)) (fun _ hk => trivial), by repeat (first | (with_reducible first | exact HB.out | apply lA | apply lN | apply lD | refine lS ?_ GE104.out) | exact HB.out)⟩
    rw [if_pos c10] at H
    have c10b0 : decide (0 < (l1.length : Int)) = true := decide_eq_true c10
    have c10b1 : decide (0 < l1.length) = true := decide_eq_true (by omega)
    clear c10
    replace H := Option.bind_eq_some_iff.mp H
    obtain ⟨⟨t115, t116⟩, A110, H⟩ := H
    replace H : (if t116 ≥ 4 then (if x6_1.length < 3518437208883 then (if 0 ≤ t116 then (if t116 ≤ (l1.length : Int) then (deltachain_Encode.l0 k1 l0 (l1.drop (t116 : Int).toNat) (x6_1 ++ [(⟨t115, t116, ([] : List Int)⟩ : S37)]) false) else (none)) else (none)) else (none)) else (if x7_1 = true then (if 0 ≤ (wrap64 ((x6_1.length : Int) - 1)) then (if (wrap64 ((x6_1.length : Int) - 1)) < (x6_1.length : Int) then (if 0 < (l1.length : Int) then (if ((rd_T37 x6_1 (wrap64 ((x6_1.length : Int) - 1))).f2).length < 140737488355328 then (if 1 ≤ (l1.length : Int) then (deltachain_Encode.l0 k1 l0 (l1.drop (1 : Int).toNat) (x6_1.set ((wrap64 ((x6_1.length : Int) - 1)) : Int).toNat (⟨(rd_T37 x6_1 (wrap64 ((x6_1.length : Int) - 1))).f0, (rd_T37 x6_1 (wrap64 ((x6_1.length : Int) - 1))).f1, (((rd_T37 x6_1 (wrap64 ((x6_1.length : Int) - 1))).f2) ++ [rd l1 0])⟩ : S37)) x7_1) else (none)) else (none)) else (none)) else (none)) else (none)) else (if 0 < (l1.length : Int) then (if x6_1.length < 3518437208883 then (if 1 ≤ (l1.length : Int) then (deltachain_Encode.l0 k1 l0 (l1.drop (1 : Int).toNat) (x6_1 ++ [(⟨0, 0, (([rd l1 0] : List Int))⟩ : S37)]) true) else (none)) else (none)) else (none)))) = some (r1, r2, r3) := H
    have A11 := aZ A110
    clear A110
    by_cases c12 : t116 ≥ 4
    · rw [if_pos c12] at H
      have c12b0 : decide (4 ≤ t116) = true := decide_eq_true c12
      clear c12
      by_cases c13 : x6_1.length < 3518437208883
      rotate_left
      · rw [if_neg c13] at H
        exact absurd H (by simp)
      rw [if_pos c13] at H
      have LMc13 := aZ c13
      clear c13
      obtain ⟨y117, hy117⟩ : ∃ y_ : List (S37), y_ = (x6_1 ++ [(⟨t115, t116, ([] : List Int)⟩ : S37)]) := ⟨_, rfl⟩
      replace H : (if 0 ≤ t116 then (if t116 ≤ (l1.length : Int) then (deltachain_Encode.l0 k1 l0 (l1.drop (t116 : Int).toNat) y117 false) else (none)) else (none)) = some (r1, r2, r3) := by first | (rw [hy117]; with_reducible exact H) | (have H2_ := (Option.bind_some _ _).symm.trans H; rw [hy117]; with_reducible exact H2_) | (have H2_ := (Option.bind_some _ _).symm.trans H; with_reducible exact H2_) | with_reducible exact H | (rw [hy117]; exact H) | exact H
      have Ny117 := aZ hy117
      clear hy117
      by_cases c14 : 0 ≤ t116
      rotate_left
      · rw [if_neg c14] at H
        exact absurd H (by simp)
      rw [if_pos c14] at H
      have c14b0 := eq_true c14
      have c14b1 : decide (0 ≤ t116) = true := decide_eq_true c14
      clear c14
      by_cases c15 : t116 ≤ (l1.length : Int)
      rotate_left
      · rw [if_neg c15] at H
        exact absurd H (by simp)
      rw [if_pos c15] at H
      have c15b0 := eq_true c15
      have c15b1 : decide (t116 ≤ (l1.length : Int)) = true := decide_eq_true c15
      clear c15
      have H' := aZ H
      clear H
      go_wp2_with (first | ((with_reducible refine gate_callee (f := 25) rfl ?_); refine goesL_ (some 27) rfl rfl Try.func25 (by kernel_rfl) rfl #[.slice A0 l0.length c0, .slice A1 l1.length c1] rfl (by (try simp only [List.map_toArray, List.map_cons, List.map_nil]); first | done | rfl | (simp only [List.length_drop, List.length_take]; rfl)) ?_; (with_reducible refine (deltachain_match.calls k1 _ _ l0 _ _ l1 t115 t116 _ ?side1 ?side2 ?side3 ?side4 A11.out).mono ?_); (case side1 => repeat (first | exact (Kd.C_below HR0.out HB.out) | (with_reducible refine Kd.C_alloc ?_ _) | (with_reducible refine Kd.C_drewN ?_ _) | (with_reducible refine Kd.C_drew ?_))); (case side2 => exact HC0.out); (case side3 => repeat (first | exact (Kd.C_below HR1.out HB.out) | (with_reducible refine Kd.C_alloc ?_ _) | (with_reducible refine Kd.C_drewN ?_ _) | (with_reducible refine Kd.C_drew ?_))); (case side4 => exact HC1.out); rintro e w' ⟨rfl, ⟨nd, rfl⟩⟩; refine ⟨_, rfl, ?_⟩) | ((with_reducible refine gate_builtin (b := .append) (xs := #[.tmp 41, .tmp 45]) rfl ?_); at_builtin; refine Kd.S_append k37 (w0 := w) w.heap.size rfl (.tmp 41) (.tmp 45) 24 37 (.agg #[(.int .i64 0), (.int .i64 0), (.slice none 0 0)]) 40 rfl Try.underlying24 info37 rfl (by decide) (by omega) u6 x6_1 (⟨t115, t116, ([] : List Int)⟩ : S37) [.int .i64 t115, .int .i64 t116, .slice none 0 0] (fun _ => True) (fun _ => False) rfl rfl ?aP (fun k_ hk_ => hk_.elim) ?aF ?aO ?aB ?aS ?aL ?_; (case aP => exact k37_mkM _ _ _ (⟨t115, t116, ([] : List Int)⟩ : S37) (Kd.R_nil _ _ _ _ _)); (case aB => exact (by repeat (first | (with_reducible first | exact HB.out | apply lA | apply lN | apply lD | refine lS ?_ GE104.out) | exact HB.out))); (case aF => exact (fun _ _ => trivial)); (case aO => exact (by (with_reducible repeat (first | apply Kd.S_alloc | apply Kd.S_drewN | apply Kd.S_drew)); exact Kd.S_mono HO_6.out (fun k_ hk => ⟨trivial, fun e_ => e_⟩))); (case aS => exact (lZ (by repeat (first | (with_reducible first | exact HB.out | apply lA | apply lN | apply lD | refine lS ?_ GE104.out) | exact HB.out)))); (case aL => have := LMc13.out; omega); intro v118 w16 ho hb hg hat; rw [← Ny117.out] at ho; have n0_ := aZ (blk_grown (g := gb104) (o := .cells #[.int .i64 0, .int .i64 0] 26 (0, 0)) (by (with_reducible repeat (first | refine bN ?_ _ | refine bD ?_ | refine bA ?_ _)); exact BK104.out) hg (Kd.S_ne HO_6.out BK104.out (by decide))); have n1_ := aZ (hb); have n2_ := aZ (ho); clear BK104; clear HB; clear HO_6; have BK104 := n0_; have HB := n1_; have HO119 := n2_; clear n0_ n1_ n2_; clear ho hb hg hat; obtain ⟨i017, hi017, _, hsz17, _⟩ := info_parts info5; obtain ⟨A17, hcut17, hA17, hC17⟩ := print_drop_of (P := Try.prog) (Value.int .u8) 0 22 5 .i64 Try.underlying22 hi017 hsz17 A1 c1 l1 t116 (of_decide_eq_true (by first | (with_reducible assumption) | assumption)) (of_decide_eq_true (by first | (with_reducible assumption) | assumption)) HC1.out; have HR120 := aZ (Kd.C_of_reads (h1 := fun _ => rfl) (hA17 _ (Kd.reads_of_C HR1.out))); have HC120 := aZ hC17; clear hA17 hC17 hi017 hsz17))
      go_roundg k1
      case measure => have := HK1.out; omega
      case rel => exact ⟨(l1.drop (t116 : Int).toNat), A17, (c1 - (t116 : Int).toNat), (y117), (false), (by first | rfl | (simp; done) | (simp [*]; done) | (simp [i64_w]; done)), HR120, HC120, (by first | rfl | (simp; done) | (simp [*]; done) | (simp [i64_w]; done)), H', ⟨by have := HK1.out; omega⟩, ⟨by (with_reducible repeat (first | apply Kd.S_alloc | apply Kd.S_drewN | apply Kd.S_drew)); exact HO119.out⟩, ⟨by (with_reducible repeat (first | refine bN ?_ _ | refine bD ?_ | refine bA ?_ _)); exact BK104.out⟩, ⟨by repeat (first | (with_reducible first | exact HB.out | apply lA | apply lN | apply lD | refine lS ?_ GE104.out) | exact HB.out)⟩⟩
    rw [if_neg c12] at H
    have c12b0 : decide (4 ≤ t116) = false := decide_eq_false c12
    clear c12
    by_cases c18 : x7_1 = true
    rotate_left
    · replace c18 := Bool.eq_false_iff.mpr c18
      subst c18
      have H1 : (if 0 < (l1.length : Int) then (if x6_1.length < 3518437208883 then (if 1 ≤ (l1.length : Int) then (deltachain_Encode.l0 k1 l0 (l1.drop (1 : Int).toNat) (x6_1 ++ [(⟨0, 0, (([rd l1 0] : List Int))⟩ : S37)]) true) else (none)) else (none)) else (none)) = some (r1, r2, r3) := by rw [if_neg (show ¬ (false = true) by decide)] at H; exact H
      clear H
      have H := H1
      clear H1
      by_cases c34 : 0 < (l1.length : Int)
      rotate_left
      · rw [if_neg c34] at H
        exact absurd H (by simp)
      rw [if_pos c34] at H
      have c34b0 : decide (0 < (l1.length : Int)) = true := decide_eq_true c34
      have c34b1 : decide (0 < l1.length) = true := decide_eq_true (by omega)
      clear c34
      obtain ⟨y130, hy130⟩ : ∃ y_ : List Int, y_ = (([rd l1 0] : List Int)) := ⟨_, rfl⟩
      replace H : (if x6_1.length < 3518437208883 then (if 1 ≤ (l1.length : Int) then (deltachain_Encode.l0 k1 l0 (l1.drop (1 : Int).toNat) (x6_1 ++ [(⟨0, 0, y130⟩ : S37)]) true) else (none)) else (none)) = some (r1, r2, r3) := by first | (rw [hy130]; with_reducible exact H) | (have H2_ := (Option.bind_some _ _).symm.trans H; rw [hy130]; with_reducible exact H2_) | (have H2_ := (Option.bind_some _ _).symm.trans H; with_reducible exact H2_) | with_reducible exact H | (rw [hy130]; exact H) | exact H
      have Ny130 := aZ hy130
      clear hy130
      by_cases c35 : x6_1.length < 3518437208883
      rotate_left
      · rw [if_neg c35] at H
        exact absurd H (by simp)
      rw [if_pos c35] at H
      have LMc35 := aZ c35
      clear c35
      obtain ⟨y133, hy133⟩ : ∃ y_ : List (S37), y_ = (x6_1 ++ [(⟨0, 0, y130⟩ : S37)]) := ⟨_, rfl⟩
      replace H : (if 1 ≤ (l1.length : Int) then (deltachain_Encode.l0 k1 l0 (l1.drop (1 : Int).toNat) y133 true) else (none)) = some (r1, r2, r3) := by first | (rw [hy133]; with_reducible exact H) | (have H2_ := (Option.bind_some _ _).symm.trans H; rw [hy133]; with_reducible exact H2_) | (have H2_ := (Option.bind_some _ _).symm.trans H; with_reducible exact H2_) | with_reducible exact H | (rw [hy133]; exact H) | exact H
      have Ny133 := aZ hy133
      clear hy133
      by_cases c36 : 1 ≤ (l1.length : Int)
      rotate_left
      · rw [if_neg c36] at H
        exact absurd H (by simp)
      rw [if_pos c36] at H
      have c36b0 := eq_true c36
      have c36b1 : decide (1 ≤ (l1.length : Int)) = true := decide_eq_true c36
      clear c36
      have H' := aZ H
      clear H
      go_wp2_with (first | ((with_reducible refine gate_callee (f := 25) rfl ?_); refine goesL_ (some 27) rfl rfl Try.func25 (by kernel_rfl) rfl #[.slice A0 l0.length c0, .slice A1 l1.length c1] rfl (by (try simp only [List.map_toArray, List.map_cons, List.map_nil]); first | done | rfl | (simp only [List.length_drop, List.length_take]; rfl)) ?_; (with_reducible refine (deltachain_match.calls k1 _ _ l0 _ _ l1 t115 t116 _ ?side1 ?side2 ?side3 ?side4 A11.out).mono ?_); (case side1 => repeat (first | exact (Kd.C_below HR0.out HB.out) | (with_reducible refine Kd.C_alloc ?_ _) | (with_reducible refine Kd.C_drewN ?_ _) | (with_reducible refine Kd.C_drew ?_))); (case side2 => exact HC0.out); (case side3 => repeat (first | exact (Kd.C_below HR1.out HB.out) | (with_reducible refine Kd.C_alloc ?_ _) | (with_reducible refine Kd.C_drewN ?_ _) | (with_reducible refine Kd.C_drew ?_))); (case side4 => exact HC1.out); rintro e w' ⟨rfl, ⟨nd, rfl⟩⟩; refine ⟨_, rfl, ?_⟩; have p129 : 0 ≤ (0 : Int) := (by omega); have q129 : 0 < (l1.length : Int) := of_decide_eq_true (by first | (with_reducible assumption) | assumption); obtain ⟨ad129, e129, hx129_0⟩ := Kd.at_int HR1.out 0 p129 q129; cases e129; have qi129 : (0 < l1.length) = True := eq_true (by omega); (try rw [show ((0 : Int)).toNat = 0 from rfl] at hx129_0); (try rw [Addr.add_zero'] at hx129_0); replace hx129_0 := (HB.out.cell (World.block_lt_of_cell? w _ hx129_0)).trans hx129_0; replace p129 := eq_true p129; replace q129 := eq_true q129) | ((with_reducible refine gate_dst (N := 34) rfl ?_); refine Kd.R_lit (Kd.int .u8) _ 5 ?hg (N := 34) ?hd (xs := ([rd l1 0] : List Int)) (inner := [.int .u8 (rd l1 0)]) (ok := fun _ => True) (okp := fun _ => True) ?hr ?hp (fun _ hk => hk) trivial (Below.refl _ _) (Nat.le_refl _) (by simp) ?_; (case hd => rfl); (case hg => rfl); (case hr => first | (go_simp; done) | (go_simp; rfl)); (case hp => exact (Reps.one (show Kd.M (Kd.int .u8) _ _ _ (rd l1 0) [.int .u8 (rd l1 0)] from rfl) (Reps.none _ _))); intro v131 w37 ho38 hb hg_ hnew_; clear hg_ hnew_; (first | rw [← Ny130.out] at ho38 | (simp only [Int.reduceToNat] at ho38; rw [← Ny130.out] at ho38)); have n0_ := aZ (Kd.S_elder' (by (with_reducible repeat (first | apply Kd.S_alloc | apply Kd.S_drewN | apply Kd.S_drew)); exact HO_6.out) (Kd.R_base ho38) hb); have n1_ := aZ (Kd.R_lower ho38 (lZ (by repeat (first | (with_reducible first | exact HB.out | apply lA | apply lN | apply lD | refine lS ?_ GE104.out) | exact HB.out)))); have n2_ := aZ (blk_below (g := gb104) (o := .cells #[.int .i64 0, .int .i64 0] 26 (0, 0)) (by (with_reducible repeat (first | refine bN ?_ _ | refine bD ?_ | refine bA ?_ _)); exact BK104.out) hb); have n3_ := aZ (lT (by repeat (first | (with_reducible first | exact HB.out | apply lA | apply lN | apply lD | refine lS ?_ GE104.out) | exact HB.out)) hb); clear HO_6; clear BK104; clear HB; have HO_6 := n0_; have HO132 := n1_; have BK104 := n2_; have HB := n3_; clear n0_ n1_ n2_ n3_; clear hb ho38; obtain ⟨Ao39, co39, eo39⟩ := Kd.R_slice HO132.out; subst eo39) | ((with_reducible refine gate_builtin (b := .append) (xs := #[.tmp 30, .tmp 36]) rfl ?_); at_builtin; refine Kd.S_append k37 (w0 := w) w.heap.size rfl (.tmp 30) (.tmp 36) 24 37 (.agg #[(.int .i64 0), (.int .i64 0), (.slice none 0 0)]) 40 rfl Try.underlying24 info37 rfl (by decide) (by omega) u6 x6_1 (⟨0, 0, y130⟩ : S37) [.int .i64 0, .int .i64 0, .slice Ao39 y130.length co39] (fun _ => True) (fun k_ => some k_ = (.slice Ao39 y130.length co39 : Value).ownBlock) rfl rfl ?aP (fun k_ hk_ => ((Kd.R_mono (ok' := fun k_ => ((fun _ => True)) k_ ∧ some k_ ≠ (u6 : Value).ownBlock) (Kd.R_apart' (HO132.out) (Kd.S_typed HO_6.out) (by decide)) (fun k_ hk => ⟨trivial, hk.2⟩))).1 k_ hk_.symm) ?aF ?aO ?aB ?aS ?aL ?_; (case aP => exact k37_mkM _ _ _ (⟨0, 0, y130⟩ : S37) (Kd.R_mono (Kd.R_tight rfl (Kd.R_mono (ok' := fun k_ => ((fun _ => True)) k_ ∧ some k_ ≠ (u6 : Value).ownBlock) (Kd.R_apart' (HO132.out) (Kd.S_typed HO_6.out) (by decide)) (fun k_ hk => ⟨trivial, hk.2⟩))) (fun _ h_ => h_))); (case aB => exact (by repeat (first | (with_reducible first | exact HB.out | apply lA | apply lN | apply lD | refine lS ?_ GE104.out) | exact HB.out))); (case aF => exact (fun _ _ => trivial)); (case aO => exact (by (with_reducible repeat (first | apply Kd.S_alloc | apply Kd.S_drewN | apply Kd.S_drew)); exact Kd.S_mono HO_6.out (fun k_ hk => ⟨trivial, fun e_ => hk.2 e_⟩))); (case aS => exact (lZ (by repeat (first | (with_reducible first | exact HB.out | apply lA | apply lN | apply lD | refine lS ?_ GE104.out) | exact HB.out)))); (case aL => have := LMc35.out; omega); intro v134 w40 ho hb hg hat; rw [← Ny133.out] at ho; have n0_ := aZ (blk_grown (g := gb104) (o := .cells #[.int .i64 0, .int .i64 0] 26 (0, 0)) (by (with_reducible repeat (first | refine bN ?_ _ | refine bD ?_ | refine bA ?_ _)); exact BK104.out) hg (Kd.S_ne HO_6.out BK104.out (by decide))); have n1_ := aZ (hb); have n2_ := aZ (ho); clear BK104; clear HB; clear HO_6; clear HO132; have BK104 := n0_; have HB := n1_; have HO135 := n2_; clear n0_ n1_ n2_; clear ho hb hg hat; obtain ⟨i041, hi041, _, hsz41, _⟩ := info_parts info5; obtain ⟨A41, hcut41, hA41, hC41⟩ := print_drop_of (P := Try.prog) (Value.int .u8) 0 22 5 .i64 Try.underlying22 hi041 hsz41 (some ad129) c1 l1 1 (by omega) (of_decide_eq_true (by first | (with_reducible assumption) | assumption)) HC1.out; have HR136 := aZ (Kd.C_of_reads (h1 := fun _ => rfl) (hA41 _ (Kd.reads_of_C HR1.out))); have HC136 := aZ hC41; clear hA41 hC41 hi041 hsz41))
      go_roundg k1
      case measure => have := HK1.out; omega
      case rel => exact ⟨(l1.drop (1 : Int).toNat), A41, (c1 - (1 : Int).toNat), (y133), (true), (by first | rfl | (simp; done) | (simp [*]; done) | (simp [i64_w]; done)), HR136, HC136, (by first | rfl | (simp; done) | (simp [*]; done) | (simp [i64_w]; done)), H', ⟨by have := HK1.out; omega⟩, ⟨by (with_reducible repeat (first | apply Kd.S_alloc | apply Kd.S_drewN | apply Kd.S_drew)); exact HO135.out⟩, ⟨by (with_reducible repeat (first | refine bN ?_ _ | refine bD ?_ | refine bA ?_ _)); exact BK104.out⟩, ⟨by repeat (first | (with_reducible first | exact HB.out | apply lA | apply lN | apply lD | refine lS ?_ GE104.out) | exact HB.out)⟩⟩
    subst c18
    have H1 : (if 0 ≤ (wrap64 ((x6_1.length : Int) - 1)) then (if (wrap64 ((x6_1.length : Int) - 1)) < (x6_1.length : Int) then (if 0 < (l1.length : Int) then (if ((rd_T37 x6_1 (wrap64 ((x6_1.length : Int) - 1))).f2).length < 140737488355328 then (if 1 ≤ (l1.length : Int) then (deltachain_Encode.l0 k1 l0 (l1.drop (1 : Int).toNat) (x6_1.set ((wrap64 ((x6_1.length : Int) - 1)) : Int).toNat (⟨(rd_T37 x6_1 (wrap64 ((x6_1.length : Int) - 1))).f0, (rd_T37 x6_1 (wrap64 ((x6_1.length : Int) - 1))).f1, (((rd_T37 x6_1 (wrap64 ((x6_1.length : Int) - 1))).f2) ++ [rd l1 0])⟩ : S37)) true) else (none)) else (none)) else (none)) else (none)) else (none)) = some (r1, r2, r3) := by rw [if_pos rfl] at H; exact H
    clear H
    have H := H1
    clear H1
    obtain ⟨ji19, hji19⟩ : ∃ j_ : Int, (wrap64 ((x6_1.length : Int) - 1)) = j_ := ⟨_, rfl⟩
    replace H : (if 0 ≤ (ji19) then (if (ji19) < (x6_1.length : Int) then (if 0 < (l1.length : Int) then (if ((rd_T37 x6_1 (ji19)).f2).length < 140737488355328 then (if 1 ≤ (l1.length : Int) then (deltachain_Encode.l0 k1 l0 (l1.drop (1 : Int).toNat) (x6_1.set ((ji19) : Int).toNat (⟨(rd_T37 x6_1 (ji19)).f0, (rd_T37 x6_1 (ji19)).f1, (((rd_T37 x6_1 (ji19)).f2) ++ [rd l1 0])⟩ : S37)) true) else (none)) else (none)) else (none)) else (none)) else (none)) = some (r1, r2, r3) := by first | (rw [hji19] at H; exact H) | (simp only [hji19] at H ⊢; exact H)
    (try rw [hji19] at A11)
    have hji19w : (IntKind.i64.wrap ((x6_1.length : Int) - 1)) = ji19 := (i64_w _).trans hji19
    by_cases c20 : 0 ≤ (ji19)
    rotate_left
    · rw [if_neg c20] at H
      exact absurd H (by simp)
    rw [if_pos c20] at H
    have c20b0 : decide (0 ≤ (ji19)) = true := decide_eq_true c20
    clear c20
    by_cases c21 : (ji19) < (x6_1.length : Int)
    rotate_left
    · rw [if_neg c21] at H
      exact absurd H (by simp)
    rw [if_pos c21] at H
    have c21b0 : decide ((ji19) < (x6_1.length : Int)) = true := decide_eq_true c21
    clear c21
    by_cases c22 : 0 < (l1.length : Int)
    rotate_left
    · rw [if_neg c22] at H
      exact absurd H (by simp)
    rw [if_pos c22] at H
    have c22b0 : decide (0 < (l1.length : Int)) = true := decide_eq_true c22
    have c22b1 : decide (0 < l1.length) = true := decide_eq_true (by omega)
    clear c22
    by_cases c23 : ((rd_T37 x6_1 (ji19)).f2).length < 140737488355328
    rotate_left
    · rw [if_neg c23] at H
      exact absurd H (by simp)
    rw [if_pos c23] at H
    have LMc23 := aZ c23
    clear c23
    obtain ⟨y124, hy124⟩ : ∃ y_ : List Int, y_ = (((rd_T37 x6_1 (ji19)).f2) ++ [rd l1 0]) := ⟨_, rfl⟩
    replace H : (if 1 ≤ (l1.length : Int) then (deltachain_Encode.l0 k1 l0 (l1.drop (1 : Int).toNat) (x6_1.set ((ji19) : Int).toNat (⟨(rd_T37 x6_1 (ji19)).f0, (rd_T37 x6_1 (ji19)).f1, y124⟩ : S37)) true) else (none)) = some (r1, r2, r3) := by first | (rw [hy124]; with_reducible exact H) | (have H2_ := (Option.bind_some _ _).symm.trans H; rw [hy124]; with_reducible exact H2_) | (have H2_ := (Option.bind_some _ _).symm.trans H; with_reducible exact H2_) | with_reducible exact H | (rw [hy124]; exact H) | exact H
    have Ny124 := aZ hy124
    clear hy124
    obtain ⟨y127, hy127⟩ : ∃ y_ : List (S37), y_ = (x6_1.set ((ji19) : Int).toNat (⟨(rd_T37 x6_1 (ji19)).f0, (rd_T37 x6_1 (ji19)).f1, y124⟩ : S37)) := ⟨_, rfl⟩
    replace H : (if 1 ≤ (l1.length : Int) then (deltachain_Encode.l0 k1 l0 (l1.drop (1 : Int).toNat) y127 true) else (none)) = some (r1, r2, r3) := by first | (rw [hy127]; with_reducible exact H) | (have H2_ := (Option.bind_some _ _).symm.trans H; rw [hy127]; with_reducible exact H2_) | (have H2_ := (Option.bind_some _ _).symm.trans H; with_reducible exact H2_) | with_reducible exact H | (rw [hy127]; exact H) | exact H
    have Ny127 := aZ hy127
    clear hy127
    by_cases c25 : 1 ≤ (l1.length : Int)
    rotate_left
    · rw [if_neg c25] at H
      exact absurd H (by simp)
    rw [if_pos c25] at H
    have c25b0 := eq_true c25
    have c25b1 : decide (1 ≤ (l1.length : Int)) = true := decide_eq_true c25
    clear c25
    have H' := aZ H
    clear H
    try go_wp2_with (first | ((with_reducible refine gate_callee (f := 25) rfl ?_); refine goesL_ (some 27) rfl rfl Try.func25 (by kernel_rfl) rfl #[.slice A0 l0.length c0, .slice A1 l1.length c1] rfl (by (try simp only [List.map_toArray, List.map_cons, List.map_nil]); first | done | rfl | (simp only [List.length_drop, List.length_take]; rfl)) ?_; (with_reducible refine (deltachain_match.calls k1 _ _ l0 _ _ l1 t115 t116 _ ?side1 ?side2 ?side3 ?side4 A11.out).mono ?_); (case side1 => repeat (first | exact (Kd.C_below HR0.out HB.out) | (with_reducible refine Kd.C_alloc ?_ _) | (with_reducible refine Kd.C_drewN ?_ _) | (with_reducible refine Kd.C_drew ?_))); (case side2 => exact HC0.out); (case side3 => repeat (first | exact (Kd.C_below HR1.out HB.out) | (with_reducible refine Kd.C_alloc ?_ _) | (with_reducible refine Kd.C_drewN ?_ _) | (with_reducible refine Kd.C_drew ?_))); (case side4 => exact HC1.out); rintro e w' ⟨rfl, ⟨nd, rfl⟩⟩; refine ⟨_, rfl, ?_⟩; (try (rw [drewN_self wr]; generalize hq_ : World.drewN wr _ = wr; have n0_ : Aside0 (Kd.S k37 37 wr w.heap.size (fun _ => True) u6 x6_1) := ⟨by rw [← hq_]; exact (by (with_reducible repeat (first | apply Kd.S_alloc | apply Kd.S_drewN | apply Kd.S_drew)); exact HO_6.out)⟩; have n1_ : Aside0 (wr.heap[gb104]? = some (.cells #[.int .i64 0, .int .i64 0] 26 (0, 0))) := ⟨by rw [← hq_]; exact (by (with_reducible repeat (first | refine bN ?_ _ | refine bD ?_ | refine bA ?_ _)); exact BK104.out)⟩; have n2_ : Aside0 (Below w.heap.size w wr) := ⟨by rw [← hq_]; exact (by repeat (first | (with_reducible first | exact HB.out | apply lA | apply lN | apply lD | refine lS ?_ GE104.out) | exact HB.out))⟩; clear HO_6 BK104 HB hq_; have HO_6 := n0_; have BK104 := n1_; have HB := n2_; clear n0_ n1_ n2_)); obtain ⟨Ao26, co26, eo26⟩ := Kd.S_slice HO_6.out; subst eo26; have p121 : 0 ≤ ((ji19) : Int) := of_decide_eq_true (by first | (with_reducible assumption) | assumption); have q121 : (ji19) < (x6_1.length : Int) := of_decide_eq_true (by first | (with_reducible assumption) | assumption); obtain ⟨ad121, A121_2, c121_2, e121, hx121_0, hx121_1, hx121_2, hl121_2, hi121_2⟩ := at_T37 (Kd.S_reads' HO_6.out).2.2 (ji19) p121 q121; cases e121; obtain ⟨ce121, hce121, hMe121, hcc121⟩ := Kd.S_get HO_6.out z37 (ji19) p121 (by first | exact q121 | exact of_decide_eq_true (by first | (with_reducible assumption) | assumption) | (have e_ := (Kd.S_reads' HO_6.out).1; omega)); obtain ⟨ve121_2, rfl, ge121_2⟩ := k37_openM hMe121; have hv121_2 := hcc121 2 _ rfl; rw [add_field _ _ 2 (by omega)] at hv121_2; replace hv121_2 := Option.some.inj (hv121_2.symm.trans hx121_2); rw [hv121_2] at ge121_2; have HL121_2 := aZ (show Kd.R (Kd.int .u8) 5 _ _ _ _ ((rd_T37 x6_1 (ji19)).f2) from ge121_2); clear hv121_2 ge121_2; have HX121_2 := aZ hx121_2; clear hcc121 hce121; have HR121_2 := aZ hi121_2; have HC121_2 := aZ hl121_2; clear hi121_2 hl121_2; replace p121 := eq_true p121; replace q121 := eq_true q121))
    have n0_ := aZ (Kd.S_drew HO_6.out)
    have n1_ := aZ (Kd.rD HL121_2.out)
    have n2_ := aZ (bD BK104.out)
    have n3_ := aZ (Kd.C_drew HR121_2.out)
    have n4_ := aZ (lD HB.out)
    clear HO_6
    clear HL121_2
    clear BK104
    clear HR121_2
    clear HB
    have HO_6 := n0_
    have HL121_2 := n1_
    have BK104 := n2_
    have HR121_2 := n3_
    have HB := n4_
    clear n0_ n1_ n2_ n3_ n4_
    have p122 : 0 ≤ ((ji19) : Int) := of_decide_eq_true (by first | (with_reducible assumption) | assumption)
    have q122 : (ji19) < (x6_1.length : Int) := of_decide_eq_true (by first | (with_reducible assumption) | assumption)
    obtain ⟨ad122, A122_2, c122_2, e122, hx122_0, hx122_1, hx122_2, hl122_2, hi122_2⟩ := at_T37 (Kd.S_reads' HO_6.out).2.2 (ji19) p122 q122
    obtain rfl : ad121 = ad122 := (by injection e122)
    obtain ⟨ce122, hce122, hMe122, hcc122⟩ := Kd.S_get HO_6.out z37 (ji19) p122 (by first | exact q122 | exact of_decide_eq_true (by first | (with_reducible assumption) | assumption) | (have e_ := (Kd.S_reads' HO_6.out).1; omega))
    obtain ⟨ve122_2, rfl, ge122_2⟩ := k37_openM hMe122
    have hv122_2 := hcc122 2 _ rfl
    rw [add_field _ _ 2 (by omega)] at hv122_2
    replace hv122_2 := Option.some.inj (hv122_2.symm.trans hx122_2)
    rw [hv122_2] at ge122_2
    have HL122_2 := aZ (show Kd.R (Kd.int .u8) 5 _ _ _ _ ((rd_T37 x6_1 (ji19)).f2) from ge122_2)
    clear hv122_2 ge122_2
    have HX122_2 := aZ hx122_2
    clear hcc122 hce122
    have HR122_2 := aZ hi122_2
    have HC122_2 := aZ hl122_2
    clear hi122_2 hl122_2
    replace p122 := eq_true p122
    replace q122 := eq_true q122
    have p123 : 0 ≤ (0 : Int) := (by omega)
    have q123 : 0 < (l1.length : Int) := of_decide_eq_true (by first | (with_reducible assumption) | assumption)
    obtain ⟨ad123, e123, hx123_0⟩ := Kd.at_int HR1.out 0 p123 q123
    have hw123_0 := hx123_0
    (try rw [show ((0 : Int)).toNat = 0 from rfl] at hw123_0)
    (try rw [show 0 * 1 = 0 from rfl] at hw123_0)
    (try rw [Addr.add_zero'] at hw123_0)
    cases e123
    have qi123 : (0 < l1.length) = True := eq_true (by omega)
    (try rw [show ((0 : Int)).toNat = 0 from rfl] at hx123_0)
    (try rw [Addr.add_zero'] at hx123_0)
    replace hx123_0 := (HB.out.cell (World.block_lt_of_cell? w _ hx123_0)).trans hx123_0
    replace p123 := eq_true p123
    replace q123 := eq_true q123
    obtain ⟨go28, co28, eo28, gb28, gl28, cl28, HG28⟩ := Kd.S_form HO_6.out (by have h_ : ((ji19) : Int) < ((x6_1.length : Int) : Int) := of_decide_eq_true (by first | (with_reducible assumption) | assumption); have h2_ : 0 ≤ ((ji19) : Int) := (of_decide_eq_true (by first | (with_reducible assumption) | assumption)); omega)
    (first | cases eo28 | (injection eo28 with ea_ en_ ec_; (first | subst ea_ | (injection ea_ with ea_; subst ea_)); subst ec_; clear en_))
    have GB28 := aZ gb28
    have GG28 := aZ HG28
    clear gb28 gl28 HG28
    (first | simp only [add_plain] at hx121_0 | skip)
    (first | simp only [add_plain] at hx121_1 | skip)
    (first | simp only [add_plain] at hx121_2 | skip)
    (first | simp only [add_plain] at hx122_0 | skip)
    (first | simp only [add_plain] at hx122_1 | skip)
    (first | simp only [add_plain] at hx122_2 | skip)
    obtain ⟨oki28, ce28, hcl28, hM28, hcc28, _, _, hH28⟩ := Kd.S_elem HO_6.out z37 ((ji19) : Int) (of_decide_eq_true (by first | (with_reducible assumption) | assumption)) (by have h_ : ((ji19) : Int) < ((x6_1.length : Int) : Int) := of_decide_eq_true (by first | (with_reducible assumption) | assumption); first | exact h_ | (have e_ := (Kd.S_reads' HO_6.out).1; omega) | simpa using h_)
    obtain ⟨ve28_2, rfl, ge28_2⟩ := k37_openM hM28
    have hv28 := hcc28 2 _ rfl
    have hX28 := HX122_2.out
    (try simp only [add_plain] at hX28)
    (try simp only [Nat.add_zero] at hv28)
    replace hv28 := Option.some.inj (hv28.symm.trans hX28)
    subst hv28
    clear hX28 hcc28 hcl28
    have UU28 := aZ (show Kd.R (Kd.int .u8) 5 _ w.heap.size oki28 (.slice A122_2 ((rd_T37 x6_1 (ji19)).f2).length c122_2) ((rd_T37 x6_1 (ji19)).f2) from ge28_2)
    have HH28 := aZ hH28
    have HN28 := aZ (Kd.S_reads' HO_6.out).1
    clear hH28 ge28_2
    refine start_ (n := 13) (S := fun w' => w'.cell? ⟨go28, (((ji19)).toNat * 3), none⟩ = some (.int .i64 ((rd_T37 x6_1 (ji19)).f0)) ∧ w'.cell? ⟨go28, (((ji19)).toNat * 3) + 1, none⟩ = some (.int .i64 ((rd_T37 x6_1 (ji19)).f1)) ∧ w'.cell? ⟨go28, (((ji19)).toNat * 3) + 2, none⟩ = some (.slice A122_2 ((rd_T37 x6_1 (ji19)).f2).length c122_2) ∧ w'.cell? ad123 = some (.int .u8 (rd l1 0))) (ds := [12]) Z1 (by kernel_rfl) rfl rfl ⟨hx122_0, hx122_1, hx122_2, ((HB.out.cell (World.block_lt_of_cell? w _ hw123_0)).trans hw123_0)⟩ (fun hHeld => ?_); refine with_tabW deltachain_Encode.tab18 deltachain_Encode.bits18 (fun HT_ HW_ => ?_)
    generalize wr.drew = w27 at HO_6 HL121_2 BK104 HR121_2 HB GG28 HH28 HL122_2 HR122_2 HX122_2 UU28 hx121_0 hx121_1 hx121_2 hx122_0 hx122_1 hx122_2 hx123_0 hHeld ⊢
    refine pu 0 54 Z2 HT_ rfl rfl (h := ?_)
    refine pu 1 55 Z3 HT_ rfl rfl (h := ?_)
    refine pu 2 56 Z4 HT_ rfl rfl (h := ?_)
    refine pu 3 57 Z5 HT_ rfl rfl (h := ?_)
    refine pu 5 59 Z6 HT_ rfl rfl (h := ?_)
    refine pu 6 60 Z7 HT_ rfl rfl (h := ?_)
    refine tk 4 58 Z8 HT_ HW_ rfl rfl hHeld (by rintro w' ⟨s0, s1, s2, s3⟩; go_simp; with_reducible rfl) (h := ?_)
    refine tk 7 61 Z9 HT_ HW_ rfl rfl hHeld (by rintro w' ⟨s0, s1, s2, s3⟩; go_simp; with_reducible rfl) (h := ?_)
    refine one_ (i := 8) (N := some 62) Z10 rfl rfl (one_of HT_.out (by kernel_rfl)) (by decide) (fun K hK => ?_)
    refine value_ (w1 := ?_) (v := ?_) (by rfl) rfl ?_ ?_
    rotate_left 2
    · go_simp
      constructor
      · rfl
      · rfl
    refine hK.out _ _ ⟨(World.cell?_alloc_lt _ _ _ (World.block_lt_of_cell? _ _ (hHeld.1))).trans (hHeld.1), (World.cell?_alloc_lt _ _ _ (World.block_lt_of_cell? _ _ (hHeld.2.1))).trans (hHeld.2.1), (World.cell?_alloc_lt _ _ _ (World.block_lt_of_cell? _ _ (hHeld.2.2.1))).trans (hHeld.2.2.1), (World.cell?_alloc_lt _ _ _ (World.block_lt_of_cell? _ _ (((HB.out.cell (World.block_lt_of_cell? w _ hw123_0)).trans hw123_0)))).trans (((HB.out.cell (World.block_lt_of_cell? w _ hw123_0)).trans hw123_0))⟩ (fun hHeld => ?_)
    clear hK K
    refine norm_ (a' := ?_) ?_ ?_
    rotate_left
    · show Act.put _ (some 62) _ = _
      simp only [Act.put, List.setIfInBounds_toArray, List.set_cons_zero, List.set_cons_succ, i64_w, i32_w]
      rfl
    refine one_ (i := 9) (N := some 63) Z11 rfl rfl (one_of HT_.out (by kernel_rfl)) (by decide) (fun K hK => ?_)
    refine Kd.R_append_step (Kd.int .u8) (w0 := w) w.heap.size (by rfl) (.tmp 58) (.tmp 62) 22 5 (.int .u8 0) 1 rfl Try.underlying22 info5 rfl (by decide) (by omega) (.slice A122_2 ((rd_T37 x6_1 (ji19)).f2).length c122_2) ((rd_T37 x6_1 (ji19)).f2) (rd l1 0) [.int .u8 (rd l1 0)] (fun k_ => oki28 k_ ∨ ((fun _ => True)) k_ ∧ w27.heap.size ≤ k_) (fun _ => False) rfl rfl ?aP (fun _ hk => hk.elim) ?aF ?aO ?aB ?aS ?aL ?_
    (case aP => exact rfl)
    (case aB => exact (by repeat (first | (with_reducible first | exact HB.out | apply lA | apply lN | apply lD | refine lS ?_ GE104.out) | exact HB.out)))
    (case aF => exact (fun k_ hk => .inr ⟨trivial, hk⟩))
    (case aO => exact (by (with_reducible repeat (first | apply Kd.rA | apply Kd.rN | apply Kd.rD)); exact Kd.R_mono UU28.out (fun _ hk => .inl hk)))
    (case aS => exact (lZ (by repeat (first | (with_reducible first | exact HB.out | apply lA | apply lN | apply lD | refine lS ?_ GE104.out) | exact HB.out))))
    (case aL => have := LMc23.out; omega)
    intro v125 w29 ho hb hg hat
    (first | have HS0_ := cell_grown hg (hHeld.1) (by first | (rw [add_block]; exact (fun e_ => ((HL122_2.out.1 _ e_.symm).2) rfl)) | (show some (Addr.add _ _).block ≠ _; rw [add_block]; exact (fun e_ => ((HL122_2.out.1 _ e_.symm).2) rfl)) | exact (fun e_ => ((HL122_2.out.1 _ e_.symm).2) rfl)) | have HS0_ := cell_grown hg (cell_unalloc (hHeld.1) (by first | (rw [add_block]; exact Kd.S_lt HO_6.out _ rfl) | (show (Addr.add _ _).block < _; rw [add_block]; exact Kd.S_lt HO_6.out _ rfl) | exact Kd.S_lt HO_6.out _ rfl)) (by first | (rw [add_block]; exact (fun e_ => ((HL122_2.out.1 _ e_.symm).2) rfl)) | (show some (Addr.add _ _).block ≠ _; rw [add_block]; exact (fun e_ => ((HL122_2.out.1 _ e_.symm).2) rfl)) | exact (fun e_ => ((HL122_2.out.1 _ e_.symm).2) rfl)))
    (first | have HS1_ := cell_grown hg (hHeld.2.1) (by first | (rw [add_block]; exact (fun e_ => ((HL122_2.out.1 _ e_.symm).2) rfl)) | (show some (Addr.add _ _).block ≠ _; rw [add_block]; exact (fun e_ => ((HL122_2.out.1 _ e_.symm).2) rfl)) | exact (fun e_ => ((HL122_2.out.1 _ e_.symm).2) rfl)) | have HS1_ := cell_grown hg (cell_unalloc (hHeld.2.1) (by first | (rw [add_block]; exact Kd.S_lt HO_6.out _ rfl) | (show (Addr.add _ _).block < _; rw [add_block]; exact Kd.S_lt HO_6.out _ rfl) | exact Kd.S_lt HO_6.out _ rfl)) (by first | (rw [add_block]; exact (fun e_ => ((HL122_2.out.1 _ e_.symm).2) rfl)) | (show some (Addr.add _ _).block ≠ _; rw [add_block]; exact (fun e_ => ((HL122_2.out.1 _ e_.symm).2) rfl)) | exact (fun e_ => ((HL122_2.out.1 _ e_.symm).2) rfl)))
    (first | have HS2_ := cell_grown hg (hHeld.2.2.1) (by first | (rw [add_block]; exact (fun e_ => ((HL122_2.out.1 _ e_.symm).2) rfl)) | (show some (Addr.add _ _).block ≠ _; rw [add_block]; exact (fun e_ => ((HL122_2.out.1 _ e_.symm).2) rfl)) | exact (fun e_ => ((HL122_2.out.1 _ e_.symm).2) rfl)) | have HS2_ := cell_grown hg (cell_unalloc (hHeld.2.2.1) (by first | (rw [add_block]; exact Kd.S_lt HO_6.out _ rfl) | (show (Addr.add _ _).block < _; rw [add_block]; exact Kd.S_lt HO_6.out _ rfl) | exact Kd.S_lt HO_6.out _ rfl)) (by first | (rw [add_block]; exact (fun e_ => ((HL122_2.out.1 _ e_.symm).2) rfl)) | (show some (Addr.add _ _).block ≠ _; rw [add_block]; exact (fun e_ => ((HL122_2.out.1 _ e_.symm).2) rfl)) | exact (fun e_ => ((HL122_2.out.1 _ e_.symm).2) rfl)))
    rw [← Ny124.out] at ho
    have n0_ := aZ (blk_grown (g := gb104) (o := .cells #[.int .i64 0, .int .i64 0] 26 (0, 0)) (by (with_reducible repeat (first | refine bN ?_ _ | refine bD ?_ | refine bA ?_ _)); exact BK104.out) hg (Kd.R_ne HL122_2.out BK104.out (by decide)))
    have n1_ := aZ (hb)
    have n2_ := aZ (Kd.H_grown (Kd.H_widen (by repeat (first | exact HH28.out | refine Kd.H_alloc ?_ _ | refine Kd.H_drewN ?_ _ | refine Kd.H_drew ?_))) hg (fun k_ e_ => .inl (UU28.out.1 k_ e_)))
    have n3_ := aZ (ho)
    clear BK104
    clear HB
    clear HH28
    clear HO_6
    clear UU28
    clear HL121_2
    clear HL122_2
    have BK104 := n0_
    have HB := n1_
    have HH28 := n2_
    have HO126 := n3_
    clear n0_ n1_ n2_ n3_
    clear ho hb hg hat
    have p24 : 0 ≤ ((ji19) : Int) := of_decide_eq_true (by first | (with_reducible assumption) | assumption)
    have q24 : ((ji19) : Int) < ((x6_1.length : Int) : Int) := of_decide_eq_true (by first | (with_reducible assumption) | assumption)
    replace p24 := eq_true p24
    replace q24 := eq_true q24
    obtain ⟨Ao32, co32, eo32⟩ := Kd.R_slice HO126.out
    (first | subst eo32 | (injection eo32 with f1_ f2_ f3_; have f4_ := f1_.symm; have f5_ := f3_.symm; clear f1_ f2_ f3_; subst f4_; subst f5_))
    obtain ⟨_, _, hraw30, _, _, hcc30, _⟩ := Kd.H_raw HH28.out (of_decide_eq_true (by first | (with_reducible assumption) | assumption)) (by have h_ : ((ji19) : Int) < ((x6_1.length : Int) : Int) := of_decide_eq_true (by first | (with_reducible assumption) | assumption); first | exact h_ | (have e_ := (HN28.out); omega) | simpa using h_)
    obtain ⟨_, hfr30⟩ := Kd.H_at HH28.out (of_decide_eq_true (by first | (with_reducible assumption) | assumption)) (by have h_ : ((ji19) : Int) < ((x6_1.length : Int) : Int) := of_decide_eq_true (by first | (with_reducible assumption) | assumption); first | exact h_ | (have e_ := (HN28.out); omega) | simpa using h_)
    have hx30_0 := hcc30 2 _ rfl
    have hf30_0 := hfr30 2
    (try rw [show (k37).sz = 3 from rfl] at hx30_0)
    (try rw [show (k37).sz = 3 from rfl] at hf30_0)
    have HP30 := Kd.S_seg0 HH28.out (of_decide_eq_true (by first | (with_reducible assumption) | assumption)) (by have h_ : ((ji19) : Int) < ((x6_1.length : Int) : Int) := of_decide_eq_true (by first | (with_reducible assumption) | assumption); first | exact h_ | (have e_ := (HN28.out); omega) | simpa using h_) (seg := [.slice Ao32 y124.length co32]) (j := 2) (show 3 ≤ 3 from by decide) (x' := (⟨(rd_T37 x6_1 (ji19)).f0, (rd_T37 x6_1 (ji19)).f1, y124⟩ : S37)) (k37_mkM _ _ _ (⟨(rd_T37 x6_1 (ji19)).f0, (rd_T37 x6_1 (ji19)).f1, y124⟩ : S37) HO126.out) (fun _ hk => hk)
    clear hcc30 hfr30
    have HNB104_go28 := aZ (show gb104 ≠ go28 from by have h_ := Kd.R_ne hraw30 BK104.out (by decide); intro e_; exact h_ (by rw [e_]; rfl))
    have HS30 := HP30.1
    rw [← Ny127.out] at HS30
    have HQ30 := aZ HS30
    obtain ⟨_, hgg30⟩ := Kd.R_typed hraw30 go28 rfl
    have GG30_ := aZ hgg30
    clear HP30 HS30 hgg30
    refine hK.out _ _ ⟨HS0_, HS1_, HS2_, ((HB.out.cell (World.block_lt_of_cell? w _ hw123_0)).trans hw123_0)⟩ (fun hHeld => ?_)
    clear hK K
    refine norm_ (a' := ?_) ?_ ?_
    rotate_left
    · show Act.put _ (some 63) _ = _
      simp only [Act.put, List.setIfInBounds_toArray, List.set_cons_zero, List.set_cons_succ, i64_w, i32_w]
      rfl
    refine pu 10 64 Z12 HT_ rfl rfl (h := ?_)
    refine pu 11 65 Z13 HT_ rfl rfl (h := ?_)
    refine last_ (i := 12) (N := none) Z14 rfl rfl (one_of HT_.out (by kernel_rfl)) (by decide) (fun K hK => ?_)
    refine skip_ (w1 := ?_) (by rfl) rfl ?_ ?_
    rotate_left
    · go_simp
      rfl
    refine hK.out _ _ ?_
    clear hK K
    refine done_ (done_of HT_.out (by kernel_rfl)) ?_
    obtain ⟨i033, hi033, _, hsz33, _⟩ := info_parts info5
    obtain ⟨A33, hcut33, hA33, hC33⟩ := print_drop_of (P := Try.prog) (Value.int .u8) 0 22 5 .i64 Try.underlying22 hi033 hsz33 (some ad123) c1 l1 1 (by omega) (of_decide_eq_true (by first | (with_reducible assumption) | assumption)) HC1.out
    have HR128 := aZ (Kd.C_of_reads (h1 := fun _ => rfl) (hA33 _ (Kd.reads_of_C HR1.out)))
    have HC128 := aZ hC33
    clear hA33 hC33 hi033 hsz33
    try go_wp2
    go_roundg k1
    case measure => have := HK1.out; omega
    case rel => exact ⟨(l1.drop (1 : Int).toNat), A33, (c1 - (1 : Int).toNat), (y127), (true), (by first | rfl | (simp; done) | (simp [*]; done) | (simp [i64_w]; done)), HR128, HC128, (by first | rfl | (simp; done) | (simp [*]; done) | (simp [i64_w]; done)), H', ⟨by have := HK1.out; omega⟩, ⟨by (with_reducible repeat (first | apply Kd.S_alloc | apply Kd.S_drewN | apply Kd.S_drew)); exact HQ30.out⟩, ⟨by (with_reducible repeat (first | refine bN ?_ _ | refine bD ?_ | refine bA ?_ _)); refine blk_far ?_ HNB104_go28.out _; (with_reducible repeat (first | refine bN ?_ _ | refine bD ?_ | refine bA ?_ _)); exact BK104.out⟩, ⟨by repeat (first | (with_reducible first | exact HB.out | apply lA | apply lN | apply lD | refine lS ?_ GB28.out | refine lS ?_ GE104.out) | exact HB.out)⟩⟩
end Go.Proofs.Ytgmpnghgmcgghaa.P
