/- What the Go functions of this seat compute, and that they do: printed by a program over the kit's print. -/
import Derived.Test.YtgmpnghgmcgghaaP0
import Derived.Test.YtgmpnghgmcgghaaP2
namespace Go.Proofs.Ytgmpnghgmcgghaa.P
open Go.RowKit Go.Proofs.YtgmpnghgmcgghaaW.PrintWords Go.Proofs.YtgmpnghgmcgghaaW.PrintLast Go.Proofs.YtgmpnghgmcgghaaW.PrintMore
attribute [local go_sem] max2_int min2_int max_two min_two max_three min_three max_four min_four   -- for this text's walks alone
set_option linter.unusedVariables false
set_option linter.unusedSimpArgs false

/-! ### deltachain_Apply: function 15 -/
mutual
def deltachain_Apply.l0 : Nat → List Int → List Int → List (S37) → Int → Int → Option (List Int × Int × Int)
  | 0, _, _, _, _, _ => none
  | k + 1, x0, x6, x18, x19, x20 => if x20 < x19 then (if 0 ≤ x20 then (if x20 < (x18.length : Int) then (if ((rd_T37 x18 x20).f1) < 0 then (deltachain_Apply.j1 k x0 x6 x20 x18 x19 x20 true ((rd_T37 x18 x20).f0) ((rd_T37 x18 x20).f1) ((rd_T37 x18 x20).f2)) else (if ((rd_T37 x18 x20).f1) > 0 then (if ((rd_T37 x18 x20).f0) < 0 then (deltachain_Apply.j1 k x0 x6 x20 x18 x19 x20 true ((rd_T37 x18 x20).f0) ((rd_T37 x18 x20).f1) ((rd_T37 x18 x20).f2)) else (if ((rd_T37 x18 x20).f0) > (x0.length : Int) then (deltachain_Apply.j1 k x0 x6 x20 x18 x19 x20 true ((rd_T37 x18 x20).f0) ((rd_T37 x18 x20).f1) ((rd_T37 x18 x20).f2)) else (deltachain_Apply.j1 k x0 x6 x20 x18 x19 x20 (decide (((rd_T37 x18 x20).f1) > (wrap64 ((x0.length : Int) - ((rd_T37 x18 x20).f0))))) ((rd_T37 x18 x20).f0) ((rd_T37 x18 x20).f1) ((rd_T37 x18 x20).f2)))) else (deltachain_Apply.j1 k x0 x6 x20 x18 x19 x20 false ((rd_T37 x18 x20).f0) ((rd_T37 x18 x20).f1) ((rd_T37 x18 x20).f2)))) else (none)) else (none)) else (some (x6, 0, 0))
def deltachain_Apply.j1 : Nat → List Int → List Int → Int → List (S37) → Int → Int → Bool → Int → Int → List Int → Option (List Int × Int × Int)
  | 0, _, _, _, _, _, _, _, _, _, _ => none
  | k + 1, x0, x6, x7, x18, x19, x20, x25, x145000, x145001, x145002 => if x25 = true then (some (([] : List Int), 3, x7)) else (if x145001 > 0 then (if (x145002.length : Int) > 0 then (deltachain_Apply.j2 k x0 x6 x7 x18 x19 x20 true x145000 x145001 x145002) else (if x145001 = 0 then (if x145000 = 0 then (deltachain_Apply.j2 k x0 x6 x7 x18 x19 x20 ((x145002.length : Int) == 0) x145000 x145001 x145002) else (deltachain_Apply.j2 k x0 x6 x7 x18 x19 x20 true x145000 x145001 x145002)) else (deltachain_Apply.j2 k x0 x6 x7 x18 x19 x20 false x145000 x145001 x145002))) else (if x145001 = 0 then (if x145000 = 0 then (deltachain_Apply.j2 k x0 x6 x7 x18 x19 x20 ((x145002.length : Int) == 0) x145000 x145001 x145002) else (deltachain_Apply.j2 k x0 x6 x7 x18 x19 x20 true x145000 x145001 x145002)) else (deltachain_Apply.j2 k x0 x6 x7 x18 x19 x20 false x145000 x145001 x145002)))
def deltachain_Apply.j2 : Nat → List Int → List Int → Int → List (S37) → Int → Int → Bool → Int → Int → List Int → Option (List Int × Int × Int)
  | 0, _, _, _, _, _, _, _, _, _, _ => none
  | k + 1, x0, x6, x7, x18, x19, x20, x58, x145000, x145001, x145002 => if x58 = true then (some (([] : List Int), 5, x7)) else (if (wrap64 ((wrap64 ((x6.length : Int) + x145001)) + (x145002.length : Int))) > 1000 then (some (([] : List Int), 10, x7)) else (if x145001 > 0 then (if 0 ≤ x145000 then (if x145000 ≤ (wrap64 (x145000 + x145001)) then (if (wrap64 (x145000 + x145001)) ≤ (x0.length : Int) then (if x6.length + ((x0.take ((wrap64 (x145000 + x145001)) : Int).toNat).drop (x145000 : Int).toNat).length < 140737488355328 then ((some (x6 ++ ((x0.take ((wrap64 (x145000 + x145001)) : Int).toNat).drop (x145000 : Int).toNat) : List Int)).bind fun y146 => (if y146.length + x145002.length < 140737488355328 then (deltachain_Apply.l0 k x0 (y146 ++ x145002) x18 x19 (wrap64 (x20 + 1))) else (none))) else (none)) else (none)) else (none)) else (none)) else (if x6.length + x145002.length < 140737488355328 then (deltachain_Apply.l0 k x0 (x6 ++ x145002) x18 x19 (wrap64 (x20 + 1))) else (none))))
end
def deltachain_Apply.f (k : Nat) (l0 : List Int) (l1 : List (S37)) : Option (List Int × Int × Int) := (deltachain_sized.f k (([l0] : List (List Int)))).bind fun t142 => (if t142 = true then (if (l1.length : Int) > 1000 then (some (([] : List Int), 2, (-1))) else (deltachain_Apply.l0 k l0 ([] : List Int) l1 (l1.length : Int) 0)) else (some (([] : List Int), 10, (-1))))
theorem deltachain_Apply.mono_l : ∀ k, (∀ y0 y1 y2 y3 y4, LeO (deltachain_Apply.l0 k y0 y1 y2 y3 y4) (deltachain_Apply.l0 (k + 1) y0 y1 y2 y3 y4)) ∧ (∀ y0 y1 y2 y3 y4 y5 y6 y7 y8 y9, LeO (deltachain_Apply.j1 k y0 y1 y2 y3 y4 y5 y6 y7 y8 y9) (deltachain_Apply.j1 (k + 1) y0 y1 y2 y3 y4 y5 y6 y7 y8 y9)) ∧ (∀ y0 y1 y2 y3 y4 y5 y6 y7 y8 y9, LeO (deltachain_Apply.j2 k y0 y1 y2 y3 y4 y5 y6 y7 y8 y9) (deltachain_Apply.j2 (k + 1) y0 y1 y2 y3 y4 y5 y6 y7 y8 y9))
  | 0 => ⟨fun _ _ _ _ _ r h => by simp [deltachain_Apply.l0] at h, fun _ _ _ _ _ _ _ _ _ _ r h => by simp [deltachain_Apply.j1] at h, fun _ _ _ _ _ _ _ _ _ _ r h => by simp [deltachain_Apply.j2] at h⟩
  | k + 1 => by
    obtain ⟨ih0, ih1, ih2⟩ := deltachain_Apply.mono_l k
    refine ⟨?_, ?_, ?_⟩
    · intro y0 y1 y2 y3 y4
      unfold deltachain_Apply.l0
      repeat' first
      | (with_reducible exact ih0 _ _ _ _ _)
      | (with_reducible exact ih1 _ _ _ _ _ _ _ _ _ _)
      | (with_reducible exact ih2 _ _ _ _ _ _ _ _ _ _)
      | (with_reducible exact deltachain_sized.mono _ _)
      | (with_reducible exact LeO.refl _)
      | (with_reducible exact LeO.none _)
      | (with_reducible refine LeO.ite ?_ ?_)
      | (with_reducible refine LeO.bind ?_ (fun _ => ?_))
      | exact ih0 _ _ _ _ _
      | exact ih1 _ _ _ _ _ _ _ _ _ _
      | exact ih2 _ _ _ _ _ _ _ _ _ _
      | exact deltachain_sized.mono _ _
      | exact LeO.none _
      | refine LeO.ite ?_ ?_
      | refine LeO.bind ?_ (fun _ => ?_)
    · intro y0 y1 y2 y3 y4 y5 y6 y7 y8 y9
      unfold deltachain_Apply.j1
      repeat' first
      | (with_reducible exact ih0 _ _ _ _ _)
      | (with_reducible exact ih1 _ _ _ _ _ _ _ _ _ _)
      | (with_reducible exact ih2 _ _ _ _ _ _ _ _ _ _)
      | (with_reducible exact deltachain_sized.mono _ _)
      | (with_reducible exact LeO.refl _)
      | (with_reducible exact LeO.none _)
      | (with_reducible refine LeO.ite ?_ ?_)
      | (with_reducible refine LeO.bind ?_ (fun _ => ?_))
      | exact ih0 _ _ _ _ _
      | exact ih1 _ _ _ _ _ _ _ _ _ _
      | exact ih2 _ _ _ _ _ _ _ _ _ _
      | exact deltachain_sized.mono _ _
      | exact LeO.none _
      | refine LeO.ite ?_ ?_
      | refine LeO.bind ?_ (fun _ => ?_)
    · intro y0 y1 y2 y3 y4 y5 y6 y7 y8 y9
      unfold deltachain_Apply.j2
      repeat' first
      | (with_reducible exact ih0 _ _ _ _ _)
      | (with_reducible exact ih1 _ _ _ _ _ _ _ _ _ _)
      | (with_reducible exact ih2 _ _ _ _ _ _ _ _ _ _)
      | (with_reducible exact deltachain_sized.mono _ _)
      | (with_reducible exact LeO.refl _)
      | (with_reducible exact LeO.none _)
      | (with_reducible refine LeO.ite ?_ ?_)
      | (with_reducible refine LeO.bind ?_ (fun _ => ?_))
      | exact ih0 _ _ _ _ _
      | exact ih1 _ _ _ _ _ _ _ _ _ _
      | exact ih2 _ _ _ _ _ _ _ _ _ _
      | exact deltachain_sized.mono _ _
      | exact LeO.none _
      | refine LeO.ite ?_ ?_
      | refine LeO.bind ?_ (fun _ => ?_)
theorem deltachain_Apply.mono : ∀ a0 a1 k, LeO (deltachain_Apply.f k a0 a1) (deltachain_Apply.f (k + 1) a0 a1) := by
  intro a0 a1 k
  obtain ⟨ih0, ih1, ih2⟩ := deltachain_Apply.mono_l k
  unfold deltachain_Apply.f
  repeat' first
      | (with_reducible exact ih0 _ _ _ _ _)
      | (with_reducible exact ih1 _ _ _ _ _ _ _ _ _ _)
      | (with_reducible exact ih2 _ _ _ _ _ _ _ _ _ _)
      | (with_reducible exact deltachain_sized.mono _ _)
      | (with_reducible exact LeO.refl _)
      | (with_reducible exact LeO.none _)
      | (with_reducible refine LeO.ite ?_ ?_)
      | (with_reducible refine LeO.bind ?_ (fun _ => ?_))
      | exact ih0 _ _ _ _ _
      | exact ih1 _ _ _ _ _ _ _ _ _ _
      | exact ih2 _ _ _ _ _ _ _ _ _ _
      | exact deltachain_sized.mono _ _
      | exact LeO.none _
      | refine LeO.ite ?_ ?_
      | refine LeO.bind ?_ (fun _ => ?_)
set_option maxHeartbeats 8000000 in
set_option maxRecDepth 100000 in
theorem deltachain_Apply.calls (k : Nat) (A0 : Option Addr) (c0 : Nat) (l0 : List Int) (A1 : Option Addr) (c1 : Nat) (l1 : List (S37)) (r1 : List Int) (r2 : Int) (r3 : Int) (w : World) (hr0 : Kd.C (Kd.int .u8) w A0 l0.length l0) (hc0 : l0.length ≤ c0) (hr1 : Kd.C k37 w A1 l1.length l1) (hc1 : l1.length ≤ c1) (h : deltachain_Apply.f k l0 l1 = some (r1, r2, r3)) :
  Calls Try.prog 15 #[.slice A0 l0.length c0, .slice A1 l1.length c1] w fun e w' => ∃ v0_ : Value, e = .returned (.tuple #[v0_, .agg #[.int .i64 r2, .int .i64 r3]]) ∧ Kd.R (Kd.int .u8) 5 w' w.heap.size (fun _ => True) v0_ r1 ∧ Below w.heap.size w w' := by
  have hu26 := Try.underlying26
  have hu37 := Try.underlying37
  have HR0 := aZ hr0
  have HC0 := aZ hc0
  clear hr0 hc0
  have HR1 := aZ hr1
  have HC1 := aZ hc1
  clear hr1 hc1
  have HB := aZ (Below.refl w.heap.size w)
  have H : ((deltachain_sized.f k (([l0] : List (List Int)))).bind fun t142 => (if t142 = true then (if (l1.length : Int) > 1000 then (some (([] : List Int), 2, (-1))) else (deltachain_Apply.l0 k l0 ([] : List Int) l1 (l1.length : Int) 0)) else (some (([] : List Int), 10, (-1))))) = some (r1, r2, r3) := h
  clear h
  obtain ⟨y138, hy138⟩ : ∃ y_ : List (List Int), y_ = (([l0] : List (List Int))) := ⟨_, rfl⟩
  replace H : ((deltachain_sized.f k y138).bind fun t142 => (if t142 = true then (if (l1.length : Int) > 1000 then (some (([] : List Int), 2, (-1))) else (deltachain_Apply.l0 k l0 ([] : List Int) l1 (l1.length : Int) 0)) else (some (([] : List Int), 10, (-1))))) = some (r1, r2, r3) := by first | (rw [hy138]; with_reducible exact H) | (have H2_ := (Option.bind_some _ _).symm.trans H; rw [hy138]; with_reducible exact H2_) | (have H2_ := (Option.bind_some _ _).symm.trans H; with_reducible exact H2_) | with_reducible exact H | (rw [hy138]; exact H) | exact H
  have Ny138 := aZ hy138
  clear hy138
  replace H := Option.bind_eq_some_iff.mp H
  obtain ⟨t142, A30, H⟩ := H
  replace H : (if t142 = true then (if (l1.length : Int) > 1000 then (some (([] : List Int), 2, (-1))) else (deltachain_Apply.l0 k l0 ([] : List Int) l1 (l1.length : Int) 0)) else (some (([] : List Int), 10, (-1)))) = some (r1, r2, r3) := H
  have A3 := aZ A30
  clear A30
  by_cases c4 : t142 = true
  rotate_left
  · replace c4 := Bool.eq_false_iff.mpr c4
    subst c4
    have H1 : (some (([] : List Int), 10, (-1))) = some (r1, r2, r3) := by rw [if_neg (show ¬ (false = true) by decide)] at H; exact H
    clear H
    have H := H1
    clear H1
    simp only [Option.some.injEq, Prod.mk.injEq] at H
    obtain ⟨rfl, rfl, rfl⟩ := H
    go_enter Try.func15, Try.ntmps15
    go_wp2_with (first | ((with_reducible refine gate_dst (N := 5) rfl ?_); (try (refine gate_guard (by rfl) ?_; dsimp only)); refine box_event ?hg (N := 5) ?hd (cs := #[.int .i64 0, .int .i64 0]) (t := 26) ?hr ?_; (case hd => rfl); (case hg => rfl); (case hr => first | (go_simp; done) | (go_simp; rfl)); intro gb137 hg w83 hbox hb; have n0_ := aZ (lT (by repeat (first | (with_reducible first | exact HB.out | apply lA | apply lN | apply lD) | exact HB.out)) hb); have n1_ := aZ (hbox); have n2_ := aZ ((by rw [hg]; exact (lZ (by repeat (first | (with_reducible first | exact HB.out | apply lA | apply lN | apply lD) | exact HB.out))) : w.heap.size ≤ gb137)); have n3_ := aZ ((by rw [hg]; exact (lZ (by repeat (first | (with_reducible first | exact HB.out | apply lA | apply lN | apply lD) | exact HB.out))) : w.heap.size ≤ gb137)); clear HB; have HB := n0_; have BK137 := n1_; have GW137 := n2_; have GE137 := n3_; clear n0_ n1_ n2_ n3_; clear hb hbox hg) | ((with_reducible refine gate_dst (N := 10) rfl ?_); (try (refine gate_guard (by rfl) ?_; dsimp only)); refine Kd.lit_read (Kd.slice 5 (Kd.int .u8)) 22 ?hg (N := 10) ?hd (ys := y138) (xs := ([l0] : List (List Int))) (inner := [.slice A0 l0.length c0]) Ny138.out ?hr ?hp (by simp) ?_; (case hd => rfl); (case hg => rfl); (case hr => first | (go_simp; done) | (go_simp; rfl)); (case hp => exact (Reps.one (show Kd.K (Kd.slice 5 (Kd.int .u8)) _ l0 [.slice A0 l0.length c0] from ⟨_, _, rfl, by exact HC0.out, by repeat (first | exact (Kd.C_below HR0.out HB.out) | (with_reducible refine Kd.C_alloc ?_ _) | (with_reducible refine Kd.C_drewN ?_ _) | (with_reducible refine Kd.C_drew ?_))⟩) (Reps.none _ _))); intro A141 w84 hnew_ hb; have n0_ := aZ (blk_below (g := gb137) (o := .cells #[.int .i64 0, .int .i64 0] 26 (0, 0)) (by (with_reducible repeat (first | refine bN ?_ _ | refine bD ?_ | refine bA ?_ _)); exact BK137.out) hb); have n1_ := aZ (lT (by repeat (first | (with_reducible first | exact HB.out | apply lA | apply lN | apply lD | refine lS ?_ GE137.out) | exact HB.out)) hb); have n2_ := aZ (hnew_); have n3_ := aZ (Nat.le_refl y138.length); clear BK137; clear HB; have BK137 := n0_; have HB := n1_; have HR141 := n2_; have HC141 := n3_; clear n0_ n1_ n2_ n3_; clear hb hnew_) | ((with_reducible refine gate_callee (f := 24) rfl ?_); refine goesL_ (some 11) rfl rfl Try.func24 (by kernel_rfl) rfl #[.slice A141 y138.length y138.length] rfl (by (try simp only [List.map_toArray, List.map_cons, List.map_nil]); first | done | rfl | (simp only [List.length_drop, List.length_take]; rfl)) ?_; (with_reducible refine (deltachain_sized.calls k _ _ y138 false _ ?side1 ?side2 A3.out).mono ?_); (case side1 => repeat (first | exact (by repeat (first | (with_reducible exact HR141.out) | (with_reducible refine Kd.C_alloc ?_ _) | (with_reducible refine Kd.C_drewN ?_ _) | (with_reducible refine Kd.C_drew ?_) | exact HR141.out)) | (with_reducible refine Kd.C_alloc ?_ _) | (with_reducible refine Kd.C_drewN ?_ _) | (with_reducible refine Kd.C_drew ?_))); (case side2 => exact HC141.out); rintro e w' ⟨rfl, ⟨nd, rfl⟩⟩; refine ⟨_, rfl, ?_⟩; (try (rw [drewN_self w84]; generalize hq_ : World.drewN w84 _ = w84; have n0_ : Aside0 (w84.heap[gb137]? = some (.cells #[.int .i64 0, .int .i64 0] 26 (0, 0))) := ⟨by rw [← hq_]; exact (by (with_reducible repeat (first | refine bN ?_ _ | refine bD ?_ | refine bA ?_ _)); exact BK137.out)⟩; have n1_ : Aside0 (Below w.heap.size w w84) := ⟨by rw [← hq_]; exact (by repeat (first | (with_reducible first | exact HB.out | apply lA | apply lN | apply lD | refine lS ?_ GE137.out) | exact HB.out))⟩; have n2_ : Aside0 (Kd.C (Kd.slice 5 (Kd.int .u8)) w84 A141 y138.length y138) := ⟨by rw [← hq_]; exact (by repeat (first | (with_reducible exact HR141.out) | (with_reducible refine Kd.C_alloc ?_ _) | (with_reducible refine Kd.C_drewN ?_ _) | (with_reducible refine Kd.C_drew ?_) | exact HR141.out))⟩; clear BK137 HB HR141 hq_; have BK137 := n0_; have HB := n1_; have HR141 := n2_; clear n0_ n1_ n2_)); have hcz85_0 : w84.cell? ⟨gb137, 0, none⟩ = some (.int .i64 0) := (blk_cell BK137.out 0).trans rfl; have hcz85_1 : w84.cell? ⟨gb137, 1, none⟩ = some (.int .i64 0) := (blk_cell BK137.out 1).trans rfl; have hfz85_0 := blk_frozen BK137.out 0; have hfz85_1 := blk_frozen BK137.out 1))
    refine bodyPost_ret (results_tc rfl _ _ gb137 26 #[.int .i64 10, .int .i64 (-1)] (0, 0) _ rfl (by (with_reducible repeat (first | refine bN ?_ _ | refine bD ?_ | refine bA ?_ _)); refine blk_put (cs := #[.int .i64 10, .int .i64 0]) ?_ 1 _ rfl; (with_reducible repeat (first | refine bN ?_ _ | refine bD ?_ | refine bA ?_ _)); refine blk_put (cs := #[.int .i64 0, .int .i64 0]) ?_ 0 _ rfl; (with_reducible repeat (first | refine bN ?_ _ | refine bD ?_ | refine bA ?_ _)); exact BK137.out) Try.underlying26 rfl (by kernel_rfl)) rfl ?_
    exact ⟨_, by first | rfl | (simp [errW_none, errW_some] <;> rfl) | (simp [*, errW_none, errW_some] <;> rfl), by first | exact Kd.R_nil _ _ _ _ _ | exact Kd.N_nil _ _ _ _ _ | exact Kd.V_nil _ _ _ _ _ | exact Kd.Q_nil _ _ _ _ _ | exact Kd.S_nil _ _ _ _ _, by repeat (first | (with_reducible first | exact HB.out | apply lA | apply lN | apply lD | refine lS ?_ GE137.out) | exact HB.out)⟩

  subst c4
  have H1 : (if (l1.length : Int) > 1000 then (some (([] : List Int), 2, (-1))) else (deltachain_Apply.l0 k l0 ([] : List Int) l1 (l1.length : Int) 0)) = some (r1, r2, r3) := by rw [if_pos rfl] at H; exact H
  clear H
  have H := H1
  clear H1
  by_cases c5 : (l1.length : Int) > 1000
  · rw [if_pos c5] at H
    have c5b0 : decide (1000 < (l1.length : Int)) = true := decide_eq_true c5
    have c5b1 : decide (1000 < l1.length) = true := decide_eq_true (by omega)
    clear c5
    simp only [Option.some.injEq, Prod.mk.injEq] at H
    obtain ⟨rfl, rfl, rfl⟩ := H
    go_enter Try.func15, Try.ntmps15
    go_wp2_with (first | ((with_reducible refine gate_dst (N := 5) rfl ?_); (try (refine gate_guard (by rfl) ?_; dsimp only)); refine box_event ?hg (N := 5) ?hd (cs := #[.int .i64 0, .int .i64 0]) (t := 26) ?hr ?_; (case hd => rfl); (case hg => rfl); (case hr => first | (go_simp; done) | (go_simp; rfl)); intro gb137 hg w6 hbox hb; have n0_ := aZ (lT (by repeat (first | (with_reducible first | exact HB.out | apply lA | apply lN | apply lD) | exact HB.out)) hb); have n1_ := aZ (hbox); have n2_ := aZ ((by rw [hg]; exact (lZ (by repeat (first | (with_reducible first | exact HB.out | apply lA | apply lN | apply lD) | exact HB.out))) : w.heap.size ≤ gb137)); have n3_ := aZ ((by rw [hg]; exact (lZ (by repeat (first | (with_reducible first | exact HB.out | apply lA | apply lN | apply lD) | exact HB.out))) : w.heap.size ≤ gb137)); clear HB; have HB := n0_; have BK137 := n1_; have GW137 := n2_; have GE137 := n3_; clear n0_ n1_ n2_ n3_; clear hb hbox hg) | ((with_reducible refine gate_dst (N := 10) rfl ?_); (try (refine gate_guard (by rfl) ?_; dsimp only)); refine Kd.lit_read (Kd.slice 5 (Kd.int .u8)) 22 ?hg (N := 10) ?hd (ys := y138) (xs := ([l0] : List (List Int))) (inner := [.slice A0 l0.length c0]) Ny138.out ?hr ?hp (by simp) ?_; (case hd => rfl); (case hg => rfl); (case hr => first | (go_simp; done) | (go_simp; rfl)); (case hp => exact (Reps.one (show Kd.K (Kd.slice 5 (Kd.int .u8)) _ l0 [.slice A0 l0.length c0] from ⟨_, _, rfl, by exact HC0.out, by repeat (first | exact (Kd.C_below HR0.out HB.out) | (with_reducible refine Kd.C_alloc ?_ _) | (with_reducible refine Kd.C_drewN ?_ _) | (with_reducible refine Kd.C_drew ?_))⟩) (Reps.none _ _))); intro A141 w7 hnew_ hb; have n0_ := aZ (blk_below (g := gb137) (o := .cells #[.int .i64 0, .int .i64 0] 26 (0, 0)) (by (with_reducible repeat (first | refine bN ?_ _ | refine bD ?_ | refine bA ?_ _)); exact BK137.out) hb); have n1_ := aZ (lT (by repeat (first | (with_reducible first | exact HB.out | apply lA | apply lN | apply lD | refine lS ?_ GE137.out) | exact HB.out)) hb); have n2_ := aZ (hnew_); have n3_ := aZ (Nat.le_refl y138.length); clear BK137; clear HB; have BK137 := n0_; have HB := n1_; have HR141 := n2_; have HC141 := n3_; clear n0_ n1_ n2_ n3_; clear hb hnew_) | ((with_reducible refine gate_callee (f := 24) rfl ?_); refine goesL_ (some 11) rfl rfl Try.func24 (by kernel_rfl) rfl #[.slice A141 y138.length y138.length] rfl (by (try simp only [List.map_toArray, List.map_cons, List.map_nil]); first | done | rfl | (simp only [List.length_drop, List.length_take]; rfl)) ?_; (with_reducible refine (deltachain_sized.calls k _ _ y138 true _ ?side1 ?side2 A3.out).mono ?_); (case side1 => repeat (first | exact (by repeat (first | (with_reducible exact HR141.out) | (with_reducible refine Kd.C_alloc ?_ _) | (with_reducible refine Kd.C_drewN ?_ _) | (with_reducible refine Kd.C_drew ?_) | exact HR141.out)) | (with_reducible refine Kd.C_alloc ?_ _) | (with_reducible refine Kd.C_drewN ?_ _) | (with_reducible refine Kd.C_drew ?_))); (case side2 => exact HC141.out); rintro e w' ⟨rfl, ⟨nd, rfl⟩⟩; refine ⟨_, rfl, ?_⟩; (try (rw [drewN_self w7]; generalize hq_ : World.drewN w7 _ = w7; have n0_ : Aside0 (w7.heap[gb137]? = some (.cells #[.int .i64 0, .int .i64 0] 26 (0, 0))) := ⟨by rw [← hq_]; exact (by (with_reducible repeat (first | refine bN ?_ _ | refine bD ?_ | refine bA ?_ _)); exact BK137.out)⟩; have n1_ : Aside0 (Below w.heap.size w w7) := ⟨by rw [← hq_]; exact (by repeat (first | (with_reducible first | exact HB.out | apply lA | apply lN | apply lD | refine lS ?_ GE137.out) | exact HB.out))⟩; have n2_ : Aside0 (Kd.C (Kd.slice 5 (Kd.int .u8)) w7 A141 y138.length y138) := ⟨by rw [← hq_]; exact (by repeat (first | (with_reducible exact HR141.out) | (with_reducible refine Kd.C_alloc ?_ _) | (with_reducible refine Kd.C_drewN ?_ _) | (with_reducible refine Kd.C_drew ?_) | exact HR141.out))⟩; clear BK137 HB HR141 hq_; have BK137 := n0_; have HB := n1_; have HR141 := n2_; clear n0_ n1_ n2_)); have hcz8_0 : w7.cell? ⟨gb137, 0, none⟩ = some (.int .i64 0) := (blk_cell BK137.out 0).trans rfl; have hcz8_1 : w7.cell? ⟨gb137, 1, none⟩ = some (.int .i64 0) := (blk_cell BK137.out 1).trans rfl; have hfz8_0 := blk_frozen BK137.out 0; have hfz8_1 := blk_frozen BK137.out 1))
    refine bodyPost_ret (results_tc rfl _ _ gb137 26 #[.int .i64 2, .int .i64 (-1)] (0, 0) _ rfl (by (with_reducible repeat (first | refine bN ?_ _ | refine bD ?_ | refine bA ?_ _)); refine blk_put (cs := #[.int .i64 2, .int .i64 0]) ?_ 1 _ rfl; (with_reducible repeat (first | refine bN ?_ _ | refine bD ?_ | refine bA ?_ _)); refine blk_put (cs := #[.int .i64 0, .int .i64 0]) ?_ 0 _ rfl; (with_reducible repeat (first | refine bN ?_ _ | refine bD ?_ | refine bA ?_ _)); exact BK137.out) Try.underlying26 rfl (by kernel_rfl)) rfl ?_
    exact ⟨_, by first | rfl | (simp [errW_none, errW_some] <;> rfl) | (simp [*, errW_none, errW_some] <;> rfl), by first | exact Kd.R_nil _ _ _ _ _ | exact Kd.N_nil _ _ _ _ _ | exact Kd.V_nil _ _ _ _ _ | exact Kd.Q_nil _ _ _ _ _ | exact Kd.S_nil _ _ _ _ _, by repeat (first | (with_reducible first | exact HB.out | apply lA | apply lN | apply lD | refine lS ?_ GE137.out) | exact HB.out)⟩
  rw [if_neg c5] at H
  have c5b0 : decide (1000 < (l1.length : Int)) = false := decide_eq_false c5
  have c5b1 : decide (1000 < l1.length) = false := decide_eq_false (by omega)
  clear c5
  have H' := aZ H
  clear H
  go_enter Try.func15, Try.ntmps15
  go_wp2_with (first | ((with_reducible refine gate_dst (N := 5) rfl ?_); (try (refine gate_guard (by rfl) ?_; dsimp only)); refine box_event ?hg (N := 5) ?hd (cs := #[.int .i64 0, .int .i64 0]) (t := 26) ?hr ?_; (case hd => rfl); (case hg => rfl); (case hr => first | (go_simp; done) | (go_simp; rfl)); intro gb137 hg w9 hbox hb; have n0_ := aZ (lT (by repeat (first | (with_reducible first | exact HB.out | apply lA | apply lN | apply lD) | exact HB.out)) hb); have n1_ := aZ (hbox); have n2_ := aZ ((by rw [hg]; exact (lZ (by repeat (first | (with_reducible first | exact HB.out | apply lA | apply lN | apply lD) | exact HB.out))) : w.heap.size ≤ gb137)); have n3_ := aZ ((by rw [hg]; exact (lZ (by repeat (first | (with_reducible first | exact HB.out | apply lA | apply lN | apply lD) | exact HB.out))) : w.heap.size ≤ gb137)); clear HB; have HB := n0_; have BK137 := n1_; have GW137 := n2_; have GE137 := n3_; clear n0_ n1_ n2_ n3_; clear hb hbox hg) | ((with_reducible refine gate_dst (N := 10) rfl ?_); (try (refine gate_guard (by rfl) ?_; dsimp only)); refine Kd.lit_read (Kd.slice 5 (Kd.int .u8)) 22 ?hg (N := 10) ?hd (ys := y138) (xs := ([l0] : List (List Int))) (inner := [.slice A0 l0.length c0]) Ny138.out ?hr ?hp (by simp) ?_; (case hd => rfl); (case hg => rfl); (case hr => first | (go_simp; done) | (go_simp; rfl)); (case hp => exact (Reps.one (show Kd.K (Kd.slice 5 (Kd.int .u8)) _ l0 [.slice A0 l0.length c0] from ⟨_, _, rfl, by exact HC0.out, by repeat (first | exact (Kd.C_below HR0.out HB.out) | (with_reducible refine Kd.C_alloc ?_ _) | (with_reducible refine Kd.C_drewN ?_ _) | (with_reducible refine Kd.C_drew ?_))⟩) (Reps.none _ _))); intro A141 w10 hnew_ hb; have n0_ := aZ (blk_below (g := gb137) (o := .cells #[.int .i64 0, .int .i64 0] 26 (0, 0)) (by (with_reducible repeat (first | refine bN ?_ _ | refine bD ?_ | refine bA ?_ _)); exact BK137.out) hb); have n1_ := aZ (lT (by repeat (first | (with_reducible first | exact HB.out | apply lA | apply lN | apply lD | refine lS ?_ GE137.out) | exact HB.out)) hb); have n2_ := aZ (hnew_); have n3_ := aZ (Nat.le_refl y138.length); clear BK137; clear HB; have BK137 := n0_; have HB := n1_; have HR141 := n2_; have HC141 := n3_; clear n0_ n1_ n2_ n3_; clear hb hnew_) | ((with_reducible refine gate_callee (f := 24) rfl ?_); refine goesL_ (some 11) rfl rfl Try.func24 (by kernel_rfl) rfl #[.slice A141 y138.length y138.length] rfl (by (try simp only [List.map_toArray, List.map_cons, List.map_nil]); first | done | rfl | (simp only [List.length_drop, List.length_take]; rfl)) ?_; (with_reducible refine (deltachain_sized.calls k _ _ y138 true _ ?side1 ?side2 A3.out).mono ?_); (case side1 => repeat (first | exact (by repeat (first | (with_reducible exact HR141.out) | (with_reducible refine Kd.C_alloc ?_ _) | (with_reducible refine Kd.C_drewN ?_ _) | (with_reducible refine Kd.C_drew ?_) | exact HR141.out)) | (with_reducible refine Kd.C_alloc ?_ _) | (with_reducible refine Kd.C_drewN ?_ _) | (with_reducible refine Kd.C_drew ?_))); (case side2 => exact HC141.out); rintro e w' ⟨rfl, ⟨nd, rfl⟩⟩; refine ⟨_, rfl, ?_⟩))
  go_loopg [6, 20] k (fun kq v6 v20 w' => ∃ (x6_1 : List Int) (x20_1 : Int) (x138000_1 : Int) (x138001_1 : Int), v20 = .int .i64 x20_1 ∧ Aside0 (deltachain_Apply.l0 kq l0 x6_1 l1 (l1.length : Int) x20_1 = some (r1, r2, r3)) ∧ Aside0 (kq ≤ k) ∧ Aside0 (Kd.R (Kd.int .u8) 5 w' w.heap.size (fun _ => True) v6 x6_1) ∧ Aside0 (w'.heap[gb137]? = some (.cells #[.int .i64 x138000_1, .int .i64 x138001_1] 26 (0, 0))) ∧ Aside0 (Below w.heap.size w w'))
  case atStart => exact ⟨(([] : List Int)), (0), (0), (0), (by first | rfl | (simp; done) | (simp [*]; done) | (simp [i64_w]; done)), H', ⟨Nat.le_refl _⟩, ⟨by first | exact Kd.R_nil _ _ _ _ _ | exact Kd.N_nil _ _ _ _ _ | exact Kd.V_nil _ _ _ _ _ | exact Kd.Q_nil _ _ _ _ _ | exact Kd.S_nil _ _ _ _ _⟩, ⟨by (with_reducible repeat (first | refine bN ?_ _ | refine bD ?_ | refine bA ?_ _)); exact BK137.out⟩, ⟨by repeat (first | (with_reducible first | exact HB.out | apply lA | apply lN | apply lD | refine lS ?_ GE137.out) | exact HB.out)⟩⟩
  case round =>
   clear H'
   (try clear c1); (try clear c4); (try clear c5); (try clear c5b0); (try clear c5b1)
   obtain ⟨x6_1, x20_1, x138000_1, x138001_1, rfl, HA, HK1, HO_6, BK137, HB⟩ := hrel
   cases gk with
   | zero => exact absurd HA.out (by simp [deltachain_Apply.l0])
   | succ k1 =>
    have H := HA.out
    clear HA
    simp only [deltachain_Apply.l0] at H
    by_cases c11 : x20_1 < (l1.length : Int)
    rotate_left
    · rw [if_neg c11] at H
      have c11b0 : decide (x20_1 < (l1.length : Int)) = false := decide_eq_false c11
      clear c11
      simp only [Option.some.injEq, Prod.mk.injEq] at H
      obtain ⟨rfl, rfl, rfl⟩ := H
      have hcz82_0 : wr.cell? ⟨gb137, 0, none⟩ = some (.int .i64 x138000_1) := (blk_cell BK137.out 0).trans rfl
      have hcz82_1 : wr.cell? ⟨gb137, 1, none⟩ = some (.int .i64 x138001_1) := (blk_cell BK137.out 1).trans rfl
      have hfz82_0 := blk_frozen BK137.out 0
      have hfz82_1 := blk_frozen BK137.out 1
      go_wp2
      refine bodyPost_ret (results_tc rfl _ _ gb137 26 #[.int .i64 0, .int .i64 0] (0, 0) _ rfl (by (with_reducible repeat (first | refine bN ?_ _ | refine bD ?_ | refine bA ?_ _)); refine blk_put (cs := #[.int .i64 0, .int .i64 x138001_1]) ?_ 1 _ rfl; (with_reducible repeat (first | refine bN ?_ _ | refine bD ?_ | refine bA ?_ _)); refine blk_put (cs := #[.int .i64 x138000_1, .int .i64 x138001_1]) ?_ 0 _ rfl; (with_reducible repeat (first | refine bN ?_ _ | refine bD ?_ | refine bA ?_ _)); exact BK137.out) Try.underlying26 rfl (by kernel_rfl)) rfl ?_
      exact ⟨_, by first | rfl | (simp [errW_none, errW_some] <;> rfl) | (simp [*, errW_none, errW_some] <;> rfl), by (with_reducible repeat (first | apply Kd.rA | apply Kd.rN | apply Kd.rD)); exact Kd.R_mono (Kd.R_far (p := ⟨gb137, 1, none⟩) (Kd.R_far (p := ⟨gb137, 0, none⟩) (Kd.R_types HO_6.out BK137.out (by decide)) (fun _ hk => hk.2) (.int .i64 0)) (fun _ hk => hk.2) (.int .i64 0)) (fun _ hk => trivial), by repeat (first | (with_reducible first | exact HB.out | apply lA | apply lN | apply lD | refine lS ?_ GE137.out) | exact HB.out)⟩
    rw [if_pos c11] at H
    have c11b0 : decide (x20_1 < (l1.length : Int)) = true := decide_eq_true c11
    clear c11
    by_cases c12 : 0 ≤ x20_1
    rotate_left
    · rw [if_neg c12] at H
      exact absurd H (by simp)
    rw [if_pos c12] at H
    have c12b0 : decide (0 ≤ x20_1) = true := decide_eq_true c12
    clear c12
    by_cases c13 : x20_1 < (l1.length : Int)
    rotate_left
    · rw [if_neg c13] at H
      exact absurd H (by simp)
    rw [if_pos c13] at H
    have c13b0 : decide (x20_1 < (l1.length : Int)) = true := decide_eq_true c13
    clear c13
    have HC14 := aZ H
    clear H
    have p143 : 0 ≤ (x20_1 : Int) := of_decide_eq_true (by first | (with_reducible assumption) | assumption)
    have q143 : x20_1 < (l1.length : Int) := of_decide_eq_true (by first | (with_reducible assumption) | assumption)
    obtain ⟨ad143, A143_2, c143_2, e143, hx143_0, hx143_1, hx143_2, hl143_2, hi143_2⟩ := at_T37 HR1.out x20_1 p143 q143
    cases e143
    replace hx143_0 := (HB.out.cell (World.block_lt_of_cell? w _ hx143_0)).trans hx143_0
    replace hx143_1 := (HB.out.cell (World.block_lt_of_cell? w _ hx143_1)).trans hx143_1
    replace hx143_2 := (HB.out.cell (World.block_lt_of_cell? w _ hx143_2)).trans hx143_2
    have HR143_2 := aZ hi143_2
    have HC143_2 := aZ hl143_2
    clear hi143_2 hl143_2
    replace p143 := eq_true p143
    replace q143 := eq_true q143
    go_upto_region 9 with (first | ((with_reducible refine gate_dst (N := 8) rfl ?_); (try (refine gate_guard (by rfl) ?_; dsimp only)); refine box_event ?hg (N := 8) ?hd (cs := #[.int .i64 0, .int .i64 0, .slice none 0 0]) (t := 37) ?hr ?_; (case hd => rfl); (case hg => rfl); (case hr => first | (go_simp; done) | (go_simp; rfl)); intro gb144 hg w15 hbox hb; have n0_ := aZ (Kd.R_below (by (with_reducible repeat (first | apply Kd.rA | apply Kd.rN | apply Kd.rD)); exact HO_6.out) hb); have n1_ := aZ (blk_below (g := gb137) (o := .cells #[.int .i64 x138000_1, .int .i64 x138001_1] 26 (0, 0)) (by (with_reducible repeat (first | refine bN ?_ _ | refine bD ?_ | refine bA ?_ _)); exact BK137.out) hb); have n2_ := aZ (lT (by repeat (first | (with_reducible first | exact HB.out | apply lA | apply lN | apply lD | refine lS ?_ GE137.out) | exact HB.out)) hb); have n3_ := aZ (hbox); have n4_ := aZ ((by rw [hg]; exact (lZ (by repeat (first | (with_reducible first | exact HB.out | apply lA | apply lN | apply lD | refine lS ?_ GE137.out) | exact HB.out))) : w.heap.size ≤ gb144)); have n5_ := aZ ((by rw [hg]; exact (lZ (by repeat (first | (with_reducible first | exact HB.out | apply lA | apply lN | apply lD | refine lS ?_ GE137.out) | exact HB.out))) : w.heap.size ≤ gb144)); have n6_ := aZ ((by rw [hg]; exact Nat.ne_of_lt (blk_lt (g := gb137) (o := .cells #[.int .i64 x138000_1, .int .i64 x138001_1] 26 (0, 0)) (by (with_reducible repeat (first | refine bN ?_ _ | refine bD ?_ | refine bA ?_ _)); exact BK137.out)) : gb137 ≠ gb144)); have n7_ := aZ ((by rw [hg]; exact Nat.ne_of_gt (blk_lt (g := gb137) (o := .cells #[.int .i64 x138000_1, .int .i64 x138001_1] 26 (0, 0)) (by (with_reducible repeat (first | refine bN ?_ _ | refine bD ?_ | refine bA ?_ _)); exact BK137.out)) : gb144 ≠ gb137)); clear HO_6; clear BK137; clear HB; have HO_6 := n0_; have BK137 := n1_; have HB := n2_; have BK144 := n3_; have GW144 := n4_; have GE144 := n5_; have NB137_144 := n6_; have NB144_137 := n7_; clear n0_ n1_ n2_ n3_ n4_ n5_ n6_ n7_; clear hb hbox hg; have hnb16 := NB144_137.out; have hnc16 := NB137_144.out; have hcz17_0 : w15.cell? ⟨gb144, 0, none⟩ = some (.int .i64 0) := (blk_cell BK144.out 0).trans rfl; have hcz17_1 : w15.cell? ⟨gb144, 1, none⟩ = some (.int .i64 0) := (blk_cell BK144.out 1).trans rfl; have hcz17_2 : w15.cell? ⟨gb144, 2, none⟩ = some (.slice none 0 0) := (blk_cell BK144.out 2).trans rfl; have hfz17_0 := blk_frozen BK144.out 0; have hfz17_1 := blk_frozen BK144.out 1; have hfz17_2 := blk_frozen BK144.out 2))
    (try simp only [Act.put, List.setIfInBounds_toArray, List.set_cons_zero, List.set_cons_succ])
    go_cut [25] (fun v25 wc => ∃ (kq : Nat) (x25_13 : Bool), v25 = .bool x25_13 ∧ Aside0 (deltachain_Apply.j1 kq l0 x6_1 x20_1 l1 (l1.length : Int) x20_1 x25_13 ((rd_T37 l1 x20_1).f0) ((rd_T37 l1 x20_1).f1) ((rd_T37 l1 x20_1).f2) = some (r1, r2, r3)) ∧ Aside0 (kq ≤ k1) ∧ Aside0 (Kd.R (Kd.int .u8) 5 wc w.heap.size (fun _ => True) u6 x6_1) ∧ Aside0 (wc.heap[gb137]? = some (.cells #[.int .i64 x138000_1, .int .i64 x138001_1] 26 (0, 0))) ∧ Aside0 (wc.heap[gb144]? = some (.cells #[.int .i64 ((rd_T37 l1 x20_1).f0), .int .i64 ((rd_T37 l1 x20_1).f1), (.slice A143_2 ((rd_T37 l1 x20_1).f2).length c143_2)] 37 (0, 0))) ∧ Aside0 (Below w.heap.size w wc))
    case first =>
     have H := HC14.out
     clear HC14
     by_cases c18 : ((rd_T37 l1 x20_1).f1) < 0
     · rw [if_pos c18] at H
       have c18b0 : decide (((rd_T37 l1 x20_1).f1) < 0) = true := decide_eq_true c18
       clear c18
       (first | rw [c18b0] | (simp only [i64_w, i32_w]; rw [c18b0]) | skip)
       have H' := aZ H
       clear H
       have hnb19 := NB144_137.out
       have hnc19 := NB137_144.out
       have hcz20_0 : w15.cell? ⟨gb144, 0, none⟩ = some (.int .i64 0) := (blk_cell BK144.out 0).trans rfl
       have hcz20_1 : w15.cell? ⟨gb144, 1, none⟩ = some (.int .i64 0) := (blk_cell BK144.out 1).trans rfl
       have hcz20_2 : w15.cell? ⟨gb144, 2, none⟩ = some (.slice none 0 0) := (blk_cell BK144.out 2).trans rfl
       have hfz20_0 := blk_frozen BK144.out 0
       have hfz20_1 := blk_frozen BK144.out 1
       have hfz20_2 := blk_frozen BK144.out 2
       go_wp2
       go_meet
       case rel => exact ⟨_, (true), (by first | rfl | (simp; done) | (simp [*]; done) | (simp [i64_w]; done)), H', ⟨by have := HK1.out; first | omega | exact Nat.le_refl _⟩, ⟨by (with_reducible repeat (first | apply Kd.rA | apply Kd.rN | apply Kd.rD)); exact Kd.R_mono (Kd.R_far (p := ⟨gb144, 2, none⟩) (Kd.R_far (p := ⟨gb144, 1, none⟩) (Kd.R_far (p := ⟨gb144, 0, none⟩) (Kd.R_types HO_6.out BK144.out (by decide)) (fun _ hk => hk.2) (.int .i64 ((rd_T37 l1 x20_1).f0))) (fun _ hk => hk.2) (.int .i64 ((rd_T37 l1 x20_1).f1))) (fun _ hk => hk.2) (.slice A143_2 ((rd_T37 l1 x20_1).f2).length c143_2)) (fun _ hk => trivial)⟩, ⟨by (with_reducible repeat (first | refine bN ?_ _ | refine bD ?_ | refine bA ?_ _)); refine blk_far ?_ NB137_144.out _; (with_reducible repeat (first | refine bN ?_ _ | refine bD ?_ | refine bA ?_ _)); refine blk_far ?_ NB137_144.out _; (with_reducible repeat (first | refine bN ?_ _ | refine bD ?_ | refine bA ?_ _)); refine blk_far ?_ NB137_144.out _; (with_reducible repeat (first | refine bN ?_ _ | refine bD ?_ | refine bA ?_ _)); exact BK137.out⟩, ⟨by (with_reducible repeat (first | refine bN ?_ _ | refine bD ?_ | refine bA ?_ _)); refine blk_put (cs := #[.int .i64 ((rd_T37 l1 x20_1).f0), .int .i64 ((rd_T37 l1 x20_1).f1), .slice none 0 0]) ?_ 2 _ rfl; (with_reducible repeat (first | refine bN ?_ _ | refine bD ?_ | refine bA ?_ _)); refine blk_put (cs := #[.int .i64 ((rd_T37 l1 x20_1).f0), .int .i64 0, .slice none 0 0]) ?_ 1 _ rfl; (with_reducible repeat (first | refine bN ?_ _ | refine bD ?_ | refine bA ?_ _)); refine blk_put (cs := #[.int .i64 0, .int .i64 0, .slice none 0 0]) ?_ 0 _ rfl; (with_reducible repeat (first | refine bN ?_ _ | refine bD ?_ | refine bA ?_ _)); exact BK144.out⟩, ⟨by repeat (first | (with_reducible first | exact HB.out | apply lA | apply lN | apply lD | refine lS ?_ GE137.out | refine lS ?_ GE144.out) | exact HB.out)⟩⟩
     rw [if_neg c18] at H
     have c18b0 : decide (((rd_T37 l1 x20_1).f1) < 0) = false := decide_eq_false c18
     clear c18
     (first | rw [c18b0] | (simp only [i64_w, i32_w]; rw [c18b0]) | skip)
     by_cases c21 : ((rd_T37 l1 x20_1).f1) > 0
     rotate_left
     · rw [if_neg c21] at H
       have c21b0 : decide (0 < ((rd_T37 l1 x20_1).f1)) = false := decide_eq_false c21
       clear c21
       have H' := aZ H
       clear H
       have hnb30 := NB144_137.out
       have hnc30 := NB137_144.out
       have hcz31_0 : w15.cell? ⟨gb144, 0, none⟩ = some (.int .i64 0) := (blk_cell BK144.out 0).trans rfl
       have hcz31_1 : w15.cell? ⟨gb144, 1, none⟩ = some (.int .i64 0) := (blk_cell BK144.out 1).trans rfl
       have hcz31_2 : w15.cell? ⟨gb144, 2, none⟩ = some (.slice none 0 0) := (blk_cell BK144.out 2).trans rfl
       have hfz31_0 := blk_frozen BK144.out 0
       have hfz31_1 := blk_frozen BK144.out 1
       have hfz31_2 := blk_frozen BK144.out 2
       go_wp2
       go_meet
       case rel => exact ⟨_, (false), (by first | rfl | (simp; done) | (simp [*]; done) | (simp [i64_w]; done)), H', ⟨by have := HK1.out; first | omega | exact Nat.le_refl _⟩, ⟨by (with_reducible repeat (first | apply Kd.rA | apply Kd.rN | apply Kd.rD)); exact Kd.R_mono (Kd.R_far (p := ⟨gb144, 2, none⟩) (Kd.R_far (p := ⟨gb144, 1, none⟩) (Kd.R_far (p := ⟨gb144, 0, none⟩) (Kd.R_types HO_6.out BK144.out (by decide)) (fun _ hk => hk.2) (.int .i64 ((rd_T37 l1 x20_1).f0))) (fun _ hk => hk.2) (.int .i64 ((rd_T37 l1 x20_1).f1))) (fun _ hk => hk.2) (.slice A143_2 ((rd_T37 l1 x20_1).f2).length c143_2)) (fun _ hk => trivial)⟩, ⟨by (with_reducible repeat (first | refine bN ?_ _ | refine bD ?_ | refine bA ?_ _)); refine blk_far ?_ NB137_144.out _; (with_reducible repeat (first | refine bN ?_ _ | refine bD ?_ | refine bA ?_ _)); refine blk_far ?_ NB137_144.out _; (with_reducible repeat (first | refine bN ?_ _ | refine bD ?_ | refine bA ?_ _)); refine blk_far ?_ NB137_144.out _; (with_reducible repeat (first | refine bN ?_ _ | refine bD ?_ | refine bA ?_ _)); exact BK137.out⟩, ⟨by (with_reducible repeat (first | refine bN ?_ _ | refine bD ?_ | refine bA ?_ _)); refine blk_put (cs := #[.int .i64 ((rd_T37 l1 x20_1).f0), .int .i64 ((rd_T37 l1 x20_1).f1), .slice none 0 0]) ?_ 2 _ rfl; (with_reducible repeat (first | refine bN ?_ _ | refine bD ?_ | refine bA ?_ _)); refine blk_put (cs := #[.int .i64 ((rd_T37 l1 x20_1).f0), .int .i64 0, .slice none 0 0]) ?_ 1 _ rfl; (with_reducible repeat (first | refine bN ?_ _ | refine bD ?_ | refine bA ?_ _)); refine blk_put (cs := #[.int .i64 0, .int .i64 0, .slice none 0 0]) ?_ 0 _ rfl; (with_reducible repeat (first | refine bN ?_ _ | refine bD ?_ | refine bA ?_ _)); exact BK144.out⟩, ⟨by repeat (first | (with_reducible first | exact HB.out | apply lA | apply lN | apply lD | refine lS ?_ GE137.out | refine lS ?_ GE144.out) | exact HB.out)⟩⟩
     rw [if_pos c21] at H
     have c21b0 : decide (0 < ((rd_T37 l1 x20_1).f1)) = true := decide_eq_true c21
     clear c21
     by_cases c22 : ((rd_T37 l1 x20_1).f0) < 0
     · rw [if_pos c22] at H
       have c22b0 : decide (((rd_T37 l1 x20_1).f0) < 0) = true := decide_eq_true c22
       clear c22
       have H' := aZ H
       clear H
       have hnb23 := NB144_137.out
       have hnc23 := NB137_144.out
       have hcz24_0 : w15.cell? ⟨gb144, 0, none⟩ = some (.int .i64 0) := (blk_cell BK144.out 0).trans rfl
       have hcz24_1 : w15.cell? ⟨gb144, 1, none⟩ = some (.int .i64 0) := (blk_cell BK144.out 1).trans rfl
       have hcz24_2 : w15.cell? ⟨gb144, 2, none⟩ = some (.slice none 0 0) := (blk_cell BK144.out 2).trans rfl
       have hfz24_0 := blk_frozen BK144.out 0
       have hfz24_1 := blk_frozen BK144.out 1
       have hfz24_2 := blk_frozen BK144.out 2
       go_wp2
       go_meet
       case rel => exact ⟨_, (true), (by first | rfl | (simp; done) | (simp [*]; done) | (simp [i64_w]; done)), H', ⟨by have := HK1.out; first | omega | exact Nat.le_refl _⟩, ⟨by (with_reducible repeat (first | apply Kd.rA | apply Kd.rN | apply Kd.rD)); exact Kd.R_mono (Kd.R_far (p := ⟨gb144, 2, none⟩) (Kd.R_far (p := ⟨gb144, 1, none⟩) (Kd.R_far (p := ⟨gb144, 0, none⟩) (Kd.R_types HO_6.out BK144.out (by decide)) (fun _ hk => hk.2) (.int .i64 ((rd_T37 l1 x20_1).f0))) (fun _ hk => hk.2) (.int .i64 ((rd_T37 l1 x20_1).f1))) (fun _ hk => hk.2) (.slice A143_2 ((rd_T37 l1 x20_1).f2).length c143_2)) (fun _ hk => trivial)⟩, ⟨by (with_reducible repeat (first | refine bN ?_ _ | refine bD ?_ | refine bA ?_ _)); refine blk_far ?_ NB137_144.out _; (with_reducible repeat (first | refine bN ?_ _ | refine bD ?_ | refine bA ?_ _)); refine blk_far ?_ NB137_144.out _; (with_reducible repeat (first | refine bN ?_ _ | refine bD ?_ | refine bA ?_ _)); refine blk_far ?_ NB137_144.out _; (with_reducible repeat (first | refine bN ?_ _ | refine bD ?_ | refine bA ?_ _)); exact BK137.out⟩, ⟨by (with_reducible repeat (first | refine bN ?_ _ | refine bD ?_ | refine bA ?_ _)); refine blk_put (cs := #[.int .i64 ((rd_T37 l1 x20_1).f0), .int .i64 ((rd_T37 l1 x20_1).f1), .slice none 0 0]) ?_ 2 _ rfl; (with_reducible repeat (first | refine bN ?_ _ | refine bD ?_ | refine bA ?_ _)); refine blk_put (cs := #[.int .i64 ((rd_T37 l1 x20_1).f0), .int .i64 0, .slice none 0 0]) ?_ 1 _ rfl; (with_reducible repeat (first | refine bN ?_ _ | refine bD ?_ | refine bA ?_ _)); refine blk_put (cs := #[.int .i64 0, .int .i64 0, .slice none 0 0]) ?_ 0 _ rfl; (with_reducible repeat (first | refine bN ?_ _ | refine bD ?_ | refine bA ?_ _)); exact BK144.out⟩, ⟨by repeat (first | (with_reducible first | exact HB.out | apply lA | apply lN | apply lD | refine lS ?_ GE137.out | refine lS ?_ GE144.out) | exact HB.out)⟩⟩
     rw [if_neg c22] at H
     have c22b0 : decide (((rd_T37 l1 x20_1).f0) < 0) = false := decide_eq_false c22
     clear c22
     by_cases c25 : ((rd_T37 l1 x20_1).f0) > (l0.length : Int)
     · rw [if_pos c25] at H
       have c25b0 : decide ((l0.length : Int) < ((rd_T37 l1 x20_1).f0)) = true := decide_eq_true c25
       clear c25
       have H' := aZ H
       clear H
       have hnb26 := NB144_137.out
       have hnc26 := NB137_144.out
       have hcz27_0 : w15.cell? ⟨gb144, 0, none⟩ = some (.int .i64 0) := (blk_cell BK144.out 0).trans rfl
       have hcz27_1 : w15.cell? ⟨gb144, 1, none⟩ = some (.int .i64 0) := (blk_cell BK144.out 1).trans rfl
       have hcz27_2 : w15.cell? ⟨gb144, 2, none⟩ = some (.slice none 0 0) := (blk_cell BK144.out 2).trans rfl
       have hfz27_0 := blk_frozen BK144.out 0
       have hfz27_1 := blk_frozen BK144.out 1
       have hfz27_2 := blk_frozen BK144.out 2
       go_wp2
       go_meet
       case rel => exact ⟨_, (true), (by first | rfl | (simp; done) | (simp [*]; done) | (simp [i64_w]; done)), H', ⟨by have := HK1.out; first | omega | exact Nat.le_refl _⟩, ⟨by (with_reducible repeat (first | apply Kd.rA | apply Kd.rN | apply Kd.rD)); exact Kd.R_mono (Kd.R_far (p := ⟨gb144, 2, none⟩) (Kd.R_far (p := ⟨gb144, 1, none⟩) (Kd.R_far (p := ⟨gb144, 0, none⟩) (Kd.R_types HO_6.out BK144.out (by decide)) (fun _ hk => hk.2) (.int .i64 ((rd_T37 l1 x20_1).f0))) (fun _ hk => hk.2) (.int .i64 ((rd_T37 l1 x20_1).f1))) (fun _ hk => hk.2) (.slice A143_2 ((rd_T37 l1 x20_1).f2).length c143_2)) (fun _ hk => trivial)⟩, ⟨by (with_reducible repeat (first | refine bN ?_ _ | refine bD ?_ | refine bA ?_ _)); refine blk_far ?_ NB137_144.out _; (with_reducible repeat (first | refine bN ?_ _ | refine bD ?_ | refine bA ?_ _)); refine blk_far ?_ NB137_144.out _; (with_reducible repeat (first | refine bN ?_ _ | refine bD ?_ | refine bA ?_ _)); refine blk_far ?_ NB137_144.out _; (with_reducible repeat (first | refine bN ?_ _ | refine bD ?_ | refine bA ?_ _)); exact BK137.out⟩, ⟨by (with_reducible repeat (first | refine bN ?_ _ | refine bD ?_ | refine bA ?_ _)); refine blk_put (cs := #[.int .i64 ((rd_T37 l1 x20_1).f0), .int .i64 ((rd_T37 l1 x20_1).f1), .slice none 0 0]) ?_ 2 _ rfl; (with_reducible repeat (first | refine bN ?_ _ | refine bD ?_ | refine bA ?_ _)); refine blk_put (cs := #[.int .i64 ((rd_T37 l1 x20_1).f0), .int .i64 0, .slice none 0 0]) ?_ 1 _ rfl; (with_reducible repeat (first | refine bN ?_ _ | refine bD ?_ | refine bA ?_ _)); refine blk_put (cs := #[.int .i64 0, .int .i64 0, .slice none 0 0]) ?_ 0 _ rfl; (with_reducible repeat (first | refine bN ?_ _ | refine bD ?_ | refine bA ?_ _)); exact BK144.out⟩, ⟨by repeat (first | (with_reducible first | exact HB.out | apply lA | apply lN | apply lD | refine lS ?_ GE137.out | refine lS ?_ GE144.out) | exact HB.out)⟩⟩
     rw [if_neg c25] at H
     have c25b0 : decide ((l0.length : Int) < ((rd_T37 l1 x20_1).f0)) = false := decide_eq_false c25
     clear c25
     have H' := aZ H
     clear H
     have hnb28 := NB144_137.out
     have hnc28 := NB137_144.out
     have hcz29_0 : w15.cell? ⟨gb144, 0, none⟩ = some (.int .i64 0) := (blk_cell BK144.out 0).trans rfl
     have hcz29_1 : w15.cell? ⟨gb144, 1, none⟩ = some (.int .i64 0) := (blk_cell BK144.out 1).trans rfl
     have hcz29_2 : w15.cell? ⟨gb144, 2, none⟩ = some (.slice none 0 0) := (blk_cell BK144.out 2).trans rfl
     have hfz29_0 := blk_frozen BK144.out 0
     have hfz29_1 := blk_frozen BK144.out 1
     have hfz29_2 := blk_frozen BK144.out 2
     go_wp2
     go_meet
     case rel => exact ⟨_, (decide (((rd_T37 l1 x20_1).f1) > (wrap64 ((l0.length : Int) - ((rd_T37 l1 x20_1).f0))))), (by first | rfl | (simp; done) | (simp [*]; done) | (simp [i64_w]; done)), H', ⟨by have := HK1.out; first | omega | exact Nat.le_refl _⟩, ⟨by (with_reducible repeat (first | apply Kd.rA | apply Kd.rN | apply Kd.rD)); exact Kd.R_mono (Kd.R_far (p := ⟨gb144, 2, none⟩) (Kd.R_far (p := ⟨gb144, 1, none⟩) (Kd.R_far (p := ⟨gb144, 0, none⟩) (Kd.R_types HO_6.out BK144.out (by decide)) (fun _ hk => hk.2) (.int .i64 ((rd_T37 l1 x20_1).f0))) (fun _ hk => hk.2) (.int .i64 ((rd_T37 l1 x20_1).f1))) (fun _ hk => hk.2) (.slice A143_2 ((rd_T37 l1 x20_1).f2).length c143_2)) (fun _ hk => trivial)⟩, ⟨by (with_reducible repeat (first | refine bN ?_ _ | refine bD ?_ | refine bA ?_ _)); refine blk_far ?_ NB137_144.out _; (with_reducible repeat (first | refine bN ?_ _ | refine bD ?_ | refine bA ?_ _)); refine blk_far ?_ NB137_144.out _; (with_reducible repeat (first | refine bN ?_ _ | refine bD ?_ | refine bA ?_ _)); refine blk_far ?_ NB137_144.out _; (with_reducible repeat (first | refine bN ?_ _ | refine bD ?_ | refine bA ?_ _)); exact BK137.out⟩, ⟨by (with_reducible repeat (first | refine bN ?_ _ | refine bD ?_ | refine bA ?_ _)); refine blk_put (cs := #[.int .i64 ((rd_T37 l1 x20_1).f0), .int .i64 ((rd_T37 l1 x20_1).f1), .slice none 0 0]) ?_ 2 _ rfl; (with_reducible repeat (first | refine bN ?_ _ | refine bD ?_ | refine bA ?_ _)); refine blk_put (cs := #[.int .i64 ((rd_T37 l1 x20_1).f0), .int .i64 0, .slice none 0 0]) ?_ 1 _ rfl; (with_reducible repeat (first | refine bN ?_ _ | refine bD ?_ | refine bA ?_ _)); refine blk_put (cs := #[.int .i64 0, .int .i64 0, .slice none 0 0]) ?_ 0 _ rfl; (with_reducible repeat (first | refine bN ?_ _ | refine bD ?_ | refine bA ?_ _)); exact BK144.out⟩, ⟨by repeat (first | (with_reducible first | exact HB.out | apply lA | apply lN | apply lD | refine lS ?_ GE137.out | refine lS ?_ GE144.out) | exact HB.out)⟩⟩
    case rest =>
     clear HC14
     (try clear c11); (try clear c11b0); (try clear c12); (try clear c12b0); (try clear c13); (try clear c13b0); (try clear hcz17_0); (try clear hcz17_1); (try clear hcz17_2); (try clear hfz17_0); (try clear hfz17_1); (try clear hfz17_2); (try clear hx143_0); (try clear hx143_1); (try clear hx143_2); (try clear p143); (try clear q143)
     obtain ⟨kq, x25_13, rfl, HA, HJ13, HO_6, BK137, BK144, HB⟩ := hcut
     cases kq with
     | zero => exact absurd HA.out (by simp [deltachain_Apply.j1])
     | succ kj13 =>
      have H := HA.out
      clear HA
      simp only [deltachain_Apply.j1] at H
      by_cases c32 : x25_13 = true
      · subst c32
        have H1 : (some (([] : List Int), 3, x20_1)) = some (r1, r2, r3) := by rw [if_pos rfl] at H; exact H
        clear H
        have H := H1
        clear H1
        simp only [Option.some.injEq, Prod.mk.injEq] at H
        obtain ⟨rfl, rfl, rfl⟩ := H
        have hnb33 := NB137_144.out
        have hnc33 := NB144_137.out
        have hcz34_0 : wc.cell? ⟨gb137, 0, none⟩ = some (.int .i64 x138000_1) := (blk_cell BK137.out 0).trans rfl
        have hcz34_1 : wc.cell? ⟨gb137, 1, none⟩ = some (.int .i64 x138001_1) := (blk_cell BK137.out 1).trans rfl
        have hfz34_0 := blk_frozen BK137.out 0
        have hfz34_1 := blk_frozen BK137.out 1
        go_wp2
        refine bodyPost_ret (results_tc rfl _ _ gb137 26 #[.int .i64 3, .int .i64 x20_1] (0, 0) _ rfl (by (with_reducible repeat (first | refine bN ?_ _ | refine bD ?_ | refine bA ?_ _)); refine blk_put (cs := #[.int .i64 3, .int .i64 x138001_1]) ?_ 1 _ rfl; (with_reducible repeat (first | refine bN ?_ _ | refine bD ?_ | refine bA ?_ _)); refine blk_put (cs := #[.int .i64 x138000_1, .int .i64 x138001_1]) ?_ 0 _ rfl; (with_reducible repeat (first | refine bN ?_ _ | refine bD ?_ | refine bA ?_ _)); exact BK137.out) Try.underlying26 rfl (by kernel_rfl)) rfl ?_
        exact ⟨_, by first | rfl | (simp [errW_none, errW_some] <;> rfl) | (simp [*, errW_none, errW_some] <;> rfl), by first | exact Kd.R_nil _ _ _ _ _ | exact Kd.N_nil _ _ _ _ _ | exact Kd.V_nil _ _ _ _ _ | exact Kd.Q_nil _ _ _ _ _ | exact Kd.S_nil _ _ _ _ _, by repeat (first | (with_reducible first | exact HB.out | apply lA | apply lN | apply lD | refine lS ?_ GE137.out | refine lS ?_ GE144.out) | exact HB.out)⟩
      replace c32 := Bool.eq_false_iff.mpr c32
      subst c32
      have H1 : (if ((rd_T37 l1 x20_1).f1) > 0 then (if (((rd_T37 l1 x20_1).f2).length : Int) > 0 then (deltachain_Apply.j2 kj13 l0 x6_1 x20_1 l1 (l1.length : Int) x20_1 true ((rd_T37 l1 x20_1).f0) ((rd_T37 l1 x20_1).f1) ((rd_T37 l1 x20_1).f2)) else (if ((rd_T37 l1 x20_1).f1) = 0 then (if ((rd_T37 l1 x20_1).f0) = 0 then (deltachain_Apply.j2 kj13 l0 x6_1 x20_1 l1 (l1.length : Int) x20_1 ((((rd_T37 l1 x20_1).f2).length : Int) == 0) ((rd_T37 l1 x20_1).f0) ((rd_T37 l1 x20_1).f1) ((rd_T37 l1 x20_1).f2)) else (deltachain_Apply.j2 kj13 l0 x6_1 x20_1 l1 (l1.length : Int) x20_1 true ((rd_T37 l1 x20_1).f0) ((rd_T37 l1 x20_1).f1) ((rd_T37 l1 x20_1).f2))) else (deltachain_Apply.j2 kj13 l0 x6_1 x20_1 l1 (l1.length : Int) x20_1 false ((rd_T37 l1 x20_1).f0) ((rd_T37 l1 x20_1).f1) ((rd_T37 l1 x20_1).f2)))) else (if ((rd_T37 l1 x20_1).f1) = 0 then (if ((rd_T37 l1 x20_1).f0) = 0 then (deltachain_Apply.j2 kj13 l0 x6_1 x20_1 l1 (l1.length : Int) x20_1 ((((rd_T37 l1 x20_1).f2).length : Int) == 0) ((rd_T37 l1 x20_1).f0) ((rd_T37 l1 x20_1).f1) ((rd_T37 l1 x20_1).f2)) else (deltachain_Apply.j2 kj13 l0 x6_1 x20_1 l1 (l1.length : Int) x20_1 true ((rd_T37 l1 x20_1).f0) ((rd_T37 l1 x20_1).f1) ((rd_T37 l1 x20_1).f2))) else (deltachain_Apply.j2 kj13 l0 x6_1 x20_1 l1 (l1.length : Int) x20_1 false ((rd_T37 l1 x20_1).f0) ((rd_T37 l1 x20_1).f1) ((rd_T37 l1 x20_1).f2)))) = some (r1, r2, r3) := by rw [if_neg (show ¬ (false = true) by decide)] at H; exact H
      clear H
      have H := H1
      clear H1
      have HC35 := aZ H
      clear H
      go_upto_region 11 with (fail)
      go_cut [58] (fun v58 wc => ∃ (kq : Nat) (x58_34 : Bool), v58 = .bool x58_34 ∧ Aside0 (deltachain_Apply.j2 kq l0 x6_1 x20_1 l1 (l1.length : Int) x20_1 x58_34 ((rd_T37 l1 x20_1).f0) ((rd_T37 l1 x20_1).f1) ((rd_T37 l1 x20_1).f2) = some (r1, r2, r3)) ∧ Aside0 (kq ≤ kj13) ∧ Aside0 (Kd.R (Kd.int .u8) 5 wc w.heap.size (fun _ => True) u6 x6_1) ∧ Aside0 (wc.heap[gb137]? = some (.cells #[.int .i64 x138000_1, .int .i64 x138001_1] 26 (0, 0))) ∧ Aside0 (wc.heap[gb144]? = some (.cells #[.int .i64 ((rd_T37 l1 x20_1).f0), .int .i64 ((rd_T37 l1 x20_1).f1), (.slice A143_2 ((rd_T37 l1 x20_1).f2).length c143_2)] 37 (0, 0))) ∧ Aside0 (Below w.heap.size w wc))
      case first =>
       have H := HC35.out
       clear HC35
       by_cases c36 : ((rd_T37 l1 x20_1).f1) > 0
       rotate_left
       · rw [if_neg c36] at H
         have c36b0 : decide (0 < ((rd_T37 l1 x20_1).f1)) = false := decide_eq_false c36
         clear c36
         (first | rw [c36b0] | (simp only [i64_w, i32_w]; rw [c36b0]) | skip)
         by_cases c48 : ((rd_T37 l1 x20_1).f1) = 0
         rotate_left
         · rw [if_neg c48] at H
           have c48b0 : (((rd_T37 l1 x20_1).f1) == 0) = false := beq_eq_false_iff_ne.mpr c48
           have c48b1 : (((rd_T37 l1 x20_1).f1) != 0) = true := bne_iff_ne.mpr c48
           have H' := aZ H
           clear H
           have hnb54 := NB144_137.out
           have hnc54 := NB137_144.out
           have hcz55_0 : wc.cell? ⟨gb144, 0, none⟩ = some (.int .i64 ((rd_T37 l1 x20_1).f0)) := (blk_cell BK144.out 0).trans rfl
           have hcz55_1 : wc.cell? ⟨gb144, 1, none⟩ = some (.int .i64 ((rd_T37 l1 x20_1).f1)) := (blk_cell BK144.out 1).trans rfl
           have hcz55_2 : wc.cell? ⟨gb144, 2, none⟩ = some (.slice A143_2 ((rd_T37 l1 x20_1).f2).length c143_2) := (blk_cell BK144.out 2).trans rfl
           have hfz55_0 := blk_frozen BK144.out 0
           have hfz55_1 := blk_frozen BK144.out 1
           have hfz55_2 := blk_frozen BK144.out 2
           go_wp2
           go_meet
           case rel => exact ⟨_, (false), (by first | rfl | (simp; done) | (simp [*]; done) | (simp [i64_w]; done)), H', ⟨by have := HK1.out; have := HJ13.out; first | omega | exact Nat.le_refl _⟩, ⟨by (with_reducible repeat (first | apply Kd.rA | apply Kd.rN | apply Kd.rD)); exact HO_6.out⟩, ⟨by (with_reducible repeat (first | refine bN ?_ _ | refine bD ?_ | refine bA ?_ _)); exact BK137.out⟩, ⟨by (with_reducible repeat (first | refine bN ?_ _ | refine bD ?_ | refine bA ?_ _)); exact BK144.out⟩, ⟨by repeat (first | (with_reducible first | exact HB.out | apply lA | apply lN | apply lD | refine lS ?_ GE137.out | refine lS ?_ GE144.out) | exact HB.out)⟩⟩
         rw [if_pos c48] at H
         have c48b0 : (((rd_T37 l1 x20_1).f1) == 0) = true := beq_iff_eq.mpr c48
         have c48b1 : (((rd_T37 l1 x20_1).f1) != 0) = false := bne_eq_false_iff_eq.mpr c48
         clear c48
         by_cases c49 : ((rd_T37 l1 x20_1).f0) = 0
         rotate_left
         · rw [if_neg c49] at H
           have c49b0 : (((rd_T37 l1 x20_1).f0) == 0) = false := beq_eq_false_iff_ne.mpr c49
           have c49b1 : (((rd_T37 l1 x20_1).f0) != 0) = true := bne_iff_ne.mpr c49
           have H' := aZ H
           clear H
           have hnb52 := NB144_137.out
           have hnc52 := NB137_144.out
           have hcz53_0 : wc.cell? ⟨gb144, 0, none⟩ = some (.int .i64 ((rd_T37 l1 x20_1).f0)) := (blk_cell BK144.out 0).trans rfl
           have hcz53_1 : wc.cell? ⟨gb144, 1, none⟩ = some (.int .i64 ((rd_T37 l1 x20_1).f1)) := (blk_cell BK144.out 1).trans rfl
           have hcz53_2 : wc.cell? ⟨gb144, 2, none⟩ = some (.slice A143_2 ((rd_T37 l1 x20_1).f2).length c143_2) := (blk_cell BK144.out 2).trans rfl
           have hfz53_0 := blk_frozen BK144.out 0
           have hfz53_1 := blk_frozen BK144.out 1
           have hfz53_2 := blk_frozen BK144.out 2
           go_wp2
           go_meet
           case rel => exact ⟨_, (true), (by first | rfl | (simp; done) | (simp [*]; done) | (simp [i64_w]; done)), H', ⟨by have := HK1.out; have := HJ13.out; first | omega | exact Nat.le_refl _⟩, ⟨by (with_reducible repeat (first | apply Kd.rA | apply Kd.rN | apply Kd.rD)); exact HO_6.out⟩, ⟨by (with_reducible repeat (first | refine bN ?_ _ | refine bD ?_ | refine bA ?_ _)); exact BK137.out⟩, ⟨by (with_reducible repeat (first | refine bN ?_ _ | refine bD ?_ | refine bA ?_ _)); exact BK144.out⟩, ⟨by repeat (first | (with_reducible first | exact HB.out | apply lA | apply lN | apply lD | refine lS ?_ GE137.out | refine lS ?_ GE144.out) | exact HB.out)⟩⟩
         rw [if_pos c49] at H
         have c49b0 : (((rd_T37 l1 x20_1).f0) == 0) = true := beq_iff_eq.mpr c49
         have c49b1 : (((rd_T37 l1 x20_1).f0) != 0) = false := bne_eq_false_iff_eq.mpr c49
         clear c49
         have H' := aZ H
         clear H
         have hnb50 := NB144_137.out
         have hnc50 := NB137_144.out
         have hcz51_0 : wc.cell? ⟨gb144, 0, none⟩ = some (.int .i64 ((rd_T37 l1 x20_1).f0)) := (blk_cell BK144.out 0).trans rfl
         have hcz51_1 : wc.cell? ⟨gb144, 1, none⟩ = some (.int .i64 ((rd_T37 l1 x20_1).f1)) := (blk_cell BK144.out 1).trans rfl
         have hcz51_2 : wc.cell? ⟨gb144, 2, none⟩ = some (.slice A143_2 ((rd_T37 l1 x20_1).f2).length c143_2) := (blk_cell BK144.out 2).trans rfl
         have hfz51_0 := blk_frozen BK144.out 0
         have hfz51_1 := blk_frozen BK144.out 1
         have hfz51_2 := blk_frozen BK144.out 2
         go_wp2
         go_meet
         case rel => exact ⟨_, (((((rd_T37 l1 x20_1).f2).length : Int) == 0)), (by first | rfl | (simp; done) | (simp [*]; done) | (simp [i64_w]; done)), H', ⟨by have := HK1.out; have := HJ13.out; first | omega | exact Nat.le_refl _⟩, ⟨by (with_reducible repeat (first | apply Kd.rA | apply Kd.rN | apply Kd.rD)); exact HO_6.out⟩, ⟨by (with_reducible repeat (first | refine bN ?_ _ | refine bD ?_ | refine bA ?_ _)); exact BK137.out⟩, ⟨by (with_reducible repeat (first | refine bN ?_ _ | refine bD ?_ | refine bA ?_ _)); exact BK144.out⟩, ⟨by repeat (first | (with_reducible first | exact HB.out | apply lA | apply lN | apply lD | refine lS ?_ GE137.out | refine lS ?_ GE144.out) | exact HB.out)⟩⟩
       rw [if_pos c36] at H
       have c36b0 : decide (0 < ((rd_T37 l1 x20_1).f1)) = true := decide_eq_true c36
       clear c36
       (first | rw [c36b0] | (simp only [i64_w, i32_w]; rw [c36b0]) | skip)
       by_cases c37 : (((rd_T37 l1 x20_1).f2).length : Int) > 0
       · rw [if_pos c37] at H
         have c37b0 : decide (0 < (((rd_T37 l1 x20_1).f2).length : Int)) = true := decide_eq_true c37
         have c37b1 : decide (0 < ((rd_T37 l1 x20_1).f2).length) = true := decide_eq_true (by omega)
         clear c37
         have H' := aZ H
         clear H
         have hnb38 := NB144_137.out
         have hnc38 := NB137_144.out
         have hcz39_0 : wc.cell? ⟨gb144, 0, none⟩ = some (.int .i64 ((rd_T37 l1 x20_1).f0)) := (blk_cell BK144.out 0).trans rfl
         have hcz39_1 : wc.cell? ⟨gb144, 1, none⟩ = some (.int .i64 ((rd_T37 l1 x20_1).f1)) := (blk_cell BK144.out 1).trans rfl
         have hcz39_2 : wc.cell? ⟨gb144, 2, none⟩ = some (.slice A143_2 ((rd_T37 l1 x20_1).f2).length c143_2) := (blk_cell BK144.out 2).trans rfl
         have hfz39_0 := blk_frozen BK144.out 0
         have hfz39_1 := blk_frozen BK144.out 1
         have hfz39_2 := blk_frozen BK144.out 2
         go_wp2
         go_meet
         case rel => exact ⟨_, (true), (by first | rfl | (simp; done) | (simp [*]; done) | (simp [i64_w]; done)), H', ⟨by have := HK1.out; have := HJ13.out; first | omega | exact Nat.le_refl _⟩, ⟨by (with_reducible repeat (first | apply Kd.rA | apply Kd.rN | apply Kd.rD)); exact HO_6.out⟩, ⟨by (with_reducible repeat (first | refine bN ?_ _ | refine bD ?_ | refine bA ?_ _)); exact BK137.out⟩, ⟨by (with_reducible repeat (first | refine bN ?_ _ | refine bD ?_ | refine bA ?_ _)); exact BK144.out⟩, ⟨by repeat (first | (with_reducible first | exact HB.out | apply lA | apply lN | apply lD | refine lS ?_ GE137.out | refine lS ?_ GE144.out) | exact HB.out)⟩⟩
       rw [if_neg c37] at H
       have c37b0 : decide (0 < (((rd_T37 l1 x20_1).f2).length : Int)) = false := decide_eq_false c37
       have c37b1 : decide (0 < ((rd_T37 l1 x20_1).f2).length) = false := decide_eq_false (by omega)
       clear c37
       by_cases c40 : ((rd_T37 l1 x20_1).f1) = 0
       rotate_left
       · rw [if_neg c40] at H
         have c40b0 : (((rd_T37 l1 x20_1).f1) == 0) = false := beq_eq_false_iff_ne.mpr c40
         have c40b1 : (((rd_T37 l1 x20_1).f1) != 0) = true := bne_iff_ne.mpr c40
         have H' := aZ H
         clear H
         have hnb46 := NB144_137.out
         have hnc46 := NB137_144.out
         have hcz47_0 : wc.cell? ⟨gb144, 0, none⟩ = some (.int .i64 ((rd_T37 l1 x20_1).f0)) := (blk_cell BK144.out 0).trans rfl
         have hcz47_1 : wc.cell? ⟨gb144, 1, none⟩ = some (.int .i64 ((rd_T37 l1 x20_1).f1)) := (blk_cell BK144.out 1).trans rfl
         have hcz47_2 : wc.cell? ⟨gb144, 2, none⟩ = some (.slice A143_2 ((rd_T37 l1 x20_1).f2).length c143_2) := (blk_cell BK144.out 2).trans rfl
         have hfz47_0 := blk_frozen BK144.out 0
         have hfz47_1 := blk_frozen BK144.out 1
         have hfz47_2 := blk_frozen BK144.out 2
         go_wp2
         go_meet
         case rel => exact ⟨_, (false), (by first | rfl | (simp; done) | (simp [*]; done) | (simp [i64_w]; done)), H', ⟨by have := HK1.out; have := HJ13.out; first | omega | exact Nat.le_refl _⟩, ⟨by (with_reducible repeat (first | apply Kd.rA | apply Kd.rN | apply Kd.rD)); exact HO_6.out⟩, ⟨by (with_reducible repeat (first | refine bN ?_ _ | refine bD ?_ | refine bA ?_ _)); exact BK137.out⟩, ⟨by (with_reducible repeat (first | refine bN ?_ _ | refine bD ?_ | refine bA ?_ _)); exact BK144.out⟩, ⟨by repeat (first | (with_reducible first | exact HB.out | apply lA | apply lN | apply lD | refine lS ?_ GE137.out | refine lS ?_ GE144.out) | exact HB.out)⟩⟩
       rw [if_pos c40] at H
       have c40b0 : (((rd_T37 l1 x20_1).f1) == 0) = true := beq_iff_eq.mpr c40
       have c40b1 : (((rd_T37 l1 x20_1).f1) != 0) = false := bne_eq_false_iff_eq.mpr c40
       clear c40
       by_cases c41 : ((rd_T37 l1 x20_1).f0) = 0
       rotate_left
       · rw [if_neg c41] at H
         have c41b0 : (((rd_T37 l1 x20_1).f0) == 0) = false := beq_eq_false_iff_ne.mpr c41
         have c41b1 : (((rd_T37 l1 x20_1).f0) != 0) = true := bne_iff_ne.mpr c41
         have H' := aZ H
         clear H
         have hnb44 := NB144_137.out
         have hnc44 := NB137_144.out
         have hcz45_0 : wc.cell? ⟨gb144, 0, none⟩ = some (.int .i64 ((rd_T37 l1 x20_1).f0)) := (blk_cell BK144.out 0).trans rfl
         have hcz45_1 : wc.cell? ⟨gb144, 1, none⟩ = some (.int .i64 ((rd_T37 l1 x20_1).f1)) := (blk_cell BK144.out 1).trans rfl
         have hcz45_2 : wc.cell? ⟨gb144, 2, none⟩ = some (.slice A143_2 ((rd_T37 l1 x20_1).f2).length c143_2) := (blk_cell BK144.out 2).trans rfl
         have hfz45_0 := blk_frozen BK144.out 0
         have hfz45_1 := blk_frozen BK144.out 1
         have hfz45_2 := blk_frozen BK144.out 2
         go_wp2
         go_meet
         case rel => exact ⟨_, (true), (by first | rfl | (simp; done) | (simp [*]; done) | (simp [i64_w]; done)), H', ⟨by have := HK1.out; have := HJ13.out; first | omega | exact Nat.le_refl _⟩, ⟨by (with_reducible repeat (first | apply Kd.rA | apply Kd.rN | apply Kd.rD)); exact HO_6.out⟩, ⟨by (with_reducible repeat (first | refine bN ?_ _ | refine bD ?_ | refine bA ?_ _)); exact BK137.out⟩, ⟨by (with_reducible repeat (first | refine bN ?_ _ | refine bD ?_ | refine bA ?_ _)); exact BK144.out⟩, ⟨by repeat (first | (with_reducible first | exact HB.out | apply lA | apply lN | apply lD | refine lS ?_ GE137.out | refine lS ?_ GE144.out) | exact HB.out)⟩⟩
       rw [if_pos c41] at H
       have c41b0 : (((rd_T37 l1 x20_1).f0) == 0) = true := beq_iff_eq.mpr c41
       have c41b1 : (((rd_T37 l1 x20_1).f0) != 0) = false := bne_eq_false_iff_eq.mpr c41
       clear c41
       have H' := aZ H
       clear H
       have hnb42 := NB144_137.out
       have hnc42 := NB137_144.out
       have hcz43_0 : wc.cell? ⟨gb144, 0, none⟩ = some (.int .i64 ((rd_T37 l1 x20_1).f0)) := (blk_cell BK144.out 0).trans rfl
       have hcz43_1 : wc.cell? ⟨gb144, 1, none⟩ = some (.int .i64 ((rd_T37 l1 x20_1).f1)) := (blk_cell BK144.out 1).trans rfl
       have hcz43_2 : wc.cell? ⟨gb144, 2, none⟩ = some (.slice A143_2 ((rd_T37 l1 x20_1).f2).length c143_2) := (blk_cell BK144.out 2).trans rfl
       have hfz43_0 := blk_frozen BK144.out 0
       have hfz43_1 := blk_frozen BK144.out 1
       have hfz43_2 := blk_frozen BK144.out 2
       go_wp2
       go_meet
       case rel => exact ⟨_, (((((rd_T37 l1 x20_1).f2).length : Int) == 0)), (by first | rfl | (simp; done) | (simp [*]; done) | (simp [i64_w]; done)), H', ⟨by have := HK1.out; have := HJ13.out; first | omega | exact Nat.le_refl _⟩, ⟨by (with_reducible repeat (first | apply Kd.rA | apply Kd.rN | apply Kd.rD)); exact HO_6.out⟩, ⟨by (with_reducible repeat (first | refine bN ?_ _ | refine bD ?_ | refine bA ?_ _)); exact BK137.out⟩, ⟨by (with_reducible repeat (first | refine bN ?_ _ | refine bD ?_ | refine bA ?_ _)); exact BK144.out⟩, ⟨by repeat (first | (with_reducible first | exact HB.out | apply lA | apply lN | apply lD | refine lS ?_ GE137.out | refine lS ?_ GE144.out) | exact HB.out)⟩⟩
      case rest =>
       clear HC35
       (try clear c32)
       obtain ⟨kq, x58_34, rfl, HA, HJ34, HO_6, BK137, BK144, HB⟩ := hcut
       cases kq with
       | zero => exact absurd HA.out (by simp [deltachain_Apply.j2])
       | succ kj34 =>
        have H := HA.out
        clear HA
        simp only [deltachain_Apply.j2] at H
        by_cases c56 : x58_34 = true
        · subst c56
          have H1 : (some (([] : List Int), 5, x20_1)) = some (r1, r2, r3) := by rw [if_pos rfl] at H; exact H
          clear H
          have H := H1
          clear H1
          simp only [Option.some.injEq, Prod.mk.injEq] at H
          obtain ⟨rfl, rfl, rfl⟩ := H
          have hnb57 := NB137_144.out
          have hnc57 := NB144_137.out
          have hcz58_0 : wc.cell? ⟨gb137, 0, none⟩ = some (.int .i64 x138000_1) := (blk_cell BK137.out 0).trans rfl
          have hcz58_1 : wc.cell? ⟨gb137, 1, none⟩ = some (.int .i64 x138001_1) := (blk_cell BK137.out 1).trans rfl
          have hfz58_0 := blk_frozen BK137.out 0
          have hfz58_1 := blk_frozen BK137.out 1
          go_wp2
          refine bodyPost_ret (results_tc rfl _ _ gb137 26 #[.int .i64 5, .int .i64 x20_1] (0, 0) _ rfl (by (with_reducible repeat (first | refine bN ?_ _ | refine bD ?_ | refine bA ?_ _)); refine blk_put (cs := #[.int .i64 5, .int .i64 x138001_1]) ?_ 1 _ rfl; (with_reducible repeat (first | refine bN ?_ _ | refine bD ?_ | refine bA ?_ _)); refine blk_put (cs := #[.int .i64 x138000_1, .int .i64 x138001_1]) ?_ 0 _ rfl; (with_reducible repeat (first | refine bN ?_ _ | refine bD ?_ | refine bA ?_ _)); exact BK137.out) Try.underlying26 rfl (by kernel_rfl)) rfl ?_
          exact ⟨_, by first | rfl | (simp [errW_none, errW_some] <;> rfl) | (simp [*, errW_none, errW_some] <;> rfl), by first | exact Kd.R_nil _ _ _ _ _ | exact Kd.N_nil _ _ _ _ _ | exact Kd.V_nil _ _ _ _ _ | exact Kd.Q_nil _ _ _ _ _ | exact Kd.S_nil _ _ _ _ _, by repeat (first | (with_reducible first | exact HB.out | apply lA | apply lN | apply lD | refine lS ?_ GE137.out | refine lS ?_ GE144.out) | exact HB.out)⟩
        replace c56 := Bool.eq_false_iff.mpr c56
        subst c56
        have H1 : (if (wrap64 ((wrap64 ((x6_1.length : Int) + ((rd_T37 l1 x20_1).f1))) + (((rd_T37 l1 x20_1).f2).length : Int))) > 1000 then (some (([] : List Int), 10, x20_1)) else (if ((rd_T37 l1 x20_1).f1) > 0 then (if 0 ≤ ((rd_T37 l1 x20_1).f0) then (if ((rd_T37 l1 x20_1).f0) ≤ (wrap64 (((rd_T37 l1 x20_1).f0) + ((rd_T37 l1 x20_1).f1))) then (if (wrap64 (((rd_T37 l1 x20_1).f0) + ((rd_T37 l1 x20_1).f1))) ≤ (l0.length : Int) then (if x6_1.length + ((l0.take ((wrap64 (((rd_T37 l1 x20_1).f0) + ((rd_T37 l1 x20_1).f1))) : Int).toNat).drop (((rd_T37 l1 x20_1).f0) : Int).toNat).length < 140737488355328 then ((some (x6_1 ++ ((l0.take ((wrap64 (((rd_T37 l1 x20_1).f0) + ((rd_T37 l1 x20_1).f1))) : Int).toNat).drop (((rd_T37 l1 x20_1).f0) : Int).toNat) : List Int)).bind fun y146 => (if y146.length + ((rd_T37 l1 x20_1).f2).length < 140737488355328 then (deltachain_Apply.l0 kj34 l0 (y146 ++ ((rd_T37 l1 x20_1).f2)) l1 (l1.length : Int) (wrap64 (x20_1 + 1))) else (none))) else (none)) else (none)) else (none)) else (none)) else (if x6_1.length + ((rd_T37 l1 x20_1).f2).length < 140737488355328 then (deltachain_Apply.l0 kj34 l0 (x6_1 ++ ((rd_T37 l1 x20_1).f2)) l1 (l1.length : Int) (wrap64 (x20_1 + 1))) else (none)))) = some (r1, r2, r3) := by rw [if_neg (show ¬ (false = true) by decide)] at H; exact H
        clear H
        have H := H1
        clear H1
        by_cases c59 : (wrap64 ((wrap64 ((x6_1.length : Int) + ((rd_T37 l1 x20_1).f1))) + (((rd_T37 l1 x20_1).f2).length : Int))) > 1000
        · rw [if_pos c59] at H
          have c59b0 : decide (1000 < (wrap64 ((wrap64 ((x6_1.length : Int) + ((rd_T37 l1 x20_1).f1))) + (((rd_T37 l1 x20_1).f2).length : Int)))) = true := decide_eq_true c59
          clear c59
          simp only [Option.some.injEq, Prod.mk.injEq] at H
          obtain ⟨rfl, rfl, rfl⟩ := H
          obtain ⟨Ao60, co60, eo60⟩ := Kd.R_slice HO_6.out
          subst eo60
          have hnb61 := NB144_137.out
          have hnc61 := NB137_144.out
          have hcz62_0 : wc.cell? ⟨gb144, 0, none⟩ = some (.int .i64 ((rd_T37 l1 x20_1).f0)) := (blk_cell BK144.out 0).trans rfl
          have hcz62_1 : wc.cell? ⟨gb144, 1, none⟩ = some (.int .i64 ((rd_T37 l1 x20_1).f1)) := (blk_cell BK144.out 1).trans rfl
          have hcz62_2 : wc.cell? ⟨gb144, 2, none⟩ = some (.slice A143_2 ((rd_T37 l1 x20_1).f2).length c143_2) := (blk_cell BK144.out 2).trans rfl
          have hfz62_0 := blk_frozen BK144.out 0
          have hfz62_1 := blk_frozen BK144.out 1
          have hfz62_2 := blk_frozen BK144.out 2
          have hcz63_0 : wc.cell? ⟨gb137, 0, none⟩ = some (.int .i64 x138000_1) := (blk_cell BK137.out 0).trans rfl
          have hcz63_1 : wc.cell? ⟨gb137, 1, none⟩ = some (.int .i64 x138001_1) := (blk_cell BK137.out 1).trans rfl
          have hfz63_0 := blk_frozen BK137.out 0
          have hfz63_1 := blk_frozen BK137.out 1
          go_wp2
          refine bodyPost_ret (results_tc rfl _ _ gb137 26 #[.int .i64 10, .int .i64 x20_1] (0, 0) _ rfl (by (with_reducible repeat (first | refine bN ?_ _ | refine bD ?_ | refine bA ?_ _)); refine blk_put (cs := #[.int .i64 10, .int .i64 x138001_1]) ?_ 1 _ rfl; (with_reducible repeat (first | refine bN ?_ _ | refine bD ?_ | refine bA ?_ _)); refine blk_put (cs := #[.int .i64 x138000_1, .int .i64 x138001_1]) ?_ 0 _ rfl; (with_reducible repeat (first | refine bN ?_ _ | refine bD ?_ | refine bA ?_ _)); exact BK137.out) Try.underlying26 rfl (by kernel_rfl)) rfl ?_
          exact ⟨_, by first | rfl | (simp [errW_none, errW_some] <;> rfl) | (simp [*, errW_none, errW_some] <;> rfl), by first | exact Kd.R_nil _ _ _ _ _ | exact Kd.N_nil _ _ _ _ _ | exact Kd.V_nil _ _ _ _ _ | exact Kd.Q_nil _ _ _ _ _ | exact Kd.S_nil _ _ _ _ _, by repeat (first | (with_reducible first | exact HB.out | apply lA | apply lN | apply lD | refine lS ?_ GE137.out | refine lS ?_ GE144.out) | exact HB.out)⟩
        rw [if_neg c59] at H
        have c59b0 : decide (1000 < (wrap64 ((wrap64 ((x6_1.length : Int) + ((rd_T37 l1 x20_1).f1))) + (((rd_T37 l1 x20_1).f2).length : Int)))) = false := decide_eq_false c59
        clear c59
        by_cases c64 : ((rd_T37 l1 x20_1).f1) > 0
        rotate_left
        · rw [if_neg c64] at H
          have c64b0 : decide (0 < ((rd_T37 l1 x20_1).f1)) = false := decide_eq_false c64
          clear c64
          by_cases c77 : x6_1.length + ((rd_T37 l1 x20_1).f2).length < 140737488355328
          rotate_left
          · rw [if_neg c77] at H
            exact absurd H (by simp)
          rw [if_pos c77] at H
          have LMc77 := aZ c77
          clear c77
          obtain ⟨y152, hy152⟩ : ∃ y_ : List Int, y_ = (x6_1 ++ ((rd_T37 l1 x20_1).f2)) := ⟨_, rfl⟩
          replace H : (deltachain_Apply.l0 kj34 l0 y152 l1 (l1.length : Int) (wrap64 (x20_1 + 1))) = some (r1, r2, r3) := by first | (rw [hy152]; with_reducible exact H) | (have H2_ := (Option.bind_some _ _).symm.trans H; rw [hy152]; with_reducible exact H2_) | (have H2_ := (Option.bind_some _ _).symm.trans H; with_reducible exact H2_) | with_reducible exact H | (rw [hy152]; exact H) | exact H
          have Ny152 := aZ hy152
          clear hy152
          have H' := aZ H
          clear H
          obtain ⟨Ao78, co78, eo78⟩ := Kd.R_slice HO_6.out
          subst eo78
          have hnb79 := NB144_137.out
          have hnc79 := NB137_144.out
          have hcz80_0 : wc.cell? ⟨gb144, 0, none⟩ = some (.int .i64 ((rd_T37 l1 x20_1).f0)) := (blk_cell BK144.out 0).trans rfl
          have hcz80_1 : wc.cell? ⟨gb144, 1, none⟩ = some (.int .i64 ((rd_T37 l1 x20_1).f1)) := (blk_cell BK144.out 1).trans rfl
          have hcz80_2 : wc.cell? ⟨gb144, 2, none⟩ = some (.slice A143_2 ((rd_T37 l1 x20_1).f2).length c143_2) := (blk_cell BK144.out 2).trans rfl
          have hfz80_0 := blk_frozen BK144.out 0
          have hfz80_1 := blk_frozen BK144.out 1
          have hfz80_2 := blk_frozen BK144.out 2
          go_wp2_with (first | ((with_reducible refine gate_builtin (b := .append) (xs := #[.tmp 113, .tmp 115]) rfl ?_); (try (refine gate_guard (by rfl) ?_; dsimp only)); at_builtin; refine Kd.R_append_rows (Kd.int .u8) (w0 := w) w.heap.size rfl (.tmp 113) (.tmp 115) 22 5 (.int .u8 0) 1 rfl Try.underlying22 info5 rfl (by decide) (by omega) (.slice Ao78 x6_1.length co78) x6_1 ((rd_T37 l1 x20_1).f2) _ _ _ (fun _ => True) (fun _ => False) rfl rfl ?aO ?aR (fun _ _ h => h) (fun _ h => h.elim) ?aF ?aB ?aS ?aL ?_; (case aR => repeat (first | exact (Kd.C_below HR143_2.out HB.out) | (with_reducible refine Kd.C_alloc ?_ _) | (with_reducible refine Kd.C_drewN ?_ _) | (with_reducible refine Kd.C_drew ?_))); (case aB => exact (by repeat (first | (with_reducible first | exact HB.out | apply lA | apply lN | apply lD | refine lS ?_ GE137.out | refine lS ?_ GE144.out) | exact HB.out))); (case aF => exact (fun _ _ => trivial)); (case aO => exact (by (with_reducible repeat (first | apply Kd.rA | apply Kd.rN | apply Kd.rD)); exact HO_6.out)); (case aS => exact (lZ (by repeat (first | (with_reducible first | exact HB.out | apply lA | apply lN | apply lD | refine lS ?_ GE137.out | refine lS ?_ GE144.out) | exact HB.out)))); (case aL => have := LMc77.out; omega); intro v153 w81 ho hb hg hat; rw [← Ny152.out] at ho; have n0_ := aZ (blk_grown (g := gb137) (o := .cells #[.int .i64 x138000_1, .int .i64 x138001_1] 26 (0, 0)) (by (with_reducible repeat (first | refine bN ?_ _ | refine bD ?_ | refine bA ?_ _)); exact BK137.out) hg (Kd.R_ne HO_6.out BK137.out (by decide))); have n1_ := aZ (blk_grown (g := gb144) (o := .cells #[.int .i64 ((rd_T37 l1 x20_1).f0), .int .i64 ((rd_T37 l1 x20_1).f1), .slice A143_2 ((rd_T37 l1 x20_1).f2).length c143_2] 37 (0, 0)) (by (with_reducible repeat (first | refine bN ?_ _ | refine bD ?_ | refine bA ?_ _)); exact BK144.out) hg (Kd.R_ne HO_6.out BK144.out (by decide))); have n2_ := aZ (hb); have n3_ := aZ (ho); clear BK137; clear BK144; clear HB; clear HO_6; have BK137 := n0_; have BK144 := n1_; have HB := n2_; have HO154 := n3_; clear n0_ n1_ n2_ n3_; clear ho hb hg hat))
          go_roundg kj34
          case measure => have := HK1.out; have := HJ13.out; have := HJ34.out; omega
          case rel => exact ⟨(y152), (wrap64 (x20_1 + 1)), (x138000_1), (x138001_1), (by first | rfl | (simp; done) | (simp [*]; done) | (simp [i64_w]; done)), H', ⟨by have := HK1.out; have := HJ13.out; have := HJ34.out; omega⟩, ⟨by (with_reducible repeat (first | apply Kd.rA | apply Kd.rN | apply Kd.rD)); exact HO154.out⟩, ⟨by (with_reducible repeat (first | refine bN ?_ _ | refine bD ?_ | refine bA ?_ _)); exact BK137.out⟩, ⟨by repeat (first | (with_reducible first | exact HB.out | apply lA | apply lN | apply lD | refine lS ?_ GE137.out | refine lS ?_ GE144.out) | exact HB.out)⟩⟩
        rw [if_pos c64] at H
        have c64b0 : decide (0 < ((rd_T37 l1 x20_1).f1)) = true := decide_eq_true c64
        clear c64
        by_cases c65 : 0 ≤ ((rd_T37 l1 x20_1).f0)
        rotate_left
        · rw [if_neg c65] at H
          exact absurd H (by simp)
        rw [if_pos c65] at H
        have c65b0 := eq_true c65
        have c65b1 : decide (0 ≤ ((rd_T37 l1 x20_1).f0)) = true := decide_eq_true c65
        clear c65
        by_cases c66 : ((rd_T37 l1 x20_1).f0) ≤ (wrap64 (((rd_T37 l1 x20_1).f0) + ((rd_T37 l1 x20_1).f1)))
        rotate_left
        · rw [if_neg c66] at H
          exact absurd H (by simp)
        rw [if_pos c66] at H
        have c66b0 := eq_true c66
        have c66b1 : decide (((rd_T37 l1 x20_1).f0) ≤ (wrap64 (((rd_T37 l1 x20_1).f0) + ((rd_T37 l1 x20_1).f1)))) = true := decide_eq_true c66
        by_cases c67 : (wrap64 (((rd_T37 l1 x20_1).f0) + ((rd_T37 l1 x20_1).f1))) ≤ (l0.length : Int)
        rotate_left
        · rw [if_neg c67] at H
          exact absurd H (by simp)
        rw [if_pos c67] at H
        have c67b0 := eq_true c67
        have c67b1 : decide ((wrap64 (((rd_T37 l1 x20_1).f0) + ((rd_T37 l1 x20_1).f1))) ≤ (l0.length : Int)) = true := decide_eq_true c67
        by_cases c68 : x6_1.length + ((l0.take ((wrap64 (((rd_T37 l1 x20_1).f0) + ((rd_T37 l1 x20_1).f1))) : Int).toNat).drop (((rd_T37 l1 x20_1).f0) : Int).toNat).length < 140737488355328
        rotate_left
        · rw [if_neg c68] at H
          exact absurd H (by simp)
        rw [if_pos c68] at H
        have LMc68 := aZ c68
        clear c68
        obtain ⟨y146, hy146⟩ : ∃ y_ : List Int, y_ = (x6_1 ++ ((l0.take ((wrap64 (((rd_T37 l1 x20_1).f0) + ((rd_T37 l1 x20_1).f1))) : Int).toNat).drop (((rd_T37 l1 x20_1).f0) : Int).toNat)) := ⟨_, rfl⟩
        replace H : (if y146.length + ((rd_T37 l1 x20_1).f2).length < 140737488355328 then (deltachain_Apply.l0 kj34 l0 (y146 ++ ((rd_T37 l1 x20_1).f2)) l1 (l1.length : Int) (wrap64 (x20_1 + 1))) else (none)) = some (r1, r2, r3) := by first | (rw [hy146]; with_reducible exact H) | (have H2_ := (Option.bind_some _ _).symm.trans H; rw [hy146]; with_reducible exact H2_) | (have H2_ := (Option.bind_some _ _).symm.trans H; with_reducible exact H2_) | with_reducible exact H | (rw [hy146]; exact H) | exact H
        have Ny146 := aZ hy146
        clear hy146
        by_cases c69 : y146.length + ((rd_T37 l1 x20_1).f2).length < 140737488355328
        rotate_left
        · rw [if_neg c69] at H
          exact absurd H (by simp)
        rw [if_pos c69] at H
        have LMc69 := aZ c69
        clear c69
        obtain ⟨y149, hy149⟩ : ∃ y_ : List Int, y_ = (y146 ++ ((rd_T37 l1 x20_1).f2)) := ⟨_, rfl⟩
        replace H : (deltachain_Apply.l0 kj34 l0 y149 l1 (l1.length : Int) (wrap64 (x20_1 + 1))) = some (r1, r2, r3) := by first | (rw [hy149]; with_reducible exact H) | (have H2_ := (Option.bind_some _ _).symm.trans H; rw [hy149]; with_reducible exact H2_) | (have H2_ := (Option.bind_some _ _).symm.trans H; with_reducible exact H2_) | with_reducible exact H | (rw [hy149]; exact H) | exact H
        have Ny149 := aZ hy149
        clear hy149
        have H' := aZ H
        clear H
        obtain ⟨Ao70, co70, eo70⟩ := Kd.R_slice HO_6.out
        subst eo70
        have hnb71 := NB144_137.out
        have hnc71 := NB137_144.out
        have hcz72_0 : wc.cell? ⟨gb144, 0, none⟩ = some (.int .i64 ((rd_T37 l1 x20_1).f0)) := (blk_cell BK144.out 0).trans rfl
        have hcz72_1 : wc.cell? ⟨gb144, 1, none⟩ = some (.int .i64 ((rd_T37 l1 x20_1).f1)) := (blk_cell BK144.out 1).trans rfl
        have hcz72_2 : wc.cell? ⟨gb144, 2, none⟩ = some (.slice A143_2 ((rd_T37 l1 x20_1).f2).length c143_2) := (blk_cell BK144.out 2).trans rfl
        have hfz72_0 := blk_frozen BK144.out 0
        have hfz72_1 := blk_frozen BK144.out 1
        have hfz72_2 := blk_frozen BK144.out 2
        obtain ⟨i073, hi073, _, hsz73, _⟩ := info_parts info5
        obtain ⟨A73, hcut73, hA73, hC73⟩ := print_mid_of (P := Try.prog) (Value.int .u8) 0 22 5 .i64 .i64 Try.underlying22 hi073 hsz73 A0 c0 l0 ((rd_T37 l1 x20_1).f0) (wrap64 (((rd_T37 l1 x20_1).f0) + ((rd_T37 l1 x20_1).f1))) (of_decide_eq_true (by first | (with_reducible assumption) | assumption)) (by first | omega | exact of_decide_eq_true (by first | (with_reducible assumption) | assumption)) (of_decide_eq_true (by first | (with_reducible assumption) | assumption)) HC0.out
        have HR145 := aZ (Kd.C_of_reads (h1 := fun _ => rfl) (hA73 _ (Kd.reads_of_C HR0.out)))
        have HC145 := aZ hC73
        clear hA73 hC73 hi073 hsz73
        go_wp2_with (first | ((with_reducible refine gate_builtin (b := .append) (xs := #[.tmp 102, .tmp 111]) rfl ?_); (try (refine gate_guard (by rfl) ?_; dsimp only)); at_builtin; refine Kd.R_append_rows (Kd.int .u8) (w0 := w) w.heap.size rfl (.tmp 102) (.tmp 111) 22 5 (.int .u8 0) 1 rfl Try.underlying22 info5 rfl (by decide) (by omega) (.slice Ao70 x6_1.length co70) x6_1 ((l0.take ((wrap64 (((rd_T37 l1 x20_1).f0) + ((rd_T37 l1 x20_1).f1))) : Int).toNat).drop (((rd_T37 l1 x20_1).f0) : Int).toNat) _ _ _ (fun _ => True) (fun _ => False) rfl rfl ?aO ?aR (fun _ _ h => h) (fun _ h => h.elim) ?aF ?aB ?aS ?aL ?_; (case aR => first | (rw [← show ((l0.take ((wrap64 (((rd_T37 l1 x20_1).f0) + ((rd_T37 l1 x20_1).f1))) : Int).toNat).drop (((rd_T37 l1 x20_1).f0) : Int).toNat).length = ((wrap64 (((rd_T37 l1 x20_1).f0) + ((rd_T37 l1 x20_1).f1))).toNat - ((rd_T37 l1 x20_1).f0).toNat) from (by rw [List.length_drop, List.length_take]; have h_ : ((wrap64 (((rd_T37 l1 x20_1).f0) + ((rd_T37 l1 x20_1).f1))) : Int) ≤ (l0.length : Int) := of_decide_eq_true (by first | (with_reducible assumption) | assumption); omega)]; repeat (first | exact (Kd.C_below HR145.out HB.out) | (with_reducible refine Kd.C_alloc ?_ _) | (with_reducible refine Kd.C_drewN ?_ _) | (with_reducible refine Kd.C_drew ?_))) | (repeat (first | exact (Kd.C_below HR145.out HB.out) | (with_reducible refine Kd.C_alloc ?_ _) | (with_reducible refine Kd.C_drewN ?_ _) | (with_reducible refine Kd.C_drew ?_)))); (case aB => exact (by repeat (first | (with_reducible first | exact HB.out | apply lA | apply lN | apply lD | refine lS ?_ GE137.out | refine lS ?_ GE144.out) | exact HB.out))); (case aF => exact (fun _ _ => trivial)); (case aO => exact (by (with_reducible repeat (first | apply Kd.rA | apply Kd.rN | apply Kd.rD)); exact HO_6.out)); (case aS => exact (lZ (by repeat (first | (with_reducible first | exact HB.out | apply lA | apply lN | apply lD | refine lS ?_ GE137.out | refine lS ?_ GE144.out) | exact HB.out)))); (case aL => have := LMc68.out; have hlx_ := (show ((l0.take ((wrap64 (((rd_T37 l1 x20_1).f0) + ((rd_T37 l1 x20_1).f1))) : Int).toNat).drop (((rd_T37 l1 x20_1).f0) : Int).toNat).length = ((wrap64 (((rd_T37 l1 x20_1).f0) + ((rd_T37 l1 x20_1).f1))).toNat - ((rd_T37 l1 x20_1).f0).toNat) from (by rw [List.length_drop, List.length_take]; have h_ : ((wrap64 (((rd_T37 l1 x20_1).f0) + ((rd_T37 l1 x20_1).f1))) : Int) ≤ (l0.length : Int) := of_decide_eq_true (by first | (with_reducible assumption) | assumption); omega)); omega); intro v147 w74 ho hb hg hat; rw [← Ny146.out] at ho; have n0_ := aZ (blk_grown (g := gb137) (o := .cells #[.int .i64 x138000_1, .int .i64 x138001_1] 26 (0, 0)) (by (with_reducible repeat (first | refine bN ?_ _ | refine bD ?_ | refine bA ?_ _)); exact BK137.out) hg (Kd.R_ne HO_6.out BK137.out (by decide))); have n1_ := aZ (blk_grown (g := gb144) (o := .cells #[.int .i64 ((rd_T37 l1 x20_1).f0), .int .i64 ((rd_T37 l1 x20_1).f1), .slice A143_2 ((rd_T37 l1 x20_1).f2).length c143_2] 37 (0, 0)) (by (with_reducible repeat (first | refine bN ?_ _ | refine bD ?_ | refine bA ?_ _)); exact BK144.out) hg (Kd.R_ne HO_6.out BK144.out (by decide))); have n2_ := aZ (hb); have n3_ := aZ (ho); clear BK137; clear BK144; clear HB; clear HO_6; have BK137 := n0_; have BK144 := n1_; have HB := n2_; have HO148 := n3_; clear n0_ n1_ n2_ n3_; clear ho hb hg hat; have hcz75_0 : w74.cell? ⟨gb144, 0, none⟩ = some (.int .i64 ((rd_T37 l1 x20_1).f0)) := (blk_cell BK144.out 0).trans rfl; have hcz75_1 : w74.cell? ⟨gb144, 1, none⟩ = some (.int .i64 ((rd_T37 l1 x20_1).f1)) := (blk_cell BK144.out 1).trans rfl; have hcz75_2 : w74.cell? ⟨gb144, 2, none⟩ = some (.slice A143_2 ((rd_T37 l1 x20_1).f2).length c143_2) := (blk_cell BK144.out 2).trans rfl; have hfz75_0 := blk_frozen BK144.out 0; have hfz75_1 := blk_frozen BK144.out 1; have hfz75_2 := blk_frozen BK144.out 2) | ((with_reducible refine gate_builtin (b := .append) (xs := #[.tmp 113, .tmp 115]) rfl ?_); (try (refine gate_guard (by rfl) ?_; dsimp only)); at_builtin; refine Kd.R_append_rows (Kd.int .u8) (w0 := w) w.heap.size rfl (.tmp 113) (.tmp 115) 22 5 (.int .u8 0) 1 rfl Try.underlying22 info5 rfl (by decide) (by omega) v147 y146 ((rd_T37 l1 x20_1).f2) _ _ _ (fun _ => True) (fun _ => False) rfl rfl ?aO ?aR (fun _ _ h => h) (fun _ h => h.elim) ?aF ?aB ?aS ?aL ?_; (case aR => repeat (first | exact (Kd.C_below HR143_2.out HB.out) | (with_reducible refine Kd.C_alloc ?_ _) | (with_reducible refine Kd.C_drewN ?_ _) | (with_reducible refine Kd.C_drew ?_))); (case aB => exact (by repeat (first | (with_reducible first | exact HB.out | apply lA | apply lN | apply lD | refine lS ?_ GE137.out | refine lS ?_ GE144.out) | exact HB.out))); (case aF => exact (fun _ _ => trivial)); (case aO => exact (by (with_reducible repeat (first | apply Kd.rA | apply Kd.rN | apply Kd.rD)); exact HO148.out)); (case aS => exact (lZ (by repeat (first | (with_reducible first | exact HB.out | apply lA | apply lN | apply lD | refine lS ?_ GE137.out | refine lS ?_ GE144.out) | exact HB.out)))); (case aL => have := LMc69.out; omega); intro v150 w76 ho hb hg hat; rw [← Ny149.out] at ho; have n0_ := aZ (blk_grown (g := gb137) (o := .cells #[.int .i64 x138000_1, .int .i64 x138001_1] 26 (0, 0)) (by (with_reducible repeat (first | refine bN ?_ _ | refine bD ?_ | refine bA ?_ _)); exact BK137.out) hg (Kd.R_ne HO148.out BK137.out (by decide))); have n1_ := aZ (blk_grown (g := gb144) (o := .cells #[.int .i64 ((rd_T37 l1 x20_1).f0), .int .i64 ((rd_T37 l1 x20_1).f1), .slice A143_2 ((rd_T37 l1 x20_1).f2).length c143_2] 37 (0, 0)) (by (with_reducible repeat (first | refine bN ?_ _ | refine bD ?_ | refine bA ?_ _)); exact BK144.out) hg (Kd.R_ne HO148.out BK144.out (by decide))); have n2_ := aZ (hb); have n3_ := aZ (ho); clear BK137; clear BK144; clear HB; clear HO148; have BK137 := n0_; have BK144 := n1_; have HB := n2_; have HO151 := n3_; clear n0_ n1_ n2_ n3_; clear ho hb hg hat))
        go_roundg kj34
        case measure => have := HK1.out; have := HJ13.out; have := HJ34.out; omega
        case rel => exact ⟨(y149), (wrap64 (x20_1 + 1)), (x138000_1), (x138001_1), (by first | rfl | (simp; done) | (simp [*]; done) | (simp [i64_w]; done)), H', ⟨by have := HK1.out; have := HJ13.out; have := HJ34.out; omega⟩, ⟨by (with_reducible repeat (first | apply Kd.rA | apply Kd.rN | apply Kd.rD)); exact HO151.out⟩, ⟨by (with_reducible repeat (first | refine bN ?_ _ | refine bD ?_ | refine bA ?_ _)); exact BK137.out⟩, ⟨by repeat (first | (with_reducible first | exact HB.out | apply lA | apply lN | apply lD | refine lS ?_ GE137.out | refine lS ?_ GE144.out) | exact HB.out)⟩⟩
end Go.Proofs.Ytgmpnghgmcgghaa.P
