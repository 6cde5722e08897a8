/- What the Go functions of this seat compute, and that they do: printed by a program over the kit's print. -/
import Derived.Test.YtgmpnghgmcgghaaP0
import Derived.Test.YtgmpnghgmcgghaaP1
import Derived.Test.YtgmpnghgmcgghaaP2
import Derived.Test.YtgmpnghgmcgghaaP5
import Derived.Test.YtgmpnghgmcgghaaP16
namespace Go.Proofs.Ytgmpnghgmcgghaa.P
open Go.RowKit Go.Proofs.YtgmpnghgmcgghaaW.PrintWords Go.Proofs.YtgmpnghgmcgghaaW.PrintLast Go.Proofs.YtgmpnghgmcgghaaW.PrintMore
attribute [local go_sem] max2_int min2_int max_two min_two max_three min_three max_four min_four   -- for this text's walks alone
set_option linter.unusedVariables false
set_option linter.unusedSimpArgs false

attribute [local go_sem high] eqA26
/-! ### deltachain_unpack: function 27 -/
mutual
def deltachain_unpack.l0 : Nat → List (List Int) → List Int → List (S45) → Int → Int → Option ((List (List Int)) × List Int × Int × Int)
  | 0, _, _, _, _, _ => none
  | k + 1, x5, x6, x15, x16, x17 => if x17 < x16 then (if 0 ≤ x17 then (if x17 < (x15.length : Int) then (if ((rd_T45 x15 x17).f0) < (-1) then (deltachain_unpack.j1 k x5 x6 x17 x15 x16 x17 true ((rd_T45 x15 x17).f0) ((rd_T45 x15 x17).f1) ((rd_T45 x15 x17).f2)) else (deltachain_unpack.j1 k x5 x6 x17 x15 x16 x17 (decide (((rd_T45 x15 x17).f0) ≥ x17)) ((rd_T45 x15 x17).f0) ((rd_T45 x15 x17).f1) ((rd_T45 x15 x17).f2))) else (none)) else (none)) else (some (x5, x6, 0, 0))
def deltachain_unpack.j1 : Nat → List (List Int) → List Int → Int → List (S45) → Int → Int → Bool → Int → List Int → List (S37) → Option ((List (List Int)) × List Int × Int × Int)
  | 0, _, _, _, _, _, _, _, _, _, _ => none
  | k + 1, x5, x6, x7, x15, x16, x17, x22, x382000, x382001, x382002 => if x22 = true then (some (([] : List (List Int)), ([] : List Int), 3, x7)) else (if x382000 = (-1) then (if (x382002.length : Int) > 0 then (deltachain_unpack.j2 k x5 x6 x7 x15 x16 x17 true x382000 x382001 x382002) else (if x382000 ≥ 0 then (deltachain_unpack.j2 k x5 x6 x7 x15 x16 x17 (decide ((x382001.length : Int) > 0)) x382000 x382001 x382002) else (deltachain_unpack.j2 k x5 x6 x7 x15 x16 x17 false x382000 x382001 x382002))) else (if x382000 ≥ 0 then (deltachain_unpack.j2 k x5 x6 x7 x15 x16 x17 (decide ((x382001.length : Int) > 0)) x382000 x382001 x382002) else (deltachain_unpack.j2 k x5 x6 x7 x15 x16 x17 false x382000 x382001 x382002)))
def deltachain_unpack.j2 : Nat → List (List Int) → List Int → Int → List (S45) → Int → Int → Bool → Int → List Int → List (S37) → Option ((List (List Int)) × List Int × Int × Int)
  | 0, _, _, _, _, _, _, _, _, _, _ => none
  | k + 1, x5, x6, x7, x15, x16, x17, x34, x382000, x382001, x382002 => if x34 = true then (some (([] : List (List Int)), ([] : List Int), 5, x7)) else ((deltachain_sized.f k (([x382001] : List (List Int)))).bind fun t386 => (if t386 = true then (if x382000 = (-1) then ((bytes_Clone.f x382001).bind fun t387 => ((some (([t387] : List (List Int)) : List (List Int))).bind fun y390 => (if x5.length + y390.length < 5864062014805 then ((some (([0] : List Int) : List Int)).bind fun y396 => (if x6.length + y396.length < 17592186044416 then (deltachain_unpack.l0 k (x5 ++ y390) (x6 ++ y396) x15 x16 (wrap64 (x17 + 1))) else (none))) else (none)))) else (if 0 ≤ x382000 then (if x382000 < (x5.length : Int) then ((deltachain_Apply.f k (rd_L1 x5 x382000) x382002).bind fun bt403 => (if (!(bt403.2.1 == 0) || (!(bt403.2.2 == 0))) = true then (some (([] : List (List Int)), ([] : List Int), bt403.2.1, x7)) else ((some (([bt403.1] : List (List Int)) : List (List Int))).bind fun y409 => (if x5.length + y409.length < 5864062014805 then (if x382000 < (x6.length : Int) then ((some (([wrap64 ((rd x6 x382000) + 1)] : List Int) : List Int)).bind fun y416 => (if x6.length + y416.length < 17592186044416 then (deltachain_unpack.l0 k (x5 ++ y409) (x6 ++ y416) x15 x16 (wrap64 (x17 + 1))) else (none))) else (none)) else (none))))) else (none)) else (none))) else (some (([] : List (List Int)), ([] : List Int), 10, x7))))
end
def deltachain_unpack.f (k : Nat) (l0 : List (S45)) : Option ((List (List Int)) × List Int × Int × Int) := if (l0.length : Int) > 20 then (some (([] : List (List Int)), ([] : List Int), 2, (-1))) else (deltachain_unpack.l0 k ([] : List (List Int)) ([] : List Int) l0 (l0.length : Int) 0)
theorem deltachain_unpack.mono_l : ∀ k, (∀ y0 y1 y2 y3 y4, LeO (deltachain_unpack.l0 k y0 y1 y2 y3 y4) (deltachain_unpack.l0 (k + 1) y0 y1 y2 y3 y4)) ∧ (∀ y0 y1 y2 y3 y4 y5 y6 y7 y8 y9, LeO (deltachain_unpack.j1 k y0 y1 y2 y3 y4 y5 y6 y7 y8 y9) (deltachain_unpack.j1 (k + 1) y0 y1 y2 y3 y4 y5 y6 y7 y8 y9)) ∧ (∀ y0 y1 y2 y3 y4 y5 y6 y7 y8 y9, LeO (deltachain_unpack.j2 k y0 y1 y2 y3 y4 y5 y6 y7 y8 y9) (deltachain_unpack.j2 (k + 1) y0 y1 y2 y3 y4 y5 y6 y7 y8 y9))
  | 0 => ⟨fun _ _ _ _ _ r h => by simp [deltachain_unpack.l0] at h, fun _ _ _ _ _ _ _ _ _ _ r h => by simp [deltachain_unpack.j1] at h, fun _ _ _ _ _ _ _ _ _ _ r h => by simp [deltachain_unpack.j2] at h⟩
  | k + 1 => by
    obtain ⟨ih0, ih1, ih2⟩ := deltachain_unpack.mono_l k
    refine ⟨?_, ?_, ?_⟩
    · intro y0 y1 y2 y3 y4
      unfold deltachain_unpack.l0
      repeat' first
      | (with_reducible exact ih0 _ _ _ _ _)
      | (with_reducible exact ih1 _ _ _ _ _ _ _ _ _ _)
      | (with_reducible exact ih2 _ _ _ _ _ _ _ _ _ _)
      | (with_reducible exact deltachain_Apply.mono _ _ _)
      | (with_reducible exact deltachain_sized.mono _ _)
      | (with_reducible exact LeO.refl _)
      | (with_reducible exact LeO.none _)
      | (with_reducible refine LeO.ite ?_ ?_)
      | (with_reducible refine LeO.bind ?_ (fun _ => ?_))
      | exact ih0 _ _ _ _ _
      | exact ih1 _ _ _ _ _ _ _ _ _ _
      | exact ih2 _ _ _ _ _ _ _ _ _ _
      | exact deltachain_Apply.mono _ _ _
      | exact deltachain_sized.mono _ _
      | exact LeO.none _
      | refine LeO.ite ?_ ?_
      | refine LeO.bind ?_ (fun _ => ?_)
    · intro y0 y1 y2 y3 y4 y5 y6 y7 y8 y9
      unfold deltachain_unpack.j1
      repeat' first
      | (with_reducible exact ih0 _ _ _ _ _)
      | (with_reducible exact ih1 _ _ _ _ _ _ _ _ _ _)
      | (with_reducible exact ih2 _ _ _ _ _ _ _ _ _ _)
      | (with_reducible exact deltachain_Apply.mono _ _ _)
      | (with_reducible exact deltachain_sized.mono _ _)
      | (with_reducible exact LeO.refl _)
      | (with_reducible exact LeO.none _)
      | (with_reducible refine LeO.ite ?_ ?_)
      | (with_reducible refine LeO.bind ?_ (fun _ => ?_))
      | exact ih0 _ _ _ _ _
      | exact ih1 _ _ _ _ _ _ _ _ _ _
      | exact ih2 _ _ _ _ _ _ _ _ _ _
      | exact deltachain_Apply.mono _ _ _
      | exact deltachain_sized.mono _ _
      | exact LeO.none _
      | refine LeO.ite ?_ ?_
      | refine LeO.bind ?_ (fun _ => ?_)
    · intro y0 y1 y2 y3 y4 y5 y6 y7 y8 y9
      unfold deltachain_unpack.j2
      repeat' first
      | (with_reducible exact ih0 _ _ _ _ _)
      | (with_reducible exact ih1 _ _ _ _ _ _ _ _ _ _)
      | (with_reducible exact ih2 _ _ _ _ _ _ _ _ _ _)
      | (with_reducible exact deltachain_Apply.mono _ _ _)
      | (with_reducible exact deltachain_sized.mono _ _)
      | (with_reducible exact LeO.refl _)
      | (with_reducible exact LeO.none _)
      | (with_reducible refine LeO.ite ?_ ?_)
      | (with_reducible refine LeO.bind ?_ (fun _ => ?_))
      | exact ih0 _ _ _ _ _
      | exact ih1 _ _ _ _ _ _ _ _ _ _
      | exact ih2 _ _ _ _ _ _ _ _ _ _
      | exact deltachain_Apply.mono _ _ _
      | exact deltachain_sized.mono _ _
      | exact LeO.none _
      | refine LeO.ite ?_ ?_
      | refine LeO.bind ?_ (fun _ => ?_)
theorem deltachain_unpack.mono : ∀ a0 k, LeO (deltachain_unpack.f k a0) (deltachain_unpack.f (k + 1) a0) := by
  intro a0 k
  obtain ⟨ih0, ih1, ih2⟩ := deltachain_unpack.mono_l k
  unfold deltachain_unpack.f
  repeat' first
      | (with_reducible exact ih0 _ _ _ _ _)
      | (with_reducible exact ih1 _ _ _ _ _ _ _ _ _ _)
      | (with_reducible exact ih2 _ _ _ _ _ _ _ _ _ _)
      | (with_reducible exact deltachain_Apply.mono _ _ _)
      | (with_reducible exact deltachain_sized.mono _ _)
      | (with_reducible exact LeO.refl _)
      | (with_reducible exact LeO.none _)
      | (with_reducible refine LeO.ite ?_ ?_)
      | (with_reducible refine LeO.bind ?_ (fun _ => ?_))
      | exact ih0 _ _ _ _ _
      | exact ih1 _ _ _ _ _ _ _ _ _ _
      | exact ih2 _ _ _ _ _ _ _ _ _ _
      | exact deltachain_Apply.mono _ _ _
      | exact deltachain_sized.mono _ _
      | exact LeO.none _
      | refine LeO.ite ?_ ?_
      | refine LeO.bind ?_ (fun _ => ?_)
def deltachain_unpack.T16 : Bool × List (List Nat × List Nat) := (true, [([], []), ([], []), ([1], [1]), ([0, 2], [0, 2]), ([3], [3]), ([], []), ([5], [5]), ([4, 6], [4, 6]), ([7], [7]), ([8], [8]), ([8], [8]), ([], []), ([9, 7, 0, 1, 2, 3, 4, 5, 6, 7, 8, 9, 11], [9]), ([11, 10, 12, 0, 1, 2, 3, 4, 5, 6, 7, 8, 9, 10, 11, 12], [10, 11])])
def deltachain_unpack.B16 : List Nat := [0, 0, 2, 7, 15, 0, 32, 127, 255, 511, 511, 0, 3071, 8191]
theorem deltachain_unpack.tab16 : rtab .any (opsOf Try.f27 16) = deltachain_unpack.T16 := by kernel_rfl
theorem deltachain_unpack.bits16 : waitsOk deltachain_unpack.T16.2 deltachain_unpack.B16 = true := by kernel_rfl
def deltachain_unpack.T19 : Bool × List (List Nat × List Nat) := (true, [([], []), ([], []), ([1], [1]), ([0, 2], [0, 2]), ([], []), ([], []), ([], []), ([6], [6]), ([5, 7], [5, 7]), ([8], [8]), ([9], [9]), ([10], [10]), ([4, 11, 3], [4, 11]), ([3, 12, 0, 1, 2, 3], [0, 3]), ([12, 13, 0, 1, 2, 3, 4, 5, 6, 7, 8, 9, 10, 11, 12, 13], [4, 5, 12])])
def deltachain_unpack.B19 : List Nat := [0, 0, 2, 7, 0, 0, 0, 64, 224, 480, 992, 2016, 4095, 8191, 16383]
theorem deltachain_unpack.tab19 : rtab .any (opsOf Try.f27 19) = deltachain_unpack.T19 := by kernel_rfl
theorem deltachain_unpack.bits19 : waitsOk deltachain_unpack.T19.2 deltachain_unpack.B19 = true := by kernel_rfl
abbrev deltachain_unpack.Z1 : Array Bool := #[false, false, false, false, false, false, false, false, false, false, false, false, false, false]
abbrev deltachain_unpack.Z2 : Array Bool := #[true, false, false, false, false, false, false, false, false, false, false, false, false, false]
abbrev deltachain_unpack.Z3 : Array Bool := #[true, true, false, false, false, false, false, false, false, false, false, false, false, false]
abbrev deltachain_unpack.Z4 : Array Bool := #[true, true, false, false, false, true, false, false, false, false, false, false, false, false]
abbrev deltachain_unpack.Z5 : Array Bool := #[true, true, true, false, false, true, false, false, false, false, false, false, false, false]
abbrev deltachain_unpack.Z6 : Array Bool := #[true, true, true, true, false, true, false, false, false, false, false, false, false, false]
abbrev deltachain_unpack.Z7 : Array Bool := #[true, true, true, true, true, true, false, false, false, false, false, false, false, false]
abbrev deltachain_unpack.Z8 : Array Bool := #[true, true, true, true, true, true, true, false, false, false, false, false, false, false]
abbrev deltachain_unpack.Z9 : Array Bool := #[true, true, true, true, true, true, true, true, true, true, true, true, false, false]
abbrev deltachain_unpack.Z10 : Array Bool := #[true, true, true, true, true, true, true, true, false, false, false, false, false, false]
abbrev deltachain_unpack.Z11 : Array Bool := #[true, true, true, true, true, true, true, false, false, false, false, true, false, false]
abbrev deltachain_unpack.Z12 : Array Bool := #[true, true, true, true, true, true, true, true, true, false, false, false, false, false]
abbrev deltachain_unpack.Z13 : Array Bool := #[true, true, true, true, true, true, true, true, true, true, false, false, false, false]
abbrev deltachain_unpack.Z14 : Array Bool := #[true, true, true, true, true, true, true, true, true, true, true, false, false, false]
abbrev deltachain_unpack.Z15 : Array Bool := #[true, true, true, true, true, true, true, true, false, false, false, true, false, false]
abbrev deltachain_unpack.Z16 : Array Bool := #[true, true, true, true, true, true, true, true, true, false, false, true, false, false]
abbrev deltachain_unpack.Z17 : Array Bool := #[true, true, true, true, true, true, true, true, true, true, false, true, false, false]
abbrev deltachain_unpack.Z18 : Array Bool := #[true, true, true, true, true, true, true, true, true, true, true, true, true, false]
abbrev deltachain_unpack.Z19 : Array Bool := #[true, true, true, true, true, true, true, true, true, true, true, true, true, true]
abbrev deltachain_unpack.Z20 : Array Bool := #[false, false, false, false, false, false, false, false, false, false, false, false, false, false, false]
abbrev deltachain_unpack.Z21 : Array Bool := #[true, false, false, false, false, false, false, false, false, false, false, false, false, false, false]
abbrev deltachain_unpack.Z22 : Array Bool := #[true, true, false, false, false, false, false, false, false, false, false, false, false, false, false]
abbrev deltachain_unpack.Z23 : Array Bool := #[true, true, false, false, true, false, false, false, false, false, false, false, false, false, false]
abbrev deltachain_unpack.Z24 : Array Bool := #[true, true, false, false, true, true, false, false, false, false, false, false, false, false, false]
abbrev deltachain_unpack.Z25 : Array Bool := #[true, true, false, false, true, true, true, false, false, false, false, false, false, false, false]
abbrev deltachain_unpack.Z26 : Array Bool := #[true, true, false, false, true, true, true, true, false, false, false, false, false, false, false]
abbrev deltachain_unpack.Z27 : Array Bool := #[true, true, false, false, true, true, true, true, true, false, false, false, false, false, false]
abbrev deltachain_unpack.Z28 : Array Bool := #[true, true, false, false, true, true, true, true, true, true, false, false, false, false, false]
abbrev deltachain_unpack.Z29 : Array Bool := #[true, true, false, false, true, true, true, true, true, true, true, false, false, false, false]
abbrev deltachain_unpack.Z30 : Array Bool := #[true, true, true, true, true, true, true, true, true, true, true, true, false, false, false]
abbrev deltachain_unpack.Z31 : Array Bool := #[true, true, true, false, true, true, true, true, true, true, true, false, false, false, false]
abbrev deltachain_unpack.Z32 : Array Bool := #[true, true, false, false, true, true, true, true, true, true, true, true, false, false, false]
abbrev deltachain_unpack.Z33 : Array Bool := #[true, true, true, true, true, true, true, true, true, true, true, false, false, false, false]
abbrev deltachain_unpack.Z34 : Array Bool := #[true, true, true, false, true, true, true, true, true, true, true, true, false, false, false]
abbrev deltachain_unpack.Z35 : Array Bool := #[true, true, true, true, true, true, true, true, true, true, true, true, true, false, false]
abbrev deltachain_unpack.Z36 : Array Bool := #[true, true, true, true, true, true, true, true, true, true, true, true, true, true, false]
abbrev deltachain_unpack.Z37 : Array Bool := #[true, true, true, true, true, true, true, true, true, true, true, true, true, true, true]
set_option maxHeartbeats 8000000 in
set_option maxRecDepth 100000 in
theorem deltachain_unpack.calls (k : Nat) (A0 : Option Addr) (c0 : Nat) (l0 : List (S45)) (r1 : List (List Int)) (r2 : List Int) (r3 : Int) (r4 : Int) (w : World) (hr0 : Kd.C k45 w A0 l0.length l0) (hc0 : l0.length ≤ c0) (h : deltachain_unpack.f k l0 = some (r1, r2, r3, r4)) :
  Calls Try.prog 27 #[.slice A0 l0.length c0] w fun e w' => ∃ v0_ v1_ : Value, e = .returned (.tuple #[v0_, v1_, .agg #[.int .i64 r3, .int .i64 r4]]) ∧ Kd.N (Kd.slice 5 (Kd.int .u8)) 22 w' w.heap.size (fun k_ => (w.heap.size ≤ k_) ∧ some k_ ≠ (v1_ : Value).ownBlock) v0_ r1 ∧ Kd.R (Kd.int .i64) 3 w' w.heap.size (fun k_ => (w.heap.size ≤ k_)) v1_ r2 ∧ Below w.heap.size w w' := by
  have hu26 := Try.underlying26
  have hu45 := Try.underlying45
  have HR0 := aZ hr0
  have HC0 := aZ hc0
  clear hr0 hc0
  have HB := aZ (Below.refl w.heap.size w)
  have H : (if (l0.length : Int) > 20 then (some (([] : List (List Int)), ([] : List Int), 2, (-1))) else (deltachain_unpack.l0 k ([] : List (List Int)) ([] : List Int) l0 (l0.length : Int) 0)) = some (r1, r2, r3, r4) := h
  clear h
  by_cases c2 : (l0.length : Int) > 20
  · rw [if_pos c2] at H
    have c2b0 : decide (20 < (l0.length : Int)) = true := decide_eq_true c2
    have c2b1 : decide (20 < l0.length) = true := decide_eq_true (by omega)
    clear c2
    simp only [Option.some.injEq, Prod.mk.injEq] at H
    obtain ⟨rfl, rfl, rfl, rfl⟩ := H
    go_enter Try.func27, Try.ntmps27
    go_wp2_with (first | ((with_reducible refine gate_dst (N := 4) rfl ?_); (try (refine gate_guard (by rfl) ?_; dsimp only)); refine box_event ?hg (N := 4) ?hd (cs := #[.int .i64 0, .int .i64 0]) (t := 26) ?hr ?_; (case hd => rfl); (case hg => rfl); (case hr => first | (go_simp; done) | (go_simp; rfl)); intro gb379 hg w3 hbox hb; have n0_ := aZ (lT (by repeat (first | (with_reducible first | exact HB.out | apply lA | apply lN | apply lD) | exact HB.out)) hb); have n1_ := aZ (hbox); have n2_ := aZ ((by rw [hg]; exact (lZ (by repeat (first | (with_reducible first | exact HB.out | apply lA | apply lN | apply lD) | exact HB.out))) : w.heap.size ≤ gb379)); have n3_ := aZ ((by rw [hg]; exact (lZ (by repeat (first | (with_reducible first | exact HB.out | apply lA | apply lN | apply lD) | exact HB.out))) : w.heap.size ≤ gb379)); clear HB; have HB := n0_; have BK379 := n1_; have GW379 := n2_; have GE379 := n3_; clear n0_ n1_ n2_ n3_; clear hb hbox hg; have hcz4_0 : w3.cell? ⟨gb379, 0, none⟩ = some (.int .i64 0) := (blk_cell BK379.out 0).trans rfl; have hcz4_1 : w3.cell? ⟨gb379, 1, none⟩ = some (.int .i64 0) := (blk_cell BK379.out 1).trans rfl; have hfz4_0 := blk_frozen BK379.out 0; have hfz4_1 := blk_frozen BK379.out 1))
    refine bodyPost_ret (results_list (rs := [.tmp 2, .tmp 3, .cell 4 26]) rfl (by simp) (.tmp (.tmp (.cell gb379 26 #[.int .i64 2, .int .i64 (-1)] (0, 0) _ rfl (by (with_reducible repeat (first | refine bN ?_ _ | refine bD ?_ | refine bA ?_ _)); refine blk_put (cs := #[.int .i64 2, .int .i64 0]) ?_ 1 _ rfl; (with_reducible repeat (first | refine bN ?_ _ | refine bD ?_ | refine bA ?_ _)); refine blk_put (cs := #[.int .i64 0, .int .i64 0]) ?_ 0 _ rfl; (with_reducible repeat (first | refine bN ?_ _ | refine bD ?_ | refine bA ?_ _)); exact BK379.out) Try.underlying26 rfl (by kernel_rfl) .nil)))) rfl ?_
    exact ⟨_, _, by first | rfl | (simp [errW_none, errW_some] <;> rfl) | (simp [*, errW_none, errW_some] <;> rfl), by first | exact Kd.S_nil _ _ _ _ _ | exact Kd.N_nil _ _ _ _ _ | exact Kd.V_nil _ _ _ _ _ | exact Kd.Q_nil _ _ _ _ _ | exact Kd.R_nil _ _ _ _ _, by first | exact Kd.R_nil _ _ _ _ _ | exact Kd.N_nil _ _ _ _ _ | exact Kd.V_nil _ _ _ _ _ | exact Kd.Q_nil _ _ _ _ _ | exact Kd.S_nil _ _ _ _ _, by repeat (first | (with_reducible first | exact HB.out | apply lA | apply lN | apply lD | refine lS ?_ GE379.out) | exact HB.out)⟩
  rw [if_neg c2] at H
  have c2b0 : decide (20 < (l0.length : Int)) = false := decide_eq_false c2
  have c2b1 : decide (20 < l0.length) = false := decide_eq_false (by omega)
  clear c2
  have H' := aZ H
  clear H
  go_enter Try.func27, Try.ntmps27
  go_wp2_with (first | ((with_reducible refine gate_dst (N := 4) rfl ?_); (try (refine gate_guard (by rfl) ?_; dsimp only)); refine box_event ?hg (N := 4) ?hd (cs := #[.int .i64 0, .int .i64 0]) (t := 26) ?hr ?_; (case hd => rfl); (case hg => rfl); (case hr => first | (go_simp; done) | (go_simp; rfl)); intro gb379 hg w5 hbox hb; have n0_ := aZ (lT (by repeat (first | (with_reducible first | exact HB.out | apply lA | apply lN | apply lD) | exact HB.out)) hb); have n1_ := aZ (hbox); have n2_ := aZ ((by rw [hg]; exact (lZ (by repeat (first | (with_reducible first | exact HB.out | apply lA | apply lN | apply lD) | exact HB.out))) : w.heap.size ≤ gb379)); have n3_ := aZ ((by rw [hg]; exact (lZ (by repeat (first | (with_reducible first | exact HB.out | apply lA | apply lN | apply lD) | exact HB.out))) : w.heap.size ≤ gb379)); clear HB; have HB := n0_; have BK379 := n1_; have GW379 := n2_; have GE379 := n3_; clear n0_ n1_ n2_ n3_; clear hb hbox hg))
  go_loopg [5, 6, 17] k (fun kq v5 v6 v17 w' => ∃ (x5_1 : List (List Int)) (x6_1 : List Int) (x17_1 : Int) (x380000_1 : Int) (x380001_1 : Int), v17 = .int .i64 x17_1 ∧ Aside0 (deltachain_unpack.l0 kq x5_1 x6_1 l0 (l0.length : Int) x17_1 = some (r1, r2, r3, r4)) ∧ Aside0 (kq ≤ k) ∧ Aside0 (Kd.N (Kd.slice 5 (Kd.int .u8)) 22 w' w.heap.size (fun k_ => (w.heap.size ≤ k_) ∧ some k_ ≠ (v6 : Value).ownBlock ∧ k_ ≠ gb379) v5 x5_1) ∧ Aside0 (Kd.R (Kd.int .i64) 3 w' w.heap.size (fun k_ => (w.heap.size ≤ k_)) v6 x6_1) ∧ Aside0 (w'.heap[gb379]? = some (.cells #[.int .i64 x380000_1, .int .i64 x380001_1] 26 (0, 0))) ∧ Aside0 (Below w.heap.size w w'))
  case atStart => exact ⟨(([] : List (List Int))), (([] : List Int)), (0), (0), (0), (by first | rfl | (simp; done) | (simp [*]; done) | (simp [i64_w]; done)), H', ⟨Nat.le_refl _⟩, ⟨by first | exact Kd.S_nil _ _ _ _ _ | exact Kd.N_nil _ _ _ _ _ | exact Kd.V_nil _ _ _ _ _ | exact Kd.Q_nil _ _ _ _ _ | exact Kd.R_nil _ _ _ _ _⟩, ⟨by first | exact Kd.R_nil _ _ _ _ _ | exact Kd.N_nil _ _ _ _ _ | exact Kd.V_nil _ _ _ _ _ | exact Kd.Q_nil _ _ _ _ _ | exact Kd.S_nil _ _ _ _ _⟩, ⟨by (with_reducible repeat (first | refine bN ?_ _ | refine bD ?_ | refine bA ?_ _)); exact BK379.out⟩, ⟨by repeat (first | (with_reducible first | exact HB.out | apply lA | apply lN | apply lD | refine lS ?_ GE379.out) | exact HB.out)⟩⟩
  case round =>
   clear H'
   (try clear c2); (try clear c2b0); (try clear c2b1)
   obtain ⟨x5_1, x6_1, x17_1, x380000_1, x380001_1, rfl, HA, HK1, HO_5, HO_6, BK379, HB⟩ := hrel
   cases gk with
   | zero => exact absurd HA.out (by simp [deltachain_unpack.l0])
   | succ k1 =>
    have H := HA.out
    clear HA
    simp only [deltachain_unpack.l0] at H
    by_cases c6 : x17_1 < (l0.length : Int)
    rotate_left
    · rw [if_neg c6] at H
      have c6b0 : decide (x17_1 < (l0.length : Int)) = false := decide_eq_false c6
      clear c6
      simp only [Option.some.injEq, Prod.mk.injEq] at H
      obtain ⟨rfl, rfl, rfl, rfl⟩ := H
      have hcz115_0 : wr.cell? ⟨gb379, 0, none⟩ = some (.int .i64 x380000_1) := (blk_cell BK379.out 0).trans rfl
      have hcz115_1 : wr.cell? ⟨gb379, 1, none⟩ = some (.int .i64 x380001_1) := (blk_cell BK379.out 1).trans rfl
      have hfz115_0 := blk_frozen BK379.out 0
      have hfz115_1 := blk_frozen BK379.out 1
      go_wp2
      refine bodyPost_ret (results_list (rs := [.tmp 2, .tmp 3, .cell 4 26]) rfl (by simp) (.tmp (.tmp (.cell gb379 26 #[.int .i64 0, .int .i64 0] (0, 0) _ rfl (by (with_reducible repeat (first | refine bN ?_ _ | refine bD ?_ | refine bA ?_ _)); refine blk_put (cs := #[.int .i64 0, .int .i64 x380001_1]) ?_ 1 _ rfl; (with_reducible repeat (first | refine bN ?_ _ | refine bD ?_ | refine bA ?_ _)); refine blk_put (cs := #[.int .i64 x380000_1, .int .i64 x380001_1]) ?_ 0 _ rfl; (with_reducible repeat (first | refine bN ?_ _ | refine bD ?_ | refine bA ?_ _)); exact BK379.out) Try.underlying26 rfl (by kernel_rfl) .nil)))) rfl ?_
      exact ⟨_, _, by first | rfl | (simp [errW_none, errW_some] <;> rfl) | (simp [*, errW_none, errW_some] <;> rfl), by (with_reducible repeat (first | apply Kd.N_alloc | apply Kd.N_drewN | apply Kd.N_drew)); exact Kd.N_mono (Kd.N_far (p := ⟨gb379, 1, none⟩) (Kd.N_far (p := ⟨gb379, 0, none⟩) (Kd.N_mono HO_5.out (fun k_ hk => (⟨hk, hk.2.2⟩ : _ ∧ k_ ≠ gb379))) (fun _ hk => hk.2) (.int .i64 0)) (fun _ hk => hk.2) (.int .i64 0)) (fun _ hk => ⟨hk.1.1, hk.1.2.1⟩), by (with_reducible repeat (first | apply Kd.rA | apply Kd.rN | apply Kd.rD)); exact Kd.R_mono (Kd.R_far (p := ⟨gb379, 1, none⟩) (Kd.R_far (p := ⟨gb379, 0, none⟩) (Kd.R_types HO_6.out BK379.out (by decide)) (fun _ hk => hk.2) (.int .i64 0)) (fun _ hk => hk.2) (.int .i64 0)) (fun _ hk => hk.1), by repeat (first | (with_reducible first | exact HB.out | apply lA | apply lN | apply lD | refine lS ?_ GE379.out) | exact HB.out)⟩

    rw [if_pos c6] at H
    have c6b0 : decide (x17_1 < (l0.length : Int)) = true := decide_eq_true c6
    clear c6
    by_cases c7 : 0 ≤ x17_1
    rotate_left
    · rw [if_neg c7] at H
      exact absurd H (by simp)
    rw [if_pos c7] at H
    have c7b0 : decide (0 ≤ x17_1) = true := decide_eq_true c7
    clear c7
    by_cases c8 : x17_1 < (l0.length : Int)
    rotate_left
    · rw [if_neg c8] at H
      exact absurd H (by simp)
    rw [if_pos c8] at H
    have c8b0 : decide (x17_1 < (l0.length : Int)) = true := decide_eq_true c8
    clear c8
    have HC9 := aZ H
    clear H
    have p380 : 0 ≤ (x17_1 : Int) := of_decide_eq_true (by first | (with_reducible assumption) | assumption)
    have q380 : x17_1 < (l0.length : Int) := of_decide_eq_true (by first | (with_reducible assumption) | assumption)
    obtain ⟨ad380, A380_1, c380_1, A380_2, c380_2, e380, hx380_0, hx380_1, hx380_2, hl380_1, hi380_1, hl380_2, hi380_2⟩ := at_T45 HR0.out x17_1 p380 q380
    cases e380
    replace hx380_0 := (HB.out.cell (World.block_lt_of_cell? w _ hx380_0)).trans hx380_0
    replace hx380_1 := (HB.out.cell (World.block_lt_of_cell? w _ hx380_1)).trans hx380_1
    replace hx380_2 := (HB.out.cell (World.block_lt_of_cell? w _ hx380_2)).trans hx380_2
    have HR380_1 := aZ hi380_1
    have HC380_1 := aZ hl380_1
    clear hi380_1 hl380_1
    have HR380_2 := aZ hi380_2
    have HC380_2 := aZ hl380_2
    clear hi380_2 hl380_2
    replace p380 := eq_true p380
    replace q380 := eq_true q380
    go_upto_region 8 with (first | ((with_reducible refine gate_dst (N := 8) rfl ?_); (try (refine gate_guard (by rfl) ?_; dsimp only)); refine box_event ?hg (N := 8) ?hd (cs := #[.int .i64 0, .slice none 0 0, .slice none 0 0]) (t := 45) ?hr ?_; (case hd => rfl); (case hg => rfl); (case hr => first | (go_simp; done) | (go_simp; rfl)); intro gb381 hg w10 hbox hb; have n0_ := aZ (Kd.N_below (Kd.N_elderB (by (with_reducible repeat (first | apply Kd.N_alloc | apply Kd.N_drewN | apply Kd.N_drew)); exact HO_5.out) gb381 (Nat.le_of_eq hg.symm)) hb); have n1_ := aZ (Kd.R_below (by (with_reducible repeat (first | apply Kd.rA | apply Kd.rN | apply Kd.rD)); exact HO_6.out) hb); have n2_ := aZ (blk_below (g := gb379) (o := .cells #[.int .i64 x380000_1, .int .i64 x380001_1] 26 (0, 0)) (by (with_reducible repeat (first | refine bN ?_ _ | refine bD ?_ | refine bA ?_ _)); exact BK379.out) hb); have n3_ := aZ (lT (by repeat (first | (with_reducible first | exact HB.out | apply lA | apply lN | apply lD | refine lS ?_ GE379.out) | exact HB.out)) hb); have n4_ := aZ (hbox); have n5_ := aZ ((by rw [hg]; exact (lZ (by repeat (first | (with_reducible first | exact HB.out | apply lA | apply lN | apply lD | refine lS ?_ GE379.out) | exact HB.out))) : w.heap.size ≤ gb381)); have n6_ := aZ ((by rw [hg]; exact (lZ (by repeat (first | (with_reducible first | exact HB.out | apply lA | apply lN | apply lD | refine lS ?_ GE379.out) | exact HB.out))) : w.heap.size ≤ gb381)); have n7_ := aZ ((by rw [hg]; exact Nat.ne_of_lt (blk_lt (g := gb379) (o := .cells #[.int .i64 x380000_1, .int .i64 x380001_1] 26 (0, 0)) (by (with_reducible repeat (first | refine bN ?_ _ | refine bD ?_ | refine bA ?_ _)); exact BK379.out)) : gb379 ≠ gb381)); have n8_ := aZ ((by rw [hg]; exact Nat.ne_of_gt (blk_lt (g := gb379) (o := .cells #[.int .i64 x380000_1, .int .i64 x380001_1] 26 (0, 0)) (by (with_reducible repeat (first | refine bN ?_ _ | refine bD ?_ | refine bA ?_ _)); exact BK379.out)) : gb381 ≠ gb379)); clear HO_5; clear HO_6; clear BK379; clear HB; have HO_5 := n0_; have HO_6 := n1_; have BK379 := n2_; have HB := n3_; have BK381 := n4_; have GW381 := n5_; have GE381 := n6_; have NB379_381 := n7_; have NB381_379 := n8_; clear n0_ n1_ n2_ n3_ n4_ n5_ n6_ n7_ n8_; clear hb hbox hg; have hnb11 := NB381_379.out; have hnc11 := NB379_381.out; have hcz12_0 : w10.cell? ⟨gb381, 0, none⟩ = some (.int .i64 0) := (blk_cell BK381.out 0).trans rfl; have hcz12_1 : w10.cell? ⟨gb381, 1, none⟩ = some (.slice none 0 0) := (blk_cell BK381.out 1).trans rfl; have hcz12_2 : w10.cell? ⟨gb381, 2, none⟩ = some (.slice none 0 0) := (blk_cell BK381.out 2).trans rfl; have hfz12_0 := blk_frozen BK381.out 0; have hfz12_1 := blk_frozen BK381.out 1; have hfz12_2 := blk_frozen BK381.out 2))
    (try simp only [Act.put, List.setIfInBounds_toArray, List.set_cons_zero, List.set_cons_succ])
    go_cut [22] (fun v22 wc => ∃ (kq : Nat) (x22_8 : Bool), v22 = .bool x22_8 ∧ Aside0 (deltachain_unpack.j1 kq x5_1 x6_1 x17_1 l0 (l0.length : Int) x17_1 x22_8 ((rd_T45 l0 x17_1).f0) ((rd_T45 l0 x17_1).f1) ((rd_T45 l0 x17_1).f2) = some (r1, r2, r3, r4)) ∧ Aside0 (kq ≤ k1) ∧ Aside0 (Kd.N (Kd.slice 5 (Kd.int .u8)) 22 wc w.heap.size (fun k_ => (w.heap.size ≤ k_) ∧ some k_ ≠ (u6 : Value).ownBlock ∧ k_ ≠ gb379 ∧ k_ ≠ gb381) u5 x5_1) ∧ Aside0 (Kd.R (Kd.int .i64) 3 wc w.heap.size (fun k_ => (w.heap.size ≤ k_)) u6 x6_1) ∧ Aside0 (wc.heap[gb379]? = some (.cells #[.int .i64 x380000_1, .int .i64 x380001_1] 26 (0, 0))) ∧ Aside0 (wc.heap[gb381]? = some (.cells #[.int .i64 ((rd_T45 l0 x17_1).f0), (.slice A380_1 ((rd_T45 l0 x17_1).f1).length c380_1), (.slice A380_2 ((rd_T45 l0 x17_1).f2).length c380_2)] 45 (0, 0))) ∧ Aside0 (Below w.heap.size w wc))
    case first =>
     have H := HC9.out
     clear HC9
     by_cases c13 : ((rd_T45 l0 x17_1).f0) < (-1)
     · rw [if_pos c13] at H
       have c13b0 : decide (((rd_T45 l0 x17_1).f0) < (-1)) = true := decide_eq_true c13
       clear c13
       (first | rw [c13b0] | (simp only [i64_w, i32_w]; rw [c13b0]) | skip)
       have H' := aZ H
       clear H
       have hnb14 := NB381_379.out
       have hnc14 := NB379_381.out
       have hcz15_0 : w10.cell? ⟨gb381, 0, none⟩ = some (.int .i64 0) := (blk_cell BK381.out 0).trans rfl
       have hcz15_1 : w10.cell? ⟨gb381, 1, none⟩ = some (.slice none 0 0) := (blk_cell BK381.out 1).trans rfl
       have hcz15_2 : w10.cell? ⟨gb381, 2, none⟩ = some (.slice none 0 0) := (blk_cell BK381.out 2).trans rfl
       have hfz15_0 := blk_frozen BK381.out 0
       have hfz15_1 := blk_frozen BK381.out 1
       have hfz15_2 := blk_frozen BK381.out 2
       go_wp2
       go_meet
       case rel => exact ⟨_, (true), (by first | rfl | (simp; done) | (simp [*]; done) | (simp [i64_w]; done)), H', ⟨by have := HK1.out; first | omega | exact Nat.le_refl _⟩, ⟨by (with_reducible repeat (first | apply Kd.N_alloc | apply Kd.N_drewN | apply Kd.N_drew)); exact Kd.N_mono (Kd.N_far (p := ⟨gb381, 2, none⟩) (Kd.N_far (p := ⟨gb381, 1, none⟩) (Kd.N_far (p := ⟨gb381, 0, none⟩) (Kd.N_mono HO_5.out (fun k_ hk => (⟨hk, hk.2⟩ : _ ∧ k_ ≠ gb381))) (fun _ hk => hk.2) (.int .i64 ((rd_T45 l0 x17_1).f0))) (fun _ hk => hk.2) (.slice A380_1 ((rd_T45 l0 x17_1).f1).length c380_1)) (fun _ hk => hk.2) (.slice A380_2 ((rd_T45 l0 x17_1).f2).length c380_2)) (fun _ hk => ⟨hk.1.1.1, ⟨hk.1.1.2.1, ⟨hk.1.1.2.2, hk.1.2⟩⟩⟩)⟩, ⟨by (with_reducible repeat (first | apply Kd.rA | apply Kd.rN | apply Kd.rD)); exact Kd.R_mono (Kd.R_far (p := ⟨gb381, 2, none⟩) (Kd.R_far (p := ⟨gb381, 1, none⟩) (Kd.R_far (p := ⟨gb381, 0, none⟩) (Kd.R_types HO_6.out BK381.out (by decide)) (fun _ hk => hk.2) (.int .i64 ((rd_T45 l0 x17_1).f0))) (fun _ hk => hk.2) (.slice A380_1 ((rd_T45 l0 x17_1).f1).length c380_1)) (fun _ hk => hk.2) (.slice A380_2 ((rd_T45 l0 x17_1).f2).length c380_2)) (fun _ hk => hk.1)⟩, ⟨by (with_reducible repeat (first | refine bN ?_ _ | refine bD ?_ | refine bA ?_ _)); refine blk_far ?_ NB379_381.out _; (with_reducible repeat (first | refine bN ?_ _ | refine bD ?_ | refine bA ?_ _)); refine blk_far ?_ NB379_381.out _; (with_reducible repeat (first | refine bN ?_ _ | refine bD ?_ | refine bA ?_ _)); refine blk_far ?_ NB379_381.out _; (with_reducible repeat (first | refine bN ?_ _ | refine bD ?_ | refine bA ?_ _)); exact BK379.out⟩, ⟨by (with_reducible repeat (first | refine bN ?_ _ | refine bD ?_ | refine bA ?_ _)); refine blk_put (cs := #[.int .i64 ((rd_T45 l0 x17_1).f0), .slice A380_1 ((rd_T45 l0 x17_1).f1).length c380_1, .slice none 0 0]) ?_ 2 _ rfl; (with_reducible repeat (first | refine bN ?_ _ | refine bD ?_ | refine bA ?_ _)); refine blk_put (cs := #[.int .i64 ((rd_T45 l0 x17_1).f0), .slice none 0 0, .slice none 0 0]) ?_ 1 _ rfl; (with_reducible repeat (first | refine bN ?_ _ | refine bD ?_ | refine bA ?_ _)); refine blk_put (cs := #[.int .i64 0, .slice none 0 0, .slice none 0 0]) ?_ 0 _ rfl; (with_reducible repeat (first | refine bN ?_ _ | refine bD ?_ | refine bA ?_ _)); exact BK381.out⟩, ⟨by repeat (first | (with_reducible first | exact HB.out | apply lA | apply lN | apply lD | refine lS ?_ GE379.out | refine lS ?_ GE381.out) | exact HB.out)⟩⟩
     rw [if_neg c13] at H
     have c13b0 : decide (((rd_T45 l0 x17_1).f0) < (-1)) = false := decide_eq_false c13
     clear c13
     (first | rw [c13b0] | (simp only [i64_w, i32_w]; rw [c13b0]) | skip)
     have H' := aZ H
     clear H
     have hnb16 := NB381_379.out
     have hnc16 := NB379_381.out
     have hcz17_0 : w10.cell? ⟨gb381, 0, none⟩ = some (.int .i64 0) := (blk_cell BK381.out 0).trans rfl
     have hcz17_1 : w10.cell? ⟨gb381, 1, none⟩ = some (.slice none 0 0) := (blk_cell BK381.out 1).trans rfl
     have hcz17_2 : w10.cell? ⟨gb381, 2, none⟩ = some (.slice none 0 0) := (blk_cell BK381.out 2).trans rfl
     have hfz17_0 := blk_frozen BK381.out 0
     have hfz17_1 := blk_frozen BK381.out 1
     have hfz17_2 := blk_frozen BK381.out 2
     go_wp2
     go_meet
     case rel => exact ⟨_, (decide (((rd_T45 l0 x17_1).f0) ≥ x17_1)), (by first | rfl | (simp; done) | (simp [*]; done) | (simp [i64_w]; done)), H', ⟨by have := HK1.out; first | omega | exact Nat.le_refl _⟩, ⟨by (with_reducible repeat (first | apply Kd.N_alloc | apply Kd.N_drewN | apply Kd.N_drew)); exact Kd.N_mono (Kd.N_far (p := ⟨gb381, 2, none⟩) (Kd.N_far (p := ⟨gb381, 1, none⟩) (Kd.N_far (p := ⟨gb381, 0, none⟩) (Kd.N_mono HO_5.out (fun k_ hk => (⟨hk, hk.2⟩ : _ ∧ k_ ≠ gb381))) (fun _ hk => hk.2) (.int .i64 ((rd_T45 l0 x17_1).f0))) (fun _ hk => hk.2) (.slice A380_1 ((rd_T45 l0 x17_1).f1).length c380_1)) (fun _ hk => hk.2) (.slice A380_2 ((rd_T45 l0 x17_1).f2).length c380_2)) (fun _ hk => ⟨hk.1.1.1, ⟨hk.1.1.2.1, ⟨hk.1.1.2.2, hk.1.2⟩⟩⟩)⟩, ⟨by (with_reducible repeat (first | apply Kd.rA | apply Kd.rN | apply Kd.rD)); exact Kd.R_mono (Kd.R_far (p := ⟨gb381, 2, none⟩) (Kd.R_far (p := ⟨gb381, 1, none⟩) (Kd.R_far (p := ⟨gb381, 0, none⟩) (Kd.R_types HO_6.out BK381.out (by decide)) (fun _ hk => hk.2) (.int .i64 ((rd_T45 l0 x17_1).f0))) (fun _ hk => hk.2) (.slice A380_1 ((rd_T45 l0 x17_1).f1).length c380_1)) (fun _ hk => hk.2) (.slice A380_2 ((rd_T45 l0 x17_1).f2).length c380_2)) (fun _ hk => hk.1)⟩, ⟨by (with_reducible repeat (first | refine bN ?_ _ | refine bD ?_ | refine bA ?_ _)); refine blk_far ?_ NB379_381.out _; (with_reducible repeat (first | refine bN ?_ _ | refine bD ?_ | refine bA ?_ _)); refine blk_far ?_ NB379_381.out _; (with_reducible repeat (first | refine bN ?_ _ | refine bD ?_ | refine bA ?_ _)); refine blk_far ?_ NB379_381.out _; (with_reducible repeat (first | refine bN ?_ _ | refine bD ?_ | refine bA ?_ _)); exact BK379.out⟩, ⟨by (with_reducible repeat (first | refine bN ?_ _ | refine bD ?_ | refine bA ?_ _)); refine blk_put (cs := #[.int .i64 ((rd_T45 l0 x17_1).f0), .slice A380_1 ((rd_T45 l0 x17_1).f1).length c380_1, .slice none 0 0]) ?_ 2 _ rfl; (with_reducible repeat (first | refine bN ?_ _ | refine bD ?_ | refine bA ?_ _)); refine blk_put (cs := #[.int .i64 ((rd_T45 l0 x17_1).f0), .slice none 0 0, .slice none 0 0]) ?_ 1 _ rfl; (with_reducible repeat (first | refine bN ?_ _ | refine bD ?_ | refine bA ?_ _)); refine blk_put (cs := #[.int .i64 0, .slice none 0 0, .slice none 0 0]) ?_ 0 _ rfl; (with_reducible repeat (first | refine bN ?_ _ | refine bD ?_ | refine bA ?_ _)); exact BK381.out⟩, ⟨by repeat (first | (with_reducible first | exact HB.out | apply lA | apply lN | apply lD | refine lS ?_ GE379.out | refine lS ?_ GE381.out) | exact HB.out)⟩⟩
    case rest =>
     clear HC9
     (try clear c6); (try clear c6b0); (try clear c7); (try clear c7b0); (try clear c8); (try clear c8b0); (try clear hcz12_0); (try clear hcz12_1); (try clear hcz12_2); (try clear hfz12_0); (try clear hfz12_1); (try clear hfz12_2); (try clear hx380_0); (try clear hx380_1); (try clear hx380_2); (try clear p380); (try clear q380)
     obtain ⟨kq, x22_8, rfl, HA, HJ8, HO_5, HO_6, BK379, BK381, HB⟩ := hcut
     cases kq with
     | zero => exact absurd HA.out (by simp [deltachain_unpack.j1])
     | succ kj8 =>
      have H := HA.out
      clear HA
      simp only [deltachain_unpack.j1] at H
      by_cases c18 : x22_8 = true
      · subst c18
        have H1 : (some (([] : List (List Int)), ([] : List Int), 3, x17_1)) = some (r1, r2, r3, r4) := by rw [if_pos rfl] at H; exact H
        clear H
        have H := H1
        clear H1
        simp only [Option.some.injEq, Prod.mk.injEq] at H
        obtain ⟨rfl, rfl, rfl, rfl⟩ := H
        have hnb19 := NB379_381.out
        have hnc19 := NB381_379.out
        have hcz20_0 : wc.cell? ⟨gb379, 0, none⟩ = some (.int .i64 x380000_1) := (blk_cell BK379.out 0).trans rfl
        have hcz20_1 : wc.cell? ⟨gb379, 1, none⟩ = some (.int .i64 x380001_1) := (blk_cell BK379.out 1).trans rfl
        have hfz20_0 := blk_frozen BK379.out 0
        have hfz20_1 := blk_frozen BK379.out 1
        go_wp2
        refine bodyPost_ret (results_list (rs := [.tmp 2, .tmp 3, .cell 4 26]) rfl (by simp) (.tmp (.tmp (.cell gb379 26 #[.int .i64 3, .int .i64 x17_1] (0, 0) _ rfl (by (with_reducible repeat (first | refine bN ?_ _ | refine bD ?_ | refine bA ?_ _)); refine blk_put (cs := #[.int .i64 3, .int .i64 x380001_1]) ?_ 1 _ rfl; (with_reducible repeat (first | refine bN ?_ _ | refine bD ?_ | refine bA ?_ _)); refine blk_put (cs := #[.int .i64 x380000_1, .int .i64 x380001_1]) ?_ 0 _ rfl; (with_reducible repeat (first | refine bN ?_ _ | refine bD ?_ | refine bA ?_ _)); exact BK379.out) Try.underlying26 rfl (by kernel_rfl) .nil)))) rfl ?_
        exact ⟨_, _, by first | rfl | (simp [errW_none, errW_some] <;> rfl) | (simp [*, errW_none, errW_some] <;> rfl), by first | exact Kd.S_nil _ _ _ _ _ | exact Kd.N_nil _ _ _ _ _ | exact Kd.V_nil _ _ _ _ _ | exact Kd.Q_nil _ _ _ _ _ | exact Kd.R_nil _ _ _ _ _, by first | exact Kd.R_nil _ _ _ _ _ | exact Kd.N_nil _ _ _ _ _ | exact Kd.V_nil _ _ _ _ _ | exact Kd.Q_nil _ _ _ _ _ | exact Kd.S_nil _ _ _ _ _, by repeat (first | (with_reducible first | exact HB.out | apply lA | apply lN | apply lD | refine lS ?_ GE379.out | refine lS ?_ GE381.out) | exact HB.out)⟩
      replace c18 := Bool.eq_false_iff.mpr c18
      subst c18
      have H1 : (if ((rd_T45 l0 x17_1).f0) = (-1) then (if (((rd_T45 l0 x17_1).f2).length : Int) > 0 then (deltachain_unpack.j2 kj8 x5_1 x6_1 x17_1 l0 (l0.length : Int) x17_1 true ((rd_T45 l0 x17_1).f0) ((rd_T45 l0 x17_1).f1) ((rd_T45 l0 x17_1).f2)) else (if ((rd_T45 l0 x17_1).f0) ≥ 0 then (deltachain_unpack.j2 kj8 x5_1 x6_1 x17_1 l0 (l0.length : Int) x17_1 (decide ((((rd_T45 l0 x17_1).f1).length : Int) > 0)) ((rd_T45 l0 x17_1).f0) ((rd_T45 l0 x17_1).f1) ((rd_T45 l0 x17_1).f2)) else (deltachain_unpack.j2 kj8 x5_1 x6_1 x17_1 l0 (l0.length : Int) x17_1 false ((rd_T45 l0 x17_1).f0) ((rd_T45 l0 x17_1).f1) ((rd_T45 l0 x17_1).f2)))) else (if ((rd_T45 l0 x17_1).f0) ≥ 0 then (deltachain_unpack.j2 kj8 x5_1 x6_1 x17_1 l0 (l0.length : Int) x17_1 (decide ((((rd_T45 l0 x17_1).f1).length : Int) > 0)) ((rd_T45 l0 x17_1).f0) ((rd_T45 l0 x17_1).f1) ((rd_T45 l0 x17_1).f2)) else (deltachain_unpack.j2 kj8 x5_1 x6_1 x17_1 l0 (l0.length : Int) x17_1 false ((rd_T45 l0 x17_1).f0) ((rd_T45 l0 x17_1).f1) ((rd_T45 l0 x17_1).f2)))) = some (r1, r2, r3, r4) := by rw [if_neg (show ¬ (false = true) by decide)] at H; exact H
      clear H
      have H := H1
      clear H1
      have HC21 := aZ H
      clear H
      go_upto_region 10 with (fail)
      go_cut [34] (fun v34 wc => ∃ (kq : Nat) (x34_20 : Bool), v34 = .bool x34_20 ∧ Aside0 (deltachain_unpack.j2 kq x5_1 x6_1 x17_1 l0 (l0.length : Int) x17_1 x34_20 ((rd_T45 l0 x17_1).f0) ((rd_T45 l0 x17_1).f1) ((rd_T45 l0 x17_1).f2) = some (r1, r2, r3, r4)) ∧ Aside0 (kq ≤ kj8) ∧ Aside0 (Kd.N (Kd.slice 5 (Kd.int .u8)) 22 wc w.heap.size (fun k_ => (w.heap.size ≤ k_) ∧ some k_ ≠ (u6 : Value).ownBlock ∧ k_ ≠ gb379 ∧ k_ ≠ gb381) u5 x5_1) ∧ Aside0 (Kd.R (Kd.int .i64) 3 wc w.heap.size (fun k_ => (w.heap.size ≤ k_)) u6 x6_1) ∧ Aside0 (wc.heap[gb379]? = some (.cells #[.int .i64 x380000_1, .int .i64 x380001_1] 26 (0, 0))) ∧ Aside0 (wc.heap[gb381]? = some (.cells #[.int .i64 ((rd_T45 l0 x17_1).f0), (.slice A380_1 ((rd_T45 l0 x17_1).f1).length c380_1), (.slice A380_2 ((rd_T45 l0 x17_1).f2).length c380_2)] 45 (0, 0))) ∧ Aside0 (Below w.heap.size w wc))
      case first =>
       have H := HC21.out
       clear HC21
       by_cases c22 : ((rd_T45 l0 x17_1).f0) = (-1)
       rotate_left
       · rw [if_neg c22] at H
         have c22b0 : (((rd_T45 l0 x17_1).f0) == (-1)) = false := beq_eq_false_iff_ne.mpr c22
         have c22b1 : (((rd_T45 l0 x17_1).f0) != (-1)) = true := bne_iff_ne.mpr c22
         (first | rw [c22b0] | (simp only [i64_w, i32_w]; rw [c22b0]) | skip)
         by_cases c31 : ((rd_T45 l0 x17_1).f0) ≥ 0
         rotate_left
         · rw [if_neg c31] at H
           have c31b0 : decide (0 ≤ ((rd_T45 l0 x17_1).f0)) = false := decide_eq_false c31
           clear c31
           have H' := aZ H
           clear H
           have hnb34 := NB381_379.out
           have hnc34 := NB379_381.out
           have hcz35_0 : wc.cell? ⟨gb381, 0, none⟩ = some (.int .i64 ((rd_T45 l0 x17_1).f0)) := (blk_cell BK381.out 0).trans rfl
           have hcz35_1 : wc.cell? ⟨gb381, 1, none⟩ = some (.slice A380_1 ((rd_T45 l0 x17_1).f1).length c380_1) := (blk_cell BK381.out 1).trans rfl
           have hcz35_2 : wc.cell? ⟨gb381, 2, none⟩ = some (.slice A380_2 ((rd_T45 l0 x17_1).f2).length c380_2) := (blk_cell BK381.out 2).trans rfl
           have hfz35_0 := blk_frozen BK381.out 0
           have hfz35_1 := blk_frozen BK381.out 1
           have hfz35_2 := blk_frozen BK381.out 2
           go_wp2
           go_meet
           case rel => exact ⟨_, (false), (by first | rfl | (simp; done) | (simp [*]; done) | (simp [i64_w]; done)), H', ⟨by have := HK1.out; have := HJ8.out; first | omega | exact Nat.le_refl _⟩, ⟨by (with_reducible repeat (first | apply Kd.N_alloc | apply Kd.N_drewN | apply Kd.N_drew)); exact HO_5.out⟩, ⟨by (with_reducible repeat (first | apply Kd.rA | apply Kd.rN | apply Kd.rD)); exact HO_6.out⟩, ⟨by (with_reducible repeat (first | refine bN ?_ _ | refine bD ?_ | refine bA ?_ _)); exact BK379.out⟩, ⟨by (with_reducible repeat (first | refine bN ?_ _ | refine bD ?_ | refine bA ?_ _)); exact BK381.out⟩, ⟨by repeat (first | (with_reducible first | exact HB.out | apply lA | apply lN | apply lD | refine lS ?_ GE379.out | refine lS ?_ GE381.out) | exact HB.out)⟩⟩
         rw [if_pos c31] at H
         have c31b0 : decide (0 ≤ ((rd_T45 l0 x17_1).f0)) = true := decide_eq_true c31
         clear c31
         have H' := aZ H
         clear H
         have hnb32 := NB381_379.out
         have hnc32 := NB379_381.out
         have hcz33_0 : wc.cell? ⟨gb381, 0, none⟩ = some (.int .i64 ((rd_T45 l0 x17_1).f0)) := (blk_cell BK381.out 0).trans rfl
         have hcz33_1 : wc.cell? ⟨gb381, 1, none⟩ = some (.slice A380_1 ((rd_T45 l0 x17_1).f1).length c380_1) := (blk_cell BK381.out 1).trans rfl
         have hcz33_2 : wc.cell? ⟨gb381, 2, none⟩ = some (.slice A380_2 ((rd_T45 l0 x17_1).f2).length c380_2) := (blk_cell BK381.out 2).trans rfl
         have hfz33_0 := blk_frozen BK381.out 0
         have hfz33_1 := blk_frozen BK381.out 1
         have hfz33_2 := blk_frozen BK381.out 2
         go_wp2
         go_meet
         case rel => exact ⟨_, (decide ((((rd_T45 l0 x17_1).f1).length : Int) > 0)), (by first | rfl | (simp; done) | (simp [*]; done) | (simp [i64_w]; done)), H', ⟨by have := HK1.out; have := HJ8.out; first | omega | exact Nat.le_refl _⟩, ⟨by (with_reducible repeat (first | apply Kd.N_alloc | apply Kd.N_drewN | apply Kd.N_drew)); exact HO_5.out⟩, ⟨by (with_reducible repeat (first | apply Kd.rA | apply Kd.rN | apply Kd.rD)); exact HO_6.out⟩, ⟨by (with_reducible repeat (first | refine bN ?_ _ | refine bD ?_ | refine bA ?_ _)); exact BK379.out⟩, ⟨by (with_reducible repeat (first | refine bN ?_ _ | refine bD ?_ | refine bA ?_ _)); exact BK381.out⟩, ⟨by repeat (first | (with_reducible first | exact HB.out | apply lA | apply lN | apply lD | refine lS ?_ GE379.out | refine lS ?_ GE381.out) | exact HB.out)⟩⟩
       rw [if_pos c22] at H
       have c22b0 : (((rd_T45 l0 x17_1).f0) == (-1)) = true := beq_iff_eq.mpr c22
       have c22b1 : (((rd_T45 l0 x17_1).f0) != (-1)) = false := bne_eq_false_iff_eq.mpr c22
       clear c22
       (first | rw [c22b0] | (simp only [i64_w, i32_w]; rw [c22b0]) | skip)
       by_cases c23 : (((rd_T45 l0 x17_1).f2).length : Int) > 0
       · rw [if_pos c23] at H
         have c23b0 : decide (0 < (((rd_T45 l0 x17_1).f2).length : Int)) = true := decide_eq_true c23
         have c23b1 : decide (0 < ((rd_T45 l0 x17_1).f2).length) = true := decide_eq_true (by omega)
         clear c23
         have H' := aZ H
         clear H
         have hnb24 := NB381_379.out
         have hnc24 := NB379_381.out
         have hcz25_0 : wc.cell? ⟨gb381, 0, none⟩ = some (.int .i64 ((rd_T45 l0 x17_1).f0)) := (blk_cell BK381.out 0).trans rfl
         have hcz25_1 : wc.cell? ⟨gb381, 1, none⟩ = some (.slice A380_1 ((rd_T45 l0 x17_1).f1).length c380_1) := (blk_cell BK381.out 1).trans rfl
         have hcz25_2 : wc.cell? ⟨gb381, 2, none⟩ = some (.slice A380_2 ((rd_T45 l0 x17_1).f2).length c380_2) := (blk_cell BK381.out 2).trans rfl
         have hfz25_0 := blk_frozen BK381.out 0
         have hfz25_1 := blk_frozen BK381.out 1
         have hfz25_2 := blk_frozen BK381.out 2
         go_wp2
         go_meet
         case rel => exact ⟨_, (true), (by first | rfl | (simp; done) | (simp [*]; done) | (simp [i64_w]; done)), H', ⟨by have := HK1.out; have := HJ8.out; first | omega | exact Nat.le_refl _⟩, ⟨by (with_reducible repeat (first | apply Kd.N_alloc | apply Kd.N_drewN | apply Kd.N_drew)); exact HO_5.out⟩, ⟨by (with_reducible repeat (first | apply Kd.rA | apply Kd.rN | apply Kd.rD)); exact HO_6.out⟩, ⟨by (with_reducible repeat (first | refine bN ?_ _ | refine bD ?_ | refine bA ?_ _)); exact BK379.out⟩, ⟨by (with_reducible repeat (first | refine bN ?_ _ | refine bD ?_ | refine bA ?_ _)); exact BK381.out⟩, ⟨by repeat (first | (with_reducible first | exact HB.out | apply lA | apply lN | apply lD | refine lS ?_ GE379.out | refine lS ?_ GE381.out) | exact HB.out)⟩⟩
       rw [if_neg c23] at H
       have c23b0 : decide (0 < (((rd_T45 l0 x17_1).f2).length : Int)) = false := decide_eq_false c23
       have c23b1 : decide (0 < ((rd_T45 l0 x17_1).f2).length) = false := decide_eq_false (by omega)
       clear c23
       by_cases c26 : ((rd_T45 l0 x17_1).f0) ≥ 0
       rotate_left
       · rw [if_neg c26] at H
         have c26b0 : decide (0 ≤ ((rd_T45 l0 x17_1).f0)) = false := decide_eq_false c26
         clear c26
         have H' := aZ H
         clear H
         have hnb29 := NB381_379.out
         have hnc29 := NB379_381.out
         have hcz30_0 : wc.cell? ⟨gb381, 0, none⟩ = some (.int .i64 ((rd_T45 l0 x17_1).f0)) := (blk_cell BK381.out 0).trans rfl
         have hcz30_1 : wc.cell? ⟨gb381, 1, none⟩ = some (.slice A380_1 ((rd_T45 l0 x17_1).f1).length c380_1) := (blk_cell BK381.out 1).trans rfl
         have hcz30_2 : wc.cell? ⟨gb381, 2, none⟩ = some (.slice A380_2 ((rd_T45 l0 x17_1).f2).length c380_2) := (blk_cell BK381.out 2).trans rfl
         have hfz30_0 := blk_frozen BK381.out 0
         have hfz30_1 := blk_frozen BK381.out 1
         have hfz30_2 := blk_frozen BK381.out 2
         go_wp2
         go_meet
         case rel => exact ⟨_, (false), (by first | rfl | (simp; done) | (simp [*]; done) | (simp [i64_w]; done)), H', ⟨by have := HK1.out; have := HJ8.out; first | omega | exact Nat.le_refl _⟩, ⟨by (with_reducible repeat (first | apply Kd.N_alloc | apply Kd.N_drewN | apply Kd.N_drew)); exact HO_5.out⟩, ⟨by (with_reducible repeat (first | apply Kd.rA | apply Kd.rN | apply Kd.rD)); exact HO_6.out⟩, ⟨by (with_reducible repeat (first | refine bN ?_ _ | refine bD ?_ | refine bA ?_ _)); exact BK379.out⟩, ⟨by (with_reducible repeat (first | refine bN ?_ _ | refine bD ?_ | refine bA ?_ _)); exact BK381.out⟩, ⟨by repeat (first | (with_reducible first | exact HB.out | apply lA | apply lN | apply lD | refine lS ?_ GE379.out | refine lS ?_ GE381.out) | exact HB.out)⟩⟩
       rw [if_pos c26] at H
       have c26b0 : decide (0 ≤ ((rd_T45 l0 x17_1).f0)) = true := decide_eq_true c26
       clear c26
       have H' := aZ H
       clear H
       have hnb27 := NB381_379.out
       have hnc27 := NB379_381.out
       have hcz28_0 : wc.cell? ⟨gb381, 0, none⟩ = some (.int .i64 ((rd_T45 l0 x17_1).f0)) := (blk_cell BK381.out 0).trans rfl
       have hcz28_1 : wc.cell? ⟨gb381, 1, none⟩ = some (.slice A380_1 ((rd_T45 l0 x17_1).f1).length c380_1) := (blk_cell BK381.out 1).trans rfl
       have hcz28_2 : wc.cell? ⟨gb381, 2, none⟩ = some (.slice A380_2 ((rd_T45 l0 x17_1).f2).length c380_2) := (blk_cell BK381.out 2).trans rfl
       have hfz28_0 := blk_frozen BK381.out 0
       have hfz28_1 := blk_frozen BK381.out 1
       have hfz28_2 := blk_frozen BK381.out 2
       go_wp2
       go_meet
       case rel => exact ⟨_, (decide ((((rd_T45 l0 x17_1).f1).length : Int) > 0)), (by first | rfl | (simp; done) | (simp [*]; done) | (simp [i64_w]; done)), H', ⟨by have := HK1.out; have := HJ8.out; first | omega | exact Nat.le_refl _⟩, ⟨by (with_reducible repeat (first | apply Kd.N_alloc | apply Kd.N_drewN | apply Kd.N_drew)); exact HO_5.out⟩, ⟨by (with_reducible repeat (first | apply Kd.rA | apply Kd.rN | apply Kd.rD)); exact HO_6.out⟩, ⟨by (with_reducible repeat (first | refine bN ?_ _ | refine bD ?_ | refine bA ?_ _)); exact BK379.out⟩, ⟨by (with_reducible repeat (first | refine bN ?_ _ | refine bD ?_ | refine bA ?_ _)); exact BK381.out⟩, ⟨by repeat (first | (with_reducible first | exact HB.out | apply lA | apply lN | apply lD | refine lS ?_ GE379.out | refine lS ?_ GE381.out) | exact HB.out)⟩⟩
      case rest =>
       clear HC21
       (try clear c18)
       obtain ⟨kq, x34_20, rfl, HA, HJ20, HO_5, HO_6, BK379, BK381, HB⟩ := hcut
       cases kq with
       | zero => exact absurd HA.out (by simp [deltachain_unpack.j2])
       | succ kj20 =>
        have H := HA.out
        clear HA
        simp only [deltachain_unpack.j2] at H
        by_cases c36 : x34_20 = true
        · subst c36
          have H1 : (some (([] : List (List Int)), ([] : List Int), 5, x17_1)) = some (r1, r2, r3, r4) := by rw [if_pos rfl] at H; exact H
          clear H
          have H := H1
          clear H1
          simp only [Option.some.injEq, Prod.mk.injEq] at H
          obtain ⟨rfl, rfl, rfl, rfl⟩ := H
          have hnb37 := NB379_381.out
          have hnc37 := NB381_379.out
          have hcz38_0 : wc.cell? ⟨gb379, 0, none⟩ = some (.int .i64 x380000_1) := (blk_cell BK379.out 0).trans rfl
          have hcz38_1 : wc.cell? ⟨gb379, 1, none⟩ = some (.int .i64 x380001_1) := (blk_cell BK379.out 1).trans rfl
          have hfz38_0 := blk_frozen BK379.out 0
          have hfz38_1 := blk_frozen BK379.out 1
          go_wp2
          refine bodyPost_ret (results_list (rs := [.tmp 2, .tmp 3, .cell 4 26]) rfl (by simp) (.tmp (.tmp (.cell gb379 26 #[.int .i64 5, .int .i64 x17_1] (0, 0) _ rfl (by (with_reducible repeat (first | refine bN ?_ _ | refine bD ?_ | refine bA ?_ _)); refine blk_put (cs := #[.int .i64 5, .int .i64 x380001_1]) ?_ 1 _ rfl; (with_reducible repeat (first | refine bN ?_ _ | refine bD ?_ | refine bA ?_ _)); refine blk_put (cs := #[.int .i64 x380000_1, .int .i64 x380001_1]) ?_ 0 _ rfl; (with_reducible repeat (first | refine bN ?_ _ | refine bD ?_ | refine bA ?_ _)); exact BK379.out) Try.underlying26 rfl (by kernel_rfl) .nil)))) rfl ?_
          exact ⟨_, _, by first | rfl | (simp [errW_none, errW_some] <;> rfl) | (simp [*, errW_none, errW_some] <;> rfl), by first | exact Kd.S_nil _ _ _ _ _ | exact Kd.N_nil _ _ _ _ _ | exact Kd.V_nil _ _ _ _ _ | exact Kd.Q_nil _ _ _ _ _ | exact Kd.R_nil _ _ _ _ _, by first | exact Kd.R_nil _ _ _ _ _ | exact Kd.N_nil _ _ _ _ _ | exact Kd.V_nil _ _ _ _ _ | exact Kd.Q_nil _ _ _ _ _ | exact Kd.S_nil _ _ _ _ _, by repeat (first | (with_reducible first | exact HB.out | apply lA | apply lN | apply lD | refine lS ?_ GE379.out | refine lS ?_ GE381.out) | exact HB.out)⟩
        replace c36 := Bool.eq_false_iff.mpr c36
        subst c36
        have H1 : ((deltachain_sized.f kj20 (([((rd_T45 l0 x17_1).f1)] : List (List Int)))).bind fun t386 => (if t386 = true then (if ((rd_T45 l0 x17_1).f0) = (-1) then ((bytes_Clone.f ((rd_T45 l0 x17_1).f1)).bind fun t387 => ((some (([t387] : List (List Int)) : List (List Int))).bind fun y390 => (if x5_1.length + y390.length < 5864062014805 then ((some (([0] : List Int) : List Int)).bind fun y396 => (if x6_1.length + y396.length < 17592186044416 then (deltachain_unpack.l0 kj20 (x5_1 ++ y390) (x6_1 ++ y396) l0 (l0.length : Int) (wrap64 (x17_1 + 1))) else (none))) else (none)))) else (if 0 ≤ ((rd_T45 l0 x17_1).f0) then (if ((rd_T45 l0 x17_1).f0) < (x5_1.length : Int) then ((deltachain_Apply.f kj20 (rd_L1 x5_1 ((rd_T45 l0 x17_1).f0)) ((rd_T45 l0 x17_1).f2)).bind fun bt403 => (if (!(bt403.2.1 == 0) || (!(bt403.2.2 == 0))) = true then (some (([] : List (List Int)), ([] : List Int), bt403.2.1, x17_1)) else ((some (([bt403.1] : List (List Int)) : List (List Int))).bind fun y409 => (if x5_1.length + y409.length < 5864062014805 then (if ((rd_T45 l0 x17_1).f0) < (x6_1.length : Int) then ((some (([wrap64 ((rd x6_1 ((rd_T45 l0 x17_1).f0)) + 1)] : List Int) : List Int)).bind fun y416 => (if x6_1.length + y416.length < 17592186044416 then (deltachain_unpack.l0 kj20 (x5_1 ++ y409) (x6_1 ++ y416) l0 (l0.length : Int) (wrap64 (x17_1 + 1))) else (none))) else (none)) else (none))))) else (none)) else (none))) else (some (([] : List (List Int)), ([] : List Int), 10, x17_1)))) = some (r1, r2, r3, r4) := by rw [if_neg (show ¬ (false = true) by decide)] at H; exact H
        clear H
        have H := H1
        clear H1
        obtain ⟨y382, hy382⟩ : ∃ y_ : List (List Int), y_ = (([((rd_T45 l0 x17_1).f1)] : List (List Int))) := ⟨_, rfl⟩
        replace H : ((deltachain_sized.f kj20 y382).bind fun t386 => (if t386 = true then (if ((rd_T45 l0 x17_1).f0) = (-1) then ((bytes_Clone.f ((rd_T45 l0 x17_1).f1)).bind fun t387 => ((some (([t387] : List (List Int)) : List (List Int))).bind fun y390 => (if x5_1.length + y390.length < 5864062014805 then ((some (([0] : List Int) : List Int)).bind fun y396 => (if x6_1.length + y396.length < 17592186044416 then (deltachain_unpack.l0 kj20 (x5_1 ++ y390) (x6_1 ++ y396) l0 (l0.length : Int) (wrap64 (x17_1 + 1))) else (none))) else (none)))) else (if 0 ≤ ((rd_T45 l0 x17_1).f0) then (if ((rd_T45 l0 x17_1).f0) < (x5_1.length : Int) then ((deltachain_Apply.f kj20 (rd_L1 x5_1 ((rd_T45 l0 x17_1).f0)) ((rd_T45 l0 x17_1).f2)).bind fun bt403 => (if (!(bt403.2.1 == 0) || (!(bt403.2.2 == 0))) = true then (some (([] : List (List Int)), ([] : List Int), bt403.2.1, x17_1)) else ((some (([bt403.1] : List (List Int)) : List (List Int))).bind fun y409 => (if x5_1.length + y409.length < 5864062014805 then (if ((rd_T45 l0 x17_1).f0) < (x6_1.length : Int) then ((some (([wrap64 ((rd x6_1 ((rd_T45 l0 x17_1).f0)) + 1)] : List Int) : List Int)).bind fun y416 => (if x6_1.length + y416.length < 17592186044416 then (deltachain_unpack.l0 kj20 (x5_1 ++ y409) (x6_1 ++ y416) l0 (l0.length : Int) (wrap64 (x17_1 + 1))) else (none))) else (none)) else (none))))) else (none)) else (none))) else (some (([] : List (List Int)), ([] : List Int), 10, x17_1)))) = some (r1, r2, r3, r4) := by first | (rw [hy382]; with_reducible exact H) | (have H2_ := (Option.bind_some _ _).symm.trans H; rw [hy382]; with_reducible exact H2_) | (have H2_ := (Option.bind_some _ _).symm.trans H; with_reducible exact H2_) | with_reducible exact H | (rw [hy382]; exact H) | exact H
        have Ny382 := aZ hy382
        clear hy382
        replace H := Option.bind_eq_some_iff.mp H
        obtain ⟨t386, A390, H⟩ := H
        replace H : (if t386 = true then (if ((rd_T45 l0 x17_1).f0) = (-1) then ((bytes_Clone.f ((rd_T45 l0 x17_1).f1)).bind fun t387 => ((some (([t387] : List (List Int)) : List (List Int))).bind fun y390 => (if x5_1.length + y390.length < 5864062014805 then ((some (([0] : List Int) : List Int)).bind fun y396 => (if x6_1.length + y396.length < 17592186044416 then (deltachain_unpack.l0 kj20 (x5_1 ++ y390) (x6_1 ++ y396) l0 (l0.length : Int) (wrap64 (x17_1 + 1))) else (none))) else (none)))) else (if 0 ≤ ((rd_T45 l0 x17_1).f0) then (if ((rd_T45 l0 x17_1).f0) < (x5_1.length : Int) then ((deltachain_Apply.f kj20 (rd_L1 x5_1 ((rd_T45 l0 x17_1).f0)) ((rd_T45 l0 x17_1).f2)).bind fun bt403 => (if (!(bt403.2.1 == 0) || (!(bt403.2.2 == 0))) = true then (some (([] : List (List Int)), ([] : List Int), bt403.2.1, x17_1)) else ((some (([bt403.1] : List (List Int)) : List (List Int))).bind fun y409 => (if x5_1.length + y409.length < 5864062014805 then (if ((rd_T45 l0 x17_1).f0) < (x6_1.length : Int) then ((some (([wrap64 ((rd x6_1 ((rd_T45 l0 x17_1).f0)) + 1)] : List Int) : List Int)).bind fun y416 => (if x6_1.length + y416.length < 17592186044416 then (deltachain_unpack.l0 kj20 (x5_1 ++ y409) (x6_1 ++ y416) l0 (l0.length : Int) (wrap64 (x17_1 + 1))) else (none))) else (none)) else (none))))) else (none)) else (none))) else (some (([] : List (List Int)), ([] : List Int), 10, x17_1))) = some (r1, r2, r3, r4) := H
        have A39 := aZ A390
        clear A390
        by_cases c40 : t386 = true
        rotate_left
        · replace c40 := Bool.eq_false_iff.mpr c40
          subst c40
          have H1 : (some (([] : List (List Int)), ([] : List Int), 10, x17_1)) = some (r1, r2, r3, r4) := by rw [if_neg (show ¬ (false = true) by decide)] at H; exact H
          clear H
          have H := H1
          clear H1
          simp only [Option.some.injEq, Prod.mk.injEq] at H
          obtain ⟨rfl, rfl, rfl, rfl⟩ := H
          have hnb111 := NB381_379.out
          have hnc111 := NB379_381.out
          have hcz112_0 : wc.cell? ⟨gb381, 0, none⟩ = some (.int .i64 ((rd_T45 l0 x17_1).f0)) := (blk_cell BK381.out 0).trans rfl
          have hcz112_1 : wc.cell? ⟨gb381, 1, none⟩ = some (.slice A380_1 ((rd_T45 l0 x17_1).f1).length c380_1) := (blk_cell BK381.out 1).trans rfl
          have hcz112_2 : wc.cell? ⟨gb381, 2, none⟩ = some (.slice A380_2 ((rd_T45 l0 x17_1).f2).length c380_2) := (blk_cell BK381.out 2).trans rfl
          have hfz112_0 := blk_frozen BK381.out 0
          have hfz112_1 := blk_frozen BK381.out 1
          have hfz112_2 := blk_frozen BK381.out 2
          go_wp2_with (first | ((with_reducible refine gate_dst (N := 60) rfl ?_); (try (refine gate_guard (by rfl) ?_; dsimp only)); refine Kd.lit_read (Kd.slice 5 (Kd.int .u8)) 22 ?hg (N := 60) ?hd (ys := y382) (xs := ([((rd_T45 l0 x17_1).f1)] : List (List Int))) (inner := [.slice A380_1 ((rd_T45 l0 x17_1).f1).length c380_1]) Ny382.out ?hr ?hp (by simp) ?_; (case hd => rfl); (case hg => rfl); (case hr => first | (go_simp; done) | (go_simp; rfl)); (case hp => exact (Reps.one (show Kd.K (Kd.slice 5 (Kd.int .u8)) _ ((rd_T45 l0 x17_1).f1) [.slice A380_1 ((rd_T45 l0 x17_1).f1).length c380_1] from ⟨_, _, rfl, by exact HC380_1.out, by repeat (first | exact (Kd.C_below HR380_1.out HB.out) | (with_reducible refine Kd.C_alloc ?_ _) | (with_reducible refine Kd.C_drewN ?_ _) | (with_reducible refine Kd.C_drew ?_))⟩) (Reps.none _ _))); intro A385 w113 hnew_ hb; have n0_ := aZ (Kd.N_below (by (with_reducible repeat (first | apply Kd.N_alloc | apply Kd.N_drewN | apply Kd.N_drew)); exact HO_5.out) hb); have n1_ := aZ (Kd.R_below (by (with_reducible repeat (first | apply Kd.rA | apply Kd.rN | apply Kd.rD)); exact HO_6.out) hb); have n2_ := aZ (blk_below (g := gb379) (o := .cells #[.int .i64 x380000_1, .int .i64 x380001_1] 26 (0, 0)) (by (with_reducible repeat (first | refine bN ?_ _ | refine bD ?_ | refine bA ?_ _)); exact BK379.out) hb); have n3_ := aZ (blk_below (g := gb381) (o := .cells #[.int .i64 ((rd_T45 l0 x17_1).f0), .slice A380_1 ((rd_T45 l0 x17_1).f1).length c380_1, .slice A380_2 ((rd_T45 l0 x17_1).f2).length c380_2] 45 (0, 0)) (by (with_reducible repeat (first | refine bN ?_ _ | refine bD ?_ | refine bA ?_ _)); exact BK381.out) hb); have n4_ := aZ (lT (by repeat (first | (with_reducible first | exact HB.out | apply lA | apply lN | apply lD | refine lS ?_ GE379.out | refine lS ?_ GE381.out) | exact HB.out)) hb); have n5_ := aZ (hnew_); have n6_ := aZ (Nat.le_refl y382.length); clear HO_5; clear HO_6; clear BK379; clear BK381; clear HB; have HO_5 := n0_; have HO_6 := n1_; have BK379 := n2_; have BK381 := n3_; have HB := n4_; have HR385 := n5_; have HC385 := n6_; clear n0_ n1_ n2_ n3_ n4_ n5_ n6_; clear hb hnew_) | ((with_reducible refine gate_callee (f := 24) rfl ?_); refine goesL_ (some 61) rfl rfl Try.func24 (by kernel_rfl) rfl #[.slice A385 y382.length y382.length] rfl (by (try simp only [List.map_toArray, List.map_cons, List.map_nil]); first | done | rfl | (simp only [List.length_drop, List.length_take]; rfl)) ?_; (with_reducible refine (deltachain_sized.calls kj20 _ _ y382 false _ ?side1 ?side2 A39.out).mono ?_); (case side1 => repeat (first | exact (by repeat (first | (with_reducible exact HR385.out) | (with_reducible refine Kd.C_alloc ?_ _) | (with_reducible refine Kd.C_drewN ?_ _) | (with_reducible refine Kd.C_drew ?_) | exact HR385.out)) | (with_reducible refine Kd.C_alloc ?_ _) | (with_reducible refine Kd.C_drewN ?_ _) | (with_reducible refine Kd.C_drew ?_))); (case side2 => exact HC385.out); rintro e w' ⟨rfl, ⟨nd, rfl⟩⟩; refine ⟨_, rfl, ?_⟩; (try (rw [drewN_self w113]; generalize hq_ : World.drewN w113 _ = w113; have n0_ : Aside0 (Kd.N (Kd.slice 5 (Kd.int .u8)) 22 w113 w.heap.size (fun k_ => (w.heap.size ≤ k_) ∧ some k_ ≠ (u6 : Value).ownBlock ∧ k_ ≠ gb379 ∧ k_ ≠ gb381) u5 x5_1) := ⟨by rw [← hq_]; exact (by (with_reducible repeat (first | apply Kd.N_alloc | apply Kd.N_drewN | apply Kd.N_drew)); exact HO_5.out)⟩; have n1_ : Aside0 (Kd.R (Kd.int .i64) 3 w113 w.heap.size (fun k_ => (w.heap.size ≤ k_)) u6 x6_1) := ⟨by rw [← hq_]; exact (by (with_reducible repeat (first | apply Kd.rA | apply Kd.rN | apply Kd.rD)); exact HO_6.out)⟩; have n2_ : Aside0 (w113.heap[gb379]? = some (.cells #[.int .i64 x380000_1, .int .i64 x380001_1] 26 (0, 0))) := ⟨by rw [← hq_]; exact (by (with_reducible repeat (first | refine bN ?_ _ | refine bD ?_ | refine bA ?_ _)); exact BK379.out)⟩; have n3_ : Aside0 (w113.heap[gb381]? = some (.cells #[.int .i64 ((rd_T45 l0 x17_1).f0), .slice A380_1 ((rd_T45 l0 x17_1).f1).length c380_1, .slice A380_2 ((rd_T45 l0 x17_1).f2).length c380_2] 45 (0, 0))) := ⟨by rw [← hq_]; exact (by (with_reducible repeat (first | refine bN ?_ _ | refine bD ?_ | refine bA ?_ _)); exact BK381.out)⟩; have n4_ : Aside0 (Below w.heap.size w w113) := ⟨by rw [← hq_]; exact (by repeat (first | (with_reducible first | exact HB.out | apply lA | apply lN | apply lD | refine lS ?_ GE379.out | refine lS ?_ GE381.out) | exact HB.out))⟩; have n5_ : Aside0 (Kd.C (Kd.slice 5 (Kd.int .u8)) w113 A385 y382.length y382) := ⟨by rw [← hq_]; exact (by repeat (first | (with_reducible exact HR385.out) | (with_reducible refine Kd.C_alloc ?_ _) | (with_reducible refine Kd.C_drewN ?_ _) | (with_reducible refine Kd.C_drew ?_) | exact HR385.out))⟩; clear HO_5 HO_6 BK379 BK381 HB HR385 hq_; have HO_5 := n0_; have HO_6 := n1_; have BK379 := n2_; have BK381 := n3_; have HB := n4_; have HR385 := n5_; clear n0_ n1_ n2_ n3_ n4_ n5_)); have hcz114_0 : w113.cell? ⟨gb379, 0, none⟩ = some (.int .i64 x380000_1) := (blk_cell BK379.out 0).trans rfl; have hcz114_1 : w113.cell? ⟨gb379, 1, none⟩ = some (.int .i64 x380001_1) := (blk_cell BK379.out 1).trans rfl; have hfz114_0 := blk_frozen BK379.out 0; have hfz114_1 := blk_frozen BK379.out 1))
          refine bodyPost_ret (results_list (rs := [.tmp 2, .tmp 3, .cell 4 26]) rfl (by simp) (.tmp (.tmp (.cell gb379 26 #[.int .i64 10, .int .i64 x17_1] (0, 0) _ rfl (by (with_reducible repeat (first | refine bN ?_ _ | refine bD ?_ | refine bA ?_ _)); refine blk_put (cs := #[.int .i64 10, .int .i64 x380001_1]) ?_ 1 _ rfl; (with_reducible repeat (first | refine bN ?_ _ | refine bD ?_ | refine bA ?_ _)); refine blk_put (cs := #[.int .i64 x380000_1, .int .i64 x380001_1]) ?_ 0 _ rfl; (with_reducible repeat (first | refine bN ?_ _ | refine bD ?_ | refine bA ?_ _)); exact BK379.out) Try.underlying26 rfl (by kernel_rfl) .nil)))) rfl ?_
          exact ⟨_, _, by first | rfl | (simp [errW_none, errW_some] <;> rfl) | (simp [*, errW_none, errW_some] <;> rfl), by first | exact Kd.S_nil _ _ _ _ _ | exact Kd.N_nil _ _ _ _ _ | exact Kd.V_nil _ _ _ _ _ | exact Kd.Q_nil _ _ _ _ _ | exact Kd.R_nil _ _ _ _ _, by first | exact Kd.R_nil _ _ _ _ _ | exact Kd.N_nil _ _ _ _ _ | exact Kd.V_nil _ _ _ _ _ | exact Kd.Q_nil _ _ _ _ _ | exact Kd.S_nil _ _ _ _ _, by repeat (first | (with_reducible first | exact HB.out | apply lA | apply lN | apply lD | refine lS ?_ GE379.out | refine lS ?_ GE381.out) | exact HB.out)⟩
        subst c40
        have H1 : (if ((rd_T45 l0 x17_1).f0) = (-1) then ((bytes_Clone.f ((rd_T45 l0 x17_1).f1)).bind fun t387 => ((some (([t387] : List (List Int)) : List (List Int))).bind fun y390 => (if x5_1.length + y390.length < 5864062014805 then ((some (([0] : List Int) : List Int)).bind fun y396 => (if x6_1.length + y396.length < 17592186044416 then (deltachain_unpack.l0 kj20 (x5_1 ++ y390) (x6_1 ++ y396) l0 (l0.length : Int) (wrap64 (x17_1 + 1))) else (none))) else (none)))) else (if 0 ≤ ((rd_T45 l0 x17_1).f0) then (if ((rd_T45 l0 x17_1).f0) < (x5_1.length : Int) then ((deltachain_Apply.f kj20 (rd_L1 x5_1 ((rd_T45 l0 x17_1).f0)) ((rd_T45 l0 x17_1).f2)).bind fun bt403 => (if (!(bt403.2.1 == 0) || (!(bt403.2.2 == 0))) = true then (some (([] : List (List Int)), ([] : List Int), bt403.2.1, x17_1)) else ((some (([bt403.1] : List (List Int)) : List (List Int))).bind fun y409 => (if x5_1.length + y409.length < 5864062014805 then (if ((rd_T45 l0 x17_1).f0) < (x6_1.length : Int) then ((some (([wrap64 ((rd x6_1 ((rd_T45 l0 x17_1).f0)) + 1)] : List Int) : List Int)).bind fun y416 => (if x6_1.length + y416.length < 17592186044416 then (deltachain_unpack.l0 kj20 (x5_1 ++ y409) (x6_1 ++ y416) l0 (l0.length : Int) (wrap64 (x17_1 + 1))) else (none))) else (none)) else (none))))) else (none)) else (none))) = some (r1, r2, r3, r4) := by rw [if_pos rfl] at H; exact H
        clear H
        have H := H1
        clear H1
        by_cases c41 : ((rd_T45 l0 x17_1).f0) = (-1)
        · rw [if_pos c41] at H
          have c41b0 : (((rd_T45 l0 x17_1).f0) == (-1)) = true := beq_iff_eq.mpr c41
          have c41b1 : (((rd_T45 l0 x17_1).f0) != (-1)) = false := bne_eq_false_iff_eq.mpr c41
          clear c41
          replace H := Option.bind_eq_some_iff.mp H
          obtain ⟨t387, A420, H⟩ := H
          replace H : ((some (([t387] : List (List Int)) : List (List Int))).bind fun y390 => (if x5_1.length + y390.length < 5864062014805 then ((some (([0] : List Int) : List Int)).bind fun y396 => (if x6_1.length + y396.length < 17592186044416 then (deltachain_unpack.l0 kj20 (x5_1 ++ y390) (x6_1 ++ y396) l0 (l0.length : Int) (wrap64 (x17_1 + 1))) else (none))) else (none))) = some (r1, r2, r3, r4) := H
          have A42 := aZ A420
          clear A420
          obtain ⟨y390, hy390⟩ : ∃ y_ : List (List Int), y_ = (([t387] : List (List Int))) := ⟨_, rfl⟩
          replace H : (if x5_1.length + y390.length < 5864062014805 then ((some (([0] : List Int) : List Int)).bind fun y396 => (if x6_1.length + y396.length < 17592186044416 then (deltachain_unpack.l0 kj20 (x5_1 ++ y390) (x6_1 ++ y396) l0 (l0.length : Int) (wrap64 (x17_1 + 1))) else (none))) else (none)) = some (r1, r2, r3, r4) := by first | (rw [hy390]; with_reducible exact H) | (have H2_ := (Option.bind_some _ _).symm.trans H; rw [hy390]; with_reducible exact H2_) | (have H2_ := (Option.bind_some _ _).symm.trans H; with_reducible exact H2_) | with_reducible exact H | (rw [hy390]; exact H) | exact H
          have Ny390 := aZ hy390
          clear hy390
          by_cases c43 : x5_1.length + y390.length < 5864062014805
          rotate_left
          · rw [if_neg c43] at H
            exact absurd H (by simp)
          rw [if_pos c43] at H
          have LMc43 := aZ c43
          clear c43
          obtain ⟨y393, hy393⟩ : ∃ y_ : List (List Int), y_ = (x5_1 ++ y390) := ⟨_, rfl⟩
          replace H : ((some (([0] : List Int) : List Int)).bind fun y396 => (if x6_1.length + y396.length < 17592186044416 then (deltachain_unpack.l0 kj20 y393 (x6_1 ++ y396) l0 (l0.length : Int) (wrap64 (x17_1 + 1))) else (none))) = some (r1, r2, r3, r4) := by first | (rw [hy393]; with_reducible exact H) | (have H2_ := (Option.bind_some _ _).symm.trans H; rw [hy393]; with_reducible exact H2_) | (have H2_ := (Option.bind_some _ _).symm.trans H; with_reducible exact H2_) | with_reducible exact H | (rw [hy393]; exact H) | exact H
          have Ny393 := aZ hy393
          clear hy393
          obtain ⟨y396, hy396⟩ : ∃ y_ : List Int, y_ = (([0] : List Int)) := ⟨_, rfl⟩
          replace H : (if x6_1.length + y396.length < 17592186044416 then (deltachain_unpack.l0 kj20 y393 (x6_1 ++ y396) l0 (l0.length : Int) (wrap64 (x17_1 + 1))) else (none)) = some (r1, r2, r3, r4) := by first | (rw [hy396]; with_reducible exact H) | (have H2_ := (Option.bind_some _ _).symm.trans H; rw [hy396]; with_reducible exact H2_) | (have H2_ := (Option.bind_some _ _).symm.trans H; with_reducible exact H2_) | with_reducible exact H | (rw [hy396]; exact H) | exact H
          have Ny396 := aZ hy396
          clear hy396
          by_cases c44 : x6_1.length + y396.length < 17592186044416
          rotate_left
          · rw [if_neg c44] at H
            exact absurd H (by simp)
          rw [if_pos c44] at H
          have LMc44 := aZ c44
          clear c44
          obtain ⟨y399, hy399⟩ : ∃ y_ : List Int, y_ = (x6_1 ++ y396) := ⟨_, rfl⟩
          replace H : (deltachain_unpack.l0 kj20 y393 y399 l0 (l0.length : Int) (wrap64 (x17_1 + 1))) = some (r1, r2, r3, r4) := by first | (rw [hy399]; with_reducible exact H) | (have H2_ := (Option.bind_some _ _).symm.trans H; rw [hy399]; with_reducible exact H2_) | (have H2_ := (Option.bind_some _ _).symm.trans H; with_reducible exact H2_) | with_reducible exact H | (rw [hy399]; exact H) | exact H
          have Ny399 := aZ hy399
          clear hy399
          have H' := aZ H
          clear H
          have hnb45 := NB381_379.out
          have hnc45 := NB379_381.out
          have hcz46_0 : wc.cell? ⟨gb381, 0, none⟩ = some (.int .i64 ((rd_T45 l0 x17_1).f0)) := (blk_cell BK381.out 0).trans rfl
          have hcz46_1 : wc.cell? ⟨gb381, 1, none⟩ = some (.slice A380_1 ((rd_T45 l0 x17_1).f1).length c380_1) := (blk_cell BK381.out 1).trans rfl
          have hcz46_2 : wc.cell? ⟨gb381, 2, none⟩ = some (.slice A380_2 ((rd_T45 l0 x17_1).f2).length c380_2) := (blk_cell BK381.out 2).trans rfl
          have hfz46_0 := blk_frozen BK381.out 0
          have hfz46_1 := blk_frozen BK381.out 1
          have hfz46_2 := blk_frozen BK381.out 2
          go_wp2_with (first | ((with_reducible refine gate_dst (N := 60) rfl ?_); (try (refine gate_guard (by rfl) ?_; dsimp only)); refine Kd.lit_read (Kd.slice 5 (Kd.int .u8)) 22 ?hg (N := 60) ?hd (ys := y382) (xs := ([((rd_T45 l0 x17_1).f1)] : List (List Int))) (inner := [.slice A380_1 ((rd_T45 l0 x17_1).f1).length c380_1]) Ny382.out ?hr ?hp (by simp) ?_; (case hd => rfl); (case hg => rfl); (case hr => first | (go_simp; done) | (go_simp; rfl)); (case hp => exact (Reps.one (show Kd.K (Kd.slice 5 (Kd.int .u8)) _ ((rd_T45 l0 x17_1).f1) [.slice A380_1 ((rd_T45 l0 x17_1).f1).length c380_1] from ⟨_, _, rfl, by exact HC380_1.out, by repeat (first | exact (Kd.C_below HR380_1.out HB.out) | (with_reducible refine Kd.C_alloc ?_ _) | (with_reducible refine Kd.C_drewN ?_ _) | (with_reducible refine Kd.C_drew ?_))⟩) (Reps.none _ _))); intro A385 w47 hnew_ hb; have n0_ := aZ (Kd.N_below (by (with_reducible repeat (first | apply Kd.N_alloc | apply Kd.N_drewN | apply Kd.N_drew)); exact HO_5.out) hb); have n1_ := aZ (Kd.R_below (by (with_reducible repeat (first | apply Kd.rA | apply Kd.rN | apply Kd.rD)); exact HO_6.out) hb); have n2_ := aZ (blk_below (g := gb379) (o := .cells #[.int .i64 x380000_1, .int .i64 x380001_1] 26 (0, 0)) (by (with_reducible repeat (first | refine bN ?_ _ | refine bD ?_ | refine bA ?_ _)); exact BK379.out) hb); have n3_ := aZ (blk_below (g := gb381) (o := .cells #[.int .i64 ((rd_T45 l0 x17_1).f0), .slice A380_1 ((rd_T45 l0 x17_1).f1).length c380_1, .slice A380_2 ((rd_T45 l0 x17_1).f2).length c380_2] 45 (0, 0)) (by (with_reducible repeat (first | refine bN ?_ _ | refine bD ?_ | refine bA ?_ _)); exact BK381.out) hb); have n4_ := aZ (lT (by repeat (first | (with_reducible first | exact HB.out | apply lA | apply lN | apply lD | refine lS ?_ GE379.out | refine lS ?_ GE381.out) | exact HB.out)) hb); have n5_ := aZ (hnew_); have n6_ := aZ (Nat.le_refl y382.length); clear HO_5; clear HO_6; clear BK379; clear BK381; clear HB; have HO_5 := n0_; have HO_6 := n1_; have BK379 := n2_; have BK381 := n3_; have HB := n4_; have HR385 := n5_; have HC385 := n6_; clear n0_ n1_ n2_ n3_ n4_ n5_ n6_; clear hb hnew_) | ((with_reducible refine gate_callee (f := 24) rfl ?_); refine goesL_ (some 61) rfl rfl Try.func24 (by kernel_rfl) rfl #[.slice A385 y382.length y382.length] rfl (by (try simp only [List.map_toArray, List.map_cons, List.map_nil]); first | done | rfl | (simp only [List.length_drop, List.length_take]; rfl)) ?_; (with_reducible refine (deltachain_sized.calls kj20 _ _ y382 true _ ?side1 ?side2 A39.out).mono ?_); (case side1 => repeat (first | exact (by repeat (first | (with_reducible exact HR385.out) | (with_reducible refine Kd.C_alloc ?_ _) | (with_reducible refine Kd.C_drewN ?_ _) | (with_reducible refine Kd.C_drew ?_) | exact HR385.out)) | (with_reducible refine Kd.C_alloc ?_ _) | (with_reducible refine Kd.C_drewN ?_ _) | (with_reducible refine Kd.C_drew ?_))); (case side2 => exact HC385.out); rintro e w' ⟨rfl, ⟨nd, rfl⟩⟩; refine ⟨_, rfl, ?_⟩; have hcz48_0 : w47.cell? ⟨gb381, 0, none⟩ = some (.int .i64 ((rd_T45 l0 x17_1).f0)) := (blk_cell BK381.out 0).trans rfl; have hcz48_1 : w47.cell? ⟨gb381, 1, none⟩ = some (.slice A380_1 ((rd_T45 l0 x17_1).f1).length c380_1) := (blk_cell BK381.out 1).trans rfl; have hcz48_2 : w47.cell? ⟨gb381, 2, none⟩ = some (.slice A380_2 ((rd_T45 l0 x17_1).f2).length c380_2) := (blk_cell BK381.out 2).trans rfl; have hfz48_0 := blk_frozen BK381.out 0; have hfz48_1 := blk_frozen BK381.out 1; have hfz48_2 := blk_frozen BK381.out 2) | ((with_reducible refine gate_callee (f := 26) rfl ?_); refine goesL_ (some 72) rfl rfl Try.func26 (by kernel_rfl) rfl #[.slice A380_1 ((rd_T45 l0 x17_1).f1).length c380_1] rfl (by (try simp only [List.map_toArray, List.map_cons, List.map_nil]); first | done | rfl | (simp only [List.length_drop, List.length_take]; rfl)) ?_; (with_reducible refine (bytes_Clone.calls _ _ ((rd_T45 l0 x17_1).f1) t387 _ ?side1 ?side2 A42.out).mono ?_); (case side1 => repeat (first | exact (Kd.C_below HR380_1.out (by repeat (first | (with_reducible first | exact HB.out | apply lA | apply lN | apply lD | refine lS ?_ GE379.out | refine lS ?_ GE381.out) | exact HB.out))) | (with_reducible refine Kd.C_alloc ?_ _) | (with_reducible refine Kd.C_drewN ?_ _) | (with_reducible refine Kd.C_drew ?_))); (case side2 => exact HC380_1.out); rintro e w49 ⟨v388, rfl, ho0, hb⟩; refine ⟨_, rfl, ?_⟩; have n0_ := aZ (Kd.N_elder' (by (with_reducible repeat (first | apply Kd.N_alloc | apply Kd.N_drewN | apply Kd.N_drew)); exact HO_5.out) (Kd.R_base ho0) hb); have n1_ := aZ (Kd.R_below (by (with_reducible repeat (first | apply Kd.rA | apply Kd.rN | apply Kd.rD)); exact HO_6.out) hb); have n2_ := aZ (Kd.R_lower (Kd.R_newM (M := fun k_ => (w.heap.size ≤ k_)) ho0 (lZ (by repeat (first | (with_reducible first | exact HB.out | apply lA | apply lN | apply lD | refine lS ?_ GE379.out | refine lS ?_ GE381.out) | exact HB.out))) (fun k_ h_ => h_)) (lZ (by repeat (first | (with_reducible first | exact HB.out | apply lA | apply lN | apply lD | refine lS ?_ GE379.out | refine lS ?_ GE381.out) | exact HB.out)))); have n3_ := aZ (blk_below (g := gb379) (o := .cells #[.int .i64 x380000_1, .int .i64 x380001_1] 26 (0, 0)) (by (with_reducible repeat (first | refine bN ?_ _ | refine bD ?_ | refine bA ?_ _)); exact BK379.out) hb); have n4_ := aZ (blk_below (g := gb381) (o := .cells #[.int .i64 ((rd_T45 l0 x17_1).f0), .slice A380_1 ((rd_T45 l0 x17_1).f1).length c380_1, .slice A380_2 ((rd_T45 l0 x17_1).f2).length c380_2] 45 (0, 0)) (by (with_reducible repeat (first | refine bN ?_ _ | refine bD ?_ | refine bA ?_ _)); exact BK381.out) hb); have n5_ := aZ (lT (by repeat (first | (with_reducible first | exact HB.out | apply lA | apply lN | apply lD | refine lS ?_ GE379.out | refine lS ?_ GE381.out) | exact HB.out)) hb); clear HO_5; clear HO_6; clear BK379; clear BK381; clear HB; have HO_5 := n0_; have HO_6 := n1_; have HO389 := n2_; have BK379 := n3_; have BK381 := n4_; have HB := n5_; clear n0_ n1_ n2_ n3_ n4_ n5_; (try clear hb); (try clear hb2); (try clear hk); (try clear hi); (try clear ho0); obtain ⟨Ao50, co50, eo50⟩ := Kd.R_slice HO389.out; subst eo50) | ((with_reducible refine gate_dst (N := 73) rfl ?_); (try (refine gate_guard (by rfl) ?_; dsimp only)); refine Kd.N_lit (Kd.slice 5 (Kd.int .u8)) _ 22 ?hg (N' := 73) ?hd (xs := ([t387] : List (List Int))) (inner := [.slice Ao50 t387.length co50]) (ok := (fun k_ => (w.heap.size ≤ k_) ∧ some k_ ≠ (u5 : Value).ownBlock ∧ some k_ ≠ (u6 : Value).ownBlock ∧ k_ ≠ gb379 ∧ k_ ≠ gb381)) (okp := (fun k_ => (w.heap.size ≤ k_) ∧ some k_ ≠ (u5 : Value).ownBlock ∧ some k_ ≠ (u6 : Value).ownBlock ∧ k_ ≠ gb379 ∧ k_ ≠ gb381)) ?hr ?hp (fun _ hk => hk) ((show ∀ k_, w49.heap.size ≤ k_ → (fun k_ => (w.heap.size ≤ k_) ∧ some k_ ≠ (u5 : Value).ownBlock ∧ some k_ ≠ (u6 : Value).ownBlock ∧ k_ ≠ gb379 ∧ k_ ≠ gb381) k_ from fun k_ hk => ⟨(Nat.le_trans (lZ (by repeat (first | (with_reducible first | exact HB.out | apply lA | apply lN | apply lD | refine lS ?_ GE379.out | refine lS ?_ GE381.out) | exact HB.out))) hk), Kd.fresh' (Kd.N_lt (by (with_reducible repeat (first | apply Kd.N_alloc | apply Kd.N_drewN | apply Kd.N_drew)); exact HO_5.out)) k_ hk, Kd.fresh' (Kd.R_lt (by (with_reducible repeat (first | apply Kd.rA | apply Kd.rN | apply Kd.rD)); exact HO_6.out)) k_ hk, Kd.freshB (g := gb379) (o := .cells #[.int .i64 x380000_1, .int .i64 x380001_1] 26 (0, 0)) (by (with_reducible repeat (first | refine bN ?_ _ | refine bD ?_ | refine bA ?_ _)); exact BK379.out) k_ hk, Kd.freshB (g := gb381) (o := .cells #[.int .i64 ((rd_T45 l0 x17_1).f0), .slice A380_1 ((rd_T45 l0 x17_1).f1).length c380_1, .slice A380_2 ((rd_T45 l0 x17_1).f2).length c380_2] 45 (0, 0)) (by (with_reducible repeat (first | refine bN ?_ _ | refine bD ?_ | refine bA ?_ _)); exact BK381.out) k_ hk⟩) _ (Nat.le_refl _)) (Below.refl _ _) (Nat.le_refl _) (by simp) ?_; (case hd => rfl); (case hg => rfl); (case hr => first | (go_simp; done) | (go_simp; rfl)); (case hp => exact (Reps.one (show Kd.FK (Kd.slice 5 (Kd.int .u8)) _ _ t387 [.slice Ao50 t387.length co50] from (Kd.FK_slice_mk (Kd.R_reads' (Kd.R_mono (ok' := (fun k_ => (w.heap.size ≤ k_) ∧ some k_ ≠ (u5 : Value).ownBlock ∧ some k_ ≠ (u6 : Value).ownBlock ∧ k_ ≠ gb379 ∧ k_ ≠ gb381)) (Kd.R_types (Kd.R_types (Kd.R_apart' (Kd.R_apart' (HO389.out) (Kd.N_typed HO_5.out) (by decide)) (Kd.R_typed HO_6.out) (by decide)) BK379.out (by decide)) BK381.out (by decide)) (fun k_ hk => ⟨hk.1.1.1.1.1, ⟨hk.1.1.1.2, ⟨hk.1.1.2, ⟨hk.1.2, hk.2⟩⟩⟩⟩))).2.1 (Kd.R_F (Kd.R_mono (ok' := (fun k_ => (w.heap.size ≤ k_) ∧ some k_ ≠ (u5 : Value).ownBlock ∧ some k_ ≠ (u6 : Value).ownBlock ∧ k_ ≠ gb379 ∧ k_ ≠ gb381)) (Kd.R_types (Kd.R_types (Kd.R_apart' (Kd.R_apart' (HO389.out) (Kd.N_typed HO_5.out) (by decide)) (Kd.R_typed HO_6.out) (by decide)) BK379.out (by decide)) BK381.out (by decide)) (fun k_ hk => ⟨hk.1.1.1.1.1, ⟨hk.1.1.1.2, ⟨hk.1.1.2, ⟨hk.1.2, hk.2⟩⟩⟩⟩))))) (Reps.none _ _))); intro v391 w51 ho52 hb hg_ hnew_; clear hg_ hnew_; (first | rw [← Ny390.out] at ho52 | (simp only [Int.reduceToNat] at ho52; rw [← Ny390.out] at ho52)); have n0_ := aZ (Kd.N_elder' (by (with_reducible repeat (first | apply Kd.N_alloc | apply Kd.N_drewN | apply Kd.N_drew)); exact HO_5.out) (Kd.N_base ho52) hb); have n1_ := aZ (Kd.R_below (by (with_reducible repeat (first | apply Kd.rA | apply Kd.rN | apply Kd.rD)); exact HO_6.out) hb); have n2_ := aZ (Kd.N_lower ho52 (lZ (by repeat (first | (with_reducible first | exact HB.out | apply lA | apply lN | apply lD | refine lS ?_ GE379.out | refine lS ?_ GE381.out) | exact HB.out)))); have n3_ := aZ (blk_below (g := gb379) (o := .cells #[.int .i64 x380000_1, .int .i64 x380001_1] 26 (0, 0)) (by (with_reducible repeat (first | refine bN ?_ _ | refine bD ?_ | refine bA ?_ _)); exact BK379.out) hb); have n4_ := aZ (blk_below (g := gb381) (o := .cells #[.int .i64 ((rd_T45 l0 x17_1).f0), .slice A380_1 ((rd_T45 l0 x17_1).f1).length c380_1, .slice A380_2 ((rd_T45 l0 x17_1).f2).length c380_2] 45 (0, 0)) (by (with_reducible repeat (first | refine bN ?_ _ | refine bD ?_ | refine bA ?_ _)); exact BK381.out) hb); have n5_ := aZ (lT (by repeat (first | (with_reducible first | exact HB.out | apply lA | apply lN | apply lD | refine lS ?_ GE379.out | refine lS ?_ GE381.out) | exact HB.out)) hb); clear HO_5; clear HO_6; clear BK379; clear BK381; clear HB; clear HO389; have HO_5 := n0_; have HO_6 := n1_; have HO392 := n2_; have BK379 := n3_; have BK381 := n4_; have HB := n5_; clear n0_ n1_ n2_ n3_ n4_ n5_; clear hb ho52; obtain ⟨Ao54, co54, eo54⟩ := Kd.N_slice HO392.out; subst eo54) | ((with_reducible refine gate_builtin (b := .append) (xs := #[.tmp 69, .tmp 73]) rfl ?_); (try (refine gate_guard (by rfl) ?_; dsimp only)); at_builtin; refine Kd.N_append_rows (Kd.slice 5 (Kd.int .u8)) (w0 := w) w.heap.size rfl (.tmp 69) (.tmp 73) 39 22 (.slice none 0 0) 24 rfl Try.underlying39 info22 rfl (by decide) (by omega) u5 x5_1 y390 _ _ _ (fun k_ => (w.heap.size ≤ k_) ∧ some k_ ≠ (u6 : Value).ownBlock ∧ k_ ≠ gb379 ∧ k_ ≠ gb381) (fun k_ => ((fun k_ => (w.heap.size ≤ k_) ∧ some k_ ≠ (u6 : Value).ownBlock ∧ k_ ≠ gb379 ∧ k_ ≠ gb381)) k_ ∧ some k_ ≠ (u5 : Value).ownBlock) rfl rfl ?aO ?aR (fun _ hk => hk) ?aF ?aB ?aS ?aL ?_; (case aR => exact (by skip; exact Kd.N_F (Kd.N_mono (ok' := (fun k_ => ((fun k_ => (w.heap.size ≤ k_) ∧ some k_ ≠ (u6 : Value).ownBlock ∧ k_ ≠ gb379 ∧ k_ ≠ gb381)) k_ ∧ some k_ ≠ (u5 : Value).ownBlock)) (HO392.out) (fun k_ hk => ⟨⟨hk.1, ⟨hk.2.2.1, ⟨hk.2.2.2.1, hk.2.2.2.2⟩⟩⟩, hk.2.1⟩)))); (case aB => exact (by repeat (first | (with_reducible first | exact HB.out | apply lA | apply lN | apply lD | refine lS ?_ GE379.out | refine lS ?_ GE381.out) | exact HB.out))); (case aF => exact (fun k_ hk => ⟨(Nat.le_trans (lZ (by repeat (first | (with_reducible first | exact HB.out | apply lA | apply lN | apply lD | refine lS ?_ GE379.out | refine lS ?_ GE381.out) | exact HB.out))) hk), Kd.fresh' (Kd.R_lt (by (with_reducible repeat (first | apply Kd.rA | apply Kd.rN | apply Kd.rD)); exact HO_6.out)) k_ hk, Kd.freshB (g := gb379) (o := .cells #[.int .i64 x380000_1, .int .i64 x380001_1] 26 (0, 0)) (by (with_reducible repeat (first | refine bN ?_ _ | refine bD ?_ | refine bA ?_ _)); exact BK379.out) k_ hk, Kd.freshB (g := gb381) (o := .cells #[.int .i64 ((rd_T45 l0 x17_1).f0), .slice A380_1 ((rd_T45 l0 x17_1).f1).length c380_1, .slice A380_2 ((rd_T45 l0 x17_1).f2).length c380_2] 45 (0, 0)) (by (with_reducible repeat (first | refine bN ?_ _ | refine bD ?_ | refine bA ?_ _)); exact BK381.out) k_ hk⟩)); (case aO => exact (by (with_reducible repeat (first | apply Kd.N_alloc | apply Kd.N_drewN | apply Kd.N_drew)); exact Kd.N_mono HO_5.out (fun _ hk => ⟨hk.1.1.1, ⟨hk.1.1.2.1, ⟨hk.1.1.2.2.1, hk.1.1.2.2.2⟩⟩⟩))); (case aS => exact (lZ (by repeat (first | (with_reducible first | exact HB.out | apply lA | apply lN | apply lD | refine lS ?_ GE379.out | refine lS ?_ GE381.out) | exact HB.out)))); (case aL => have := LMc43.out; omega); intro v394 w53 ho hb hg hat; rw [← Ny393.out] at ho; have n0_ := aZ (Kd.R_over' (by (with_reducible repeat (first | apply Kd.rA | apply Kd.rN | apply Kd.rD)); exact HO_6.out) (Kd.N_typed (by (with_reducible repeat (first | apply Kd.N_alloc | apply Kd.N_drewN | apply Kd.N_drew)); exact HO_5.out)) (by decide) hg); have n1_ := aZ (blk_grown (g := gb379) (o := .cells #[.int .i64 x380000_1, .int .i64 x380001_1] 26 (0, 0)) (by (with_reducible repeat (first | refine bN ?_ _ | refine bD ?_ | refine bA ?_ _)); exact BK379.out) hg (Kd.N_ne HO_5.out BK379.out (by decide))); have n2_ := aZ (blk_grown (g := gb381) (o := .cells #[.int .i64 ((rd_T45 l0 x17_1).f0), .slice A380_1 ((rd_T45 l0 x17_1).f1).length c380_1, .slice A380_2 ((rd_T45 l0 x17_1).f2).length c380_2] 45 (0, 0)) (by (with_reducible repeat (first | refine bN ?_ _ | refine bD ?_ | refine bA ?_ _)); exact BK381.out) hg (Kd.N_ne HO_5.out BK381.out (by decide))); have n3_ := aZ (Kd.N_afterv (ok := (fun k_ => (w.heap.size ≤ k_) ∧ some k_ ≠ (u6 : Value).ownBlock ∧ k_ ≠ gb379 ∧ k_ ≠ gb381)) (by (with_reducible repeat (first | apply Kd.N_alloc | apply Kd.N_drewN | apply Kd.N_drew)); exact Kd.N_mono HO392.out (fun _ hk => ⟨⟨hk.1, ⟨hk.2.2.1, ⟨hk.2.2.2.1, hk.2.2.2.2⟩⟩⟩, hk.2.1⟩)) hg hat); have n4_ := aZ (hb); have n5_ := aZ (ho); clear HO_6; clear BK379; clear BK381; clear HO392; clear HB; clear HO_5; have HO_6 := n0_; have BK379 := n1_; have BK381 := n2_; have HO392 := n3_; have HB := n4_; have HO395 := n5_; clear n0_ n1_ n2_ n3_ n4_ n5_; clear ho hb hg hat) | ((with_reducible refine gate_dst (N := 76) rfl ?_); (try (refine gate_guard (by rfl) ?_; dsimp only)); refine Kd.R_lit (Kd.int .i64) _ 3 ?hg (N := 76) ?hd (xs := ([0] : List Int)) (inner := [.int .i64 0]) (ok := fun _ => True) (okp := fun _ => True) ?hr ?hp (fun _ hk => hk) trivial (Below.refl _ _) (Nat.le_refl _) (by simp) ?_; (case hd => rfl); (case hg => rfl); (case hr => first | (go_simp; done) | (go_simp; rfl)); (case hp => exact (Reps.one (show Kd.M (Kd.int .i64) _ _ _ 0 [.int .i64 0] from rfl) (Reps.none _ _))); intro v397 w55 ho56 hb hg_ hnew_; clear hg_ hnew_; (first | rw [← Ny396.out] at ho56 | (simp only [Int.reduceToNat] at ho56; rw [← Ny396.out] at ho56)); have n0_ := aZ (Kd.R_elder' (by (with_reducible repeat (first | apply Kd.rA | apply Kd.rN | apply Kd.rD)); exact HO_6.out) (Kd.R_base ho56) hb); have n1_ := aZ (Kd.N_elder' (by (with_reducible repeat (first | apply Kd.N_alloc | apply Kd.N_drewN | apply Kd.N_drew)); exact HO392.out) (Kd.R_base ho56) hb); have n2_ := aZ (Kd.N_elder' (by (with_reducible repeat (first | apply Kd.N_alloc | apply Kd.N_drewN | apply Kd.N_drew)); exact HO395.out) (Kd.R_base ho56) hb); have n3_ := aZ (Kd.R_lower (Kd.R_new' (Kd.R_newM (M := fun k_ => (w.heap.size ≤ k_)) ho56 (lZ (by repeat (first | (with_reducible first | exact HB.out | apply lA | apply lN | apply lD | refine lS ?_ GE379.out | refine lS ?_ GE381.out) | exact HB.out))) (fun k_ h_ => h_)) (Kd.R_lt (by (with_reducible repeat (first | apply Kd.rA | apply Kd.rN | apply Kd.rD)); exact HO_6.out))) (lZ (by repeat (first | (with_reducible first | exact HB.out | apply lA | apply lN | apply lD | refine lS ?_ GE379.out | refine lS ?_ GE381.out) | exact HB.out)))); have n4_ := aZ (blk_below (g := gb379) (o := .cells #[.int .i64 x380000_1, .int .i64 x380001_1] 26 (0, 0)) (by (with_reducible repeat (first | refine bN ?_ _ | refine bD ?_ | refine bA ?_ _)); exact BK379.out) hb); have n5_ := aZ (blk_below (g := gb381) (o := .cells #[.int .i64 ((rd_T45 l0 x17_1).f0), .slice A380_1 ((rd_T45 l0 x17_1).f1).length c380_1, .slice A380_2 ((rd_T45 l0 x17_1).f2).length c380_2] 45 (0, 0)) (by (with_reducible repeat (first | refine bN ?_ _ | refine bD ?_ | refine bA ?_ _)); exact BK381.out) hb); have n6_ := aZ (lT (by repeat (first | (with_reducible first | exact HB.out | apply lA | apply lN | apply lD | refine lS ?_ GE379.out | refine lS ?_ GE381.out) | exact HB.out)) hb); clear HO_6; clear HO392; clear HO395; clear BK379; clear BK381; clear HB; have HO_6 := n0_; have HO392 := n1_; have HO395 := n2_; have HO398 := n3_; have BK379 := n4_; have BK381 := n5_; have HB := n6_; clear n0_ n1_ n2_ n3_ n4_ n5_ n6_; clear hb ho56; obtain ⟨Ao58, co58, eo58⟩ := Kd.R_slice HO398.out; subst eo58) | ((with_reducible refine gate_builtin (b := .append) (xs := #[.tmp 75, .tmp 76]) rfl ?_); (try (refine gate_guard (by rfl) ?_; dsimp only)); at_builtin; refine Kd.R_append_rows (Kd.int .i64) (w0 := w) w.heap.size rfl (.tmp 75) (.tmp 76) 48 3 (.int .i64 0) 8 rfl Try.underlying48 info3 rfl (by decide) (by omega) u6 x6_1 y396 _ _ _ (fun k_ => (w.heap.size ≤ k_) ∧ some k_ ≠ (.slice Ao58 y396.length co58 : Value).ownBlock) (fun _ => False) rfl rfl ?aO ?aR (fun _ _ h => h) (fun _ h => h.elim) ?aF ?aB ?aS ?aL ?_; (case aR => repeat (first | exact (Kd.R_reads' HO398.out).2.2 | (with_reducible refine Kd.C_alloc ?_ _) | (with_reducible refine Kd.C_drewN ?_ _) | (with_reducible refine Kd.C_drew ?_))); (case aB => exact (by repeat (first | (with_reducible first | exact HB.out | apply lA | apply lN | apply lD | refine lS ?_ GE379.out | refine lS ?_ GE381.out) | exact HB.out))); (case aF => exact (fun k_ hk => ⟨(Nat.le_trans (lZ (by repeat (first | (with_reducible first | exact HB.out | apply lA | apply lN | apply lD | refine lS ?_ GE379.out | refine lS ?_ GE381.out) | exact HB.out))) hk), Kd.fresh' (Kd.R_lt (by (with_reducible repeat (first | apply Kd.rA | apply Kd.rN | apply Kd.rD)); exact HO398.out)) k_ hk⟩)); (case aO => exact (by (with_reducible repeat (first | apply Kd.rA | apply Kd.rN | apply Kd.rD)); exact HO_6.out)); (case aS => exact (lZ (by repeat (first | (with_reducible first | exact HB.out | apply lA | apply lN | apply lD | refine lS ?_ GE379.out | refine lS ?_ GE381.out) | exact HB.out)))); (case aL => have := LMc44.out; omega); intro v400 w57 ho hb hg hat; rw [← Ny399.out] at ho; have n0_ := aZ (blk_grown (g := gb379) (o := .cells #[.int .i64 x380000_1, .int .i64 x380001_1] 26 (0, 0)) (by (with_reducible repeat (first | refine bN ?_ _ | refine bD ?_ | refine bA ?_ _)); exact BK379.out) hg (Kd.R_ne HO_6.out BK379.out (by decide))); have n1_ := aZ (blk_grown (g := gb381) (o := .cells #[.int .i64 ((rd_T45 l0 x17_1).f0), .slice A380_1 ((rd_T45 l0 x17_1).f1).length c380_1, .slice A380_2 ((rd_T45 l0 x17_1).f2).length c380_2] 45 (0, 0)) (by (with_reducible repeat (first | refine bN ?_ _ | refine bD ?_ | refine bA ?_ _)); exact BK381.out) hg (Kd.R_ne HO_6.out BK381.out (by decide))); have n2_ := aZ (Kd.N_afterv (ok := (fun k_ => (w.heap.size ≤ k_) ∧ some k_ ≠ (v394 : Value).ownBlock ∧ some k_ ≠ (.slice Ao58 y396.length co58 : Value).ownBlock ∧ k_ ≠ gb379 ∧ k_ ≠ gb381)) (by (with_reducible repeat (first | apply Kd.N_alloc | apply Kd.N_drewN | apply Kd.N_drew)); exact Kd.N_mono HO392.out (fun _ hk => ⟨⟨hk.1.1.1, ⟨hk.1.2, ⟨hk.2, ⟨hk.1.1.2.2.1, hk.1.1.2.2.2⟩⟩⟩⟩, hk.1.1.2.1⟩)) hg hat); have n3_ := aZ (Kd.N_afterv (ok := (fun k_ => (w.heap.size ≤ k_) ∧ some k_ ≠ (.slice Ao58 y396.length co58 : Value).ownBlock ∧ k_ ≠ gb379 ∧ k_ ≠ gb381)) (by (with_reducible repeat (first | apply Kd.N_alloc | apply Kd.N_drewN | apply Kd.N_drew)); exact Kd.N_mono HO395.out (fun _ hk => ⟨⟨hk.1.1, ⟨hk.2, ⟨hk.1.2.2.1, hk.1.2.2.2⟩⟩⟩, hk.1.2.1⟩)) hg hat); have n4_ := aZ (Kd.R_after (ok := (fun k_ => (w.heap.size ≤ k_))) (by (with_reducible repeat (first | apply Kd.rA | apply Kd.rN | apply Kd.rD)); exact Kd.R_mono HO398.out (fun _ hk => ⟨hk.1.1, hk.2⟩)) hg hat); have n5_ := aZ (hb); have n6_ := aZ (ho); clear BK379; clear BK381; clear HO392; clear HO395; clear HO398; clear HB; clear HO_6; have BK379 := n0_; have BK381 := n1_; have HO392 := n2_; have HO395 := n3_; have HO398 := n4_; have HB := n5_; have HO401 := n6_; clear n0_ n1_ n2_ n3_ n4_ n5_ n6_; clear ho hb hg hat))
          go_roundg kj20
          case measure => have := HK1.out; have := HJ8.out; have := HJ20.out; omega
          case rel => exact ⟨(y393), (y399), (wrap64 (x17_1 + 1)), (x380000_1), (x380001_1), (by first | rfl | (simp; done) | (simp [*]; done) | (simp [i64_w]; done)), H', ⟨by have := HK1.out; have := HJ8.out; have := HJ20.out; omega⟩, ⟨by (with_reducible repeat (first | apply Kd.N_alloc | apply Kd.N_drewN | apply Kd.N_drew)); exact Kd.N_mono HO395.out (fun _ hk => ⟨hk.1.1, ⟨hk.2, hk.1.2.2.1⟩⟩)⟩, ⟨by (with_reducible repeat (first | apply Kd.rA | apply Kd.rN | apply Kd.rD)); exact Kd.R_mono HO401.out (fun _ hk => hk.1)⟩, ⟨by (with_reducible repeat (first | refine bN ?_ _ | refine bD ?_ | refine bA ?_ _)); exact BK379.out⟩, ⟨by repeat (first | (with_reducible first | exact HB.out | apply lA | apply lN | apply lD | refine lS ?_ GE379.out | refine lS ?_ GE381.out) | exact HB.out)⟩⟩
        rw [if_neg c41] at H
        have c41b0 : (((rd_T45 l0 x17_1).f0) == (-1)) = false := beq_eq_false_iff_ne.mpr c41
        have c41b1 : (((rd_T45 l0 x17_1).f0) != (-1)) = true := bne_iff_ne.mpr c41
        by_cases c59 : 0 ≤ ((rd_T45 l0 x17_1).f0)
        rotate_left
        · rw [if_neg c59] at H
          exact absurd H (by simp)
        rw [if_pos c59] at H
        have c59b0 : decide (0 ≤ ((rd_T45 l0 x17_1).f0)) = true := decide_eq_true c59
        clear c59
        by_cases c60 : ((rd_T45 l0 x17_1).f0) < (x5_1.length : Int)
        rotate_left
        · rw [if_neg c60] at H
          exact absurd H (by simp)
        rw [if_pos c60] at H
        have c60b0 : decide (((rd_T45 l0 x17_1).f0) < (x5_1.length : Int)) = true := decide_eq_true c60
        clear c60
        replace H := Option.bind_eq_some_iff.mp H
        obtain ⟨⟨t403, t406, t407⟩, A610, H⟩ := H
        replace H : (if (!(t406 == 0) || (!(t407 == 0))) = true then (some (([] : List (List Int)), ([] : List Int), t406, x17_1)) else ((some (([t403] : List (List Int)) : List (List Int))).bind fun y409 => (if x5_1.length + y409.length < 5864062014805 then (if ((rd_T45 l0 x17_1).f0) < (x6_1.length : Int) then ((some (([wrap64 ((rd x6_1 ((rd_T45 l0 x17_1).f0)) + 1)] : List Int) : List Int)).bind fun y416 => (if x6_1.length + y416.length < 17592186044416 then (deltachain_unpack.l0 kj20 (x5_1 ++ y409) (x6_1 ++ y416) l0 (l0.length : Int) (wrap64 (x17_1 + 1))) else (none))) else (none)) else (none)))) = some (r1, r2, r3, r4) := H
        have A61 := aZ A610
        clear A610
        by_cases c62 : (!(t406 == 0) || (!(t407 == 0))) = true
        · rw [if_pos c62] at H
          have c62b0 : (!(t406 == 0) || (!(t407 == 0))) = true := c62
          clear c62
          simp only [Option.some.injEq, Prod.mk.injEq] at H
          obtain ⟨rfl, rfl, rfl, rfl⟩ := H
          have hnb63 := NB381_379.out
          have hnc63 := NB379_381.out
          have hcz64_0 : wc.cell? ⟨gb381, 0, none⟩ = some (.int .i64 ((rd_T45 l0 x17_1).f0)) := (blk_cell BK381.out 0).trans rfl
          have hcz64_1 : wc.cell? ⟨gb381, 1, none⟩ = some (.slice A380_1 ((rd_T45 l0 x17_1).f1).length c380_1) := (blk_cell BK381.out 1).trans rfl
          have hcz64_2 : wc.cell? ⟨gb381, 2, none⟩ = some (.slice A380_2 ((rd_T45 l0 x17_1).f2).length c380_2) := (blk_cell BK381.out 2).trans rfl
          have hfz64_0 := blk_frozen BK381.out 0
          have hfz64_1 := blk_frozen BK381.out 1
          have hfz64_2 := blk_frozen BK381.out 2
          try go_wp2_with (first | ((with_reducible refine gate_dst (N := 60) rfl ?_); (try (refine gate_guard (by rfl) ?_; dsimp only)); refine Kd.lit_read (Kd.slice 5 (Kd.int .u8)) 22 ?hg (N := 60) ?hd (ys := y382) (xs := ([((rd_T45 l0 x17_1).f1)] : List (List Int))) (inner := [.slice A380_1 ((rd_T45 l0 x17_1).f1).length c380_1]) Ny382.out ?hr ?hp (by simp) ?_; (case hd => rfl); (case hg => rfl); (case hr => first | (go_simp; done) | (go_simp; rfl)); (case hp => exact (Reps.one (show Kd.K (Kd.slice 5 (Kd.int .u8)) _ ((rd_T45 l0 x17_1).f1) [.slice A380_1 ((rd_T45 l0 x17_1).f1).length c380_1] from ⟨_, _, rfl, by exact HC380_1.out, by repeat (first | exact (Kd.C_below HR380_1.out HB.out) | (with_reducible refine Kd.C_alloc ?_ _) | (with_reducible refine Kd.C_drewN ?_ _) | (with_reducible refine Kd.C_drew ?_))⟩) (Reps.none _ _))); intro A385 w65 hnew_ hb; have n0_ := aZ (Kd.N_below (by (with_reducible repeat (first | apply Kd.N_alloc | apply Kd.N_drewN | apply Kd.N_drew)); exact HO_5.out) hb); have n1_ := aZ (Kd.R_below (by (with_reducible repeat (first | apply Kd.rA | apply Kd.rN | apply Kd.rD)); exact HO_6.out) hb); have n2_ := aZ (blk_below (g := gb379) (o := .cells #[.int .i64 x380000_1, .int .i64 x380001_1] 26 (0, 0)) (by (with_reducible repeat (first | refine bN ?_ _ | refine bD ?_ | refine bA ?_ _)); exact BK379.out) hb); have n3_ := aZ (blk_below (g := gb381) (o := .cells #[.int .i64 ((rd_T45 l0 x17_1).f0), .slice A380_1 ((rd_T45 l0 x17_1).f1).length c380_1, .slice A380_2 ((rd_T45 l0 x17_1).f2).length c380_2] 45 (0, 0)) (by (with_reducible repeat (first | refine bN ?_ _ | refine bD ?_ | refine bA ?_ _)); exact BK381.out) hb); have n4_ := aZ (lT (by repeat (first | (with_reducible first | exact HB.out | apply lA | apply lN | apply lD | refine lS ?_ GE379.out | refine lS ?_ GE381.out) | exact HB.out)) hb); have n5_ := aZ (hnew_); have n6_ := aZ (Nat.le_refl y382.length); clear HO_5; clear HO_6; clear BK379; clear BK381; clear HB; have HO_5 := n0_; have HO_6 := n1_; have BK379 := n2_; have BK381 := n3_; have HB := n4_; have HR385 := n5_; have HC385 := n6_; clear n0_ n1_ n2_ n3_ n4_ n5_ n6_; clear hb hnew_) | ((with_reducible refine gate_callee (f := 24) rfl ?_); refine goesL_ (some 61) rfl rfl Try.func24 (by kernel_rfl) rfl #[.slice A385 y382.length y382.length] rfl (by (try simp only [List.map_toArray, List.map_cons, List.map_nil]); first | done | rfl | (simp only [List.length_drop, List.length_take]; rfl)) ?_; (with_reducible refine (deltachain_sized.calls kj20 _ _ y382 true _ ?side1 ?side2 A39.out).mono ?_); (case side1 => repeat (first | exact (by repeat (first | (with_reducible exact HR385.out) | (with_reducible refine Kd.C_alloc ?_ _) | (with_reducible refine Kd.C_drewN ?_ _) | (with_reducible refine Kd.C_drew ?_) | exact HR385.out)) | (with_reducible refine Kd.C_alloc ?_ _) | (with_reducible refine Kd.C_drewN ?_ _) | (with_reducible refine Kd.C_drew ?_))); (case side2 => exact HC385.out); rintro e w' ⟨rfl, ⟨nd, rfl⟩⟩; refine ⟨_, rfl, ?_⟩; (try (rw [drewN_self w65]; generalize hq_ : World.drewN w65 _ = w65; have n0_ : Aside0 (Kd.N (Kd.slice 5 (Kd.int .u8)) 22 w65 w.heap.size (fun k_ => (w.heap.size ≤ k_) ∧ some k_ ≠ (u6 : Value).ownBlock ∧ k_ ≠ gb379 ∧ k_ ≠ gb381) u5 x5_1) := ⟨by rw [← hq_]; exact (by (with_reducible repeat (first | apply Kd.N_alloc | apply Kd.N_drewN | apply Kd.N_drew)); exact HO_5.out)⟩; have n1_ : Aside0 (Kd.R (Kd.int .i64) 3 w65 w.heap.size (fun k_ => (w.heap.size ≤ k_)) u6 x6_1) := ⟨by rw [← hq_]; exact (by (with_reducible repeat (first | apply Kd.rA | apply Kd.rN | apply Kd.rD)); exact HO_6.out)⟩; have n2_ : Aside0 (w65.heap[gb379]? = some (.cells #[.int .i64 x380000_1, .int .i64 x380001_1] 26 (0, 0))) := ⟨by rw [← hq_]; exact (by (with_reducible repeat (first | refine bN ?_ _ | refine bD ?_ | refine bA ?_ _)); exact BK379.out)⟩; have n3_ : Aside0 (w65.heap[gb381]? = some (.cells #[.int .i64 ((rd_T45 l0 x17_1).f0), .slice A380_1 ((rd_T45 l0 x17_1).f1).length c380_1, .slice A380_2 ((rd_T45 l0 x17_1).f2).length c380_2] 45 (0, 0))) := ⟨by rw [← hq_]; exact (by (with_reducible repeat (first | refine bN ?_ _ | refine bD ?_ | refine bA ?_ _)); exact BK381.out)⟩; have n4_ : Aside0 (Below w.heap.size w w65) := ⟨by rw [← hq_]; exact (by repeat (first | (with_reducible first | exact HB.out | apply lA | apply lN | apply lD | refine lS ?_ GE379.out | refine lS ?_ GE381.out) | exact HB.out))⟩; have n5_ : Aside0 (Kd.C (Kd.slice 5 (Kd.int .u8)) w65 A385 y382.length y382) := ⟨by rw [← hq_]; exact (by repeat (first | (with_reducible exact HR385.out) | (with_reducible refine Kd.C_alloc ?_ _) | (with_reducible refine Kd.C_drewN ?_ _) | (with_reducible refine Kd.C_drew ?_) | exact HR385.out))⟩; clear HO_5 HO_6 BK379 BK381 HB HR385 hq_; have HO_5 := n0_; have HO_6 := n1_; have BK379 := n2_; have BK381 := n3_; have HB := n4_; have HR385 := n5_; clear n0_ n1_ n2_ n3_ n4_ n5_)); have hcz66_0 : w65.cell? ⟨gb381, 0, none⟩ = some (.int .i64 ((rd_T45 l0 x17_1).f0)) := (blk_cell BK381.out 0).trans rfl; have hcz66_1 : w65.cell? ⟨gb381, 1, none⟩ = some (.slice A380_1 ((rd_T45 l0 x17_1).f1).length c380_1) := (blk_cell BK381.out 1).trans rfl; have hcz66_2 : w65.cell? ⟨gb381, 2, none⟩ = some (.slice A380_2 ((rd_T45 l0 x17_1).f2).length c380_2) := (blk_cell BK381.out 2).trans rfl; have hfz66_0 := blk_frozen BK381.out 0; have hfz66_1 := blk_frozen BK381.out 1; have hfz66_2 := blk_frozen BK381.out 2))
          have n0_ := aZ (Kd.N_drew HO_5.out)
          have n1_ := aZ (Kd.rD HO_6.out)
          have n2_ := aZ (bD BK379.out)
          have n3_ := aZ (bD BK381.out)
          have n4_ := aZ (lD HB.out)
          clear HO_5
          clear HO_6
          clear BK379
          clear BK381
          clear HB
          have HO_5 := n0_
          have HO_6 := n1_
          have BK379 := n2_
          have BK381 := n3_
          have HB := n4_
          clear n0_ n1_ n2_ n3_ n4_
          obtain ⟨Ao68, co68, eo68⟩ := Kd.N_slice HO_5.out
          (first | subst eo68 | (injection eo68 with f1_ f2_ f3_; have f4_ := f1_.symm; have f5_ := f3_.symm; clear f1_ f2_ f3_; subst f4_; subst f5_))
          have p402 : 0 ≤ (((rd_T45 l0 x17_1).f0) : Int) := of_decide_eq_true (by first | (with_reducible assumption) | assumption)
          have q402 : ((rd_T45 l0 x17_1).f0) < (x5_1.length : Int) := of_decide_eq_true (by first | (with_reducible assumption) | assumption)
          obtain ⟨ad402, A402_0, c402_0, e402, hx402_0, hl402_0, hi402_0⟩ := at_L1 (Kd.N_reads' HO_5.out).2.2 ((rd_T45 l0 x17_1).f0) p402 q402
          cases e402
          obtain ⟨ce402, hce402, hMe402, hcc402⟩ := Kd.N_get HO_5.out [] ((rd_T45 l0 x17_1).f0) p402 (by first | exact q402 | exact of_decide_eq_true (by first | (with_reducible assumption) | assumption) | (have e_ := (Kd.N_reads' HO_5.out).1; omega))
          obtain ⟨ua402_0, uc402_0, rfl, ul402_0, ge402_0⟩ := Kd.FK_slice_open hMe402
          have hv402_0 := hcc402 0 _ rfl
          rw [Nat.add_zero, show ((Kd.slice 5 (Kd.int .u8))).sz = 1 from rfl, Nat.mul_one] at hv402_0
          replace hv402_0 := Option.some.inj (hv402_0.symm.trans hx402_0)
          injection hv402_0 with hva_ hvn_ hvc_
          rw [hva_] at ge402_0
          rw [hvc_] at ul402_0
          have HL402_0 := aZ (show Kd.V (Kd.int .u8) 5 _ w.heap.size _ _ (rd_L1 x5_1 ((rd_T45 l0 x17_1).f0)) from Kd.V_mk ul402_0 ge402_0)
          clear hva_ hvn_ hvc_ ge402_0 ul402_0
          clear hcc402 hce402
          have HR402_0 := aZ hi402_0
          have HC402_0 := aZ hl402_0
          clear hi402_0 hl402_0
          replace p402 := eq_true p402
          replace q402 := eq_true q402
          refine start_ (n := 14) (S := fun w' => w'.cell? ⟨gb381, 0, none⟩ = some (.int .i64 ((rd_T45 l0 x17_1).f0)) ∧ w'.cell? ⟨gb381, 1, none⟩ = some (.slice A380_1 ((rd_T45 l0 x17_1).f1).length c380_1) ∧ w'.cell? ⟨gb381, 2, none⟩ = some (.slice A380_2 ((rd_T45 l0 x17_1).f2).length c380_2) ∧ w'.cell? (ad402.add (((rd_T45 l0 x17_1).f0)).toNat) = some (.slice A402_0 (rd_L1 x5_1 ((rd_T45 l0 x17_1).f0)).length c402_0)) (ds := []) Z1 (by kernel_rfl) rfl rfl ⟨(blk_cell BK381.out 0).trans rfl, (blk_cell BK381.out 1).trans rfl, (blk_cell BK381.out 2).trans rfl, hx402_0⟩ (fun hHeld => ?_); refine with_tabW deltachain_unpack.tab16 deltachain_unpack.bits16 (fun HT_ HW_ => ?_)
          generalize w65.drew = w67 at HO_5 HO_6 BK379 BK381 HB HL402_0 HR402_0 hx402_0 hHeld ⊢
          refine pu 0 79 Z2 HT_ rfl rfl (h := ?_)
          refine pu 1 80 Z3 HT_ rfl rfl (h := ?_)
          refine pu 5 84 Z4 HT_ rfl rfl (h := ?_)
          refine tk 2 81 Z5 HT_ HW_ rfl rfl hHeld (by rintro w' ⟨s0, s1, s2, s3⟩; go_simp; with_reducible rfl) (h := ?_)
          refine pu 3 82 Z6 HT_ rfl rfl (h := ?_)
          refine tk 4 83 Z7 HT_ HW_ rfl rfl hHeld (by rintro w' ⟨s0, s1, s2, s3⟩; go_simp; with_reducible rfl) (h := ?_)
          refine tk 6 85 Z8 HT_ HW_ rfl rfl hHeld (by rintro w' ⟨s0, s1, s2, s3⟩; go_simp; with_reducible rfl) (h := ?_)
          refine join_ (σ := Value × Nat) 2 Z9 (fun s_ => [(86, .tuple #[s_.1, .agg #[.int .i64 t406, .int .i64 t407]]), (10, .pointer (some ⟨s_.2, 0, none⟩)), (78, .tuple #[s_.1, .agg #[.int .i64 t406, .int .i64 t407]]), (87, s_.1), (88, .agg #[.int .i64 t406, .int .i64 t407])]) (fun s_ w' => (w'.cell? ⟨gb381, 0, none⟩ = some (.int .i64 ((rd_T45 l0 x17_1).f0)) ∧ w'.cell? ⟨gb381, 1, none⟩ = some (.slice A380_1 ((rd_T45 l0 x17_1).f1).length c380_1) ∧ w'.cell? ⟨gb381, 2, none⟩ = some (.slice A380_2 ((rd_T45 l0 x17_1).f2).length c380_2) ∧ w'.cell? (ad402.add (((rd_T45 l0 x17_1).f0)).toNat) = some (.slice A402_0 (rd_L1 x5_1 ((rd_T45 l0 x17_1).f0)).length c402_0)) ∧ (Kd.V (Kd.int .u8) 5 w' w.heap.size (fun k_ => (w.heap.size ≤ k_) ∧ some k_ ≠ (s_.1 : Value).ownBlock ∧ some k_ ≠ (.slice (some ad402) x5_1.length co68 : Value).ownBlock ∧ some k_ ≠ (u6 : Value).ownBlock ∧ k_ ≠ gb379 ∧ k_ ≠ gb381 ∧ k_ ≠ s_.2) (.slice A402_0 (rd_L1 x5_1 ((rd_T45 l0 x17_1).f0)).length c402_0) (rd_L1 x5_1 ((rd_T45 l0 x17_1).f0))) ∧ (Kd.R (Kd.int .u8) 5 w' w.heap.size (fun k_ => (w.heap.size ≤ k_)) s_.1 t403) ∧ (Kd.N (Kd.slice 5 (Kd.int .u8)) 22 w' w.heap.size (fun k_ => (w.heap.size ≤ k_) ∧ some k_ ≠ (s_.1 : Value).ownBlock ∧ some k_ ≠ (u6 : Value).ownBlock ∧ k_ ≠ gb379 ∧ k_ ≠ gb381 ∧ k_ ≠ s_.2) (.slice (some ad402) x5_1.length co68) x5_1) ∧ (Kd.R (Kd.int .i64) 3 w' w.heap.size (fun k_ => (w.heap.size ≤ k_)) u6 x6_1) ∧ (w'.heap[gb379]? = some (.cells #[.int .i64 x380000_1, .int .i64 x380001_1] 26 (0, 0))) ∧ (w'.heap[gb381]? = some (.cells #[.int .i64 ((rd_T45 l0 x17_1).f0), .slice A380_1 ((rd_T45 l0 x17_1).f1).length c380_1, .slice A380_2 ((rd_T45 l0 x17_1).f2).length c380_2] 45 (0, 0))) ∧ (w'.heap[s_.2]? = some (.cells #[.int .i64 0, .int .i64 0] 26 (0, 0))) ∧ (w.heap.size ≤ s_.2) ∧ (w.heap.size ≤ s_.2) ∧ (gb379 ≠ s_.2) ∧ (s_.2 ≠ gb379) ∧ (gb381 ≠ s_.2) ∧ (s_.2 ≠ gb381) ∧ (Below w.heap.size w w')) ?_ ?_
          rotate_left
          · intro hCont
            refine two_ (i := 7) (j := 11) (Ni := some 86) (Nj := some 10) Z10 Z11 rfl rfl rfl rfl (two_of HT_.out (by kernel_rfl)) (by decide) (by decide) (fun K hK => ?_) (fun K hK => ?_)
            · skip
              refine goes_ Try.func15 (by kernel_rfl) rfl #[.slice A402_0 (rd_L1 x5_1 ((rd_T45 l0 x17_1).f0)).length c402_0, .slice A380_2 ((rd_T45 l0 x17_1).f2).length c380_2] (by rfl) rfl rfl (by (try simp only [List.map_toArray, List.map_cons, List.map_nil]); first | done | rfl | (simp only [List.length_drop, List.length_take]; rfl)) ?_
              with_reducible refine (deltachain_Apply.calls kj20 _ _ (rd_L1 x5_1 ((rd_T45 l0 x17_1).f0)) _ _ ((rd_T45 l0 x17_1).f2) t403 t406 t407 _ ?side1 ?side2 ?side3 ?side4 A61.out).mono ?_
              (case side1 => repeat (first | exact (by repeat (first | (with_reducible exact HR402_0.out) | (with_reducible refine Kd.C_alloc ?_ _) | (with_reducible refine Kd.C_drewN ?_ _) | (with_reducible refine Kd.C_drew ?_) | exact HR402_0.out)) | (with_reducible refine Kd.C_alloc ?_ _) | (with_reducible refine Kd.C_drewN ?_ _) | (with_reducible refine Kd.C_drew ?_)))
              (case side2 => exact HC402_0.out)
              (case side3 => repeat (first | exact (Kd.C_below HR380_2.out HB.out) | (with_reducible refine Kd.C_alloc ?_ _) | (with_reducible refine Kd.C_drewN ?_ _) | (with_reducible refine Kd.C_drew ?_)))
              (case side4 => exact HC380_2.out)
              rintro e w69 ⟨v404, rfl, ho0, hb⟩
              have HS3_ := (hb.cell (World.block_lt_of_cell? _ _ (hHeld.2.2.2))).trans (hHeld.2.2.2)
              refine ⟨_, rfl, ?_⟩
              have n0_ := aZ (Kd.N_elder' (by (with_reducible repeat (first | apply Kd.N_alloc | apply Kd.N_drewN | apply Kd.N_drew)); exact HO_5.out) (Kd.R_base ho0) hb)
              have n1_ := aZ (Kd.R_below (by (with_reducible repeat (first | apply Kd.rA | apply Kd.rN | apply Kd.rD)); exact HO_6.out) hb)
              have n2_ := aZ (Kd.V_elder' (by (with_reducible repeat (first | apply Kd.V_alloc | apply Kd.V_drewN | apply Kd.V_drew)); exact HL402_0.out) (Kd.R_base ho0) hb)
              have n3_ := aZ (Kd.R_lower (Kd.R_newM (M := fun k_ => (w.heap.size ≤ k_)) ho0 (lZ (by repeat (first | (with_reducible first | exact HB.out | apply lA | apply lN | apply lD | refine lS ?_ GE379.out | refine lS ?_ GE381.out) | exact HB.out))) (fun k_ h_ => h_)) (lZ (by repeat (first | (with_reducible first | exact HB.out | apply lA | apply lN | apply lD | refine lS ?_ GE379.out | refine lS ?_ GE381.out) | exact HB.out))))
              have n4_ := aZ (blk_below (g := gb379) (o := .cells #[.int .i64 x380000_1, .int .i64 x380001_1] 26 (0, 0)) (by (with_reducible repeat (first | refine bN ?_ _ | refine bD ?_ | refine bA ?_ _)); exact BK379.out) hb)
              have n5_ := aZ (blk_below (g := gb381) (o := .cells #[.int .i64 ((rd_T45 l0 x17_1).f0), .slice A380_1 ((rd_T45 l0 x17_1).f1).length c380_1, .slice A380_2 ((rd_T45 l0 x17_1).f2).length c380_2] 45 (0, 0)) (by (with_reducible repeat (first | refine bN ?_ _ | refine bD ?_ | refine bA ?_ _)); exact BK381.out) hb)
              have n6_ := aZ (Kd.C_below (by repeat (first | (with_reducible exact HR402_0.out) | (with_reducible refine Kd.C_alloc ?_ _) | (with_reducible refine Kd.C_drewN ?_ _) | (with_reducible refine Kd.C_drew ?_) | exact HR402_0.out)) hb)
              have n7_ := aZ (lT (by repeat (first | (with_reducible first | exact HB.out | apply lA | apply lN | apply lD | refine lS ?_ GE379.out | refine lS ?_ GE381.out) | exact HB.out)) hb)
              clear HO_5
              clear HO_6
              clear HL402_0
              clear BK379
              clear BK381
              clear HR402_0
              clear HB
              have HO_5 := n0_
              have HO_6 := n1_
              have HL402_0 := n2_
              have HO405 := n3_
              have BK379 := n4_
              have BK381 := n5_
              have HR402_0 := n6_
              have HB := n7_
              clear n0_ n1_ n2_ n3_ n4_ n5_ n6_ n7_
              (try clear hb)
              (try clear hb2)
              (try clear hk)
              (try clear hi)
              (try clear ho0)
              refine hK.out _ _ ⟨(blk_cell BK381.out 0).trans rfl, (blk_cell BK381.out 1).trans rfl, (blk_cell BK381.out 2).trans rfl, HS3_⟩ (fun hHeld => ?_)
              clear hK K
              refine norm_ (a' := ?_) ?_ ?_
              rotate_left
              · show Act.put _ (some 86) _ = _
                simp only [Act.put, List.setIfInBounds_toArray, List.set_cons_zero, List.set_cons_succ, i64_w, i32_w]
                rfl
              refine pu 8 78 Z12 HT_ rfl rfl (h := ?_)
              refine pu 9 87 Z13 HT_ rfl rfl (h := ?_)
              refine pu 10 88 Z14 HT_ rfl rfl (h := ?_)
              refine one_ (i := 11) (N := some 10) Z9 rfl rfl (one_of HT_.out (by kernel_rfl)) (by decide) (fun K hK => ?_)
              refine box_step ?hg (N := 10) ?hd (cs := #[.int .i64 0, .int .i64 0]) (t := 26) ?hr ?_; (case hd => rfl); (case hg => rfl); (case hr => first | (go_simp; done) | (go_simp; rfl))
              intro gb408 hg w70 hbox hb
              have HS3_ := (hb.cell (World.block_lt_of_cell? _ _ (hHeld.2.2.2))).trans (hHeld.2.2.2)
              have n0_ := aZ (Kd.N_below (Kd.N_elderB (by (with_reducible repeat (first | apply Kd.N_alloc | apply Kd.N_drewN | apply Kd.N_drew)); exact HO_5.out) gb408 (Nat.le_of_eq hg.symm)) hb)
              have n1_ := aZ (Kd.R_below (by (with_reducible repeat (first | apply Kd.rA | apply Kd.rN | apply Kd.rD)); exact HO_6.out) hb)
              have n2_ := aZ (Kd.V_below (Kd.V_elderB (by (with_reducible repeat (first | apply Kd.V_alloc | apply Kd.V_drewN | apply Kd.V_drew)); exact HL402_0.out) gb408 (Nat.le_of_eq hg.symm)) hb)
              have n3_ := aZ (Kd.R_below (by (with_reducible repeat (first | apply Kd.rA | apply Kd.rN | apply Kd.rD)); exact HO405.out) hb)
              have n4_ := aZ (blk_below (g := gb379) (o := .cells #[.int .i64 x380000_1, .int .i64 x380001_1] 26 (0, 0)) (by (with_reducible repeat (first | refine bN ?_ _ | refine bD ?_ | refine bA ?_ _)); exact BK379.out) hb)
              have n5_ := aZ (blk_below (g := gb381) (o := .cells #[.int .i64 ((rd_T45 l0 x17_1).f0), .slice A380_1 ((rd_T45 l0 x17_1).f1).length c380_1, .slice A380_2 ((rd_T45 l0 x17_1).f2).length c380_2] 45 (0, 0)) (by (with_reducible repeat (first | refine bN ?_ _ | refine bD ?_ | refine bA ?_ _)); exact BK381.out) hb)
              have n6_ := aZ (Kd.C_below (by repeat (first | (with_reducible exact HR402_0.out) | (with_reducible refine Kd.C_alloc ?_ _) | (with_reducible refine Kd.C_drewN ?_ _) | (with_reducible refine Kd.C_drew ?_) | exact HR402_0.out)) hb)
              have n7_ := aZ (lT (by repeat (first | (with_reducible first | exact HB.out | apply lA | apply lN | apply lD | refine lS ?_ GE379.out | refine lS ?_ GE381.out) | exact HB.out)) hb)
              have n8_ := aZ (hbox)
              have n9_ := aZ ((by rw [hg]; exact (lZ (by repeat (first | (with_reducible first | exact HB.out | apply lA | apply lN | apply lD | refine lS ?_ GE379.out | refine lS ?_ GE381.out) | exact HB.out))) : w.heap.size ≤ gb408))
              have n10_ := aZ ((by rw [hg]; exact (lZ (by repeat (first | (with_reducible first | exact HB.out | apply lA | apply lN | apply lD | refine lS ?_ GE379.out | refine lS ?_ GE381.out) | exact HB.out))) : w.heap.size ≤ gb408))
              have n11_ := aZ ((by rw [hg]; exact Nat.ne_of_lt (blk_lt (g := gb379) (o := .cells #[.int .i64 x380000_1, .int .i64 x380001_1] 26 (0, 0)) (by (with_reducible repeat (first | refine bN ?_ _ | refine bD ?_ | refine bA ?_ _)); exact BK379.out)) : gb379 ≠ gb408))
              have n12_ := aZ ((by rw [hg]; exact Nat.ne_of_gt (blk_lt (g := gb379) (o := .cells #[.int .i64 x380000_1, .int .i64 x380001_1] 26 (0, 0)) (by (with_reducible repeat (first | refine bN ?_ _ | refine bD ?_ | refine bA ?_ _)); exact BK379.out)) : gb408 ≠ gb379))
              have n13_ := aZ ((by rw [hg]; exact Nat.ne_of_lt (blk_lt (g := gb381) (o := .cells #[.int .i64 ((rd_T45 l0 x17_1).f0), .slice A380_1 ((rd_T45 l0 x17_1).f1).length c380_1, .slice A380_2 ((rd_T45 l0 x17_1).f2).length c380_2] 45 (0, 0)) (by (with_reducible repeat (first | refine bN ?_ _ | refine bD ?_ | refine bA ?_ _)); exact BK381.out)) : gb381 ≠ gb408))
              have n14_ := aZ ((by rw [hg]; exact Nat.ne_of_gt (blk_lt (g := gb381) (o := .cells #[.int .i64 ((rd_T45 l0 x17_1).f0), .slice A380_1 ((rd_T45 l0 x17_1).f1).length c380_1, .slice A380_2 ((rd_T45 l0 x17_1).f2).length c380_2] 45 (0, 0)) (by (with_reducible repeat (first | refine bN ?_ _ | refine bD ?_ | refine bA ?_ _)); exact BK381.out)) : gb408 ≠ gb381))
              clear HO_5
              clear HO_6
              clear HL402_0
              clear HO405
              clear BK379
              clear BK381
              clear HR402_0
              clear HB
              have HO_5 := n0_
              have HO_6 := n1_
              have HL402_0 := n2_
              have HO405 := n3_
              have BK379 := n4_
              have BK381 := n5_
              have HR402_0 := n6_
              have HB := n7_
              have BK408 := n8_
              have GW408 := n9_
              have GE408 := n10_
              have NB379_408 := n11_
              have NB408_379 := n12_
              have NB381_408 := n13_
              have NB408_381 := n14_
              clear n0_ n1_ n2_ n3_ n4_ n5_ n6_ n7_ n8_ n9_ n10_ n11_ n12_ n13_ n14_
              clear hb hbox hg
              refine hK.out _ _ ⟨(blk_cell BK381.out 0).trans rfl, (blk_cell BK381.out 1).trans rfl, (blk_cell BK381.out 2).trans rfl, HS3_⟩ (fun hHeld => ?_)
              clear hK K
              refine norm_ (a' := ?_) ?_ ?_
              rotate_left
              · show Act.put _ (some 10) _ = _
                simp only [Act.put, List.setIfInBounds_toArray, List.set_cons_zero, List.set_cons_succ, i64_w, i32_w]
                rfl
              exact norm_ (by simp only [putAll, Act.put, List.setIfInBounds_toArray, List.set_cons_zero, List.set_cons_succ]) (hCont (v404, gb408) _ ⟨hHeld, (by (with_reducible repeat (first | apply Kd.V_alloc | apply Kd.V_drewN | apply Kd.V_drew)); exact Kd.V_mono HL402_0.out (fun _ hk => ⟨hk.1.1.1.1, ⟨hk.1.2, ⟨hk.1.1.2, ⟨hk.1.1.1.2.1, ⟨hk.1.1.1.2.2.1, ⟨hk.1.1.1.2.2.2, hk.2⟩⟩⟩⟩⟩⟩)), (by (with_reducible repeat (first | apply Kd.rA | apply Kd.rN | apply Kd.rD)); exact Kd.R_mono HO405.out (fun _ hk => hk.1)), (by (with_reducible repeat (first | apply Kd.N_alloc | apply Kd.N_drewN | apply Kd.N_drew)); exact Kd.N_mono HO_5.out (fun _ hk => ⟨hk.1.1.1, ⟨hk.1.2, ⟨hk.1.1.2.1, ⟨hk.1.1.2.2.1, ⟨hk.1.1.2.2.2, hk.2⟩⟩⟩⟩⟩)), (by (with_reducible repeat (first | apply Kd.rA | apply Kd.rN | apply Kd.rD)); exact HO_6.out), (by (with_reducible repeat (first | refine bN ?_ _ | refine bD ?_ | refine bA ?_ _)); exact BK379.out), (by (with_reducible repeat (first | refine bN ?_ _ | refine bD ?_ | refine bA ?_ _)); exact BK381.out), (by (with_reducible repeat (first | refine bN ?_ _ | refine bD ?_ | refine bA ?_ _)); exact BK408.out), GW408.out, GE408.out, NB379_408.out, NB408_379.out, NB381_408.out, NB408_381.out, (by repeat (first | (with_reducible first | exact HB.out | apply lA | apply lN | apply lD | refine lS ?_ GE379.out | refine lS ?_ GE381.out | refine lS ?_ GE408.out) | exact HB.out))⟩)
            · skip
              refine box_step ?hg (N := 10) ?hd (cs := #[.int .i64 0, .int .i64 0]) (t := 26) ?hr ?_; (case hd => rfl); (case hg => rfl); (case hr => first | (go_simp; done) | (go_simp; rfl))
              intro gb408 hg w69 hbox hb
              have HS3_ := (hb.cell (World.block_lt_of_cell? _ _ (hHeld.2.2.2))).trans (hHeld.2.2.2)
              have n0_ := aZ (Kd.N_below (Kd.N_elderB (by (with_reducible repeat (first | apply Kd.N_alloc | apply Kd.N_drewN | apply Kd.N_drew)); exact HO_5.out) gb408 (Nat.le_of_eq hg.symm)) hb)
              have n1_ := aZ (Kd.R_below (by (with_reducible repeat (first | apply Kd.rA | apply Kd.rN | apply Kd.rD)); exact HO_6.out) hb)
              have n2_ := aZ (Kd.V_below (Kd.V_elderB (by (with_reducible repeat (first | apply Kd.V_alloc | apply Kd.V_drewN | apply Kd.V_drew)); exact HL402_0.out) gb408 (Nat.le_of_eq hg.symm)) hb)
              have n3_ := aZ (blk_below (g := gb379) (o := .cells #[.int .i64 x380000_1, .int .i64 x380001_1] 26 (0, 0)) (by (with_reducible repeat (first | refine bN ?_ _ | refine bD ?_ | refine bA ?_ _)); exact BK379.out) hb)
              have n4_ := aZ (blk_below (g := gb381) (o := .cells #[.int .i64 ((rd_T45 l0 x17_1).f0), .slice A380_1 ((rd_T45 l0 x17_1).f1).length c380_1, .slice A380_2 ((rd_T45 l0 x17_1).f2).length c380_2] 45 (0, 0)) (by (with_reducible repeat (first | refine bN ?_ _ | refine bD ?_ | refine bA ?_ _)); exact BK381.out) hb)
              have n5_ := aZ (Kd.C_below (by repeat (first | (with_reducible exact HR402_0.out) | (with_reducible refine Kd.C_alloc ?_ _) | (with_reducible refine Kd.C_drewN ?_ _) | (with_reducible refine Kd.C_drew ?_) | exact HR402_0.out)) hb)
              have n6_ := aZ (lT (by repeat (first | (with_reducible first | exact HB.out | apply lA | apply lN | apply lD | refine lS ?_ GE379.out | refine lS ?_ GE381.out) | exact HB.out)) hb)
              have n7_ := aZ (hbox)
              have n8_ := aZ ((by rw [hg]; exact (lZ (by repeat (first | (with_reducible first | exact HB.out | apply lA | apply lN | apply lD | refine lS ?_ GE379.out | refine lS ?_ GE381.out) | exact HB.out))) : w.heap.size ≤ gb408))
              have n9_ := aZ ((by rw [hg]; exact (lZ (by repeat (first | (with_reducible first | exact HB.out | apply lA | apply lN | apply lD | refine lS ?_ GE379.out | refine lS ?_ GE381.out) | exact HB.out))) : w.heap.size ≤ gb408))
              have n10_ := aZ ((by rw [hg]; exact Nat.ne_of_lt (blk_lt (g := gb379) (o := .cells #[.int .i64 x380000_1, .int .i64 x380001_1] 26 (0, 0)) (by (with_reducible repeat (first | refine bN ?_ _ | refine bD ?_ | refine bA ?_ _)); exact BK379.out)) : gb379 ≠ gb408))
              have n11_ := aZ ((by rw [hg]; exact Nat.ne_of_gt (blk_lt (g := gb379) (o := .cells #[.int .i64 x380000_1, .int .i64 x380001_1] 26 (0, 0)) (by (with_reducible repeat (first | refine bN ?_ _ | refine bD ?_ | refine bA ?_ _)); exact BK379.out)) : gb408 ≠ gb379))
              have n12_ := aZ ((by rw [hg]; exact Nat.ne_of_lt (blk_lt (g := gb381) (o := .cells #[.int .i64 ((rd_T45 l0 x17_1).f0), .slice A380_1 ((rd_T45 l0 x17_1).f1).length c380_1, .slice A380_2 ((rd_T45 l0 x17_1).f2).length c380_2] 45 (0, 0)) (by (with_reducible repeat (first | refine bN ?_ _ | refine bD ?_ | refine bA ?_ _)); exact BK381.out)) : gb381 ≠ gb408))
              have n13_ := aZ ((by rw [hg]; exact Nat.ne_of_gt (blk_lt (g := gb381) (o := .cells #[.int .i64 ((rd_T45 l0 x17_1).f0), .slice A380_1 ((rd_T45 l0 x17_1).f1).length c380_1, .slice A380_2 ((rd_T45 l0 x17_1).f2).length c380_2] 45 (0, 0)) (by (with_reducible repeat (first | refine bN ?_ _ | refine bD ?_ | refine bA ?_ _)); exact BK381.out)) : gb408 ≠ gb381))
              clear HO_5
              clear HO_6
              clear HL402_0
              clear BK379
              clear BK381
              clear HR402_0
              clear HB
              have HO_5 := n0_
              have HO_6 := n1_
              have HL402_0 := n2_
              have BK379 := n3_
              have BK381 := n4_
              have HR402_0 := n5_
              have HB := n6_
              have BK408 := n7_
              have GW408 := n8_
              have GE408 := n9_
              have NB379_408 := n10_
              have NB408_379 := n11_
              have NB381_408 := n12_
              have NB408_381 := n13_
              clear n0_ n1_ n2_ n3_ n4_ n5_ n6_ n7_ n8_ n9_ n10_ n11_ n12_ n13_
              clear hb hbox hg
              refine hK.out _ _ ⟨(blk_cell BK381.out 0).trans rfl, (blk_cell BK381.out 1).trans rfl, (blk_cell BK381.out 2).trans rfl, HS3_⟩ (fun hHeld => ?_)
              clear hK K
              refine norm_ (a' := ?_) ?_ ?_
              rotate_left
              · show Act.put _ (some 10) _ = _
                simp only [Act.put, List.setIfInBounds_toArray, List.set_cons_zero, List.set_cons_succ, i64_w, i32_w]
                rfl
              refine one_ (i := 7) (N := some 86) Z15 rfl rfl (one_of HT_.out (by kernel_rfl)) (by decide) (fun K hK => ?_)
              refine goes_ Try.func15 (by kernel_rfl) rfl #[.slice A402_0 (rd_L1 x5_1 ((rd_T45 l0 x17_1).f0)).length c402_0, .slice A380_2 ((rd_T45 l0 x17_1).f2).length c380_2] (by rfl) rfl rfl (by (try simp only [List.map_toArray, List.map_cons, List.map_nil]); first | done | rfl | (simp only [List.length_drop, List.length_take]; rfl)) ?_
              with_reducible refine (deltachain_Apply.calls kj20 _ _ (rd_L1 x5_1 ((rd_T45 l0 x17_1).f0)) _ _ ((rd_T45 l0 x17_1).f2) t403 t406 t407 _ ?side1 ?side2 ?side3 ?side4 A61.out).mono ?_
              (case side1 => repeat (first | exact (by repeat (first | (with_reducible exact HR402_0.out) | (with_reducible refine Kd.C_alloc ?_ _) | (with_reducible refine Kd.C_drewN ?_ _) | (with_reducible refine Kd.C_drew ?_) | exact HR402_0.out)) | (with_reducible refine Kd.C_alloc ?_ _) | (with_reducible refine Kd.C_drewN ?_ _) | (with_reducible refine Kd.C_drew ?_)))
              (case side2 => exact HC402_0.out)
              (case side3 => repeat (first | exact (Kd.C_below HR380_2.out HB.out) | (with_reducible refine Kd.C_alloc ?_ _) | (with_reducible refine Kd.C_drewN ?_ _) | (with_reducible refine Kd.C_drew ?_)))
              (case side4 => exact HC380_2.out)
              rintro e w70 ⟨v404, rfl, ho0, hb⟩
              have HS3_ := (hb.cell (World.block_lt_of_cell? _ _ (hHeld.2.2.2))).trans (hHeld.2.2.2)
              refine ⟨_, rfl, ?_⟩
              have n0_ := aZ (Kd.N_elder' (by (with_reducible repeat (first | apply Kd.N_alloc | apply Kd.N_drewN | apply Kd.N_drew)); exact HO_5.out) (Kd.R_base ho0) hb)
              have n1_ := aZ (Kd.R_below (by (with_reducible repeat (first | apply Kd.rA | apply Kd.rN | apply Kd.rD)); exact HO_6.out) hb)
              have n2_ := aZ (Kd.V_elder' (by (with_reducible repeat (first | apply Kd.V_alloc | apply Kd.V_drewN | apply Kd.V_drew)); exact HL402_0.out) (Kd.R_base ho0) hb)
              have n3_ := aZ (Kd.R_lower (Kd.R_newM (M := fun k_ => (w.heap.size ≤ k_)) ho0 (lZ (by repeat (first | (with_reducible first | exact HB.out | apply lA | apply lN | apply lD | refine lS ?_ GE379.out | refine lS ?_ GE381.out | refine lS ?_ GE408.out) | exact HB.out))) (fun k_ h_ => h_)) (lZ (by repeat (first | (with_reducible first | exact HB.out | apply lA | apply lN | apply lD | refine lS ?_ GE379.out | refine lS ?_ GE381.out | refine lS ?_ GE408.out) | exact HB.out))))
              have n4_ := aZ (blk_below (g := gb379) (o := .cells #[.int .i64 x380000_1, .int .i64 x380001_1] 26 (0, 0)) (by (with_reducible repeat (first | refine bN ?_ _ | refine bD ?_ | refine bA ?_ _)); exact BK379.out) hb)
              have n5_ := aZ (blk_below (g := gb381) (o := .cells #[.int .i64 ((rd_T45 l0 x17_1).f0), .slice A380_1 ((rd_T45 l0 x17_1).f1).length c380_1, .slice A380_2 ((rd_T45 l0 x17_1).f2).length c380_2] 45 (0, 0)) (by (with_reducible repeat (first | refine bN ?_ _ | refine bD ?_ | refine bA ?_ _)); exact BK381.out) hb)
              have n6_ := aZ (Kd.C_below (by repeat (first | (with_reducible exact HR402_0.out) | (with_reducible refine Kd.C_alloc ?_ _) | (with_reducible refine Kd.C_drewN ?_ _) | (with_reducible refine Kd.C_drew ?_) | exact HR402_0.out)) hb)
              have n7_ := aZ (blk_below (g := gb408) (o := .cells #[.int .i64 0, .int .i64 0] 26 (0, 0)) (by (with_reducible repeat (first | refine bN ?_ _ | refine bD ?_ | refine bA ?_ _)); exact BK408.out) hb)
              have n8_ := aZ (lT (by repeat (first | (with_reducible first | exact HB.out | apply lA | apply lN | apply lD | refine lS ?_ GE379.out | refine lS ?_ GE381.out | refine lS ?_ GE408.out) | exact HB.out)) hb)
              clear HO_5
              clear HO_6
              clear HL402_0
              clear BK379
              clear BK381
              clear HR402_0
              clear BK408
              clear HB
              have HO_5 := n0_
              have HO_6 := n1_
              have HL402_0 := n2_
              have HO405 := n3_
              have BK379 := n4_
              have BK381 := n5_
              have HR402_0 := n6_
              have BK408 := n7_
              have HB := n8_
              clear n0_ n1_ n2_ n3_ n4_ n5_ n6_ n7_ n8_
              (try clear hb)
              (try clear hb2)
              (try clear hk)
              (try clear hi)
              (try clear ho0)
              refine hK.out _ _ ⟨(blk_cell BK381.out 0).trans rfl, (blk_cell BK381.out 1).trans rfl, (blk_cell BK381.out 2).trans rfl, HS3_⟩ (fun hHeld => ?_)
              clear hK K
              refine norm_ (a' := ?_) ?_ ?_
              rotate_left
              · show Act.put _ (some 86) _ = _
                simp only [Act.put, List.setIfInBounds_toArray, List.set_cons_zero, List.set_cons_succ, i64_w, i32_w]
                rfl
              refine pu 8 78 Z16 HT_ rfl rfl (h := ?_)
              refine pu 9 87 Z17 HT_ rfl rfl (h := ?_)
              refine pu 10 88 Z9 HT_ rfl rfl (h := ?_)
              exact norm_ (by simp only [putAll, Act.put, List.setIfInBounds_toArray, List.set_cons_zero, List.set_cons_succ]) (hCont (v404, gb408) _ ⟨hHeld, (by (with_reducible repeat (first | apply Kd.V_alloc | apply Kd.V_drewN | apply Kd.V_drew)); exact Kd.V_mono HL402_0.out (fun _ hk => ⟨hk.1.1.1.1, ⟨hk.2, ⟨hk.1.1.2, ⟨hk.1.1.1.2.1, ⟨hk.1.1.1.2.2.1, ⟨hk.1.1.1.2.2.2, hk.1.2⟩⟩⟩⟩⟩⟩)), (by (with_reducible repeat (first | apply Kd.rA | apply Kd.rN | apply Kd.rD)); exact Kd.R_mono HO405.out (fun _ hk => hk.1)), (by (with_reducible repeat (first | apply Kd.N_alloc | apply Kd.N_drewN | apply Kd.N_drew)); exact Kd.N_mono HO_5.out (fun _ hk => ⟨hk.1.1.1, ⟨hk.2, ⟨hk.1.1.2.1, ⟨hk.1.1.2.2.1, ⟨hk.1.1.2.2.2, hk.1.2⟩⟩⟩⟩⟩)), (by (with_reducible repeat (first | apply Kd.rA | apply Kd.rN | apply Kd.rD)); exact HO_6.out), (by (with_reducible repeat (first | refine bN ?_ _ | refine bD ?_ | refine bA ?_ _)); exact BK379.out), (by (with_reducible repeat (first | refine bN ?_ _ | refine bD ?_ | refine bA ?_ _)); exact BK381.out), (by (with_reducible repeat (first | refine bN ?_ _ | refine bD ?_ | refine bA ?_ _)); exact BK408.out), GW408.out, GE408.out, NB379_408.out, NB408_379.out, NB381_408.out, NB408_381.out, (by repeat (first | (with_reducible first | exact HB.out | apply lA | apply lN | apply lD | refine lS ?_ GE379.out | refine lS ?_ GE381.out | refine lS ?_ GE408.out) | exact HB.out))⟩)
          rintro ⟨v404, gb408⟩ w71 ⟨hS_, h0_, h1_, h2_, h3_, h4_, h5_, h6_, h7_, h8_, h9_, h10_, h11_, h12_, h13_⟩
          have n0_ : Aside0 (Kd.V (Kd.int .u8) 5 w71 w.heap.size (fun k_ => (w.heap.size ≤ k_) ∧ some k_ ≠ (v404 : Value).ownBlock ∧ some k_ ≠ (.slice (some ad402) x5_1.length co68 : Value).ownBlock ∧ some k_ ≠ (u6 : Value).ownBlock ∧ k_ ≠ gb379 ∧ k_ ≠ gb381 ∧ k_ ≠ gb408) (.slice A402_0 (rd_L1 x5_1 ((rd_T45 l0 x17_1).f0)).length c402_0) (rd_L1 x5_1 ((rd_T45 l0 x17_1).f0))) := ⟨h0_⟩
          have n1_ : Aside0 (Kd.R (Kd.int .u8) 5 w71 w.heap.size (fun k_ => (w.heap.size ≤ k_)) v404 t403) := ⟨h1_⟩
          have n2_ : Aside0 (Kd.N (Kd.slice 5 (Kd.int .u8)) 22 w71 w.heap.size (fun k_ => (w.heap.size ≤ k_) ∧ some k_ ≠ (v404 : Value).ownBlock ∧ some k_ ≠ (u6 : Value).ownBlock ∧ k_ ≠ gb379 ∧ k_ ≠ gb381 ∧ k_ ≠ gb408) (.slice (some ad402) x5_1.length co68) x5_1) := ⟨h2_⟩
          have n3_ : Aside0 (Kd.R (Kd.int .i64) 3 w71 w.heap.size (fun k_ => (w.heap.size ≤ k_)) u6 x6_1) := ⟨h3_⟩
          have n4_ : Aside0 (w71.heap[gb379]? = some (.cells #[.int .i64 x380000_1, .int .i64 x380001_1] 26 (0, 0))) := ⟨h4_⟩
          have n5_ : Aside0 (w71.heap[gb381]? = some (.cells #[.int .i64 ((rd_T45 l0 x17_1).f0), .slice A380_1 ((rd_T45 l0 x17_1).f1).length c380_1, .slice A380_2 ((rd_T45 l0 x17_1).f2).length c380_2] 45 (0, 0))) := ⟨h5_⟩
          have n6_ : Aside0 (w71.heap[gb408]? = some (.cells #[.int .i64 0, .int .i64 0] 26 (0, 0))) := ⟨h6_⟩
          have n7_ : Aside0 (w.heap.size ≤ gb408) := ⟨h7_⟩
          have n8_ : Aside0 (w.heap.size ≤ gb408) := ⟨h8_⟩
          have n9_ : Aside0 (gb379 ≠ gb408) := ⟨h9_⟩
          have n10_ : Aside0 (gb408 ≠ gb379) := ⟨h10_⟩
          have n11_ : Aside0 (gb381 ≠ gb408) := ⟨h11_⟩
          have n12_ : Aside0 (gb408 ≠ gb381) := ⟨h12_⟩
          have n13_ : Aside0 (Below w.heap.size w w71) := ⟨h13_⟩
          clear HO_5
          clear HO_6
          clear BK379
          clear BK381
          clear HB
          clear h0_ h1_ h2_ h3_ h4_ h5_ h6_ h7_ h8_ h9_ h10_ h11_ h12_ h13_
          have HL402_0 := n0_
          have HO405 := n1_
          have HO_5 := n2_
          have HO_6 := n3_
          have BK379 := n4_
          have BK381 := n5_
          have BK408 := n6_
          have GW408 := n7_
          have GE408 := n8_
          have NB379_408 := n9_
          have NB408_379 := n10_
          have NB381_408 := n11_
          have NB408_381 := n12_
          have HB := n13_
          clear n0_ n1_ n2_ n3_ n4_ n5_ n6_ n7_ n8_ n9_ n10_ n11_ n12_ n13_
          have hHeld : w71.cell? ⟨gb381, 0, none⟩ = some (.int .i64 ((rd_T45 l0 x17_1).f0)) ∧ w71.cell? ⟨gb381, 1, none⟩ = some (.slice A380_1 ((rd_T45 l0 x17_1).f1).length c380_1) ∧ w71.cell? ⟨gb381, 2, none⟩ = some (.slice A380_2 ((rd_T45 l0 x17_1).f2).length c380_2) ∧ w71.cell? (ad402.add (((rd_T45 l0 x17_1).f0)).toNat) = some (.slice A402_0 (rd_L1 x5_1 ((rd_T45 l0 x17_1).f0)).length c402_0) := hS_
          refine norm_ (a' := ?_) ?_ ?_
          rotate_left
          · simp only [putAll, Act.put, List.setIfInBounds_toArray, List.set_cons_zero, List.set_cons_succ]
            rfl
          refine pu 12 9 Z18 HT_ rfl rfl (h := ?_)
          refine one_ (i := 13) (N := none) Z19 rfl rfl (one_of HT_.out (by kernel_rfl)) (by decide) (fun K hK => ?_)
          have hs72 : w71.cell? ⟨gb408, 0, none⟩ = some (.int .i64 0) := (blk_cell BK408.out 0).trans rfl
          have hfs72 := blk_frozen BK408.out 0
          have hns72_0 := NB379_408.out
          have hns72_1 := NB381_408.out
          have hms72_0 := NB408_379.out
          have hms72_1 := NB408_381.out
          have hs73 : w71.cell? ⟨gb408, 1, none⟩ = some (.int .i64 0) := (blk_cell BK408.out 1).trans rfl
          have hfs73 := blk_frozen BK408.out 1
          have hns73_0 := NB379_408.out
          have hns73_1 := NB381_408.out
          have hms73_0 := NB408_379.out
          have hms73_1 := NB408_381.out
          refine skip_ (w1 := ?_) (by rfl) rfl ?_ ?_
          rotate_left
          · go_simp
            rfl
          refine hK.out _ _ ⟨((cell_far (p := ⟨gb408, _, none⟩) NB381_408.out _).trans (((cell_far (p := ⟨gb408, _, none⟩) NB381_408.out _).trans (hHeld.1)))), ((cell_far (p := ⟨gb408, _, none⟩) NB381_408.out _).trans (((cell_far (p := ⟨gb408, _, none⟩) NB381_408.out _).trans (hHeld.2.1)))), ((cell_far (p := ⟨gb408, _, none⟩) NB381_408.out _).trans (((cell_far (p := ⟨gb408, _, none⟩) NB381_408.out _).trans (hHeld.2.2.1)))), ((cell_far (p := ⟨gb408, _, none⟩) (by first | exact Kd.own_blk (Kd.N_away HO_5.out (fun _ hk => hk.2.2.2.2.2)) | (rw [add_block]; exact Kd.own_blk (Kd.N_away HO_5.out (fun _ hk => hk.2.2.2.2.2))) | (show (Addr.add _ _).block ≠ _; rw [add_block]; exact Kd.own_blk (Kd.N_away HO_5.out (fun _ hk => hk.2.2.2.2.2))) | (dsimp only; exact Kd.own_blk (Kd.N_away HO_5.out (fun _ hk => hk.2.2.2.2.2)))) _).trans (((cell_far (p := ⟨gb408, _, none⟩) (by first | exact Kd.own_blk (Kd.N_away HO_5.out (fun _ hk => hk.2.2.2.2.2)) | (rw [add_block]; exact Kd.own_blk (Kd.N_away HO_5.out (fun _ hk => hk.2.2.2.2.2))) | (show (Addr.add _ _).block ≠ _; rw [add_block]; exact Kd.own_blk (Kd.N_away HO_5.out (fun _ hk => hk.2.2.2.2.2))) | (dsimp only; exact Kd.own_blk (Kd.N_away HO_5.out (fun _ hk => hk.2.2.2.2.2)))) _).trans (hHeld.2.2.2))))⟩ (fun hHeld => ?_)
          clear hK K
          refine done_ (done_of HT_.out (by kernel_rfl)) ?_
          have hnb74 := NB408_379.out
          have hnc74 := NB379_408.out
          have hnb75 := NB408_381.out
          have hnc75 := NB381_408.out
          have hcz76_0 : w71.cell? ⟨gb408, 0, none⟩ = some (.int .i64 0) := (blk_cell BK408.out 0).trans rfl
          have hcz76_1 : w71.cell? ⟨gb408, 1, none⟩ = some (.int .i64 0) := (blk_cell BK408.out 1).trans rfl
          have hfz76_0 := blk_frozen BK408.out 0
          have hfz76_1 := blk_frozen BK408.out 1
          try go_wp2
          have n0_ : Aside0 (Kd.N (Kd.slice 5 (Kd.int .u8)) 22 ((w71.setCell ⟨gb408, 0, none⟩ (.int .i64 t406)).setCell ⟨gb408, 1, none⟩ (.int .i64 t407)) w.heap.size (fun k_ => (w.heap.size ≤ k_) ∧ some k_ ≠ (u6 : Value).ownBlock ∧ some k_ ≠ (v404 : Value).ownBlock ∧ k_ ≠ gb379 ∧ k_ ≠ gb381 ∧ k_ ≠ gb408) (.slice (some ad402) x5_1.length co68) x5_1) := ⟨by (with_reducible repeat (first | apply Kd.N_alloc | apply Kd.N_drewN | apply Kd.N_drew)); exact Kd.N_mono (Kd.N_far (p := ⟨gb408, 1, none⟩) (Kd.N_far (p := ⟨gb408, 0, none⟩) (Kd.N_mono HO_5.out (fun k_ hk => (⟨hk, hk.2.2.2.2.2⟩ : _ ∧ k_ ≠ gb408))) (fun _ hk => hk.2) (.int .i64 t406)) (fun _ hk => hk.2) (.int .i64 t407)) (fun _ hk => ⟨hk.1.1, ⟨hk.1.2.2.1, ⟨hk.1.2.1, ⟨hk.1.2.2.2.1, ⟨hk.1.2.2.2.2.1, hk.1.2.2.2.2.2⟩⟩⟩⟩⟩)⟩
          have n1_ : Aside0 (Kd.R (Kd.int .i64) 3 ((w71.setCell ⟨gb408, 0, none⟩ (.int .i64 t406)).setCell ⟨gb408, 1, none⟩ (.int .i64 t407)) w.heap.size (fun k_ => (w.heap.size ≤ k_)) u6 x6_1) := ⟨by (with_reducible repeat (first | apply Kd.rA | apply Kd.rN | apply Kd.rD)); exact Kd.R_mono (Kd.R_far (p := ⟨gb408, 1, none⟩) (Kd.R_far (p := ⟨gb408, 0, none⟩) (Kd.R_types HO_6.out BK408.out (by decide)) (fun _ hk => hk.2) (.int .i64 t406)) (fun _ hk => hk.2) (.int .i64 t407)) (fun _ hk => hk.1)⟩
          have n2_ : Aside0 (Kd.V (Kd.int .u8) 5 ((w71.setCell ⟨gb408, 0, none⟩ (.int .i64 t406)).setCell ⟨gb408, 1, none⟩ (.int .i64 t407)) w.heap.size (fun k_ => (w.heap.size ≤ k_) ∧ some k_ ≠ (.slice (some ad402) x5_1.length co68 : Value).ownBlock ∧ some k_ ≠ (u6 : Value).ownBlock ∧ some k_ ≠ (v404 : Value).ownBlock ∧ k_ ≠ gb379 ∧ k_ ≠ gb381 ∧ k_ ≠ gb408) (.slice A402_0 (rd_L1 x5_1 ((rd_T45 l0 x17_1).f0)).length c402_0) (rd_L1 x5_1 ((rd_T45 l0 x17_1).f0))) := ⟨by (with_reducible repeat (first | apply Kd.V_alloc | apply Kd.V_drewN | apply Kd.V_drew)); exact Kd.V_mono (Kd.V_far (p := ⟨gb408, 1, none⟩) (Kd.V_far (p := ⟨gb408, 0, none⟩) (Kd.V_mono HL402_0.out (fun k_ hk => (⟨hk, hk.2.2.2.2.2.2⟩ : _ ∧ k_ ≠ gb408))) (fun _ hk => hk.2) (.int .i64 t406)) (fun _ hk => hk.2) (.int .i64 t407)) (fun _ hk => ⟨hk.1.1, ⟨hk.1.2.2.1, ⟨hk.1.2.2.2.1, ⟨hk.1.2.1, ⟨hk.1.2.2.2.2.1, ⟨hk.1.2.2.2.2.2.1, hk.1.2.2.2.2.2.2⟩⟩⟩⟩⟩⟩)⟩
          have n3_ : Aside0 (Kd.R (Kd.int .u8) 5 ((w71.setCell ⟨gb408, 0, none⟩ (.int .i64 t406)).setCell ⟨gb408, 1, none⟩ (.int .i64 t407)) w.heap.size (fun k_ => (w.heap.size ≤ k_)) v404 t403) := ⟨by (with_reducible repeat (first | apply Kd.rA | apply Kd.rN | apply Kd.rD)); exact Kd.R_mono (Kd.R_far (p := ⟨gb408, 1, none⟩) (Kd.R_far (p := ⟨gb408, 0, none⟩) (Kd.R_types HO405.out BK408.out (by decide)) (fun _ hk => hk.2) (.int .i64 t406)) (fun _ hk => hk.2) (.int .i64 t407)) (fun _ hk => hk.1)⟩
          have n4_ : Aside0 (((w71.setCell ⟨gb408, 0, none⟩ (.int .i64 t406)).setCell ⟨gb408, 1, none⟩ (.int .i64 t407)).heap[gb379]? = some (.cells #[.int .i64 x380000_1, .int .i64 x380001_1] 26 (0, 0))) := ⟨by (with_reducible repeat (first | refine bN ?_ _ | refine bD ?_ | refine bA ?_ _)); refine blk_far ?_ NB379_408.out _; (with_reducible repeat (first | refine bN ?_ _ | refine bD ?_ | refine bA ?_ _)); refine blk_far ?_ NB379_408.out _; (with_reducible repeat (first | refine bN ?_ _ | refine bD ?_ | refine bA ?_ _)); exact BK379.out⟩
          have n5_ : Aside0 (((w71.setCell ⟨gb408, 0, none⟩ (.int .i64 t406)).setCell ⟨gb408, 1, none⟩ (.int .i64 t407)).heap[gb381]? = some (.cells #[.int .i64 ((rd_T45 l0 x17_1).f0), .slice A380_1 ((rd_T45 l0 x17_1).f1).length c380_1, .slice A380_2 ((rd_T45 l0 x17_1).f2).length c380_2] 45 (0, 0))) := ⟨by (with_reducible repeat (first | refine bN ?_ _ | refine bD ?_ | refine bA ?_ _)); refine blk_far ?_ NB381_408.out _; (with_reducible repeat (first | refine bN ?_ _ | refine bD ?_ | refine bA ?_ _)); refine blk_far ?_ NB381_408.out _; (with_reducible repeat (first | refine bN ?_ _ | refine bD ?_ | refine bA ?_ _)); exact BK381.out⟩
          have n6_ : Aside0 (((w71.setCell ⟨gb408, 0, none⟩ (.int .i64 t406)).setCell ⟨gb408, 1, none⟩ (.int .i64 t407)).heap[gb408]? = some (.cells #[.int .i64 t406, .int .i64 t407] 26 (0, 0))) := ⟨by (with_reducible repeat (first | refine bN ?_ _ | refine bD ?_ | refine bA ?_ _)); refine blk_put (cs := #[.int .i64 t406, .int .i64 0]) ?_ 1 _ rfl; (with_reducible repeat (first | refine bN ?_ _ | refine bD ?_ | refine bA ?_ _)); refine blk_put (cs := #[.int .i64 0, .int .i64 0]) ?_ 0 _ rfl; (with_reducible repeat (first | refine bN ?_ _ | refine bD ?_ | refine bA ?_ _)); exact BK408.out⟩
          have n7_ : Aside0 (Below w.heap.size w ((w71.setCell ⟨gb408, 0, none⟩ (.int .i64 t406)).setCell ⟨gb408, 1, none⟩ (.int .i64 t407))) := ⟨by repeat (first | (with_reducible first | exact HB.out | apply lA | apply lN | apply lD | refine lS ?_ GE379.out | refine lS ?_ GE381.out | refine lS ?_ GE408.out) | exact HB.out)⟩
          (try clear HO_5)
          (try clear HO_6)
          (try clear HL402_0)
          (try clear HO405)
          (try clear BK379)
          (try clear BK381)
          (try clear BK408)
          (try clear HB)
          generalize ((w71.setCell ⟨gb408, 0, none⟩ (.int .i64 t406)).setCell ⟨gb408, 1, none⟩ (.int .i64 t407)) = w77 at n0_ n1_ n2_ n3_ n4_ n5_ n6_ n7_ ⊢
          have HO_5 := n0_
          have HO_6 := n1_
          have HL402_0 := n2_
          have HO405 := n3_
          have BK379 := n4_
          have BK381 := n5_
          have BK408 := n6_
          have HB := n7_
          clear n0_ n1_ n2_ n3_ n4_ n5_ n6_ n7_
          have n0_ := aZ (Kd.N_drew HO_5.out)
          have n1_ := aZ (Kd.rD HO_6.out)
          have n2_ := aZ (Kd.V_drew HL402_0.out)
          have n3_ := aZ (Kd.rD HO405.out)
          have n4_ := aZ (bD BK379.out)
          have n5_ := aZ (bD BK381.out)
          have n6_ := aZ (bD BK408.out)
          have n7_ := aZ (lD HB.out)
          clear HO_5
          clear HO_6
          clear HL402_0
          clear HO405
          clear BK379
          clear BK381
          clear BK408
          clear HB
          have HO_5 := n0_
          have HO_6 := n1_
          have HL402_0 := n2_
          have HO405 := n3_
          have BK379 := n4_
          have BK381 := n5_
          have BK408 := n6_
          have HB := n7_
          clear n0_ n1_ n2_ n3_ n4_ n5_ n6_ n7_
          refine start_ (n := 7) (S := fun w' => w'.cell? ⟨gb408, 0, none⟩ = some (.int .i64 t406) ∧ w'.cell? ⟨gb408, 1, none⟩ = some (.int .i64 t407)) (ds := []) #[false, false, false, false, false, false, false] (by kernel_rfl) rfl rfl ⟨(blk_cell BK408.out 0).trans rfl, (blk_cell BK408.out 1).trans rfl⟩ (fun hHeld => ?_)
          generalize w77.drew = w78 at HO_5 HO_6 HL402_0 HO405 BK379 BK381 BK408 HB hHeld ⊢
          refine pure_ (i := 0) (N := some 92) (v := ?_) (a' := ?_) #[true, false, false, false, false, false, false] rfl rfl (by kernel_rfl) (fun _ _ _ h => h) (Or.inl ⟨by rfl, ?_⟩) ?_ ?_
          rotate_left
          · intro w'
            go_simp
            with_reducible rfl
          rotate_left
          · simp only [Act.put, List.setIfInBounds_toArray, List.set_cons_zero, List.set_cons_succ, i64_w, i32_w]
            rfl
          refine pure_ (i := 2) (N := some 94) (v := ?_) (a' := ?_) #[true, false, true, false, false, false, false] rfl rfl (by kernel_rfl) (fun _ _ _ h => h) (Or.inl ⟨by rfl, ?_⟩) ?_ ?_
          rotate_left
          · intro w'
            go_simp
            with_reducible rfl
          rotate_left
          · simp only [Act.put, List.setIfInBounds_toArray, List.set_cons_zero, List.set_cons_succ, i64_w, i32_w]
            rfl
          refine pure_ (i := 4) (N := some 2) (v := ?_) (a' := ?_) #[true, false, true, false, true, false, false] rfl rfl (by kernel_rfl) (fun _ _ _ h => h) (Or.inl ⟨by rfl, ?_⟩) ?_ ?_
          rotate_left
          · intro w'
            go_simp
            with_reducible rfl
          rotate_left
          · simp only [Act.put, List.setIfInBounds_toArray, List.set_cons_zero, List.set_cons_succ, i64_w, i32_w]
            rfl
          refine pure_ (i := 5) (N := some 3) (v := ?_) (a' := ?_) #[true, false, true, false, true, true, false] rfl rfl (by kernel_rfl) (fun _ _ _ h => h) (Or.inl ⟨by rfl, ?_⟩) ?_ ?_
          rotate_left
          · intro w'
            go_simp
            with_reducible rfl
          rotate_left
          · simp only [Act.put, List.setIfInBounds_toArray, List.set_cons_zero, List.set_cons_succ, i64_w, i32_w]
            rfl
          refine take_ (i := 1) (N := some 93) (v := ?_) (a' := ?_) #[true, true, true, false, true, true, false] rfl rfl (by kernel_rfl) (fun _ _ _ h => h) (Or.inl ⟨by rfl, ?_⟩) hHeld ?_ ?_
          rotate_left
          · rintro w' ⟨s0, s1⟩
            go_simp
            with_reducible rfl
          rotate_left
          · simp only [Act.put, List.setIfInBounds_toArray, List.set_cons_zero, List.set_cons_succ, i64_w, i32_w]
            rfl
          refine pure_ (i := 3) (N := some 95) (v := ?_) (a' := ?_) #[true, true, true, true, true, true, false] rfl rfl (by kernel_rfl) (fun _ _ _ h => h) (Or.inl ⟨by rfl, ?_⟩) ?_ ?_
          rotate_left
          · intro w'
            go_simp
            with_reducible rfl
          rotate_left
          · simp only [Act.put, List.setIfInBounds_toArray, List.set_cons_zero, List.set_cons_succ, i64_w, i32_w]
            rfl
          refine one_ (i := 6) (N := none) #[true, true, true, true, true, true, true] rfl rfl (by kernel_rfl) (by decide) (fun K hK => ?_)
          have hs79 : w78.cell? ⟨gb379, 0, none⟩ = some (.int .i64 x380000_1) := (blk_cell BK379.out 0).trans rfl
          have hfs79 := blk_frozen BK379.out 0
          have hns79_1 := NB381_379.out
          have hns79_2 := NB408_379.out
          have hms79_1 := NB379_381.out
          have hms79_2 := NB379_408.out
          have hs80 : w78.cell? ⟨gb379, 1, none⟩ = some (.int .i64 x380001_1) := (blk_cell BK379.out 1).trans rfl
          have hfs80 := blk_frozen BK379.out 1
          have hns80_1 := NB381_379.out
          have hns80_2 := NB408_379.out
          have hms80_1 := NB379_381.out
          have hms80_2 := NB379_408.out
          refine skip_ (w1 := ?_) (by rfl) rfl ?_ ?_
          rotate_left
          · go_simp
            rfl
          refine hK.out _ _ ⟨((cell_far (p := ⟨gb379, _, none⟩) NB408_379.out _).trans (((cell_far (p := ⟨gb379, _, none⟩) NB408_379.out _).trans (hHeld.1)))), ((cell_far (p := ⟨gb379, _, none⟩) NB408_379.out _).trans (((cell_far (p := ⟨gb379, _, none⟩) NB408_379.out _).trans (hHeld.2))))⟩ (fun hHeld => ?_)
          clear hK K
          refine done_ (by kernel_rfl) ?_
          try go_wp2
          refine bodyPost_ret (results_list (rs := [.tmp 2, .tmp 3, .cell 4 26]) rfl (by simp) (.tmp (.tmp (.cell gb379 26 #[.int .i64 t406, .int .i64 x17_1] (0, 0) _ rfl (by (with_reducible repeat (first | refine bN ?_ _ | refine bD ?_ | refine bA ?_ _)); refine blk_put (cs := #[.int .i64 t406, .int .i64 x380001_1]) ?_ 1 _ rfl; (with_reducible repeat (first | refine bN ?_ _ | refine bD ?_ | refine bA ?_ _)); refine blk_put (cs := #[.int .i64 x380000_1, .int .i64 x380001_1]) ?_ 0 _ rfl; (with_reducible repeat (first | refine bN ?_ _ | refine bD ?_ | refine bA ?_ _)); exact BK379.out) Try.underlying26 rfl (by kernel_rfl) .nil)))) rfl ?_
          exact ⟨_, _, by first | rfl | (simp [errW_none, errW_some] <;> rfl) | (simp [*, errW_none, errW_some] <;> rfl), by first | exact Kd.S_nil _ _ _ _ _ | exact Kd.N_nil _ _ _ _ _ | exact Kd.V_nil _ _ _ _ _ | exact Kd.Q_nil _ _ _ _ _ | exact Kd.R_nil _ _ _ _ _, by first | exact Kd.R_nil _ _ _ _ _ | exact Kd.N_nil _ _ _ _ _ | exact Kd.V_nil _ _ _ _ _ | exact Kd.Q_nil _ _ _ _ _ | exact Kd.S_nil _ _ _ _ _, by repeat (first | (with_reducible first | exact HB.out | apply lA | apply lN | apply lD | refine lS ?_ GE379.out | refine lS ?_ GE381.out | refine lS ?_ GE408.out) | exact HB.out)⟩
        rw [if_neg c62] at H
        have c62b0 : (!(t406 == 0) || (!(t407 == 0))) = false := by simpa using c62
        clear c62
        obtain ⟨y409, hy409⟩ : ∃ y_ : List (List Int), y_ = (([t403] : List (List Int))) := ⟨_, rfl⟩
        replace H : (if x5_1.length + y409.length < 5864062014805 then (if ((rd_T45 l0 x17_1).f0) < (x6_1.length : Int) then ((some (([wrap64 ((rd x6_1 ((rd_T45 l0 x17_1).f0)) + 1)] : List Int) : List Int)).bind fun y416 => (if x6_1.length + y416.length < 17592186044416 then (deltachain_unpack.l0 kj20 (x5_1 ++ y409) (x6_1 ++ y416) l0 (l0.length : Int) (wrap64 (x17_1 + 1))) else (none))) else (none)) else (none)) = some (r1, r2, r3, r4) := by first | (rw [hy409]; with_reducible exact H) | (have H2_ := (Option.bind_some _ _).symm.trans H; rw [hy409]; with_reducible exact H2_) | (have H2_ := (Option.bind_some _ _).symm.trans H; with_reducible exact H2_) | with_reducible exact H | (rw [hy409]; exact H) | exact H
        have Ny409 := aZ hy409
        clear hy409
        by_cases c81 : x5_1.length + y409.length < 5864062014805
        rotate_left
        · rw [if_neg c81] at H
          exact absurd H (by simp)
        rw [if_pos c81] at H
        have LMc81 := aZ c81
        clear c81
        obtain ⟨y412, hy412⟩ : ∃ y_ : List (List Int), y_ = (x5_1 ++ y409) := ⟨_, rfl⟩
        replace H : (if ((rd_T45 l0 x17_1).f0) < (x6_1.length : Int) then ((some (([wrap64 ((rd x6_1 ((rd_T45 l0 x17_1).f0)) + 1)] : List Int) : List Int)).bind fun y416 => (if x6_1.length + y416.length < 17592186044416 then (deltachain_unpack.l0 kj20 y412 (x6_1 ++ y416) l0 (l0.length : Int) (wrap64 (x17_1 + 1))) else (none))) else (none)) = some (r1, r2, r3, r4) := by first | (rw [hy412]; with_reducible exact H) | (have H2_ := (Option.bind_some _ _).symm.trans H; rw [hy412]; with_reducible exact H2_) | (have H2_ := (Option.bind_some _ _).symm.trans H; with_reducible exact H2_) | with_reducible exact H | (rw [hy412]; exact H) | exact H
        have Ny412 := aZ hy412
        clear hy412
        by_cases c82 : ((rd_T45 l0 x17_1).f0) < (x6_1.length : Int)
        rotate_left
        · rw [if_neg c82] at H
          exact absurd H (by simp)
        rw [if_pos c82] at H
        have c82b0 : decide (((rd_T45 l0 x17_1).f0) < (x6_1.length : Int)) = true := decide_eq_true c82
        clear c82
        obtain ⟨y416, hy416⟩ : ∃ y_ : List Int, y_ = (([wrap64 ((rd x6_1 ((rd_T45 l0 x17_1).f0)) + 1)] : List Int)) := ⟨_, rfl⟩
        replace H : (if x6_1.length + y416.length < 17592186044416 then (deltachain_unpack.l0 kj20 y412 (x6_1 ++ y416) l0 (l0.length : Int) (wrap64 (x17_1 + 1))) else (none)) = some (r1, r2, r3, r4) := by first | (rw [hy416]; with_reducible exact H) | (have H2_ := (Option.bind_some _ _).symm.trans H; rw [hy416]; with_reducible exact H2_) | (have H2_ := (Option.bind_some _ _).symm.trans H; with_reducible exact H2_) | with_reducible exact H | (rw [hy416]; exact H) | exact H
        have Ny416 := aZ hy416
        clear hy416
        by_cases c83 : x6_1.length + y416.length < 17592186044416
        rotate_left
        · rw [if_neg c83] at H
          exact absurd H (by simp)
        rw [if_pos c83] at H
        have LMc83 := aZ c83
        clear c83
        obtain ⟨y419, hy419⟩ : ∃ y_ : List Int, y_ = (x6_1 ++ y416) := ⟨_, rfl⟩
        replace H : (deltachain_unpack.l0 kj20 y412 y419 l0 (l0.length : Int) (wrap64 (x17_1 + 1))) = some (r1, r2, r3, r4) := by first | (rw [hy419]; with_reducible exact H) | (have H2_ := (Option.bind_some _ _).symm.trans H; rw [hy419]; with_reducible exact H2_) | (have H2_ := (Option.bind_some _ _).symm.trans H; with_reducible exact H2_) | with_reducible exact H | (rw [hy419]; exact H) | exact H
        have Ny419 := aZ hy419
        clear hy419
        have H' := aZ H
        clear H
        have hnb84 := NB381_379.out
        have hnc84 := NB379_381.out
        have hcz85_0 : wc.cell? ⟨gb381, 0, none⟩ = some (.int .i64 ((rd_T45 l0 x17_1).f0)) := (blk_cell BK381.out 0).trans rfl
        have hcz85_1 : wc.cell? ⟨gb381, 1, none⟩ = some (.slice A380_1 ((rd_T45 l0 x17_1).f1).length c380_1) := (blk_cell BK381.out 1).trans rfl
        have hcz85_2 : wc.cell? ⟨gb381, 2, none⟩ = some (.slice A380_2 ((rd_T45 l0 x17_1).f2).length c380_2) := (blk_cell BK381.out 2).trans rfl
        have hfz85_0 := blk_frozen BK381.out 0
        have hfz85_1 := blk_frozen BK381.out 1
        have hfz85_2 := blk_frozen BK381.out 2
        try go_wp2_with (first | ((with_reducible refine gate_dst (N := 60) rfl ?_); (try (refine gate_guard (by rfl) ?_; dsimp only)); refine Kd.lit_read (Kd.slice 5 (Kd.int .u8)) 22 ?hg (N := 60) ?hd (ys := y382) (xs := ([((rd_T45 l0 x17_1).f1)] : List (List Int))) (inner := [.slice A380_1 ((rd_T45 l0 x17_1).f1).length c380_1]) Ny382.out ?hr ?hp (by simp) ?_; (case hd => rfl); (case hg => rfl); (case hr => first | (go_simp; done) | (go_simp; rfl)); (case hp => exact (Reps.one (show Kd.K (Kd.slice 5 (Kd.int .u8)) _ ((rd_T45 l0 x17_1).f1) [.slice A380_1 ((rd_T45 l0 x17_1).f1).length c380_1] from ⟨_, _, rfl, by exact HC380_1.out, by repeat (first | exact (Kd.C_below HR380_1.out HB.out) | (with_reducible refine Kd.C_alloc ?_ _) | (with_reducible refine Kd.C_drewN ?_ _) | (with_reducible refine Kd.C_drew ?_))⟩) (Reps.none _ _))); intro A385 w86 hnew_ hb; have n0_ := aZ (Kd.N_below (by (with_reducible repeat (first | apply Kd.N_alloc | apply Kd.N_drewN | apply Kd.N_drew)); exact HO_5.out) hb); have n1_ := aZ (Kd.R_below (by (with_reducible repeat (first | apply Kd.rA | apply Kd.rN | apply Kd.rD)); exact HO_6.out) hb); have n2_ := aZ (blk_below (g := gb379) (o := .cells #[.int .i64 x380000_1, .int .i64 x380001_1] 26 (0, 0)) (by (with_reducible repeat (first | refine bN ?_ _ | refine bD ?_ | refine bA ?_ _)); exact BK379.out) hb); have n3_ := aZ (blk_below (g := gb381) (o := .cells #[.int .i64 ((rd_T45 l0 x17_1).f0), .slice A380_1 ((rd_T45 l0 x17_1).f1).length c380_1, .slice A380_2 ((rd_T45 l0 x17_1).f2).length c380_2] 45 (0, 0)) (by (with_reducible repeat (first | refine bN ?_ _ | refine bD ?_ | refine bA ?_ _)); exact BK381.out) hb); have n4_ := aZ (lT (by repeat (first | (with_reducible first | exact HB.out | apply lA | apply lN | apply lD | refine lS ?_ GE379.out | refine lS ?_ GE381.out) | exact HB.out)) hb); have n5_ := aZ (hnew_); have n6_ := aZ (Nat.le_refl y382.length); clear HO_5; clear HO_6; clear BK379; clear BK381; clear HB; have HO_5 := n0_; have HO_6 := n1_; have BK379 := n2_; have BK381 := n3_; have HB := n4_; have HR385 := n5_; have HC385 := n6_; clear n0_ n1_ n2_ n3_ n4_ n5_ n6_; clear hb hnew_) | ((with_reducible refine gate_callee (f := 24) rfl ?_); refine goesL_ (some 61) rfl rfl Try.func24 (by kernel_rfl) rfl #[.slice A385 y382.length y382.length] rfl (by (try simp only [List.map_toArray, List.map_cons, List.map_nil]); first | done | rfl | (simp only [List.length_drop, List.length_take]; rfl)) ?_; (with_reducible refine (deltachain_sized.calls kj20 _ _ y382 true _ ?side1 ?side2 A39.out).mono ?_); (case side1 => repeat (first | exact (by repeat (first | (with_reducible exact HR385.out) | (with_reducible refine Kd.C_alloc ?_ _) | (with_reducible refine Kd.C_drewN ?_ _) | (with_reducible refine Kd.C_drew ?_) | exact HR385.out)) | (with_reducible refine Kd.C_alloc ?_ _) | (with_reducible refine Kd.C_drewN ?_ _) | (with_reducible refine Kd.C_drew ?_))); (case side2 => exact HC385.out); rintro e w' ⟨rfl, ⟨nd, rfl⟩⟩; refine ⟨_, rfl, ?_⟩; (try (rw [drewN_self w86]; generalize hq_ : World.drewN w86 _ = w86; have n0_ : Aside0 (Kd.N (Kd.slice 5 (Kd.int .u8)) 22 w86 w.heap.size (fun k_ => (w.heap.size ≤ k_) ∧ some k_ ≠ (u6 : Value).ownBlock ∧ k_ ≠ gb379 ∧ k_ ≠ gb381) u5 x5_1) := ⟨by rw [← hq_]; exact (by (with_reducible repeat (first | apply Kd.N_alloc | apply Kd.N_drewN | apply Kd.N_drew)); exact HO_5.out)⟩; have n1_ : Aside0 (Kd.R (Kd.int .i64) 3 w86 w.heap.size (fun k_ => (w.heap.size ≤ k_)) u6 x6_1) := ⟨by rw [← hq_]; exact (by (with_reducible repeat (first | apply Kd.rA | apply Kd.rN | apply Kd.rD)); exact HO_6.out)⟩; have n2_ : Aside0 (w86.heap[gb379]? = some (.cells #[.int .i64 x380000_1, .int .i64 x380001_1] 26 (0, 0))) := ⟨by rw [← hq_]; exact (by (with_reducible repeat (first | refine bN ?_ _ | refine bD ?_ | refine bA ?_ _)); exact BK379.out)⟩; have n3_ : Aside0 (w86.heap[gb381]? = some (.cells #[.int .i64 ((rd_T45 l0 x17_1).f0), .slice A380_1 ((rd_T45 l0 x17_1).f1).length c380_1, .slice A380_2 ((rd_T45 l0 x17_1).f2).length c380_2] 45 (0, 0))) := ⟨by rw [← hq_]; exact (by (with_reducible repeat (first | refine bN ?_ _ | refine bD ?_ | refine bA ?_ _)); exact BK381.out)⟩; have n4_ : Aside0 (Below w.heap.size w w86) := ⟨by rw [← hq_]; exact (by repeat (first | (with_reducible first | exact HB.out | apply lA | apply lN | apply lD | refine lS ?_ GE379.out | refine lS ?_ GE381.out) | exact HB.out))⟩; have n5_ : Aside0 (Kd.C (Kd.slice 5 (Kd.int .u8)) w86 A385 y382.length y382) := ⟨by rw [← hq_]; exact (by repeat (first | (with_reducible exact HR385.out) | (with_reducible refine Kd.C_alloc ?_ _) | (with_reducible refine Kd.C_drewN ?_ _) | (with_reducible refine Kd.C_drew ?_) | exact HR385.out))⟩; clear HO_5 HO_6 BK379 BK381 HB HR385 hq_; have HO_5 := n0_; have HO_6 := n1_; have BK379 := n2_; have BK381 := n3_; have HB := n4_; have HR385 := n5_; clear n0_ n1_ n2_ n3_ n4_ n5_)); have hcz87_0 : w86.cell? ⟨gb381, 0, none⟩ = some (.int .i64 ((rd_T45 l0 x17_1).f0)) := (blk_cell BK381.out 0).trans rfl; have hcz87_1 : w86.cell? ⟨gb381, 1, none⟩ = some (.slice A380_1 ((rd_T45 l0 x17_1).f1).length c380_1) := (blk_cell BK381.out 1).trans rfl; have hcz87_2 : w86.cell? ⟨gb381, 2, none⟩ = some (.slice A380_2 ((rd_T45 l0 x17_1).f2).length c380_2) := (blk_cell BK381.out 2).trans rfl; have hfz87_0 := blk_frozen BK381.out 0; have hfz87_1 := blk_frozen BK381.out 1; have hfz87_2 := blk_frozen BK381.out 2))
        have n0_ := aZ (Kd.N_drew HO_5.out)
        have n1_ := aZ (Kd.rD HO_6.out)
        have n2_ := aZ (bD BK379.out)
        have n3_ := aZ (bD BK381.out)
        have n4_ := aZ (lD HB.out)
        clear HO_5
        clear HO_6
        clear BK379
        clear BK381
        clear HB
        have HO_5 := n0_
        have HO_6 := n1_
        have BK379 := n2_
        have BK381 := n3_
        have HB := n4_
        clear n0_ n1_ n2_ n3_ n4_
        obtain ⟨Ao89, co89, eo89⟩ := Kd.N_slice HO_5.out
        (first | subst eo89 | (injection eo89 with f1_ f2_ f3_; have f4_ := f1_.symm; have f5_ := f3_.symm; clear f1_ f2_ f3_; subst f4_; subst f5_))
        have p402 : 0 ≤ (((rd_T45 l0 x17_1).f0) : Int) := of_decide_eq_true (by first | (with_reducible assumption) | assumption)
        have q402 : ((rd_T45 l0 x17_1).f0) < (x5_1.length : Int) := of_decide_eq_true (by first | (with_reducible assumption) | assumption)
        obtain ⟨ad402, A402_0, c402_0, e402, hx402_0, hl402_0, hi402_0⟩ := at_L1 (Kd.N_reads' HO_5.out).2.2 ((rd_T45 l0 x17_1).f0) p402 q402
        cases e402
        obtain ⟨ce402, hce402, hMe402, hcc402⟩ := Kd.N_get HO_5.out [] ((rd_T45 l0 x17_1).f0) p402 (by first | exact q402 | exact of_decide_eq_true (by first | (with_reducible assumption) | assumption) | (have e_ := (Kd.N_reads' HO_5.out).1; omega))
        obtain ⟨ua402_0, uc402_0, rfl, ul402_0, ge402_0⟩ := Kd.FK_slice_open hMe402
        have hv402_0 := hcc402 0 _ rfl
        rw [Nat.add_zero, show ((Kd.slice 5 (Kd.int .u8))).sz = 1 from rfl, Nat.mul_one] at hv402_0
        replace hv402_0 := Option.some.inj (hv402_0.symm.trans hx402_0)
        injection hv402_0 with hva_ hvn_ hvc_
        rw [hva_] at ge402_0
        rw [hvc_] at ul402_0
        have HL402_0 := aZ (show Kd.V (Kd.int .u8) 5 _ w.heap.size _ _ (rd_L1 x5_1 ((rd_T45 l0 x17_1).f0)) from Kd.V_mk ul402_0 ge402_0)
        clear hva_ hvn_ hvc_ ge402_0 ul402_0
        clear hcc402 hce402
        have HR402_0 := aZ hi402_0
        have HC402_0 := aZ hl402_0
        clear hi402_0 hl402_0
        replace p402 := eq_true p402
        replace q402 := eq_true q402
        refine start_ (n := 14) (S := fun w' => w'.cell? ⟨gb381, 0, none⟩ = some (.int .i64 ((rd_T45 l0 x17_1).f0)) ∧ w'.cell? ⟨gb381, 1, none⟩ = some (.slice A380_1 ((rd_T45 l0 x17_1).f1).length c380_1) ∧ w'.cell? ⟨gb381, 2, none⟩ = some (.slice A380_2 ((rd_T45 l0 x17_1).f2).length c380_2) ∧ w'.cell? (ad402.add (((rd_T45 l0 x17_1).f0)).toNat) = some (.slice A402_0 (rd_L1 x5_1 ((rd_T45 l0 x17_1).f0)).length c402_0)) (ds := []) Z1 (by kernel_rfl) rfl rfl ⟨(blk_cell BK381.out 0).trans rfl, (blk_cell BK381.out 1).trans rfl, (blk_cell BK381.out 2).trans rfl, hx402_0⟩ (fun hHeld => ?_); refine with_tabW deltachain_unpack.tab16 deltachain_unpack.bits16 (fun HT_ HW_ => ?_)
        generalize w86.drew = w88 at HO_5 HO_6 BK379 BK381 HB HL402_0 HR402_0 hx402_0 hHeld ⊢
        refine pu 0 79 Z2 HT_ rfl rfl (h := ?_)
        refine pu 1 80 Z3 HT_ rfl rfl (h := ?_)
        refine pu 5 84 Z4 HT_ rfl rfl (h := ?_)
        refine tk 2 81 Z5 HT_ HW_ rfl rfl hHeld (by rintro w' ⟨s0, s1, s2, s3⟩; go_simp; with_reducible rfl) (h := ?_)
        refine pu 3 82 Z6 HT_ rfl rfl (h := ?_)
        refine tk 4 83 Z7 HT_ HW_ rfl rfl hHeld (by rintro w' ⟨s0, s1, s2, s3⟩; go_simp; with_reducible rfl) (h := ?_)
        refine tk 6 85 Z8 HT_ HW_ rfl rfl hHeld (by rintro w' ⟨s0, s1, s2, s3⟩; go_simp; with_reducible rfl) (h := ?_)
        refine join_ (σ := Value × Nat) 2 Z9 (fun s_ => [(86, .tuple #[s_.1, .agg #[.int .i64 t406, .int .i64 t407]]), (10, .pointer (some ⟨s_.2, 0, none⟩)), (78, .tuple #[s_.1, .agg #[.int .i64 t406, .int .i64 t407]]), (87, s_.1), (88, .agg #[.int .i64 t406, .int .i64 t407])]) (fun s_ w' => (w'.cell? ⟨gb381, 0, none⟩ = some (.int .i64 ((rd_T45 l0 x17_1).f0)) ∧ w'.cell? ⟨gb381, 1, none⟩ = some (.slice A380_1 ((rd_T45 l0 x17_1).f1).length c380_1) ∧ w'.cell? ⟨gb381, 2, none⟩ = some (.slice A380_2 ((rd_T45 l0 x17_1).f2).length c380_2) ∧ w'.cell? (ad402.add (((rd_T45 l0 x17_1).f0)).toNat) = some (.slice A402_0 (rd_L1 x5_1 ((rd_T45 l0 x17_1).f0)).length c402_0)) ∧ (Kd.V (Kd.int .u8) 5 w' w.heap.size (fun k_ => (w.heap.size ≤ k_) ∧ some k_ ≠ (s_.1 : Value).ownBlock ∧ some k_ ≠ (.slice (some ad402) x5_1.length co89 : Value).ownBlock ∧ some k_ ≠ (u6 : Value).ownBlock ∧ k_ ≠ gb379 ∧ k_ ≠ gb381 ∧ k_ ≠ s_.2) (.slice A402_0 (rd_L1 x5_1 ((rd_T45 l0 x17_1).f0)).length c402_0) (rd_L1 x5_1 ((rd_T45 l0 x17_1).f0))) ∧ (Kd.R (Kd.int .u8) 5 w' w.heap.size (fun k_ => (w.heap.size ≤ k_)) s_.1 t403) ∧ (Kd.N (Kd.slice 5 (Kd.int .u8)) 22 w' w.heap.size (fun k_ => (w.heap.size ≤ k_) ∧ some k_ ≠ (s_.1 : Value).ownBlock ∧ some k_ ≠ (u6 : Value).ownBlock ∧ k_ ≠ gb379 ∧ k_ ≠ gb381 ∧ k_ ≠ s_.2) (.slice (some ad402) x5_1.length co89) x5_1) ∧ (Kd.R (Kd.int .i64) 3 w' w.heap.size (fun k_ => (w.heap.size ≤ k_)) u6 x6_1) ∧ (w'.heap[gb379]? = some (.cells #[.int .i64 x380000_1, .int .i64 x380001_1] 26 (0, 0))) ∧ (w'.heap[gb381]? = some (.cells #[.int .i64 ((rd_T45 l0 x17_1).f0), .slice A380_1 ((rd_T45 l0 x17_1).f1).length c380_1, .slice A380_2 ((rd_T45 l0 x17_1).f2).length c380_2] 45 (0, 0))) ∧ (w'.heap[s_.2]? = some (.cells #[.int .i64 0, .int .i64 0] 26 (0, 0))) ∧ (w.heap.size ≤ s_.2) ∧ (w.heap.size ≤ s_.2) ∧ (gb379 ≠ s_.2) ∧ (s_.2 ≠ gb379) ∧ (gb381 ≠ s_.2) ∧ (s_.2 ≠ gb381) ∧ (Below w.heap.size w w')) ?_ ?_
        rotate_left
        · intro hCont
          refine two_ (i := 7) (j := 11) (Ni := some 86) (Nj := some 10) Z10 Z11 rfl rfl rfl rfl (two_of HT_.out (by kernel_rfl)) (by decide) (by decide) (fun K hK => ?_) (fun K hK => ?_)
          · skip
            refine goes_ Try.func15 (by kernel_rfl) rfl #[.slice A402_0 (rd_L1 x5_1 ((rd_T45 l0 x17_1).f0)).length c402_0, .slice A380_2 ((rd_T45 l0 x17_1).f2).length c380_2] (by rfl) rfl rfl (by (try simp only [List.map_toArray, List.map_cons, List.map_nil]); first | done | rfl | (simp only [List.length_drop, List.length_take]; rfl)) ?_
            with_reducible refine (deltachain_Apply.calls kj20 _ _ (rd_L1 x5_1 ((rd_T45 l0 x17_1).f0)) _ _ ((rd_T45 l0 x17_1).f2) t403 t406 t407 _ ?side1 ?side2 ?side3 ?side4 A61.out).mono ?_
            (case side1 => repeat (first | exact (by repeat (first | (with_reducible exact HR402_0.out) | (with_reducible refine Kd.C_alloc ?_ _) | (with_reducible refine Kd.C_drewN ?_ _) | (with_reducible refine Kd.C_drew ?_) | exact HR402_0.out)) | (with_reducible refine Kd.C_alloc ?_ _) | (with_reducible refine Kd.C_drewN ?_ _) | (with_reducible refine Kd.C_drew ?_)))
            (case side2 => exact HC402_0.out)
            (case side3 => repeat (first | exact (Kd.C_below HR380_2.out HB.out) | (with_reducible refine Kd.C_alloc ?_ _) | (with_reducible refine Kd.C_drewN ?_ _) | (with_reducible refine Kd.C_drew ?_)))
            (case side4 => exact HC380_2.out)
            rintro e w90 ⟨v404, rfl, ho0, hb⟩
            have HS3_ := (hb.cell (World.block_lt_of_cell? _ _ (hHeld.2.2.2))).trans (hHeld.2.2.2)
            refine ⟨_, rfl, ?_⟩
            have n0_ := aZ (Kd.N_elder' (by (with_reducible repeat (first | apply Kd.N_alloc | apply Kd.N_drewN | apply Kd.N_drew)); exact HO_5.out) (Kd.R_base ho0) hb)
            have n1_ := aZ (Kd.R_below (by (with_reducible repeat (first | apply Kd.rA | apply Kd.rN | apply Kd.rD)); exact HO_6.out) hb)
            have n2_ := aZ (Kd.V_elder' (by (with_reducible repeat (first | apply Kd.V_alloc | apply Kd.V_drewN | apply Kd.V_drew)); exact HL402_0.out) (Kd.R_base ho0) hb)
            have n3_ := aZ (Kd.R_lower (Kd.R_newM (M := fun k_ => (w.heap.size ≤ k_)) ho0 (lZ (by repeat (first | (with_reducible first | exact HB.out | apply lA | apply lN | apply lD | refine lS ?_ GE379.out | refine lS ?_ GE381.out) | exact HB.out))) (fun k_ h_ => h_)) (lZ (by repeat (first | (with_reducible first | exact HB.out | apply lA | apply lN | apply lD | refine lS ?_ GE379.out | refine lS ?_ GE381.out) | exact HB.out))))
            have n4_ := aZ (blk_below (g := gb379) (o := .cells #[.int .i64 x380000_1, .int .i64 x380001_1] 26 (0, 0)) (by (with_reducible repeat (first | refine bN ?_ _ | refine bD ?_ | refine bA ?_ _)); exact BK379.out) hb)
            have n5_ := aZ (blk_below (g := gb381) (o := .cells #[.int .i64 ((rd_T45 l0 x17_1).f0), .slice A380_1 ((rd_T45 l0 x17_1).f1).length c380_1, .slice A380_2 ((rd_T45 l0 x17_1).f2).length c380_2] 45 (0, 0)) (by (with_reducible repeat (first | refine bN ?_ _ | refine bD ?_ | refine bA ?_ _)); exact BK381.out) hb)
            have n6_ := aZ (Kd.C_below (by repeat (first | (with_reducible exact HR402_0.out) | (with_reducible refine Kd.C_alloc ?_ _) | (with_reducible refine Kd.C_drewN ?_ _) | (with_reducible refine Kd.C_drew ?_) | exact HR402_0.out)) hb)
            have n7_ := aZ (lT (by repeat (first | (with_reducible first | exact HB.out | apply lA | apply lN | apply lD | refine lS ?_ GE379.out | refine lS ?_ GE381.out) | exact HB.out)) hb)
            clear HO_5
            clear HO_6
            clear HL402_0
            clear BK379
            clear BK381
            clear HR402_0
            clear HB
            have HO_5 := n0_
            have HO_6 := n1_
            have HL402_0 := n2_
            have HO405 := n3_
            have BK379 := n4_
            have BK381 := n5_
            have HR402_0 := n6_
            have HB := n7_
            clear n0_ n1_ n2_ n3_ n4_ n5_ n6_ n7_
            (try clear hb)
            (try clear hb2)
            (try clear hk)
            (try clear hi)
            (try clear ho0)
            refine hK.out _ _ ⟨(blk_cell BK381.out 0).trans rfl, (blk_cell BK381.out 1).trans rfl, (blk_cell BK381.out 2).trans rfl, HS3_⟩ (fun hHeld => ?_)
            clear hK K
            refine norm_ (a' := ?_) ?_ ?_
            rotate_left
            · show Act.put _ (some 86) _ = _
              simp only [Act.put, List.setIfInBounds_toArray, List.set_cons_zero, List.set_cons_succ, i64_w, i32_w]
              rfl
            refine pu 8 78 Z12 HT_ rfl rfl (h := ?_)
            refine pu 9 87 Z13 HT_ rfl rfl (h := ?_)
            refine pu 10 88 Z14 HT_ rfl rfl (h := ?_)
            refine one_ (i := 11) (N := some 10) Z9 rfl rfl (one_of HT_.out (by kernel_rfl)) (by decide) (fun K hK => ?_)
            refine box_step ?hg (N := 10) ?hd (cs := #[.int .i64 0, .int .i64 0]) (t := 26) ?hr ?_; (case hd => rfl); (case hg => rfl); (case hr => first | (go_simp; done) | (go_simp; rfl))
            intro gb408 hg w91 hbox hb
            have HS3_ := (hb.cell (World.block_lt_of_cell? _ _ (hHeld.2.2.2))).trans (hHeld.2.2.2)
            have n0_ := aZ (Kd.N_below (Kd.N_elderB (by (with_reducible repeat (first | apply Kd.N_alloc | apply Kd.N_drewN | apply Kd.N_drew)); exact HO_5.out) gb408 (Nat.le_of_eq hg.symm)) hb)
            have n1_ := aZ (Kd.R_below (by (with_reducible repeat (first | apply Kd.rA | apply Kd.rN | apply Kd.rD)); exact HO_6.out) hb)
            have n2_ := aZ (Kd.V_below (Kd.V_elderB (by (with_reducible repeat (first | apply Kd.V_alloc | apply Kd.V_drewN | apply Kd.V_drew)); exact HL402_0.out) gb408 (Nat.le_of_eq hg.symm)) hb)
            have n3_ := aZ (Kd.R_below (by (with_reducible repeat (first | apply Kd.rA | apply Kd.rN | apply Kd.rD)); exact HO405.out) hb)
            have n4_ := aZ (blk_below (g := gb379) (o := .cells #[.int .i64 x380000_1, .int .i64 x380001_1] 26 (0, 0)) (by (with_reducible repeat (first | refine bN ?_ _ | refine bD ?_ | refine bA ?_ _)); exact BK379.out) hb)
            have n5_ := aZ (blk_below (g := gb381) (o := .cells #[.int .i64 ((rd_T45 l0 x17_1).f0), .slice A380_1 ((rd_T45 l0 x17_1).f1).length c380_1, .slice A380_2 ((rd_T45 l0 x17_1).f2).length c380_2] 45 (0, 0)) (by (with_reducible repeat (first | refine bN ?_ _ | refine bD ?_ | refine bA ?_ _)); exact BK381.out) hb)
            have n6_ := aZ (Kd.C_below (by repeat (first | (with_reducible exact HR402_0.out) | (with_reducible refine Kd.C_alloc ?_ _) | (with_reducible refine Kd.C_drewN ?_ _) | (with_reducible refine Kd.C_drew ?_) | exact HR402_0.out)) hb)
            have n7_ := aZ (lT (by repeat (first | (with_reducible first | exact HB.out | apply lA | apply lN | apply lD | refine lS ?_ GE379.out | refine lS ?_ GE381.out) | exact HB.out)) hb)
            have n8_ := aZ (hbox)
            have n9_ := aZ ((by rw [hg]; exact (lZ (by repeat (first | (with_reducible first | exact HB.out | apply lA | apply lN | apply lD | refine lS ?_ GE379.out | refine lS ?_ GE381.out) | exact HB.out))) : w.heap.size ≤ gb408))
            have n10_ := aZ ((by rw [hg]; exact (lZ (by repeat (first | (with_reducible first | exact HB.out | apply lA | apply lN | apply lD | refine lS ?_ GE379.out | refine lS ?_ GE381.out) | exact HB.out))) : w.heap.size ≤ gb408))
            have n11_ := aZ ((by rw [hg]; exact Nat.ne_of_lt (blk_lt (g := gb379) (o := .cells #[.int .i64 x380000_1, .int .i64 x380001_1] 26 (0, 0)) (by (with_reducible repeat (first | refine bN ?_ _ | refine bD ?_ | refine bA ?_ _)); exact BK379.out)) : gb379 ≠ gb408))
            have n12_ := aZ ((by rw [hg]; exact Nat.ne_of_gt (blk_lt (g := gb379) (o := .cells #[.int .i64 x380000_1, .int .i64 x380001_1] 26 (0, 0)) (by (with_reducible repeat (first | refine bN ?_ _ | refine bD ?_ | refine bA ?_ _)); exact BK379.out)) : gb408 ≠ gb379))
            have n13_ := aZ ((by rw [hg]; exact Nat.ne_of_lt (blk_lt (g := gb381) (o := .cells #[.int .i64 ((rd_T45 l0 x17_1).f0), .slice A380_1 ((rd_T45 l0 x17_1).f1).length c380_1, .slice A380_2 ((rd_T45 l0 x17_1).f2).length c380_2] 45 (0, 0)) (by (with_reducible repeat (first | refine bN ?_ _ | refine bD ?_ | refine bA ?_ _)); exact BK381.out)) : gb381 ≠ gb408))
            have n14_ := aZ ((by rw [hg]; exact Nat.ne_of_gt (blk_lt (g := gb381) (o := .cells #[.int .i64 ((rd_T45 l0 x17_1).f0), .slice A380_1 ((rd_T45 l0 x17_1).f1).length c380_1, .slice A380_2 ((rd_T45 l0 x17_1).f2).length c380_2] 45 (0, 0)) (by (with_reducible repeat (first | refine bN ?_ _ | refine bD ?_ | refine bA ?_ _)); exact BK381.out)) : gb408 ≠ gb381))
            clear HO_5
            clear HO_6
            clear HL402_0
            clear HO405
            clear BK379
            clear BK381
            clear HR402_0
            clear HB
            have HO_5 := n0_
            have HO_6 := n1_
            have HL402_0 := n2_
            have HO405 := n3_
            have BK379 := n4_
            have BK381 := n5_
            have HR402_0 := n6_
            have HB := n7_
            have BK408 := n8_
            have GW408 := n9_
            have GE408 := n10_
            have NB379_408 := n11_
            have NB408_379 := n12_
            have NB381_408 := n13_
            have NB408_381 := n14_
            clear n0_ n1_ n2_ n3_ n4_ n5_ n6_ n7_ n8_ n9_ n10_ n11_ n12_ n13_ n14_
            clear hb hbox hg
            refine hK.out _ _ ⟨(blk_cell BK381.out 0).trans rfl, (blk_cell BK381.out 1).trans rfl, (blk_cell BK381.out 2).trans rfl, HS3_⟩ (fun hHeld => ?_)
            clear hK K
            refine norm_ (a' := ?_) ?_ ?_
            rotate_left
            · show Act.put _ (some 10) _ = _
              simp only [Act.put, List.setIfInBounds_toArray, List.set_cons_zero, List.set_cons_succ, i64_w, i32_w]
              rfl
            exact norm_ (by simp only [putAll, Act.put, List.setIfInBounds_toArray, List.set_cons_zero, List.set_cons_succ]) (hCont (v404, gb408) _ ⟨hHeld, (by (with_reducible repeat (first | apply Kd.V_alloc | apply Kd.V_drewN | apply Kd.V_drew)); exact Kd.V_mono HL402_0.out (fun _ hk => ⟨hk.1.1.1.1, ⟨hk.1.2, ⟨hk.1.1.2, ⟨hk.1.1.1.2.1, ⟨hk.1.1.1.2.2.1, ⟨hk.1.1.1.2.2.2, hk.2⟩⟩⟩⟩⟩⟩)), (by (with_reducible repeat (first | apply Kd.rA | apply Kd.rN | apply Kd.rD)); exact Kd.R_mono HO405.out (fun _ hk => hk.1)), (by (with_reducible repeat (first | apply Kd.N_alloc | apply Kd.N_drewN | apply Kd.N_drew)); exact Kd.N_mono HO_5.out (fun _ hk => ⟨hk.1.1.1, ⟨hk.1.2, ⟨hk.1.1.2.1, ⟨hk.1.1.2.2.1, ⟨hk.1.1.2.2.2, hk.2⟩⟩⟩⟩⟩)), (by (with_reducible repeat (first | apply Kd.rA | apply Kd.rN | apply Kd.rD)); exact HO_6.out), (by (with_reducible repeat (first | refine bN ?_ _ | refine bD ?_ | refine bA ?_ _)); exact BK379.out), (by (with_reducible repeat (first | refine bN ?_ _ | refine bD ?_ | refine bA ?_ _)); exact BK381.out), (by (with_reducible repeat (first | refine bN ?_ _ | refine bD ?_ | refine bA ?_ _)); exact BK408.out), GW408.out, GE408.out, NB379_408.out, NB408_379.out, NB381_408.out, NB408_381.out, (by repeat (first | (with_reducible first | exact HB.out | apply lA | apply lN | apply lD | refine lS ?_ GE379.out | refine lS ?_ GE381.out | refine lS ?_ GE408.out) | exact HB.out))⟩)
          · skip
            refine box_step ?hg (N := 10) ?hd (cs := #[.int .i64 0, .int .i64 0]) (t := 26) ?hr ?_; (case hd => rfl); (case hg => rfl); (case hr => first | (go_simp; done) | (go_simp; rfl))
            intro gb408 hg w90 hbox hb
            have HS3_ := (hb.cell (World.block_lt_of_cell? _ _ (hHeld.2.2.2))).trans (hHeld.2.2.2)
            have n0_ := aZ (Kd.N_below (Kd.N_elderB (by (with_reducible repeat (first | apply Kd.N_alloc | apply Kd.N_drewN | apply Kd.N_drew)); exact HO_5.out) gb408 (Nat.le_of_eq hg.symm)) hb)
            have n1_ := aZ (Kd.R_below (by (with_reducible repeat (first | apply Kd.rA | apply Kd.rN | apply Kd.rD)); exact HO_6.out) hb)
            have n2_ := aZ (Kd.V_below (Kd.V_elderB (by (with_reducible repeat (first | apply Kd.V_alloc | apply Kd.V_drewN | apply Kd.V_drew)); exact HL402_0.out) gb408 (Nat.le_of_eq hg.symm)) hb)
            have n3_ := aZ (blk_below (g := gb379) (o := .cells #[.int .i64 x380000_1, .int .i64 x380001_1] 26 (0, 0)) (by (with_reducible repeat (first | refine bN ?_ _ | refine bD ?_ | refine bA ?_ _)); exact BK379.out) hb)
            have n4_ := aZ (blk_below (g := gb381) (o := .cells #[.int .i64 ((rd_T45 l0 x17_1).f0), .slice A380_1 ((rd_T45 l0 x17_1).f1).length c380_1, .slice A380_2 ((rd_T45 l0 x17_1).f2).length c380_2] 45 (0, 0)) (by (with_reducible repeat (first | refine bN ?_ _ | refine bD ?_ | refine bA ?_ _)); exact BK381.out) hb)
            have n5_ := aZ (Kd.C_below (by repeat (first | (with_reducible exact HR402_0.out) | (with_reducible refine Kd.C_alloc ?_ _) | (with_reducible refine Kd.C_drewN ?_ _) | (with_reducible refine Kd.C_drew ?_) | exact HR402_0.out)) hb)
            have n6_ := aZ (lT (by repeat (first | (with_reducible first | exact HB.out | apply lA | apply lN | apply lD | refine lS ?_ GE379.out | refine lS ?_ GE381.out) | exact HB.out)) hb)
            have n7_ := aZ (hbox)
            have n8_ := aZ ((by rw [hg]; exact (lZ (by repeat (first | (with_reducible first | exact HB.out | apply lA | apply lN | apply lD | refine lS ?_ GE379.out | refine lS ?_ GE381.out) | exact HB.out))) : w.heap.size ≤ gb408))
            have n9_ := aZ ((by rw [hg]; exact (lZ (by repeat (first | (with_reducible first | exact HB.out | apply lA | apply lN | apply lD | refine lS ?_ GE379.out | refine lS ?_ GE381.out) | exact HB.out))) : w.heap.size ≤ gb408))
            have n10_ := aZ ((by rw [hg]; exact Nat.ne_of_lt (blk_lt (g := gb379) (o := .cells #[.int .i64 x380000_1, .int .i64 x380001_1] 26 (0, 0)) (by (with_reducible repeat (first | refine bN ?_ _ | refine bD ?_ | refine bA ?_ _)); exact BK379.out)) : gb379 ≠ gb408))
            have n11_ := aZ ((by rw [hg]; exact Nat.ne_of_gt (blk_lt (g := gb379) (o := .cells #[.int .i64 x380000_1, .int .i64 x380001_1] 26 (0, 0)) (by (with_reducible repeat (first | refine bN ?_ _ | refine bD ?_ | refine bA ?_ _)); exact BK379.out)) : gb408 ≠ gb379))
            have n12_ := aZ ((by rw [hg]; exact Nat.ne_of_lt (blk_lt (g := gb381) (o := .cells #[.int .i64 ((rd_T45 l0 x17_1).f0), .slice A380_1 ((rd_T45 l0 x17_1).f1).length c380_1, .slice A380_2 ((rd_T45 l0 x17_1).f2).length c380_2] 45 (0, 0)) (by (with_reducible repeat (first | refine bN ?_ _ | refine bD ?_ | refine bA ?_ _)); exact BK381.out)) : gb381 ≠ gb408))
            have n13_ := aZ ((by rw [hg]; exact Nat.ne_of_gt (blk_lt (g := gb381) (o := .cells #[.int .i64 ((rd_T45 l0 x17_1).f0), .slice A380_1 ((rd_T45 l0 x17_1).f1).length c380_1, .slice A380_2 ((rd_T45 l0 x17_1).f2).length c380_2] 45 (0, 0)) (by (with_reducible repeat (first | refine bN ?_ _ | refine bD ?_ | refine bA ?_ _)); exact BK381.out)) : gb408 ≠ gb381))
            clear HO_5
            clear HO_6
            clear HL402_0
            clear BK379
            clear BK381
            clear HR402_0
            clear HB
            have HO_5 := n0_
            have HO_6 := n1_
            have HL402_0 := n2_
            have BK379 := n3_
            have BK381 := n4_
            have HR402_0 := n5_
            have HB := n6_
            have BK408 := n7_
            have GW408 := n8_
            have GE408 := n9_
            have NB379_408 := n10_
            have NB408_379 := n11_
            have NB381_408 := n12_
            have NB408_381 := n13_
            clear n0_ n1_ n2_ n3_ n4_ n5_ n6_ n7_ n8_ n9_ n10_ n11_ n12_ n13_
            clear hb hbox hg
            refine hK.out _ _ ⟨(blk_cell BK381.out 0).trans rfl, (blk_cell BK381.out 1).trans rfl, (blk_cell BK381.out 2).trans rfl, HS3_⟩ (fun hHeld => ?_)
            clear hK K
            refine norm_ (a' := ?_) ?_ ?_
            rotate_left
            · show Act.put _ (some 10) _ = _
              simp only [Act.put, List.setIfInBounds_toArray, List.set_cons_zero, List.set_cons_succ, i64_w, i32_w]
              rfl
            refine one_ (i := 7) (N := some 86) Z15 rfl rfl (one_of HT_.out (by kernel_rfl)) (by decide) (fun K hK => ?_)
            refine goes_ Try.func15 (by kernel_rfl) rfl #[.slice A402_0 (rd_L1 x5_1 ((rd_T45 l0 x17_1).f0)).length c402_0, .slice A380_2 ((rd_T45 l0 x17_1).f2).length c380_2] (by rfl) rfl rfl (by (try simp only [List.map_toArray, List.map_cons, List.map_nil]); first | done | rfl | (simp only [List.length_drop, List.length_take]; rfl)) ?_
            with_reducible refine (deltachain_Apply.calls kj20 _ _ (rd_L1 x5_1 ((rd_T45 l0 x17_1).f0)) _ _ ((rd_T45 l0 x17_1).f2) t403 t406 t407 _ ?side1 ?side2 ?side3 ?side4 A61.out).mono ?_
            (case side1 => repeat (first | exact (by repeat (first | (with_reducible exact HR402_0.out) | (with_reducible refine Kd.C_alloc ?_ _) | (with_reducible refine Kd.C_drewN ?_ _) | (with_reducible refine Kd.C_drew ?_) | exact HR402_0.out)) | (with_reducible refine Kd.C_alloc ?_ _) | (with_reducible refine Kd.C_drewN ?_ _) | (with_reducible refine Kd.C_drew ?_)))
            (case side2 => exact HC402_0.out)
            (case side3 => repeat (first | exact (Kd.C_below HR380_2.out HB.out) | (with_reducible refine Kd.C_alloc ?_ _) | (with_reducible refine Kd.C_drewN ?_ _) | (with_reducible refine Kd.C_drew ?_)))
            (case side4 => exact HC380_2.out)
            rintro e w91 ⟨v404, rfl, ho0, hb⟩
            have HS3_ := (hb.cell (World.block_lt_of_cell? _ _ (hHeld.2.2.2))).trans (hHeld.2.2.2)
            refine ⟨_, rfl, ?_⟩
            have n0_ := aZ (Kd.N_elder' (by (with_reducible repeat (first | apply Kd.N_alloc | apply Kd.N_drewN | apply Kd.N_drew)); exact HO_5.out) (Kd.R_base ho0) hb)
            have n1_ := aZ (Kd.R_below (by (with_reducible repeat (first | apply Kd.rA | apply Kd.rN | apply Kd.rD)); exact HO_6.out) hb)
            have n2_ := aZ (Kd.V_elder' (by (with_reducible repeat (first | apply Kd.V_alloc | apply Kd.V_drewN | apply Kd.V_drew)); exact HL402_0.out) (Kd.R_base ho0) hb)
            have n3_ := aZ (Kd.R_lower (Kd.R_newM (M := fun k_ => (w.heap.size ≤ k_)) ho0 (lZ (by repeat (first | (with_reducible first | exact HB.out | apply lA | apply lN | apply lD | refine lS ?_ GE379.out | refine lS ?_ GE381.out | refine lS ?_ GE408.out) | exact HB.out))) (fun k_ h_ => h_)) (lZ (by repeat (first | (with_reducible first | exact HB.out | apply lA | apply lN | apply lD | refine lS ?_ GE379.out | refine lS ?_ GE381.out | refine lS ?_ GE408.out) | exact HB.out))))
            have n4_ := aZ (blk_below (g := gb379) (o := .cells #[.int .i64 x380000_1, .int .i64 x380001_1] 26 (0, 0)) (by (with_reducible repeat (first | refine bN ?_ _ | refine bD ?_ | refine bA ?_ _)); exact BK379.out) hb)
            have n5_ := aZ (blk_below (g := gb381) (o := .cells #[.int .i64 ((rd_T45 l0 x17_1).f0), .slice A380_1 ((rd_T45 l0 x17_1).f1).length c380_1, .slice A380_2 ((rd_T45 l0 x17_1).f2).length c380_2] 45 (0, 0)) (by (with_reducible repeat (first | refine bN ?_ _ | refine bD ?_ | refine bA ?_ _)); exact BK381.out) hb)
            have n6_ := aZ (Kd.C_below (by repeat (first | (with_reducible exact HR402_0.out) | (with_reducible refine Kd.C_alloc ?_ _) | (with_reducible refine Kd.C_drewN ?_ _) | (with_reducible refine Kd.C_drew ?_) | exact HR402_0.out)) hb)
            have n7_ := aZ (blk_below (g := gb408) (o := .cells #[.int .i64 0, .int .i64 0] 26 (0, 0)) (by (with_reducible repeat (first | refine bN ?_ _ | refine bD ?_ | refine bA ?_ _)); exact BK408.out) hb)
            have n8_ := aZ (lT (by repeat (first | (with_reducible first | exact HB.out | apply lA | apply lN | apply lD | refine lS ?_ GE379.out | refine lS ?_ GE381.out | refine lS ?_ GE408.out) | exact HB.out)) hb)
            clear HO_5
            clear HO_6
            clear HL402_0
            clear BK379
            clear BK381
            clear HR402_0
            clear BK408
            clear HB
            have HO_5 := n0_
            have HO_6 := n1_
            have HL402_0 := n2_
            have HO405 := n3_
            have BK379 := n4_
            have BK381 := n5_
            have HR402_0 := n6_
            have BK408 := n7_
            have HB := n8_
            clear n0_ n1_ n2_ n3_ n4_ n5_ n6_ n7_ n8_
            (try clear hb)
            (try clear hb2)
            (try clear hk)
            (try clear hi)
            (try clear ho0)
            refine hK.out _ _ ⟨(blk_cell BK381.out 0).trans rfl, (blk_cell BK381.out 1).trans rfl, (blk_cell BK381.out 2).trans rfl, HS3_⟩ (fun hHeld => ?_)
            clear hK K
            refine norm_ (a' := ?_) ?_ ?_
            rotate_left
            · show Act.put _ (some 86) _ = _
              simp only [Act.put, List.setIfInBounds_toArray, List.set_cons_zero, List.set_cons_succ, i64_w, i32_w]
              rfl
            refine pu 8 78 Z16 HT_ rfl rfl (h := ?_)
            refine pu 9 87 Z17 HT_ rfl rfl (h := ?_)
            refine pu 10 88 Z9 HT_ rfl rfl (h := ?_)
            exact norm_ (by simp only [putAll, Act.put, List.setIfInBounds_toArray, List.set_cons_zero, List.set_cons_succ]) (hCont (v404, gb408) _ ⟨hHeld, (by (with_reducible repeat (first | apply Kd.V_alloc | apply Kd.V_drewN | apply Kd.V_drew)); exact Kd.V_mono HL402_0.out (fun _ hk => ⟨hk.1.1.1.1, ⟨hk.2, ⟨hk.1.1.2, ⟨hk.1.1.1.2.1, ⟨hk.1.1.1.2.2.1, ⟨hk.1.1.1.2.2.2, hk.1.2⟩⟩⟩⟩⟩⟩)), (by (with_reducible repeat (first | apply Kd.rA | apply Kd.rN | apply Kd.rD)); exact Kd.R_mono HO405.out (fun _ hk => hk.1)), (by (with_reducible repeat (first | apply Kd.N_alloc | apply Kd.N_drewN | apply Kd.N_drew)); exact Kd.N_mono HO_5.out (fun _ hk => ⟨hk.1.1.1, ⟨hk.2, ⟨hk.1.1.2.1, ⟨hk.1.1.2.2.1, ⟨hk.1.1.2.2.2, hk.1.2⟩⟩⟩⟩⟩)), (by (with_reducible repeat (first | apply Kd.rA | apply Kd.rN | apply Kd.rD)); exact HO_6.out), (by (with_reducible repeat (first | refine bN ?_ _ | refine bD ?_ | refine bA ?_ _)); exact BK379.out), (by (with_reducible repeat (first | refine bN ?_ _ | refine bD ?_ | refine bA ?_ _)); exact BK381.out), (by (with_reducible repeat (first | refine bN ?_ _ | refine bD ?_ | refine bA ?_ _)); exact BK408.out), GW408.out, GE408.out, NB379_408.out, NB408_379.out, NB381_408.out, NB408_381.out, (by repeat (first | (with_reducible first | exact HB.out | apply lA | apply lN | apply lD | refine lS ?_ GE379.out | refine lS ?_ GE381.out | refine lS ?_ GE408.out) | exact HB.out))⟩)
        rintro ⟨v404, gb408⟩ w92 ⟨hS_, h0_, h1_, h2_, h3_, h4_, h5_, h6_, h7_, h8_, h9_, h10_, h11_, h12_, h13_⟩
        have n0_ : Aside0 (Kd.V (Kd.int .u8) 5 w92 w.heap.size (fun k_ => (w.heap.size ≤ k_) ∧ some k_ ≠ (v404 : Value).ownBlock ∧ some k_ ≠ (.slice (some ad402) x5_1.length co89 : Value).ownBlock ∧ some k_ ≠ (u6 : Value).ownBlock ∧ k_ ≠ gb379 ∧ k_ ≠ gb381 ∧ k_ ≠ gb408) (.slice A402_0 (rd_L1 x5_1 ((rd_T45 l0 x17_1).f0)).length c402_0) (rd_L1 x5_1 ((rd_T45 l0 x17_1).f0))) := ⟨h0_⟩
        have n1_ : Aside0 (Kd.R (Kd.int .u8) 5 w92 w.heap.size (fun k_ => (w.heap.size ≤ k_)) v404 t403) := ⟨h1_⟩
        have n2_ : Aside0 (Kd.N (Kd.slice 5 (Kd.int .u8)) 22 w92 w.heap.size (fun k_ => (w.heap.size ≤ k_) ∧ some k_ ≠ (v404 : Value).ownBlock ∧ some k_ ≠ (u6 : Value).ownBlock ∧ k_ ≠ gb379 ∧ k_ ≠ gb381 ∧ k_ ≠ gb408) (.slice (some ad402) x5_1.length co89) x5_1) := ⟨h2_⟩
        have n3_ : Aside0 (Kd.R (Kd.int .i64) 3 w92 w.heap.size (fun k_ => (w.heap.size ≤ k_)) u6 x6_1) := ⟨h3_⟩
        have n4_ : Aside0 (w92.heap[gb379]? = some (.cells #[.int .i64 x380000_1, .int .i64 x380001_1] 26 (0, 0))) := ⟨h4_⟩
        have n5_ : Aside0 (w92.heap[gb381]? = some (.cells #[.int .i64 ((rd_T45 l0 x17_1).f0), .slice A380_1 ((rd_T45 l0 x17_1).f1).length c380_1, .slice A380_2 ((rd_T45 l0 x17_1).f2).length c380_2] 45 (0, 0))) := ⟨h5_⟩
        have n6_ : Aside0 (w92.heap[gb408]? = some (.cells #[.int .i64 0, .int .i64 0] 26 (0, 0))) := ⟨h6_⟩
        have n7_ : Aside0 (w.heap.size ≤ gb408) := ⟨h7_⟩
        have n8_ : Aside0 (w.heap.size ≤ gb408) := ⟨h8_⟩
        have n9_ : Aside0 (gb379 ≠ gb408) := ⟨h9_⟩
        have n10_ : Aside0 (gb408 ≠ gb379) := ⟨h10_⟩
        have n11_ : Aside0 (gb381 ≠ gb408) := ⟨h11_⟩
        have n12_ : Aside0 (gb408 ≠ gb381) := ⟨h12_⟩
        have n13_ : Aside0 (Below w.heap.size w w92) := ⟨h13_⟩
        clear HO_5
        clear HO_6
        clear BK379
        clear BK381
        clear HB
        clear h0_ h1_ h2_ h3_ h4_ h5_ h6_ h7_ h8_ h9_ h10_ h11_ h12_ h13_
        have HL402_0 := n0_
        have HO405 := n1_
        have HO_5 := n2_
        have HO_6 := n3_
        have BK379 := n4_
        have BK381 := n5_
        have BK408 := n6_
        have GW408 := n7_
        have GE408 := n8_
        have NB379_408 := n9_
        have NB408_379 := n10_
        have NB381_408 := n11_
        have NB408_381 := n12_
        have HB := n13_
        clear n0_ n1_ n2_ n3_ n4_ n5_ n6_ n7_ n8_ n9_ n10_ n11_ n12_ n13_
        have hHeld : w92.cell? ⟨gb381, 0, none⟩ = some (.int .i64 ((rd_T45 l0 x17_1).f0)) ∧ w92.cell? ⟨gb381, 1, none⟩ = some (.slice A380_1 ((rd_T45 l0 x17_1).f1).length c380_1) ∧ w92.cell? ⟨gb381, 2, none⟩ = some (.slice A380_2 ((rd_T45 l0 x17_1).f2).length c380_2) ∧ w92.cell? (ad402.add (((rd_T45 l0 x17_1).f0)).toNat) = some (.slice A402_0 (rd_L1 x5_1 ((rd_T45 l0 x17_1).f0)).length c402_0) := hS_
        refine norm_ (a' := ?_) ?_ ?_
        rotate_left
        · simp only [putAll, Act.put, List.setIfInBounds_toArray, List.set_cons_zero, List.set_cons_succ]
          rfl
        refine pu 12 9 Z18 HT_ rfl rfl (h := ?_)
        refine one_ (i := 13) (N := none) Z19 rfl rfl (one_of HT_.out (by kernel_rfl)) (by decide) (fun K hK => ?_)
        have hs93 : w92.cell? ⟨gb408, 0, none⟩ = some (.int .i64 0) := (blk_cell BK408.out 0).trans rfl
        have hfs93 := blk_frozen BK408.out 0
        have hns93_0 := NB379_408.out
        have hns93_1 := NB381_408.out
        have hms93_0 := NB408_379.out
        have hms93_1 := NB408_381.out
        have hs94 : w92.cell? ⟨gb408, 1, none⟩ = some (.int .i64 0) := (blk_cell BK408.out 1).trans rfl
        have hfs94 := blk_frozen BK408.out 1
        have hns94_0 := NB379_408.out
        have hns94_1 := NB381_408.out
        have hms94_0 := NB408_379.out
        have hms94_1 := NB408_381.out
        refine skip_ (w1 := ?_) (by rfl) rfl ?_ ?_
        rotate_left
        · go_simp
          rfl
        refine hK.out _ _ ⟨((cell_far (p := ⟨gb408, _, none⟩) NB381_408.out _).trans (((cell_far (p := ⟨gb408, _, none⟩) NB381_408.out _).trans (hHeld.1)))), ((cell_far (p := ⟨gb408, _, none⟩) NB381_408.out _).trans (((cell_far (p := ⟨gb408, _, none⟩) NB381_408.out _).trans (hHeld.2.1)))), ((cell_far (p := ⟨gb408, _, none⟩) NB381_408.out _).trans (((cell_far (p := ⟨gb408, _, none⟩) NB381_408.out _).trans (hHeld.2.2.1)))), ((cell_far (p := ⟨gb408, _, none⟩) (by first | exact Kd.own_blk (Kd.N_away HO_5.out (fun _ hk => hk.2.2.2.2.2)) | (rw [add_block]; exact Kd.own_blk (Kd.N_away HO_5.out (fun _ hk => hk.2.2.2.2.2))) | (show (Addr.add _ _).block ≠ _; rw [add_block]; exact Kd.own_blk (Kd.N_away HO_5.out (fun _ hk => hk.2.2.2.2.2))) | (dsimp only; exact Kd.own_blk (Kd.N_away HO_5.out (fun _ hk => hk.2.2.2.2.2)))) _).trans (((cell_far (p := ⟨gb408, _, none⟩) (by first | exact Kd.own_blk (Kd.N_away HO_5.out (fun _ hk => hk.2.2.2.2.2)) | (rw [add_block]; exact Kd.own_blk (Kd.N_away HO_5.out (fun _ hk => hk.2.2.2.2.2))) | (show (Addr.add _ _).block ≠ _; rw [add_block]; exact Kd.own_blk (Kd.N_away HO_5.out (fun _ hk => hk.2.2.2.2.2))) | (dsimp only; exact Kd.own_blk (Kd.N_away HO_5.out (fun _ hk => hk.2.2.2.2.2)))) _).trans (hHeld.2.2.2))))⟩ (fun hHeld => ?_)
        clear hK K
        refine done_ (done_of HT_.out (by kernel_rfl)) ?_
        have hnb95 := NB408_379.out
        have hnc95 := NB379_408.out
        have hnb96 := NB408_381.out
        have hnc96 := NB381_408.out
        have hcz97_0 : w92.cell? ⟨gb408, 0, none⟩ = some (.int .i64 0) := (blk_cell BK408.out 0).trans rfl
        have hcz97_1 : w92.cell? ⟨gb408, 1, none⟩ = some (.int .i64 0) := (blk_cell BK408.out 1).trans rfl
        have hfz97_0 := blk_frozen BK408.out 0
        have hfz97_1 := blk_frozen BK408.out 1
        obtain ⟨Ao98, co98, eo98⟩ := Kd.R_slice HO_6.out
        subst eo98
        try go_wp2
        have n0_ : Aside0 (Kd.N (Kd.slice 5 (Kd.int .u8)) 22 ((w92.setCell ⟨gb408, 0, none⟩ (.int .i64 t406)).setCell ⟨gb408, 1, none⟩ (.int .i64 t407)) w.heap.size (fun k_ => (w.heap.size ≤ k_) ∧ some k_ ≠ (.slice Ao98 x6_1.length co98 : Value).ownBlock ∧ some k_ ≠ (v404 : Value).ownBlock ∧ k_ ≠ gb379 ∧ k_ ≠ gb381 ∧ k_ ≠ gb408) (.slice (some ad402) x5_1.length co89) x5_1) := ⟨by (with_reducible repeat (first | apply Kd.N_alloc | apply Kd.N_drewN | apply Kd.N_drew)); exact Kd.N_mono (Kd.N_far (p := ⟨gb408, 1, none⟩) (Kd.N_far (p := ⟨gb408, 0, none⟩) (Kd.N_mono HO_5.out (fun k_ hk => (⟨hk, hk.2.2.2.2.2⟩ : _ ∧ k_ ≠ gb408))) (fun _ hk => hk.2) (.int .i64 t406)) (fun _ hk => hk.2) (.int .i64 t407)) (fun _ hk => ⟨hk.1.1, ⟨hk.1.2.2.1, ⟨hk.1.2.1, ⟨hk.1.2.2.2.1, ⟨hk.1.2.2.2.2.1, hk.1.2.2.2.2.2⟩⟩⟩⟩⟩)⟩
        have n1_ : Aside0 (Kd.R (Kd.int .i64) 3 ((w92.setCell ⟨gb408, 0, none⟩ (.int .i64 t406)).setCell ⟨gb408, 1, none⟩ (.int .i64 t407)) w.heap.size (fun k_ => (w.heap.size ≤ k_)) (.slice Ao98 x6_1.length co98) x6_1) := ⟨by (with_reducible repeat (first | apply Kd.rA | apply Kd.rN | apply Kd.rD)); exact Kd.R_mono (Kd.R_far (p := ⟨gb408, 1, none⟩) (Kd.R_far (p := ⟨gb408, 0, none⟩) (Kd.R_types HO_6.out BK408.out (by decide)) (fun _ hk => hk.2) (.int .i64 t406)) (fun _ hk => hk.2) (.int .i64 t407)) (fun _ hk => hk.1)⟩
        have n2_ : Aside0 (Kd.V (Kd.int .u8) 5 ((w92.setCell ⟨gb408, 0, none⟩ (.int .i64 t406)).setCell ⟨gb408, 1, none⟩ (.int .i64 t407)) w.heap.size (fun k_ => (w.heap.size ≤ k_) ∧ some k_ ≠ (.slice (some ad402) x5_1.length co89 : Value).ownBlock ∧ some k_ ≠ (.slice Ao98 x6_1.length co98 : Value).ownBlock ∧ some k_ ≠ (v404 : Value).ownBlock ∧ k_ ≠ gb379 ∧ k_ ≠ gb381 ∧ k_ ≠ gb408) (.slice A402_0 (rd_L1 x5_1 ((rd_T45 l0 x17_1).f0)).length c402_0) (rd_L1 x5_1 ((rd_T45 l0 x17_1).f0))) := ⟨by (with_reducible repeat (first | apply Kd.V_alloc | apply Kd.V_drewN | apply Kd.V_drew)); exact Kd.V_mono (Kd.V_far (p := ⟨gb408, 1, none⟩) (Kd.V_far (p := ⟨gb408, 0, none⟩) (Kd.V_mono HL402_0.out (fun k_ hk => (⟨hk, hk.2.2.2.2.2.2⟩ : _ ∧ k_ ≠ gb408))) (fun _ hk => hk.2) (.int .i64 t406)) (fun _ hk => hk.2) (.int .i64 t407)) (fun _ hk => ⟨hk.1.1, ⟨hk.1.2.2.1, ⟨hk.1.2.2.2.1, ⟨hk.1.2.1, ⟨hk.1.2.2.2.2.1, ⟨hk.1.2.2.2.2.2.1, hk.1.2.2.2.2.2.2⟩⟩⟩⟩⟩⟩)⟩
        have n3_ : Aside0 (Kd.R (Kd.int .u8) 5 ((w92.setCell ⟨gb408, 0, none⟩ (.int .i64 t406)).setCell ⟨gb408, 1, none⟩ (.int .i64 t407)) w.heap.size (fun k_ => (w.heap.size ≤ k_)) v404 t403) := ⟨by (with_reducible repeat (first | apply Kd.rA | apply Kd.rN | apply Kd.rD)); exact Kd.R_mono (Kd.R_far (p := ⟨gb408, 1, none⟩) (Kd.R_far (p := ⟨gb408, 0, none⟩) (Kd.R_types HO405.out BK408.out (by decide)) (fun _ hk => hk.2) (.int .i64 t406)) (fun _ hk => hk.2) (.int .i64 t407)) (fun _ hk => hk.1)⟩
        have n4_ : Aside0 (((w92.setCell ⟨gb408, 0, none⟩ (.int .i64 t406)).setCell ⟨gb408, 1, none⟩ (.int .i64 t407)).heap[gb379]? = some (.cells #[.int .i64 x380000_1, .int .i64 x380001_1] 26 (0, 0))) := ⟨by (with_reducible repeat (first | refine bN ?_ _ | refine bD ?_ | refine bA ?_ _)); refine blk_far ?_ NB379_408.out _; (with_reducible repeat (first | refine bN ?_ _ | refine bD ?_ | refine bA ?_ _)); refine blk_far ?_ NB379_408.out _; (with_reducible repeat (first | refine bN ?_ _ | refine bD ?_ | refine bA ?_ _)); exact BK379.out⟩
        have n5_ : Aside0 (((w92.setCell ⟨gb408, 0, none⟩ (.int .i64 t406)).setCell ⟨gb408, 1, none⟩ (.int .i64 t407)).heap[gb381]? = some (.cells #[.int .i64 ((rd_T45 l0 x17_1).f0), .slice A380_1 ((rd_T45 l0 x17_1).f1).length c380_1, .slice A380_2 ((rd_T45 l0 x17_1).f2).length c380_2] 45 (0, 0))) := ⟨by (with_reducible repeat (first | refine bN ?_ _ | refine bD ?_ | refine bA ?_ _)); refine blk_far ?_ NB381_408.out _; (with_reducible repeat (first | refine bN ?_ _ | refine bD ?_ | refine bA ?_ _)); refine blk_far ?_ NB381_408.out _; (with_reducible repeat (first | refine bN ?_ _ | refine bD ?_ | refine bA ?_ _)); exact BK381.out⟩
        have n6_ : Aside0 (((w92.setCell ⟨gb408, 0, none⟩ (.int .i64 t406)).setCell ⟨gb408, 1, none⟩ (.int .i64 t407)).heap[gb408]? = some (.cells #[.int .i64 t406, .int .i64 t407] 26 (0, 0))) := ⟨by (with_reducible repeat (first | refine bN ?_ _ | refine bD ?_ | refine bA ?_ _)); refine blk_put (cs := #[.int .i64 t406, .int .i64 0]) ?_ 1 _ rfl; (with_reducible repeat (first | refine bN ?_ _ | refine bD ?_ | refine bA ?_ _)); refine blk_put (cs := #[.int .i64 0, .int .i64 0]) ?_ 0 _ rfl; (with_reducible repeat (first | refine bN ?_ _ | refine bD ?_ | refine bA ?_ _)); exact BK408.out⟩
        have n7_ : Aside0 (Below w.heap.size w ((w92.setCell ⟨gb408, 0, none⟩ (.int .i64 t406)).setCell ⟨gb408, 1, none⟩ (.int .i64 t407))) := ⟨by repeat (first | (with_reducible first | exact HB.out | apply lA | apply lN | apply lD | refine lS ?_ GE379.out | refine lS ?_ GE381.out | refine lS ?_ GE408.out) | exact HB.out)⟩
        (try clear HO_5)
        (try clear HO_6)
        (try clear HL402_0)
        (try clear HO405)
        (try clear BK379)
        (try clear BK381)
        (try clear BK408)
        (try clear HB)
        generalize ((w92.setCell ⟨gb408, 0, none⟩ (.int .i64 t406)).setCell ⟨gb408, 1, none⟩ (.int .i64 t407)) = w99 at n0_ n1_ n2_ n3_ n4_ n5_ n6_ n7_ ⊢
        have HO_5 := n0_
        have HO_6 := n1_
        have HL402_0 := n2_
        have HO405 := n3_
        have BK379 := n4_
        have BK381 := n5_
        have BK408 := n6_
        have HB := n7_
        clear n0_ n1_ n2_ n3_ n4_ n5_ n6_ n7_
        have n0_ := aZ (Kd.N_drew HO_5.out)
        have n1_ := aZ (Kd.rD HO_6.out)
        have n2_ := aZ (Kd.V_drew HL402_0.out)
        have n3_ := aZ (Kd.rD HO405.out)
        have n4_ := aZ (bD BK379.out)
        have n5_ := aZ (bD BK381.out)
        have n6_ := aZ (bD BK408.out)
        have n7_ := aZ (lD HB.out)
        clear HO_5
        clear HO_6
        clear HL402_0
        clear HO405
        clear BK379
        clear BK381
        clear BK408
        clear HB
        have HO_5 := n0_
        have HO_6 := n1_
        have HL402_0 := n2_
        have HO405 := n3_
        have BK379 := n4_
        have BK381 := n5_
        have BK408 := n6_
        have HB := n7_
        clear n0_ n1_ n2_ n3_ n4_ n5_ n6_ n7_
        have p415 : 0 ≤ (((rd_T45 l0 x17_1).f0) : Int) := of_decide_eq_true (by first | (with_reducible assumption) | assumption)
        have q415 : ((rd_T45 l0 x17_1).f0) < (x6_1.length : Int) := of_decide_eq_true (by first | (with_reducible assumption) | assumption)
        obtain ⟨ad415, e415, hx415_0⟩ := Kd.at_int (Kd.R_reads' HO_6.out).2.2 ((rd_T45 l0 x17_1).f0) p415 q415
        cases e415
        replace p415 := eq_true p415
        replace q415 := eq_true q415
        obtain ⟨Ao101, co101, eo101⟩ := Kd.R_slice HO405.out
        (first | subst eo101 | (injection eo101 with f1_ f2_ f3_; have f4_ := f1_.symm; have f5_ := f3_.symm; clear f1_ f2_ f3_; subst f4_; subst f5_))
        refine start_ (n := 15) (S := fun w' => w'.cell? ⟨gb381, 0, none⟩ = some (.int .i64 ((rd_T45 l0 x17_1).f0)) ∧ w'.cell? ⟨gb381, 1, none⟩ = some (.slice A380_1 ((rd_T45 l0 x17_1).f1).length c380_1) ∧ w'.cell? ⟨gb381, 2, none⟩ = some (.slice A380_2 ((rd_T45 l0 x17_1).f2).length c380_2) ∧ w'.cell? (ad415.add (((rd_T45 l0 x17_1).f0)).toNat) = some (.int .i64 (rd x6_1 ((rd_T45 l0 x17_1).f0)))) (ds := []) Z20 (by kernel_rfl) rfl rfl ⟨(blk_cell BK381.out 0).trans rfl, (blk_cell BK381.out 1).trans rfl, (blk_cell BK381.out 2).trans rfl, hx415_0⟩ (fun hHeld => ?_); refine with_tabW deltachain_unpack.tab19 deltachain_unpack.bits19 (fun HT_ HW_ => ?_)
        generalize w99.drew = w100 at HO_5 HO_6 HL402_0 HO405 BK379 BK381 BK408 HB hx415_0 hHeld ⊢
        refine pu 0 96 Z21 HT_ rfl rfl (h := ?_)
        refine pu 1 97 Z22 HT_ rfl rfl (h := ?_)
        refine pu 4 100 Z23 HT_ rfl rfl (h := ?_)
        refine pu 5 101 Z24 HT_ rfl rfl (h := ?_)
        refine pu 6 102 Z25 HT_ rfl rfl (h := ?_)
        refine tk 7 103 Z26 HT_ HW_ rfl rfl hHeld (by rintro w' ⟨s0, s1, s2, s3⟩; go_simp; with_reducible rfl) (h := ?_)
        refine pu 8 104 Z27 HT_ rfl rfl (h := ?_)
        refine tk 9 105 Z28 HT_ HW_ rfl rfl hHeld (by rintro w' ⟨s0, s1, s2, s3⟩; go_simp; with_reducible rfl) (h := ?_)
        refine pu 10 106 Z29 HT_ rfl rfl (h := ?_)
        refine join_ (σ := Value × Value × Value) 3 Z30 (fun s_ => [(98, s_.1), (99, s_.2.1), (107, s_.2.2)]) (fun s_ w' => (w'.cell? ⟨gb381, 0, none⟩ = some (.int .i64 ((rd_T45 l0 x17_1).f0)) ∧ w'.cell? ⟨gb381, 1, none⟩ = some (.slice A380_1 ((rd_T45 l0 x17_1).f1).length c380_1) ∧ w'.cell? ⟨gb381, 2, none⟩ = some (.slice A380_2 ((rd_T45 l0 x17_1).f2).length c380_2) ∧ w'.cell? (ad415.add (((rd_T45 l0 x17_1).f0)).toNat) = some (.int .i64 (rd x6_1 ((rd_T45 l0 x17_1).f0)))) ∧ (Kd.V (Kd.int .u8) 5 w' w.heap.size (fun k_ => (w.heap.size ≤ k_) ∧ some k_ ≠ (s_.1 : Value).ownBlock ∧ some k_ ≠ (s_.2.1 : Value).ownBlock ∧ some k_ ≠ (s_.2.2 : Value).ownBlock ∧ some k_ ≠ (.slice (some ad415) x6_1.length co98 : Value).ownBlock ∧ k_ ≠ gb379 ∧ k_ ≠ gb381 ∧ k_ ≠ gb408) (.slice A402_0 (rd_L1 x5_1 ((rd_T45 l0 x17_1).f0)).length c402_0) (rd_L1 x5_1 ((rd_T45 l0 x17_1).f0))) ∧ (Kd.N (Kd.slice 5 (Kd.int .u8)) 22 w' w.heap.size (fun k_ => (w.heap.size ≤ k_) ∧ some k_ ≠ (s_.2.1 : Value).ownBlock ∧ some k_ ≠ (s_.2.2 : Value).ownBlock ∧ some k_ ≠ (.slice (some ad415) x6_1.length co98 : Value).ownBlock ∧ k_ ≠ gb379 ∧ k_ ≠ gb381 ∧ k_ ≠ gb408) s_.1 y409) ∧ (Kd.N (Kd.slice 5 (Kd.int .u8)) 22 w' w.heap.size (fun k_ => (w.heap.size ≤ k_) ∧ some k_ ≠ (s_.2.2 : Value).ownBlock ∧ some k_ ≠ (.slice (some ad415) x6_1.length co98 : Value).ownBlock ∧ k_ ≠ gb379 ∧ k_ ≠ gb381 ∧ k_ ≠ gb408) s_.2.1 y412) ∧ (Kd.R (Kd.int .i64) 3 w' w.heap.size (fun k_ => (w.heap.size ≤ k_) ∧ some k_ ≠ (.slice (some ad415) x6_1.length co98 : Value).ownBlock) s_.2.2 y416) ∧ (Kd.R (Kd.int .i64) 3 w' w.heap.size (fun k_ => (w.heap.size ≤ k_) ∧ some k_ ≠ (s_.2.2 : Value).ownBlock) (.slice (some ad415) x6_1.length co98) x6_1) ∧ (w'.heap[gb379]? = some (.cells #[.int .i64 x380000_1, .int .i64 x380001_1] 26 (0, 0))) ∧ (w'.heap[gb381]? = some (.cells #[.int .i64 ((rd_T45 l0 x17_1).f0), .slice A380_1 ((rd_T45 l0 x17_1).f1).length c380_1, .slice A380_2 ((rd_T45 l0 x17_1).f2).length c380_2] 45 (0, 0))) ∧ (w'.heap[gb408]? = some (.cells #[.int .i64 t406, .int .i64 t407] 26 (0, 0))) ∧ (Below w.heap.size w w')) ?_ ?_
        rotate_left
        · intro hCont
          refine two_ (i := 2) (j := 11) (Ni := some 98) (Nj := some 107) Z31 Z32 rfl rfl rfl rfl (two_of HT_.out (by kernel_rfl)) (by decide) (by decide) (fun K hK => ?_) (fun K hK => ?_)
          · skip
            refine Kd.N_lit_step (Kd.slice 5 (Kd.int .u8)) _ 22 ?hg (N' := 98) ?hd (xs := ([t403] : List (List Int))) (inner := [.slice Ao101 t403.length co101]) (ok := (fun k_ => (w.heap.size ≤ k_) ∧ some k_ ≠ (.slice (some ad402) x5_1.length co89 : Value).ownBlock ∧ some k_ ≠ (.slice (some ad415) x6_1.length co98 : Value).ownBlock ∧ k_ ≠ gb379 ∧ k_ ≠ gb381 ∧ k_ ≠ gb408)) (okp := (fun k_ => (w.heap.size ≤ k_) ∧ some k_ ≠ (.slice (some ad402) x5_1.length co89 : Value).ownBlock ∧ some k_ ≠ (.slice (some ad415) x6_1.length co98 : Value).ownBlock ∧ k_ ≠ gb379 ∧ k_ ≠ gb381 ∧ k_ ≠ gb408)) ?hr ?hp (fun _ hk => hk) ((show ∀ k_, w100.heap.size ≤ k_ → (fun k_ => (w.heap.size ≤ k_) ∧ some k_ ≠ (.slice (some ad402) x5_1.length co89 : Value).ownBlock ∧ some k_ ≠ (.slice (some ad415) x6_1.length co98 : Value).ownBlock ∧ k_ ≠ gb379 ∧ k_ ≠ gb381 ∧ k_ ≠ gb408) k_ from fun k_ hk => ⟨(Nat.le_trans (lZ (by repeat (first | (with_reducible first | exact HB.out | apply lA | apply lN | apply lD | refine lS ?_ GE379.out | refine lS ?_ GE381.out | refine lS ?_ GE408.out) | exact HB.out))) hk), Kd.fresh' (Kd.N_lt (by (with_reducible repeat (first | apply Kd.N_alloc | apply Kd.N_drewN | apply Kd.N_drew)); exact HO_5.out)) k_ hk, Kd.fresh' (Kd.R_lt (by (with_reducible repeat (first | apply Kd.rA | apply Kd.rN | apply Kd.rD)); exact HO_6.out)) k_ hk, Kd.freshB (g := gb379) (o := .cells #[.int .i64 x380000_1, .int .i64 x380001_1] 26 (0, 0)) (by (with_reducible repeat (first | refine bN ?_ _ | refine bD ?_ | refine bA ?_ _)); exact BK379.out) k_ hk, Kd.freshB (g := gb381) (o := .cells #[.int .i64 ((rd_T45 l0 x17_1).f0), .slice A380_1 ((rd_T45 l0 x17_1).f1).length c380_1, .slice A380_2 ((rd_T45 l0 x17_1).f2).length c380_2] 45 (0, 0)) (by (with_reducible repeat (first | refine bN ?_ _ | refine bD ?_ | refine bA ?_ _)); exact BK381.out) k_ hk, Kd.freshB (g := gb408) (o := .cells #[.int .i64 t406, .int .i64 t407] 26 (0, 0)) (by (with_reducible repeat (first | refine bN ?_ _ | refine bD ?_ | refine bA ?_ _)); exact BK408.out) k_ hk⟩) _ (Nat.le_refl _)) (Below.refl _ _) (Nat.le_refl _) (by simp) ?_; (case hd => rfl); (case hg => rfl); (case hr => first | (go_simp; done) | (go_simp; rfl)); (case hp => exact (Reps.one (show Kd.FK (Kd.slice 5 (Kd.int .u8)) _ _ t403 [.slice Ao101 t403.length co101] from (Kd.FK_slice_mk (Kd.R_reads' (Kd.R_mono (ok' := (fun k_ => (w.heap.size ≤ k_) ∧ some k_ ≠ (.slice (some ad402) x5_1.length co89 : Value).ownBlock ∧ some k_ ≠ (.slice (some ad415) x6_1.length co98 : Value).ownBlock ∧ k_ ≠ gb379 ∧ k_ ≠ gb381 ∧ k_ ≠ gb408)) (Kd.R_types (Kd.R_types (Kd.R_types (Kd.R_apart' (Kd.R_apart' (HO405.out) (Kd.N_typed HO_5.out) (by decide)) (Kd.R_typed HO_6.out) (by decide)) BK379.out (by decide)) BK381.out (by decide)) BK408.out (by decide)) (fun k_ hk => ⟨hk.1.1.1.1.1, ⟨hk.1.1.1.1.2, ⟨hk.1.1.1.2, ⟨hk.1.1.2, ⟨hk.1.2, hk.2⟩⟩⟩⟩⟩))).2.1 (Kd.R_F (Kd.R_mono (ok' := (fun k_ => (w.heap.size ≤ k_) ∧ some k_ ≠ (.slice (some ad402) x5_1.length co89 : Value).ownBlock ∧ some k_ ≠ (.slice (some ad415) x6_1.length co98 : Value).ownBlock ∧ k_ ≠ gb379 ∧ k_ ≠ gb381 ∧ k_ ≠ gb408)) (Kd.R_types (Kd.R_types (Kd.R_types (Kd.R_apart' (Kd.R_apart' (HO405.out) (Kd.N_typed HO_5.out) (by decide)) (Kd.R_typed HO_6.out) (by decide)) BK379.out (by decide)) BK381.out (by decide)) BK408.out (by decide)) (fun k_ hk => ⟨hk.1.1.1.1.1, ⟨hk.1.1.1.1.2, ⟨hk.1.1.1.2, ⟨hk.1.1.2, ⟨hk.1.2, hk.2⟩⟩⟩⟩⟩))))) (Reps.none _ _)))
            intro v410 w102 ho103 hb hg_ hnew_
            have HS3_ := (hb.cell (World.block_lt_of_cell? _ _ (hHeld.2.2.2))).trans (hHeld.2.2.2)
            clear hg_ hnew_
            (first | rw [← Ny409.out] at ho103 | (simp only [Int.reduceToNat] at ho103; rw [← Ny409.out] at ho103))
            have n0_ := aZ (Kd.N_elder' (by (with_reducible repeat (first | apply Kd.N_alloc | apply Kd.N_drewN | apply Kd.N_drew)); exact HO_5.out) (Kd.N_base ho103) hb)
            have n1_ := aZ (Kd.R_below (by (with_reducible repeat (first | apply Kd.rA | apply Kd.rN | apply Kd.rD)); exact HO_6.out) hb)
            have n2_ := aZ (Kd.V_elder' (by (with_reducible repeat (first | apply Kd.V_alloc | apply Kd.V_drewN | apply Kd.V_drew)); exact HL402_0.out) (Kd.N_base ho103) hb)
            have n3_ := aZ (Kd.N_lower ho103 (lZ (by repeat (first | (with_reducible first | exact HB.out | apply lA | apply lN | apply lD | refine lS ?_ GE379.out | refine lS ?_ GE381.out | refine lS ?_ GE408.out) | exact HB.out))))
            have n4_ := aZ (blk_below (g := gb379) (o := .cells #[.int .i64 x380000_1, .int .i64 x380001_1] 26 (0, 0)) (by (with_reducible repeat (first | refine bN ?_ _ | refine bD ?_ | refine bA ?_ _)); exact BK379.out) hb)
            have n5_ := aZ (blk_below (g := gb381) (o := .cells #[.int .i64 ((rd_T45 l0 x17_1).f0), .slice A380_1 ((rd_T45 l0 x17_1).f1).length c380_1, .slice A380_2 ((rd_T45 l0 x17_1).f2).length c380_2] 45 (0, 0)) (by (with_reducible repeat (first | refine bN ?_ _ | refine bD ?_ | refine bA ?_ _)); exact BK381.out) hb)
            have n6_ := aZ (blk_below (g := gb408) (o := .cells #[.int .i64 t406, .int .i64 t407] 26 (0, 0)) (by (with_reducible repeat (first | refine bN ?_ _ | refine bD ?_ | refine bA ?_ _)); exact BK408.out) hb)
            have n7_ := aZ (lT (by repeat (first | (with_reducible first | exact HB.out | apply lA | apply lN | apply lD | refine lS ?_ GE379.out | refine lS ?_ GE381.out | refine lS ?_ GE408.out) | exact HB.out)) hb)
            clear HO_5
            clear HO_6
            clear HL402_0
            clear BK379
            clear BK381
            clear BK408
            clear HB
            clear HO405
            have HO_5 := n0_
            have HO_6 := n1_
            have HL402_0 := n2_
            have HO411 := n3_
            have BK379 := n4_
            have BK381 := n5_
            have BK408 := n6_
            have HB := n7_
            clear n0_ n1_ n2_ n3_ n4_ n5_ n6_ n7_
            clear hb ho103
            obtain ⟨Ao105, co105, eo105⟩ := Kd.N_slice HO411.out
            (first | subst eo105 | (injection eo105 with f1_ f2_ f3_; have f4_ := f1_.symm; have f5_ := f3_.symm; clear f1_ f2_ f3_; subst f4_; subst f5_))
            refine hK.out _ _ ⟨(blk_cell BK381.out 0).trans rfl, (blk_cell BK381.out 1).trans rfl, (blk_cell BK381.out 2).trans rfl, HS3_⟩ (fun hHeld => ?_)
            clear hK K
            refine norm_ (a' := ?_) ?_ ?_
            rotate_left
            · show Act.put _ (some 98) _ = _
              simp only [Act.put, List.setIfInBounds_toArray, List.set_cons_zero, List.set_cons_succ, i64_w, i32_w]
              rfl
            refine two_ (i := 3) (j := 11) (Ni := some 99) (Nj := some 107) Z33 Z34 rfl rfl rfl rfl (two_of HT_.out (by kernel_rfl)) (by decide) (by decide) (fun K hK => ?_) (fun K hK => ?_)
            · skip
              refine Kd.N_append_rows_step (Kd.slice 5 (Kd.int .u8)) (w0 := w) w.heap.size (by rfl) (.tmp 96) (.tmp 98) 39 22 (.slice none 0 0) 24 rfl Try.underlying39 info22 rfl (by decide) (by omega) (.slice (some ad402) x5_1.length co89) x5_1 y409 _ _ _ (fun k_ => (w.heap.size ≤ k_) ∧ some k_ ≠ (.slice (some ad415) x6_1.length co98 : Value).ownBlock ∧ k_ ≠ gb379 ∧ k_ ≠ gb381 ∧ k_ ≠ gb408) (fun k_ => ((fun k_ => (w.heap.size ≤ k_) ∧ some k_ ≠ (.slice (some ad415) x6_1.length co98 : Value).ownBlock ∧ k_ ≠ gb379 ∧ k_ ≠ gb381 ∧ k_ ≠ gb408)) k_ ∧ some k_ ≠ (.slice (some ad402) x5_1.length co89 : Value).ownBlock) rfl rfl ?aO ?aR (fun _ hk => hk) ?aF ?aB ?aS ?aL ?_
              (case aR => exact (by skip; exact Kd.N_F (Kd.N_mono (ok' := (fun k_ => ((fun k_ => (w.heap.size ≤ k_) ∧ some k_ ≠ (.slice (some ad415) x6_1.length co98 : Value).ownBlock ∧ k_ ≠ gb379 ∧ k_ ≠ gb381 ∧ k_ ≠ gb408)) k_ ∧ some k_ ≠ (.slice (some ad402) x5_1.length co89 : Value).ownBlock)) (HO411.out) (fun k_ hk => ⟨⟨hk.1, ⟨hk.2.2.1, ⟨hk.2.2.2.1, ⟨hk.2.2.2.2.1, hk.2.2.2.2.2⟩⟩⟩⟩, hk.2.1⟩))))
              (case aB => exact (by repeat (first | (with_reducible first | exact HB.out | apply lA | apply lN | apply lD | refine lS ?_ GE379.out | refine lS ?_ GE381.out | refine lS ?_ GE408.out) | exact HB.out)))
              (case aF => exact (fun k_ hk => ⟨(Nat.le_trans (lZ (by repeat (first | (with_reducible first | exact HB.out | apply lA | apply lN | apply lD | refine lS ?_ GE379.out | refine lS ?_ GE381.out | refine lS ?_ GE408.out) | exact HB.out))) hk), Kd.fresh' (Kd.R_lt (by (with_reducible repeat (first | apply Kd.rA | apply Kd.rN | apply Kd.rD)); exact HO_6.out)) k_ hk, Kd.freshB (g := gb379) (o := .cells #[.int .i64 x380000_1, .int .i64 x380001_1] 26 (0, 0)) (by (with_reducible repeat (first | refine bN ?_ _ | refine bD ?_ | refine bA ?_ _)); exact BK379.out) k_ hk, Kd.freshB (g := gb381) (o := .cells #[.int .i64 ((rd_T45 l0 x17_1).f0), .slice A380_1 ((rd_T45 l0 x17_1).f1).length c380_1, .slice A380_2 ((rd_T45 l0 x17_1).f2).length c380_2] 45 (0, 0)) (by (with_reducible repeat (first | refine bN ?_ _ | refine bD ?_ | refine bA ?_ _)); exact BK381.out) k_ hk, Kd.freshB (g := gb408) (o := .cells #[.int .i64 t406, .int .i64 t407] 26 (0, 0)) (by (with_reducible repeat (first | refine bN ?_ _ | refine bD ?_ | refine bA ?_ _)); exact BK408.out) k_ hk⟩))
              (case aO => exact (by (with_reducible repeat (first | apply Kd.N_alloc | apply Kd.N_drewN | apply Kd.N_drew)); exact Kd.N_mono HO_5.out (fun _ hk => ⟨hk.1.1, ⟨hk.1.2.1, ⟨hk.1.2.2.2.1, ⟨hk.1.2.2.2.2.1, hk.1.2.2.2.2.2⟩⟩⟩⟩)))
              (case aS => exact (lZ (by repeat (first | (with_reducible first | exact HB.out | apply lA | apply lN | apply lD | refine lS ?_ GE379.out | refine lS ?_ GE381.out | refine lS ?_ GE408.out) | exact HB.out))))
              (case aL => have := LMc81.out; omega)
              intro v413 w104 ho hb hg hat
              rw [← Ny412.out] at ho
              have n0_ := aZ (Kd.R_over' (by (with_reducible repeat (first | apply Kd.rA | apply Kd.rN | apply Kd.rD)); exact HO_6.out) (Kd.N_typed (by (with_reducible repeat (first | apply Kd.N_alloc | apply Kd.N_drewN | apply Kd.N_drew)); exact HO_5.out)) (by decide) hg)
              have n1_ := aZ (blk_grown (g := gb379) (o := .cells #[.int .i64 x380000_1, .int .i64 x380001_1] 26 (0, 0)) (by (with_reducible repeat (first | refine bN ?_ _ | refine bD ?_ | refine bA ?_ _)); exact BK379.out) hg (Kd.N_ne HO_5.out BK379.out (by decide)))
              have n2_ := aZ (blk_grown (g := gb381) (o := .cells #[.int .i64 ((rd_T45 l0 x17_1).f0), .slice A380_1 ((rd_T45 l0 x17_1).f1).length c380_1, .slice A380_2 ((rd_T45 l0 x17_1).f2).length c380_2] 45 (0, 0)) (by (with_reducible repeat (first | refine bN ?_ _ | refine bD ?_ | refine bA ?_ _)); exact BK381.out) hg (Kd.N_ne HO_5.out BK381.out (by decide)))
              have n3_ := aZ (Kd.V_afterv (ok := (fun k_ => (w.heap.size ≤ k_) ∧ some k_ ≠ (.slice (some ad415) x6_1.length co98 : Value).ownBlock ∧ some k_ ≠ (.slice Ao105 y409.length co105 : Value).ownBlock ∧ k_ ≠ gb379 ∧ k_ ≠ gb381 ∧ k_ ≠ gb408)) (by (with_reducible repeat (first | apply Kd.V_alloc | apply Kd.V_drewN | apply Kd.V_drew)); exact Kd.V_mono HL402_0.out (fun _ hk => ⟨⟨hk.1.1, ⟨hk.1.2.2.1, ⟨hk.2, ⟨hk.1.2.2.2.2.1, ⟨hk.1.2.2.2.2.2.1, hk.1.2.2.2.2.2.2⟩⟩⟩⟩⟩, hk.1.2.1⟩)) hg hat)
              have n4_ := aZ (blk_grown (g := gb408) (o := .cells #[.int .i64 t406, .int .i64 t407] 26 (0, 0)) (by (with_reducible repeat (first | refine bN ?_ _ | refine bD ?_ | refine bA ?_ _)); exact BK408.out) hg (Kd.N_ne HO_5.out BK408.out (by decide)))
              have n5_ := aZ (Kd.N_afterv (ok := (fun k_ => (w.heap.size ≤ k_) ∧ some k_ ≠ (.slice (some ad415) x6_1.length co98 : Value).ownBlock ∧ k_ ≠ gb379 ∧ k_ ≠ gb381 ∧ k_ ≠ gb408)) (by (with_reducible repeat (first | apply Kd.N_alloc | apply Kd.N_drewN | apply Kd.N_drew)); exact Kd.N_mono HO411.out (fun _ hk => ⟨⟨hk.1, ⟨hk.2.2.1, ⟨hk.2.2.2.1, ⟨hk.2.2.2.2.1, hk.2.2.2.2.2⟩⟩⟩⟩, hk.2.1⟩)) hg hat)
              have n6_ := aZ (hb)
              have n7_ := aZ (ho)
              clear HO_6
              clear BK379
              clear BK381
              clear HL402_0
              clear BK408
              clear HO411
              clear HB
              clear HO_5
              have HO_6 := n0_
              have BK379 := n1_
              have BK381 := n2_
              have HL402_0 := n3_
              have BK408 := n4_
              have HO411 := n5_
              have HB := n6_
              have HO414 := n7_
              clear n0_ n1_ n2_ n3_ n4_ n5_ n6_ n7_
              clear ho hb hg hat
              obtain ⟨adq_, eq_, HS3_⟩ := Kd.at_int (Kd.R_reads' HO_6.out).2.2 (((rd_T45 l0 x17_1).f0)) (of_eq_true p415) (of_eq_true q415); cases eq_
              refine hK.out _ _ ⟨(blk_cell BK381.out 0).trans rfl, (blk_cell BK381.out 1).trans rfl, (blk_cell BK381.out 2).trans rfl, HS3_⟩ (fun hHeld => ?_)
              clear hK K
              refine norm_ (a' := ?_) ?_ ?_
              rotate_left
              · show Act.put _ (some 99) _ = _
                simp only [Act.put, List.setIfInBounds_toArray, List.set_cons_zero, List.set_cons_succ, i64_w, i32_w]
                rfl
              refine one_ (i := 11) (N := some 107) Z30 rfl rfl (one_of HT_.out (by kernel_rfl)) (by decide) (fun K hK => ?_)
              refine Kd.R_lit_step (Kd.int .i64) _ 3 ?hg (N := 107) ?hd (xs := ([wrap64 ((rd x6_1 ((rd_T45 l0 x17_1).f0)) + 1)] : List Int)) (inner := [.int .i64 (wrap64 ((rd x6_1 ((rd_T45 l0 x17_1).f0)) + 1))]) (ok := fun _ => True) (okp := fun _ => True) ?hr ?hp (fun _ hk => hk) trivial (Below.refl _ _) (Nat.le_refl _) (by simp) ?_; (case hd => rfl); (case hg => rfl); (case hr => first | (go_simp; done) | (go_simp; rfl)); (case hp => exact (Reps.one (show Kd.M (Kd.int .i64) _ _ _ (wrap64 ((rd x6_1 ((rd_T45 l0 x17_1).f0)) + 1)) [.int .i64 (wrap64 ((rd x6_1 ((rd_T45 l0 x17_1).f0)) + 1))] from rfl) (Reps.none _ _)))
              intro v417 w106 ho107 hb hg_ hnew_
              have HS3_ := (hb.cell (World.block_lt_of_cell? _ _ (hHeld.2.2.2))).trans (hHeld.2.2.2)
              clear hg_ hnew_
              (first | rw [← Ny416.out] at ho107 | (simp only [Int.reduceToNat] at ho107; rw [← Ny416.out] at ho107))
              have n0_ := aZ (Kd.R_elder' (by (with_reducible repeat (first | apply Kd.rA | apply Kd.rN | apply Kd.rD)); exact HO_6.out) (Kd.R_base ho107) hb)
              have n1_ := aZ (Kd.V_elder' (by (with_reducible repeat (first | apply Kd.V_alloc | apply Kd.V_drewN | apply Kd.V_drew)); exact HL402_0.out) (Kd.R_base ho107) hb)
              have n2_ := aZ (Kd.N_elder' (by (with_reducible repeat (first | apply Kd.N_alloc | apply Kd.N_drewN | apply Kd.N_drew)); exact HO411.out) (Kd.R_base ho107) hb)
              have n3_ := aZ (Kd.N_elder' (by (with_reducible repeat (first | apply Kd.N_alloc | apply Kd.N_drewN | apply Kd.N_drew)); exact HO414.out) (Kd.R_base ho107) hb)
              have n4_ := aZ (Kd.R_lower (Kd.R_new' (Kd.R_newM (M := fun k_ => (w.heap.size ≤ k_)) ho107 (lZ (by repeat (first | (with_reducible first | exact HB.out | apply lA | apply lN | apply lD | refine lS ?_ GE379.out | refine lS ?_ GE381.out | refine lS ?_ GE408.out) | exact HB.out))) (fun k_ h_ => h_)) (Kd.R_lt (by (with_reducible repeat (first | apply Kd.rA | apply Kd.rN | apply Kd.rD)); exact HO_6.out))) (lZ (by repeat (first | (with_reducible first | exact HB.out | apply lA | apply lN | apply lD | refine lS ?_ GE379.out | refine lS ?_ GE381.out | refine lS ?_ GE408.out) | exact HB.out))))
              have n5_ := aZ (blk_below (g := gb379) (o := .cells #[.int .i64 x380000_1, .int .i64 x380001_1] 26 (0, 0)) (by (with_reducible repeat (first | refine bN ?_ _ | refine bD ?_ | refine bA ?_ _)); exact BK379.out) hb)
              have n6_ := aZ (blk_below (g := gb381) (o := .cells #[.int .i64 ((rd_T45 l0 x17_1).f0), .slice A380_1 ((rd_T45 l0 x17_1).f1).length c380_1, .slice A380_2 ((rd_T45 l0 x17_1).f2).length c380_2] 45 (0, 0)) (by (with_reducible repeat (first | refine bN ?_ _ | refine bD ?_ | refine bA ?_ _)); exact BK381.out) hb)
              have n7_ := aZ (blk_below (g := gb408) (o := .cells #[.int .i64 t406, .int .i64 t407] 26 (0, 0)) (by (with_reducible repeat (first | refine bN ?_ _ | refine bD ?_ | refine bA ?_ _)); exact BK408.out) hb)
              have n8_ := aZ (lT (by repeat (first | (with_reducible first | exact HB.out | apply lA | apply lN | apply lD | refine lS ?_ GE379.out | refine lS ?_ GE381.out | refine lS ?_ GE408.out) | exact HB.out)) hb)
              clear HO_6
              clear HL402_0
              clear HO411
              clear HO414
              clear BK379
              clear BK381
              clear BK408
              clear HB
              have HO_6 := n0_
              have HL402_0 := n1_
              have HO411 := n2_
              have HO414 := n3_
              have HO418 := n4_
              have BK379 := n5_
              have BK381 := n6_
              have BK408 := n7_
              have HB := n8_
              clear n0_ n1_ n2_ n3_ n4_ n5_ n6_ n7_ n8_
              clear hb ho107
              refine hK.out _ _ ⟨(blk_cell BK381.out 0).trans rfl, (blk_cell BK381.out 1).trans rfl, (blk_cell BK381.out 2).trans rfl, HS3_⟩ (fun hHeld => ?_)
              clear hK K
              refine norm_ (a' := ?_) ?_ ?_
              rotate_left
              · show Act.put _ (some 107) _ = _
                simp only [Act.put, List.setIfInBounds_toArray, List.set_cons_zero, List.set_cons_succ, i64_w, i32_w]
                rfl
              exact norm_ (by simp only [putAll, Act.put, List.setIfInBounds_toArray, List.set_cons_zero, List.set_cons_succ]) (hCont (.slice Ao105 y409.length co105, v413, v417) _ ⟨hHeld, (by (with_reducible repeat (first | apply Kd.V_alloc | apply Kd.V_drewN | apply Kd.V_drew)); exact Kd.V_mono HL402_0.out (fun _ hk => ⟨hk.1.1.1, ⟨hk.1.1.2.2.1, ⟨hk.1.2, ⟨hk.2, ⟨hk.1.1.2.1, ⟨hk.1.1.2.2.2.1, ⟨hk.1.1.2.2.2.2.1, hk.1.1.2.2.2.2.2⟩⟩⟩⟩⟩⟩⟩)), (by (with_reducible repeat (first | apply Kd.N_alloc | apply Kd.N_drewN | apply Kd.N_drew)); exact Kd.N_mono HO411.out (fun _ hk => ⟨hk.1.1.1, ⟨hk.1.2, ⟨hk.2, ⟨hk.1.1.2.1, ⟨hk.1.1.2.2.1, ⟨hk.1.1.2.2.2.1, hk.1.1.2.2.2.2⟩⟩⟩⟩⟩⟩)), (by (with_reducible repeat (first | apply Kd.N_alloc | apply Kd.N_drewN | apply Kd.N_drew)); exact Kd.N_mono HO414.out (fun _ hk => ⟨hk.1.1, ⟨hk.2, ⟨hk.1.2.1, ⟨hk.1.2.2.1, ⟨hk.1.2.2.2.1, hk.1.2.2.2.2⟩⟩⟩⟩⟩)), (by (with_reducible repeat (first | apply Kd.rA | apply Kd.rN | apply Kd.rD)); exact Kd.R_mono HO418.out (fun _ hk => ⟨hk.1.1, hk.2⟩)), (by (with_reducible repeat (first | apply Kd.rA | apply Kd.rN | apply Kd.rD)); exact HO_6.out), (by (with_reducible repeat (first | refine bN ?_ _ | refine bD ?_ | refine bA ?_ _)); exact BK379.out), (by (with_reducible repeat (first | refine bN ?_ _ | refine bD ?_ | refine bA ?_ _)); exact BK381.out), (by (with_reducible repeat (first | refine bN ?_ _ | refine bD ?_ | refine bA ?_ _)); exact BK408.out), (by repeat (first | (with_reducible first | exact HB.out | apply lA | apply lN | apply lD | refine lS ?_ GE379.out | refine lS ?_ GE381.out | refine lS ?_ GE408.out) | exact HB.out))⟩)
            · skip
              refine Kd.R_lit_step (Kd.int .i64) _ 3 ?hg (N := 107) ?hd (xs := ([wrap64 ((rd x6_1 ((rd_T45 l0 x17_1).f0)) + 1)] : List Int)) (inner := [.int .i64 (wrap64 ((rd x6_1 ((rd_T45 l0 x17_1).f0)) + 1))]) (ok := fun _ => True) (okp := fun _ => True) ?hr ?hp (fun _ hk => hk) trivial (Below.refl _ _) (Nat.le_refl _) (by simp) ?_; (case hd => rfl); (case hg => rfl); (case hr => first | (go_simp; done) | (go_simp; rfl)); (case hp => exact (Reps.one (show Kd.M (Kd.int .i64) _ _ _ (wrap64 ((rd x6_1 ((rd_T45 l0 x17_1).f0)) + 1)) [.int .i64 (wrap64 ((rd x6_1 ((rd_T45 l0 x17_1).f0)) + 1))] from rfl) (Reps.none _ _)))
              intro v417 w104 ho105 hb hg_ hnew_
              have HS3_ := (hb.cell (World.block_lt_of_cell? _ _ (hHeld.2.2.2))).trans (hHeld.2.2.2)
              clear hg_ hnew_
              (first | rw [← Ny416.out] at ho105 | (simp only [Int.reduceToNat] at ho105; rw [← Ny416.out] at ho105))
              have n0_ := aZ (Kd.N_elder' (by (with_reducible repeat (first | apply Kd.N_alloc | apply Kd.N_drewN | apply Kd.N_drew)); exact HO_5.out) (Kd.R_base ho105) hb)
              have n1_ := aZ (Kd.R_elder' (by (with_reducible repeat (first | apply Kd.rA | apply Kd.rN | apply Kd.rD)); exact HO_6.out) (Kd.R_base ho105) hb)
              have n2_ := aZ (Kd.V_elder' (by (with_reducible repeat (first | apply Kd.V_alloc | apply Kd.V_drewN | apply Kd.V_drew)); exact HL402_0.out) (Kd.R_base ho105) hb)
              have n3_ := aZ (Kd.N_elder' (by (with_reducible repeat (first | apply Kd.N_alloc | apply Kd.N_drewN | apply Kd.N_drew)); exact HO411.out) (Kd.R_base ho105) hb)
              have n4_ := aZ (Kd.R_lower (Kd.R_new' (Kd.R_newM (M := fun k_ => (w.heap.size ≤ k_)) ho105 (lZ (by repeat (first | (with_reducible first | exact HB.out | apply lA | apply lN | apply lD | refine lS ?_ GE379.out | refine lS ?_ GE381.out | refine lS ?_ GE408.out) | exact HB.out))) (fun k_ h_ => h_)) (Kd.R_lt (by (with_reducible repeat (first | apply Kd.rA | apply Kd.rN | apply Kd.rD)); exact HO_6.out))) (lZ (by repeat (first | (with_reducible first | exact HB.out | apply lA | apply lN | apply lD | refine lS ?_ GE379.out | refine lS ?_ GE381.out | refine lS ?_ GE408.out) | exact HB.out))))
              have n5_ := aZ (blk_below (g := gb379) (o := .cells #[.int .i64 x380000_1, .int .i64 x380001_1] 26 (0, 0)) (by (with_reducible repeat (first | refine bN ?_ _ | refine bD ?_ | refine bA ?_ _)); exact BK379.out) hb)
              have n6_ := aZ (blk_below (g := gb381) (o := .cells #[.int .i64 ((rd_T45 l0 x17_1).f0), .slice A380_1 ((rd_T45 l0 x17_1).f1).length c380_1, .slice A380_2 ((rd_T45 l0 x17_1).f2).length c380_2] 45 (0, 0)) (by (with_reducible repeat (first | refine bN ?_ _ | refine bD ?_ | refine bA ?_ _)); exact BK381.out) hb)
              have n7_ := aZ (blk_below (g := gb408) (o := .cells #[.int .i64 t406, .int .i64 t407] 26 (0, 0)) (by (with_reducible repeat (first | refine bN ?_ _ | refine bD ?_ | refine bA ?_ _)); exact BK408.out) hb)
              have n8_ := aZ (lT (by repeat (first | (with_reducible first | exact HB.out | apply lA | apply lN | apply lD | refine lS ?_ GE379.out | refine lS ?_ GE381.out | refine lS ?_ GE408.out) | exact HB.out)) hb)
              clear HO_5
              clear HO_6
              clear HL402_0
              clear HO411
              clear BK379
              clear BK381
              clear BK408
              clear HB
              have HO_5 := n0_
              have HO_6 := n1_
              have HL402_0 := n2_
              have HO411 := n3_
              have HO418 := n4_
              have BK379 := n5_
              have BK381 := n6_
              have BK408 := n7_
              have HB := n8_
              clear n0_ n1_ n2_ n3_ n4_ n5_ n6_ n7_ n8_
              clear hb ho105
              obtain ⟨Ao107, co107, eo107⟩ := Kd.N_slice HO411.out
              (first | subst eo107 | (injection eo107 with f1_ f2_ f3_; have f4_ := f1_.symm; have f5_ := f3_.symm; clear f1_ f2_ f3_; subst f4_; subst f5_))
              refine hK.out _ _ ⟨(blk_cell BK381.out 0).trans rfl, (blk_cell BK381.out 1).trans rfl, (blk_cell BK381.out 2).trans rfl, HS3_⟩ (fun hHeld => ?_)
              clear hK K
              refine norm_ (a' := ?_) ?_ ?_
              rotate_left
              · show Act.put _ (some 107) _ = _
                simp only [Act.put, List.setIfInBounds_toArray, List.set_cons_zero, List.set_cons_succ, i64_w, i32_w]
                rfl
              refine one_ (i := 3) (N := some 99) Z30 rfl rfl (one_of HT_.out (by kernel_rfl)) (by decide) (fun K hK => ?_)
              refine Kd.N_append_rows_step (Kd.slice 5 (Kd.int .u8)) (w0 := w) w.heap.size (by rfl) (.tmp 96) (.tmp 98) 39 22 (.slice none 0 0) 24 rfl Try.underlying39 info22 rfl (by decide) (by omega) (.slice (some ad402) x5_1.length co89) x5_1 y409 _ _ _ (fun k_ => (w.heap.size ≤ k_) ∧ some k_ ≠ (.slice (some ad415) x6_1.length co98 : Value).ownBlock ∧ some k_ ≠ (v417 : Value).ownBlock ∧ k_ ≠ gb379 ∧ k_ ≠ gb381 ∧ k_ ≠ gb408) (fun k_ => ((fun k_ => (w.heap.size ≤ k_) ∧ some k_ ≠ (.slice (some ad415) x6_1.length co98 : Value).ownBlock ∧ some k_ ≠ (v417 : Value).ownBlock ∧ k_ ≠ gb379 ∧ k_ ≠ gb381 ∧ k_ ≠ gb408)) k_ ∧ some k_ ≠ (.slice (some ad402) x5_1.length co89 : Value).ownBlock) rfl rfl ?aO ?aR (fun _ hk => hk) ?aF ?aB ?aS ?aL ?_
              (case aR => exact (by skip; exact Kd.N_F (Kd.N_mono (ok' := (fun k_ => ((fun k_ => (w.heap.size ≤ k_) ∧ some k_ ≠ (.slice (some ad415) x6_1.length co98 : Value).ownBlock ∧ some k_ ≠ (v417 : Value).ownBlock ∧ k_ ≠ gb379 ∧ k_ ≠ gb381 ∧ k_ ≠ gb408)) k_ ∧ some k_ ≠ (.slice (some ad402) x5_1.length co89 : Value).ownBlock)) (HO411.out) (fun k_ hk => ⟨⟨hk.1.1, ⟨hk.1.2.2.1, ⟨hk.2, ⟨hk.1.2.2.2.1, ⟨hk.1.2.2.2.2.1, hk.1.2.2.2.2.2⟩⟩⟩⟩⟩, hk.1.2.1⟩))))
              (case aB => exact (by repeat (first | (with_reducible first | exact HB.out | apply lA | apply lN | apply lD | refine lS ?_ GE379.out | refine lS ?_ GE381.out | refine lS ?_ GE408.out) | exact HB.out)))
              (case aF => exact (fun k_ hk => ⟨(Nat.le_trans (lZ (by repeat (first | (with_reducible first | exact HB.out | apply lA | apply lN | apply lD | refine lS ?_ GE379.out | refine lS ?_ GE381.out | refine lS ?_ GE408.out) | exact HB.out))) hk), Kd.fresh' (Kd.R_lt (by (with_reducible repeat (first | apply Kd.rA | apply Kd.rN | apply Kd.rD)); exact HO_6.out)) k_ hk, Kd.fresh' (Kd.R_lt (by (with_reducible repeat (first | apply Kd.rA | apply Kd.rN | apply Kd.rD)); exact HO418.out)) k_ hk, Kd.freshB (g := gb379) (o := .cells #[.int .i64 x380000_1, .int .i64 x380001_1] 26 (0, 0)) (by (with_reducible repeat (first | refine bN ?_ _ | refine bD ?_ | refine bA ?_ _)); exact BK379.out) k_ hk, Kd.freshB (g := gb381) (o := .cells #[.int .i64 ((rd_T45 l0 x17_1).f0), .slice A380_1 ((rd_T45 l0 x17_1).f1).length c380_1, .slice A380_2 ((rd_T45 l0 x17_1).f2).length c380_2] 45 (0, 0)) (by (with_reducible repeat (first | refine bN ?_ _ | refine bD ?_ | refine bA ?_ _)); exact BK381.out) k_ hk, Kd.freshB (g := gb408) (o := .cells #[.int .i64 t406, .int .i64 t407] 26 (0, 0)) (by (with_reducible repeat (first | refine bN ?_ _ | refine bD ?_ | refine bA ?_ _)); exact BK408.out) k_ hk⟩))
              (case aO => exact (by (with_reducible repeat (first | apply Kd.N_alloc | apply Kd.N_drewN | apply Kd.N_drew)); exact Kd.N_mono HO_5.out (fun _ hk => ⟨hk.1.1.1, ⟨hk.1.1.2.1, ⟨hk.2, ⟨hk.1.1.2.2.2.1, ⟨hk.1.1.2.2.2.2.1, hk.1.1.2.2.2.2.2⟩⟩⟩⟩⟩)))
              (case aS => exact (lZ (by repeat (first | (with_reducible first | exact HB.out | apply lA | apply lN | apply lD | refine lS ?_ GE379.out | refine lS ?_ GE381.out | refine lS ?_ GE408.out) | exact HB.out))))
              (case aL => have := LMc81.out; omega)
              intro v413 w106 ho hb hg hat
              rw [← Ny412.out] at ho
              have n0_ := aZ (Kd.R_over' (by (with_reducible repeat (first | apply Kd.rA | apply Kd.rN | apply Kd.rD)); exact HO_6.out) (Kd.N_typed (by (with_reducible repeat (first | apply Kd.N_alloc | apply Kd.N_drewN | apply Kd.N_drew)); exact HO_5.out)) (by decide) hg)
              have n1_ := aZ (blk_grown (g := gb379) (o := .cells #[.int .i64 x380000_1, .int .i64 x380001_1] 26 (0, 0)) (by (with_reducible repeat (first | refine bN ?_ _ | refine bD ?_ | refine bA ?_ _)); exact BK379.out) hg (Kd.N_ne HO_5.out BK379.out (by decide)))
              have n2_ := aZ (blk_grown (g := gb381) (o := .cells #[.int .i64 ((rd_T45 l0 x17_1).f0), .slice A380_1 ((rd_T45 l0 x17_1).f1).length c380_1, .slice A380_2 ((rd_T45 l0 x17_1).f2).length c380_2] 45 (0, 0)) (by (with_reducible repeat (first | refine bN ?_ _ | refine bD ?_ | refine bA ?_ _)); exact BK381.out) hg (Kd.N_ne HO_5.out BK381.out (by decide)))
              have n3_ := aZ (Kd.V_afterv (ok := (fun k_ => (w.heap.size ≤ k_) ∧ some k_ ≠ (.slice (some ad415) x6_1.length co98 : Value).ownBlock ∧ some k_ ≠ (.slice Ao107 y409.length co107 : Value).ownBlock ∧ some k_ ≠ (v417 : Value).ownBlock ∧ k_ ≠ gb379 ∧ k_ ≠ gb381 ∧ k_ ≠ gb408)) (by (with_reducible repeat (first | apply Kd.V_alloc | apply Kd.V_drewN | apply Kd.V_drew)); exact Kd.V_mono HL402_0.out (fun _ hk => ⟨⟨hk.1.1.1, ⟨hk.1.1.2.2.1, ⟨hk.1.2, ⟨hk.2, ⟨hk.1.1.2.2.2.2.1, ⟨hk.1.1.2.2.2.2.2.1, hk.1.1.2.2.2.2.2.2⟩⟩⟩⟩⟩⟩, hk.1.1.2.1⟩)) hg hat)
              have n4_ := aZ (blk_grown (g := gb408) (o := .cells #[.int .i64 t406, .int .i64 t407] 26 (0, 0)) (by (with_reducible repeat (first | refine bN ?_ _ | refine bD ?_ | refine bA ?_ _)); exact BK408.out) hg (Kd.N_ne HO_5.out BK408.out (by decide)))
              have n5_ := aZ (Kd.N_afterv (ok := (fun k_ => (w.heap.size ≤ k_) ∧ some k_ ≠ (.slice (some ad415) x6_1.length co98 : Value).ownBlock ∧ some k_ ≠ (v417 : Value).ownBlock ∧ k_ ≠ gb379 ∧ k_ ≠ gb381 ∧ k_ ≠ gb408)) (by (with_reducible repeat (first | apply Kd.N_alloc | apply Kd.N_drewN | apply Kd.N_drew)); exact Kd.N_mono HO411.out (fun _ hk => ⟨⟨hk.1.1, ⟨hk.1.2.2.1, ⟨hk.2, ⟨hk.1.2.2.2.1, ⟨hk.1.2.2.2.2.1, hk.1.2.2.2.2.2⟩⟩⟩⟩⟩, hk.1.2.1⟩)) hg hat)
              have n6_ := aZ (Kd.R_over' (by (with_reducible repeat (first | apply Kd.rA | apply Kd.rN | apply Kd.rD)); exact HO418.out) (Kd.N_typed (by (with_reducible repeat (first | apply Kd.N_alloc | apply Kd.N_drewN | apply Kd.N_drew)); exact HO_5.out)) (by decide) hg)
              have n7_ := aZ (hb)
              have n8_ := aZ (ho)
              clear HO_6
              clear BK379
              clear BK381
              clear HL402_0
              clear BK408
              clear HO411
              clear HO418
              clear HB
              clear HO_5
              have HO_6 := n0_
              have BK379 := n1_
              have BK381 := n2_
              have HL402_0 := n3_
              have BK408 := n4_
              have HO411 := n5_
              have HO418 := n6_
              have HB := n7_
              have HO414 := n8_
              clear n0_ n1_ n2_ n3_ n4_ n5_ n6_ n7_ n8_
              clear ho hb hg hat
              obtain ⟨adq_, eq_, HS3_⟩ := Kd.at_int (Kd.R_reads' HO_6.out).2.2 (((rd_T45 l0 x17_1).f0)) (of_eq_true p415) (of_eq_true q415); cases eq_
              refine hK.out _ _ ⟨(blk_cell BK381.out 0).trans rfl, (blk_cell BK381.out 1).trans rfl, (blk_cell BK381.out 2).trans rfl, HS3_⟩ (fun hHeld => ?_)
              clear hK K
              refine norm_ (a' := ?_) ?_ ?_
              rotate_left
              · show Act.put _ (some 99) _ = _
                simp only [Act.put, List.setIfInBounds_toArray, List.set_cons_zero, List.set_cons_succ, i64_w, i32_w]
                rfl
              exact norm_ (by simp only [putAll, Act.put, List.setIfInBounds_toArray, List.set_cons_zero, List.set_cons_succ]) (hCont (.slice Ao107 y409.length co107, v413, v417) _ ⟨hHeld, (by (with_reducible repeat (first | apply Kd.V_alloc | apply Kd.V_drewN | apply Kd.V_drew)); exact Kd.V_mono HL402_0.out (fun _ hk => ⟨hk.1.1, ⟨hk.1.2.2.1, ⟨hk.2, ⟨hk.1.2.2.2.1, ⟨hk.1.2.1, ⟨hk.1.2.2.2.2.1, ⟨hk.1.2.2.2.2.2.1, hk.1.2.2.2.2.2.2⟩⟩⟩⟩⟩⟩⟩)), (by (with_reducible repeat (first | apply Kd.N_alloc | apply Kd.N_drewN | apply Kd.N_drew)); exact Kd.N_mono HO411.out (fun _ hk => ⟨hk.1.1, ⟨hk.2, ⟨hk.1.2.2.1, ⟨hk.1.2.1, ⟨hk.1.2.2.2.1, ⟨hk.1.2.2.2.2.1, hk.1.2.2.2.2.2⟩⟩⟩⟩⟩⟩)), (by (with_reducible repeat (first | apply Kd.N_alloc | apply Kd.N_drewN | apply Kd.N_drew)); exact Kd.N_mono HO414.out (fun _ hk => ⟨hk.1, ⟨hk.2.2.1, ⟨hk.2.1, ⟨hk.2.2.2.1, ⟨hk.2.2.2.2.1, hk.2.2.2.2.2⟩⟩⟩⟩⟩)), (by (with_reducible repeat (first | apply Kd.rA | apply Kd.rN | apply Kd.rD)); exact Kd.R_mono HO418.out (fun _ hk => ⟨hk.1.1, hk.2⟩)), (by (with_reducible repeat (first | apply Kd.rA | apply Kd.rN | apply Kd.rD)); exact HO_6.out), (by (with_reducible repeat (first | refine bN ?_ _ | refine bD ?_ | refine bA ?_ _)); exact BK379.out), (by (with_reducible repeat (first | refine bN ?_ _ | refine bD ?_ | refine bA ?_ _)); exact BK381.out), (by (with_reducible repeat (first | refine bN ?_ _ | refine bD ?_ | refine bA ?_ _)); exact BK408.out), (by repeat (first | (with_reducible first | exact HB.out | apply lA | apply lN | apply lD | refine lS ?_ GE379.out | refine lS ?_ GE381.out | refine lS ?_ GE408.out) | exact HB.out))⟩)
          · skip
            refine Kd.R_lit_step (Kd.int .i64) _ 3 ?hg (N := 107) ?hd (xs := ([wrap64 ((rd x6_1 ((rd_T45 l0 x17_1).f0)) + 1)] : List Int)) (inner := [.int .i64 (wrap64 ((rd x6_1 ((rd_T45 l0 x17_1).f0)) + 1))]) (ok := fun _ => True) (okp := fun _ => True) ?hr ?hp (fun _ hk => hk) trivial (Below.refl _ _) (Nat.le_refl _) (by simp) ?_; (case hd => rfl); (case hg => rfl); (case hr => first | (go_simp; done) | (go_simp; rfl)); (case hp => exact (Reps.one (show Kd.M (Kd.int .i64) _ _ _ (wrap64 ((rd x6_1 ((rd_T45 l0 x17_1).f0)) + 1)) [.int .i64 (wrap64 ((rd x6_1 ((rd_T45 l0 x17_1).f0)) + 1))] from rfl) (Reps.none _ _)))
            intro v417 w101 ho102 hb hg_ hnew_
            have HS3_ := (hb.cell (World.block_lt_of_cell? _ _ (hHeld.2.2.2))).trans (hHeld.2.2.2)
            clear hg_ hnew_
            (first | rw [← Ny416.out] at ho102 | (simp only [Int.reduceToNat] at ho102; rw [← Ny416.out] at ho102))
            have n0_ := aZ (Kd.N_elder' (by (with_reducible repeat (first | apply Kd.N_alloc | apply Kd.N_drewN | apply Kd.N_drew)); exact HO_5.out) (Kd.R_base ho102) hb)
            have n1_ := aZ (Kd.R_elder' (by (with_reducible repeat (first | apply Kd.rA | apply Kd.rN | apply Kd.rD)); exact HO_6.out) (Kd.R_base ho102) hb)
            have n2_ := aZ (Kd.V_elder' (by (with_reducible repeat (first | apply Kd.V_alloc | apply Kd.V_drewN | apply Kd.V_drew)); exact HL402_0.out) (Kd.R_base ho102) hb)
            have n3_ := aZ (Kd.R_below (by (with_reducible repeat (first | apply Kd.rA | apply Kd.rN | apply Kd.rD)); exact HO405.out) hb)
            have n4_ := aZ (Kd.R_lower (Kd.R_new' (Kd.R_newM (M := fun k_ => (w.heap.size ≤ k_)) ho102 (lZ (by repeat (first | (with_reducible first | exact HB.out | apply lA | apply lN | apply lD | refine lS ?_ GE379.out | refine lS ?_ GE381.out | refine lS ?_ GE408.out) | exact HB.out))) (fun k_ h_ => h_)) (Kd.R_lt (by (with_reducible repeat (first | apply Kd.rA | apply Kd.rN | apply Kd.rD)); exact HO_6.out))) (lZ (by repeat (first | (with_reducible first | exact HB.out | apply lA | apply lN | apply lD | refine lS ?_ GE379.out | refine lS ?_ GE381.out | refine lS ?_ GE408.out) | exact HB.out))))
            have n5_ := aZ (blk_below (g := gb379) (o := .cells #[.int .i64 x380000_1, .int .i64 x380001_1] 26 (0, 0)) (by (with_reducible repeat (first | refine bN ?_ _ | refine bD ?_ | refine bA ?_ _)); exact BK379.out) hb)
            have n6_ := aZ (blk_below (g := gb381) (o := .cells #[.int .i64 ((rd_T45 l0 x17_1).f0), .slice A380_1 ((rd_T45 l0 x17_1).f1).length c380_1, .slice A380_2 ((rd_T45 l0 x17_1).f2).length c380_2] 45 (0, 0)) (by (with_reducible repeat (first | refine bN ?_ _ | refine bD ?_ | refine bA ?_ _)); exact BK381.out) hb)
            have n7_ := aZ (blk_below (g := gb408) (o := .cells #[.int .i64 t406, .int .i64 t407] 26 (0, 0)) (by (with_reducible repeat (first | refine bN ?_ _ | refine bD ?_ | refine bA ?_ _)); exact BK408.out) hb)
            have n8_ := aZ (lT (by repeat (first | (with_reducible first | exact HB.out | apply lA | apply lN | apply lD | refine lS ?_ GE379.out | refine lS ?_ GE381.out | refine lS ?_ GE408.out) | exact HB.out)) hb)
            clear HO_5
            clear HO_6
            clear HL402_0
            clear HO405
            clear BK379
            clear BK381
            clear BK408
            clear HB
            have HO_5 := n0_
            have HO_6 := n1_
            have HL402_0 := n2_
            have HO405 := n3_
            have HO418 := n4_
            have BK379 := n5_
            have BK381 := n6_
            have BK408 := n7_
            have HB := n8_
            clear n0_ n1_ n2_ n3_ n4_ n5_ n6_ n7_ n8_
            clear hb ho102
            obtain ⟨Ao103, co103, eo103⟩ := Kd.R_slice HO405.out
            (first | subst eo103 | (injection eo103 with f1_ f2_ f3_; have f4_ := f1_.symm; have f5_ := f3_.symm; clear f1_ f2_ f3_; subst f4_; subst f5_))
            refine hK.out _ _ ⟨(blk_cell BK381.out 0).trans rfl, (blk_cell BK381.out 1).trans rfl, (blk_cell BK381.out 2).trans rfl, HS3_⟩ (fun hHeld => ?_)
            clear hK K
            refine norm_ (a' := ?_) ?_ ?_
            rotate_left
            · show Act.put _ (some 107) _ = _
              simp only [Act.put, List.setIfInBounds_toArray, List.set_cons_zero, List.set_cons_succ, i64_w, i32_w]
              rfl
            refine one_ (i := 2) (N := some 98) Z34 rfl rfl (one_of HT_.out (by kernel_rfl)) (by decide) (fun K hK => ?_)
            refine Kd.N_lit_step (Kd.slice 5 (Kd.int .u8)) _ 22 ?hg (N' := 98) ?hd (xs := ([t403] : List (List Int))) (inner := [.slice Ao103 t403.length co103]) (ok := (fun k_ => (w.heap.size ≤ k_) ∧ some k_ ≠ (.slice (some ad402) x5_1.length co89 : Value).ownBlock ∧ some k_ ≠ (.slice (some ad415) x6_1.length co98 : Value).ownBlock ∧ some k_ ≠ (v417 : Value).ownBlock ∧ k_ ≠ gb379 ∧ k_ ≠ gb381 ∧ k_ ≠ gb408)) (okp := (fun k_ => (w.heap.size ≤ k_) ∧ some k_ ≠ (.slice (some ad402) x5_1.length co89 : Value).ownBlock ∧ some k_ ≠ (.slice (some ad415) x6_1.length co98 : Value).ownBlock ∧ some k_ ≠ (v417 : Value).ownBlock ∧ k_ ≠ gb379 ∧ k_ ≠ gb381 ∧ k_ ≠ gb408)) ?hr ?hp (fun _ hk => hk) ((show ∀ k_, w101.heap.size ≤ k_ → (fun k_ => (w.heap.size ≤ k_) ∧ some k_ ≠ (.slice (some ad402) x5_1.length co89 : Value).ownBlock ∧ some k_ ≠ (.slice (some ad415) x6_1.length co98 : Value).ownBlock ∧ some k_ ≠ (v417 : Value).ownBlock ∧ k_ ≠ gb379 ∧ k_ ≠ gb381 ∧ k_ ≠ gb408) k_ from fun k_ hk => ⟨(Nat.le_trans (lZ (by repeat (first | (with_reducible first | exact HB.out | apply lA | apply lN | apply lD | refine lS ?_ GE379.out | refine lS ?_ GE381.out | refine lS ?_ GE408.out) | exact HB.out))) hk), Kd.fresh' (Kd.N_lt (by (with_reducible repeat (first | apply Kd.N_alloc | apply Kd.N_drewN | apply Kd.N_drew)); exact HO_5.out)) k_ hk, Kd.fresh' (Kd.R_lt (by (with_reducible repeat (first | apply Kd.rA | apply Kd.rN | apply Kd.rD)); exact HO_6.out)) k_ hk, Kd.fresh' (Kd.R_lt (by (with_reducible repeat (first | apply Kd.rA | apply Kd.rN | apply Kd.rD)); exact HO418.out)) k_ hk, Kd.freshB (g := gb379) (o := .cells #[.int .i64 x380000_1, .int .i64 x380001_1] 26 (0, 0)) (by (with_reducible repeat (first | refine bN ?_ _ | refine bD ?_ | refine bA ?_ _)); exact BK379.out) k_ hk, Kd.freshB (g := gb381) (o := .cells #[.int .i64 ((rd_T45 l0 x17_1).f0), .slice A380_1 ((rd_T45 l0 x17_1).f1).length c380_1, .slice A380_2 ((rd_T45 l0 x17_1).f2).length c380_2] 45 (0, 0)) (by (with_reducible repeat (first | refine bN ?_ _ | refine bD ?_ | refine bA ?_ _)); exact BK381.out) k_ hk, Kd.freshB (g := gb408) (o := .cells #[.int .i64 t406, .int .i64 t407] 26 (0, 0)) (by (with_reducible repeat (first | refine bN ?_ _ | refine bD ?_ | refine bA ?_ _)); exact BK408.out) k_ hk⟩) _ (Nat.le_refl _)) (Below.refl _ _) (Nat.le_refl _) (by simp) ?_; (case hd => rfl); (case hg => rfl); (case hr => first | (go_simp; done) | (go_simp; rfl)); (case hp => exact (Reps.one (show Kd.FK (Kd.slice 5 (Kd.int .u8)) _ _ t403 [.slice Ao103 t403.length co103] from (Kd.FK_slice_mk (Kd.R_reads' (Kd.R_mono (ok' := (fun k_ => (w.heap.size ≤ k_) ∧ some k_ ≠ (.slice (some ad402) x5_1.length co89 : Value).ownBlock ∧ some k_ ≠ (.slice (some ad415) x6_1.length co98 : Value).ownBlock ∧ some k_ ≠ (v417 : Value).ownBlock ∧ k_ ≠ gb379 ∧ k_ ≠ gb381 ∧ k_ ≠ gb408)) (Kd.R_types (Kd.R_types (Kd.R_types (Kd.R_apart' (Kd.R_apart' (Kd.R_apart' (HO405.out) (Kd.N_typed HO_5.out) (by decide)) (Kd.R_typed HO_6.out) (by decide)) (Kd.R_typed HO418.out) (by decide)) BK379.out (by decide)) BK381.out (by decide)) BK408.out (by decide)) (fun k_ hk => ⟨hk.1.1.1.1.1.1, ⟨hk.1.1.1.1.1.2, ⟨hk.1.1.1.1.2, ⟨hk.1.1.1.2, ⟨hk.1.1.2, ⟨hk.1.2, hk.2⟩⟩⟩⟩⟩⟩))).2.1 (Kd.R_F (Kd.R_mono (ok' := (fun k_ => (w.heap.size ≤ k_) ∧ some k_ ≠ (.slice (some ad402) x5_1.length co89 : Value).ownBlock ∧ some k_ ≠ (.slice (some ad415) x6_1.length co98 : Value).ownBlock ∧ some k_ ≠ (v417 : Value).ownBlock ∧ k_ ≠ gb379 ∧ k_ ≠ gb381 ∧ k_ ≠ gb408)) (Kd.R_types (Kd.R_types (Kd.R_types (Kd.R_apart' (Kd.R_apart' (Kd.R_apart' (HO405.out) (Kd.N_typed HO_5.out) (by decide)) (Kd.R_typed HO_6.out) (by decide)) (Kd.R_typed HO418.out) (by decide)) BK379.out (by decide)) BK381.out (by decide)) BK408.out (by decide)) (fun k_ hk => ⟨hk.1.1.1.1.1.1, ⟨hk.1.1.1.1.1.2, ⟨hk.1.1.1.1.2, ⟨hk.1.1.1.2, ⟨hk.1.1.2, ⟨hk.1.2, hk.2⟩⟩⟩⟩⟩⟩))))) (Reps.none _ _)))
            intro v410 w104 ho105 hb hg_ hnew_
            have HS3_ := (hb.cell (World.block_lt_of_cell? _ _ (hHeld.2.2.2))).trans (hHeld.2.2.2)
            clear hg_ hnew_
            (first | rw [← Ny409.out] at ho105 | (simp only [Int.reduceToNat] at ho105; rw [← Ny409.out] at ho105))
            have n0_ := aZ (Kd.N_elder' (by (with_reducible repeat (first | apply Kd.N_alloc | apply Kd.N_drewN | apply Kd.N_drew)); exact HO_5.out) (Kd.N_base ho105) hb)
            have n1_ := aZ (Kd.R_below (by (with_reducible repeat (first | apply Kd.rA | apply Kd.rN | apply Kd.rD)); exact HO_6.out) hb)
            have n2_ := aZ (Kd.V_elder' (by (with_reducible repeat (first | apply Kd.V_alloc | apply Kd.V_drewN | apply Kd.V_drew)); exact HL402_0.out) (Kd.N_base ho105) hb)
            have n3_ := aZ (Kd.R_below (by (with_reducible repeat (first | apply Kd.rA | apply Kd.rN | apply Kd.rD)); exact HO418.out) hb)
            have n4_ := aZ (Kd.N_lower ho105 (lZ (by repeat (first | (with_reducible first | exact HB.out | apply lA | apply lN | apply lD | refine lS ?_ GE379.out | refine lS ?_ GE381.out | refine lS ?_ GE408.out) | exact HB.out))))
            have n5_ := aZ (blk_below (g := gb379) (o := .cells #[.int .i64 x380000_1, .int .i64 x380001_1] 26 (0, 0)) (by (with_reducible repeat (first | refine bN ?_ _ | refine bD ?_ | refine bA ?_ _)); exact BK379.out) hb)
            have n6_ := aZ (blk_below (g := gb381) (o := .cells #[.int .i64 ((rd_T45 l0 x17_1).f0), .slice A380_1 ((rd_T45 l0 x17_1).f1).length c380_1, .slice A380_2 ((rd_T45 l0 x17_1).f2).length c380_2] 45 (0, 0)) (by (with_reducible repeat (first | refine bN ?_ _ | refine bD ?_ | refine bA ?_ _)); exact BK381.out) hb)
            have n7_ := aZ (blk_below (g := gb408) (o := .cells #[.int .i64 t406, .int .i64 t407] 26 (0, 0)) (by (with_reducible repeat (first | refine bN ?_ _ | refine bD ?_ | refine bA ?_ _)); exact BK408.out) hb)
            have n8_ := aZ (lT (by repeat (first | (with_reducible first | exact HB.out | apply lA | apply lN | apply lD | refine lS ?_ GE379.out | refine lS ?_ GE381.out | refine lS ?_ GE408.out) | exact HB.out)) hb)
            clear HO_5
            clear HO_6
            clear HL402_0
            clear HO418
            clear BK379
            clear BK381
            clear BK408
            clear HB
            clear HO405
            have HO_5 := n0_
            have HO_6 := n1_
            have HL402_0 := n2_
            have HO418 := n3_
            have HO411 := n4_
            have BK379 := n5_
            have BK381 := n6_
            have BK408 := n7_
            have HB := n8_
            clear n0_ n1_ n2_ n3_ n4_ n5_ n6_ n7_ n8_
            clear hb ho105
            obtain ⟨Ao107, co107, eo107⟩ := Kd.N_slice HO411.out
            (first | subst eo107 | (injection eo107 with f1_ f2_ f3_; have f4_ := f1_.symm; have f5_ := f3_.symm; clear f1_ f2_ f3_; subst f4_; subst f5_))
            refine hK.out _ _ ⟨(blk_cell BK381.out 0).trans rfl, (blk_cell BK381.out 1).trans rfl, (blk_cell BK381.out 2).trans rfl, HS3_⟩ (fun hHeld => ?_)
            clear hK K
            refine norm_ (a' := ?_) ?_ ?_
            rotate_left
            · show Act.put _ (some 98) _ = _
              simp only [Act.put, List.setIfInBounds_toArray, List.set_cons_zero, List.set_cons_succ, i64_w, i32_w]
              rfl
            refine one_ (i := 3) (N := some 99) Z30 rfl rfl (one_of HT_.out (by kernel_rfl)) (by decide) (fun K hK => ?_)
            refine Kd.N_append_rows_step (Kd.slice 5 (Kd.int .u8)) (w0 := w) w.heap.size (by rfl) (.tmp 96) (.tmp 98) 39 22 (.slice none 0 0) 24 rfl Try.underlying39 info22 rfl (by decide) (by omega) (.slice (some ad402) x5_1.length co89) x5_1 y409 _ _ _ (fun k_ => (w.heap.size ≤ k_) ∧ some k_ ≠ (.slice (some ad415) x6_1.length co98 : Value).ownBlock ∧ some k_ ≠ (v417 : Value).ownBlock ∧ k_ ≠ gb379 ∧ k_ ≠ gb381 ∧ k_ ≠ gb408) (fun k_ => ((fun k_ => (w.heap.size ≤ k_) ∧ some k_ ≠ (.slice (some ad415) x6_1.length co98 : Value).ownBlock ∧ some k_ ≠ (v417 : Value).ownBlock ∧ k_ ≠ gb379 ∧ k_ ≠ gb381 ∧ k_ ≠ gb408)) k_ ∧ some k_ ≠ (.slice (some ad402) x5_1.length co89 : Value).ownBlock) rfl rfl ?aO ?aR (fun _ hk => hk) ?aF ?aB ?aS ?aL ?_
            (case aR => exact (by skip; exact Kd.N_F (Kd.N_mono (ok' := (fun k_ => ((fun k_ => (w.heap.size ≤ k_) ∧ some k_ ≠ (.slice (some ad415) x6_1.length co98 : Value).ownBlock ∧ some k_ ≠ (v417 : Value).ownBlock ∧ k_ ≠ gb379 ∧ k_ ≠ gb381 ∧ k_ ≠ gb408)) k_ ∧ some k_ ≠ (.slice (some ad402) x5_1.length co89 : Value).ownBlock)) (HO411.out) (fun k_ hk => ⟨⟨hk.1, ⟨hk.2.2.1, ⟨hk.2.2.2.1, ⟨hk.2.2.2.2.1, ⟨hk.2.2.2.2.2.1, hk.2.2.2.2.2.2⟩⟩⟩⟩⟩, hk.2.1⟩))))
            (case aB => exact (by repeat (first | (with_reducible first | exact HB.out | apply lA | apply lN | apply lD | refine lS ?_ GE379.out | refine lS ?_ GE381.out | refine lS ?_ GE408.out) | exact HB.out)))
            (case aF => exact (fun k_ hk => ⟨(Nat.le_trans (lZ (by repeat (first | (with_reducible first | exact HB.out | apply lA | apply lN | apply lD | refine lS ?_ GE379.out | refine lS ?_ GE381.out | refine lS ?_ GE408.out) | exact HB.out))) hk), Kd.fresh' (Kd.R_lt (by (with_reducible repeat (first | apply Kd.rA | apply Kd.rN | apply Kd.rD)); exact HO_6.out)) k_ hk, Kd.fresh' (Kd.R_lt (by (with_reducible repeat (first | apply Kd.rA | apply Kd.rN | apply Kd.rD)); exact HO418.out)) k_ hk, Kd.freshB (g := gb379) (o := .cells #[.int .i64 x380000_1, .int .i64 x380001_1] 26 (0, 0)) (by (with_reducible repeat (first | refine bN ?_ _ | refine bD ?_ | refine bA ?_ _)); exact BK379.out) k_ hk, Kd.freshB (g := gb381) (o := .cells #[.int .i64 ((rd_T45 l0 x17_1).f0), .slice A380_1 ((rd_T45 l0 x17_1).f1).length c380_1, .slice A380_2 ((rd_T45 l0 x17_1).f2).length c380_2] 45 (0, 0)) (by (with_reducible repeat (first | refine bN ?_ _ | refine bD ?_ | refine bA ?_ _)); exact BK381.out) k_ hk, Kd.freshB (g := gb408) (o := .cells #[.int .i64 t406, .int .i64 t407] 26 (0, 0)) (by (with_reducible repeat (first | refine bN ?_ _ | refine bD ?_ | refine bA ?_ _)); exact BK408.out) k_ hk⟩))
            (case aO => exact (by (with_reducible repeat (first | apply Kd.N_alloc | apply Kd.N_drewN | apply Kd.N_drew)); exact Kd.N_mono HO_5.out (fun _ hk => ⟨hk.1.1.1, ⟨hk.1.1.2.1, ⟨hk.1.2, ⟨hk.1.1.2.2.2.1, ⟨hk.1.1.2.2.2.2.1, hk.1.1.2.2.2.2.2⟩⟩⟩⟩⟩)))
            (case aS => exact (lZ (by repeat (first | (with_reducible first | exact HB.out | apply lA | apply lN | apply lD | refine lS ?_ GE379.out | refine lS ?_ GE381.out | refine lS ?_ GE408.out) | exact HB.out))))
            (case aL => have := LMc81.out; omega)
            intro v413 w106 ho hb hg hat
            rw [← Ny412.out] at ho
            have n0_ := aZ (Kd.R_over' (by (with_reducible repeat (first | apply Kd.rA | apply Kd.rN | apply Kd.rD)); exact HO_6.out) (Kd.N_typed (by (with_reducible repeat (first | apply Kd.N_alloc | apply Kd.N_drewN | apply Kd.N_drew)); exact HO_5.out)) (by decide) hg)
            have n1_ := aZ (blk_grown (g := gb379) (o := .cells #[.int .i64 x380000_1, .int .i64 x380001_1] 26 (0, 0)) (by (with_reducible repeat (first | refine bN ?_ _ | refine bD ?_ | refine bA ?_ _)); exact BK379.out) hg (Kd.N_ne HO_5.out BK379.out (by decide)))
            have n2_ := aZ (blk_grown (g := gb381) (o := .cells #[.int .i64 ((rd_T45 l0 x17_1).f0), .slice A380_1 ((rd_T45 l0 x17_1).f1).length c380_1, .slice A380_2 ((rd_T45 l0 x17_1).f2).length c380_2] 45 (0, 0)) (by (with_reducible repeat (first | refine bN ?_ _ | refine bD ?_ | refine bA ?_ _)); exact BK381.out) hg (Kd.N_ne HO_5.out BK381.out (by decide)))
            have n3_ := aZ (Kd.V_afterv (ok := (fun k_ => (w.heap.size ≤ k_) ∧ some k_ ≠ (.slice (some ad415) x6_1.length co98 : Value).ownBlock ∧ some k_ ≠ (v417 : Value).ownBlock ∧ some k_ ≠ (.slice Ao107 y409.length co107 : Value).ownBlock ∧ k_ ≠ gb379 ∧ k_ ≠ gb381 ∧ k_ ≠ gb408)) (by (with_reducible repeat (first | apply Kd.V_alloc | apply Kd.V_drewN | apply Kd.V_drew)); exact Kd.V_mono HL402_0.out (fun _ hk => ⟨⟨hk.1.1.1, ⟨hk.1.1.2.2.1, ⟨hk.1.2, ⟨hk.2, ⟨hk.1.1.2.2.2.2.1, ⟨hk.1.1.2.2.2.2.2.1, hk.1.1.2.2.2.2.2.2⟩⟩⟩⟩⟩⟩, hk.1.1.2.1⟩)) hg hat)
            have n4_ := aZ (blk_grown (g := gb408) (o := .cells #[.int .i64 t406, .int .i64 t407] 26 (0, 0)) (by (with_reducible repeat (first | refine bN ?_ _ | refine bD ?_ | refine bA ?_ _)); exact BK408.out) hg (Kd.N_ne HO_5.out BK408.out (by decide)))
            have n5_ := aZ (Kd.R_over' (by (with_reducible repeat (first | apply Kd.rA | apply Kd.rN | apply Kd.rD)); exact HO418.out) (Kd.N_typed (by (with_reducible repeat (first | apply Kd.N_alloc | apply Kd.N_drewN | apply Kd.N_drew)); exact HO_5.out)) (by decide) hg)
            have n6_ := aZ (Kd.N_afterv (ok := (fun k_ => (w.heap.size ≤ k_) ∧ some k_ ≠ (.slice (some ad415) x6_1.length co98 : Value).ownBlock ∧ some k_ ≠ (v417 : Value).ownBlock ∧ k_ ≠ gb379 ∧ k_ ≠ gb381 ∧ k_ ≠ gb408)) (by (with_reducible repeat (first | apply Kd.N_alloc | apply Kd.N_drewN | apply Kd.N_drew)); exact Kd.N_mono HO411.out (fun _ hk => ⟨⟨hk.1, ⟨hk.2.2.1, ⟨hk.2.2.2.1, ⟨hk.2.2.2.2.1, ⟨hk.2.2.2.2.2.1, hk.2.2.2.2.2.2⟩⟩⟩⟩⟩, hk.2.1⟩)) hg hat)
            have n7_ := aZ (hb)
            have n8_ := aZ (ho)
            clear HO_6
            clear BK379
            clear BK381
            clear HL402_0
            clear BK408
            clear HO418
            clear HO411
            clear HB
            clear HO_5
            have HO_6 := n0_
            have BK379 := n1_
            have BK381 := n2_
            have HL402_0 := n3_
            have BK408 := n4_
            have HO418 := n5_
            have HO411 := n6_
            have HB := n7_
            have HO414 := n8_
            clear n0_ n1_ n2_ n3_ n4_ n5_ n6_ n7_ n8_
            clear ho hb hg hat
            obtain ⟨adq_, eq_, HS3_⟩ := Kd.at_int (Kd.R_reads' HO_6.out).2.2 (((rd_T45 l0 x17_1).f0)) (of_eq_true p415) (of_eq_true q415); cases eq_
            refine hK.out _ _ ⟨(blk_cell BK381.out 0).trans rfl, (blk_cell BK381.out 1).trans rfl, (blk_cell BK381.out 2).trans rfl, HS3_⟩ (fun hHeld => ?_)
            clear hK K
            refine norm_ (a' := ?_) ?_ ?_
            rotate_left
            · show Act.put _ (some 99) _ = _
              simp only [Act.put, List.setIfInBounds_toArray, List.set_cons_zero, List.set_cons_succ, i64_w, i32_w]
              rfl
            exact norm_ (by simp only [putAll, Act.put, List.setIfInBounds_toArray, List.set_cons_zero, List.set_cons_succ]) (hCont (.slice Ao107 y409.length co107, v413, v417) _ ⟨hHeld, (by (with_reducible repeat (first | apply Kd.V_alloc | apply Kd.V_drewN | apply Kd.V_drew)); exact Kd.V_mono HL402_0.out (fun _ hk => ⟨hk.1.1, ⟨hk.1.2.2.2.1, ⟨hk.2, ⟨hk.1.2.2.1, ⟨hk.1.2.1, ⟨hk.1.2.2.2.2.1, ⟨hk.1.2.2.2.2.2.1, hk.1.2.2.2.2.2.2⟩⟩⟩⟩⟩⟩⟩)), (by (with_reducible repeat (first | apply Kd.N_alloc | apply Kd.N_drewN | apply Kd.N_drew)); exact Kd.N_mono HO411.out (fun _ hk => ⟨hk.1.1, ⟨hk.2, ⟨hk.1.2.2.1, ⟨hk.1.2.1, ⟨hk.1.2.2.2.1, ⟨hk.1.2.2.2.2.1, hk.1.2.2.2.2.2⟩⟩⟩⟩⟩⟩)), (by (with_reducible repeat (first | apply Kd.N_alloc | apply Kd.N_drewN | apply Kd.N_drew)); exact Kd.N_mono HO414.out (fun _ hk => ⟨hk.1, ⟨hk.2.2.1, ⟨hk.2.1, ⟨hk.2.2.2.1, ⟨hk.2.2.2.2.1, hk.2.2.2.2.2⟩⟩⟩⟩⟩)), (by (with_reducible repeat (first | apply Kd.rA | apply Kd.rN | apply Kd.rD)); exact Kd.R_mono HO418.out (fun _ hk => ⟨hk.1.1, hk.2⟩)), (by (with_reducible repeat (first | apply Kd.rA | apply Kd.rN | apply Kd.rD)); exact HO_6.out), (by (with_reducible repeat (first | refine bN ?_ _ | refine bD ?_ | refine bA ?_ _)); exact BK379.out), (by (with_reducible repeat (first | refine bN ?_ _ | refine bD ?_ | refine bA ?_ _)); exact BK381.out), (by (with_reducible repeat (first | refine bN ?_ _ | refine bD ?_ | refine bA ?_ _)); exact BK408.out), (by repeat (first | (with_reducible first | exact HB.out | apply lA | apply lN | apply lD | refine lS ?_ GE379.out | refine lS ?_ GE381.out | refine lS ?_ GE408.out) | exact HB.out))⟩)
        rintro ⟨v410, v413, v417⟩ w108 ⟨hS_, h0_, h1_, h2_, h3_, h4_, h5_, h6_, h7_, h8_⟩
        have n0_ : Aside0 (Kd.V (Kd.int .u8) 5 w108 w.heap.size (fun k_ => (w.heap.size ≤ k_) ∧ some k_ ≠ (v410 : Value).ownBlock ∧ some k_ ≠ (v413 : Value).ownBlock ∧ some k_ ≠ (v417 : Value).ownBlock ∧ some k_ ≠ (.slice (some ad415) x6_1.length co98 : Value).ownBlock ∧ k_ ≠ gb379 ∧ k_ ≠ gb381 ∧ k_ ≠ gb408) (.slice A402_0 (rd_L1 x5_1 ((rd_T45 l0 x17_1).f0)).length c402_0) (rd_L1 x5_1 ((rd_T45 l0 x17_1).f0))) := ⟨h0_⟩
        have n1_ : Aside0 (Kd.N (Kd.slice 5 (Kd.int .u8)) 22 w108 w.heap.size (fun k_ => (w.heap.size ≤ k_) ∧ some k_ ≠ (v413 : Value).ownBlock ∧ some k_ ≠ (v417 : Value).ownBlock ∧ some k_ ≠ (.slice (some ad415) x6_1.length co98 : Value).ownBlock ∧ k_ ≠ gb379 ∧ k_ ≠ gb381 ∧ k_ ≠ gb408) v410 y409) := ⟨h1_⟩
        have n2_ : Aside0 (Kd.N (Kd.slice 5 (Kd.int .u8)) 22 w108 w.heap.size (fun k_ => (w.heap.size ≤ k_) ∧ some k_ ≠ (v417 : Value).ownBlock ∧ some k_ ≠ (.slice (some ad415) x6_1.length co98 : Value).ownBlock ∧ k_ ≠ gb379 ∧ k_ ≠ gb381 ∧ k_ ≠ gb408) v413 y412) := ⟨h2_⟩
        have n3_ : Aside0 (Kd.R (Kd.int .i64) 3 w108 w.heap.size (fun k_ => (w.heap.size ≤ k_) ∧ some k_ ≠ (.slice (some ad415) x6_1.length co98 : Value).ownBlock) v417 y416) := ⟨h3_⟩
        have n4_ : Aside0 (Kd.R (Kd.int .i64) 3 w108 w.heap.size (fun k_ => (w.heap.size ≤ k_) ∧ some k_ ≠ (v417 : Value).ownBlock) (.slice (some ad415) x6_1.length co98) x6_1) := ⟨h4_⟩
        have n5_ : Aside0 (w108.heap[gb379]? = some (.cells #[.int .i64 x380000_1, .int .i64 x380001_1] 26 (0, 0))) := ⟨h5_⟩
        have n6_ : Aside0 (w108.heap[gb381]? = some (.cells #[.int .i64 ((rd_T45 l0 x17_1).f0), .slice A380_1 ((rd_T45 l0 x17_1).f1).length c380_1, .slice A380_2 ((rd_T45 l0 x17_1).f2).length c380_2] 45 (0, 0))) := ⟨h6_⟩
        have n7_ : Aside0 (w108.heap[gb408]? = some (.cells #[.int .i64 t406, .int .i64 t407] 26 (0, 0))) := ⟨h7_⟩
        have n8_ : Aside0 (Below w.heap.size w w108) := ⟨h8_⟩
        clear HO_5
        clear HO_6
        clear HL402_0
        clear HO405
        clear BK379
        clear BK381
        clear BK408
        clear HB
        clear h0_ h1_ h2_ h3_ h4_ h5_ h6_ h7_ h8_
        have HL402_0 := n0_
        have HO411 := n1_
        have HO414 := n2_
        have HO418 := n3_
        have HO_6 := n4_
        have BK379 := n5_
        have BK381 := n6_
        have BK408 := n7_
        have HB := n8_
        clear n0_ n1_ n2_ n3_ n4_ n5_ n6_ n7_ n8_
        have hHeld : w108.cell? ⟨gb381, 0, none⟩ = some (.int .i64 ((rd_T45 l0 x17_1).f0)) ∧ w108.cell? ⟨gb381, 1, none⟩ = some (.slice A380_1 ((rd_T45 l0 x17_1).f1).length c380_1) ∧ w108.cell? ⟨gb381, 2, none⟩ = some (.slice A380_2 ((rd_T45 l0 x17_1).f2).length c380_2) ∧ w108.cell? (ad415.add (((rd_T45 l0 x17_1).f0)).toNat) = some (.int .i64 (rd x6_1 ((rd_T45 l0 x17_1).f0))) := hS_
        obtain ⟨Ao110, co110, eo110⟩ := Kd.R_slice HO418.out
        (first | subst eo110 | (injection eo110 with f1_ f2_ f3_; have f4_ := f1_.symm; have f5_ := f3_.symm; clear f1_ f2_ f3_; subst f4_; subst f5_))
        refine norm_ (a' := ?_) ?_ ?_
        rotate_left
        · simp only [putAll, Act.put, List.setIfInBounds_toArray, List.set_cons_zero, List.set_cons_succ]
          rfl
        refine one_ (i := 12) (N := some 108) Z35 rfl rfl (one_of HT_.out (by kernel_rfl)) (by decide) (fun K hK => ?_)
        refine Kd.R_append_rows_keep (Kd.int .i64) (w0 := w) w.heap.size (by rfl) (.tmp 100) (.tmp 107) 48 3 (.int .i64 0) 8 rfl Try.underlying48 info3 rfl (by decide) (by omega) (.slice (some ad415) x6_1.length co98) x6_1 y416 _ _ _ (fun k_ => (w.heap.size ≤ k_) ∧ some k_ ≠ (.slice Ao110 y416.length co110 : Value).ownBlock) (fun _ => False) rfl rfl ?aO ?aR (fun _ _ h => h) (fun _ h => h.elim) ?aF ?aB ?aS ?aL ?_
        (case aR => repeat (first | exact (Kd.R_reads' HO418.out).2.2 | (with_reducible refine Kd.C_alloc ?_ _) | (with_reducible refine Kd.C_drewN ?_ _) | (with_reducible refine Kd.C_drew ?_)))
        (case aB => exact (by repeat (first | (with_reducible first | exact HB.out | apply lA | apply lN | apply lD | refine lS ?_ GE379.out | refine lS ?_ GE381.out | refine lS ?_ GE408.out) | exact HB.out)))
        (case aF => exact (fun k_ hk => ⟨(Nat.le_trans (lZ (by repeat (first | (with_reducible first | exact HB.out | apply lA | apply lN | apply lD | refine lS ?_ GE379.out | refine lS ?_ GE381.out | refine lS ?_ GE408.out) | exact HB.out))) hk), Kd.fresh' (Kd.R_lt (by (with_reducible repeat (first | apply Kd.rA | apply Kd.rN | apply Kd.rD)); exact HO418.out)) k_ hk⟩))
        (case aO => exact (by (with_reducible repeat (first | apply Kd.rA | apply Kd.rN | apply Kd.rD)); exact HO_6.out))
        (case aS => exact (lZ (by repeat (first | (with_reducible first | exact HB.out | apply lA | apply lN | apply lD | refine lS ?_ GE379.out | refine lS ?_ GE381.out | refine lS ?_ GE408.out) | exact HB.out))))
        (case aL => have := LMc83.out; omega)
        intro v420 w109 ho hb hg hat hkc
        have HS3_ := hkc _ _ _ rfl (((rd_T45 l0 x17_1).f0)).toNat (by have p_ := of_eq_true p415; have q_ := of_eq_true q415; show _ < _ * 1; omega) _ (hHeld.2.2.2)
        rw [← Ny419.out] at ho
        have n0_ := aZ (blk_grown (g := gb379) (o := .cells #[.int .i64 x380000_1, .int .i64 x380001_1] 26 (0, 0)) (by (with_reducible repeat (first | refine bN ?_ _ | refine bD ?_ | refine bA ?_ _)); exact BK379.out) hg (Kd.R_ne HO_6.out BK379.out (by decide)))
        have n1_ := aZ (blk_grown (g := gb381) (o := .cells #[.int .i64 ((rd_T45 l0 x17_1).f0), .slice A380_1 ((rd_T45 l0 x17_1).f1).length c380_1, .slice A380_2 ((rd_T45 l0 x17_1).f2).length c380_2] 45 (0, 0)) (by (with_reducible repeat (first | refine bN ?_ _ | refine bD ?_ | refine bA ?_ _)); exact BK381.out) hg (Kd.R_ne HO_6.out BK381.out (by decide)))
        have n2_ := aZ (Kd.V_afterv (ok := (fun k_ => (w.heap.size ≤ k_) ∧ some k_ ≠ (v410 : Value).ownBlock ∧ some k_ ≠ (v413 : Value).ownBlock ∧ some k_ ≠ (.slice Ao110 y416.length co110 : Value).ownBlock ∧ k_ ≠ gb379 ∧ k_ ≠ gb381 ∧ k_ ≠ gb408)) (by (with_reducible repeat (first | apply Kd.V_alloc | apply Kd.V_drewN | apply Kd.V_drew)); exact Kd.V_mono HL402_0.out (fun _ hk => ⟨⟨hk.1, ⟨hk.2.1, ⟨hk.2.2.1, ⟨hk.2.2.2.1, ⟨hk.2.2.2.2.2.1, ⟨hk.2.2.2.2.2.2.1, hk.2.2.2.2.2.2.2⟩⟩⟩⟩⟩⟩, hk.2.2.2.2.1⟩)) hg hat)
        have n3_ := aZ (blk_grown (g := gb408) (o := .cells #[.int .i64 t406, .int .i64 t407] 26 (0, 0)) (by (with_reducible repeat (first | refine bN ?_ _ | refine bD ?_ | refine bA ?_ _)); exact BK408.out) hg (Kd.R_ne HO_6.out BK408.out (by decide)))
        have n4_ := aZ (Kd.N_afterv (ok := (fun k_ => (w.heap.size ≤ k_) ∧ some k_ ≠ (v413 : Value).ownBlock ∧ some k_ ≠ (.slice Ao110 y416.length co110 : Value).ownBlock ∧ k_ ≠ gb379 ∧ k_ ≠ gb381 ∧ k_ ≠ gb408)) (by (with_reducible repeat (first | apply Kd.N_alloc | apply Kd.N_drewN | apply Kd.N_drew)); exact Kd.N_mono HO411.out (fun _ hk => ⟨⟨hk.1, ⟨hk.2.1, ⟨hk.2.2.1, ⟨hk.2.2.2.2.1, ⟨hk.2.2.2.2.2.1, hk.2.2.2.2.2.2⟩⟩⟩⟩⟩, hk.2.2.2.1⟩)) hg hat)
        have n5_ := aZ (Kd.N_afterv (ok := (fun k_ => (w.heap.size ≤ k_) ∧ some k_ ≠ (.slice Ao110 y416.length co110 : Value).ownBlock ∧ k_ ≠ gb379 ∧ k_ ≠ gb381 ∧ k_ ≠ gb408)) (by (with_reducible repeat (first | apply Kd.N_alloc | apply Kd.N_drewN | apply Kd.N_drew)); exact Kd.N_mono HO414.out (fun _ hk => ⟨⟨hk.1, ⟨hk.2.1, ⟨hk.2.2.2.1, ⟨hk.2.2.2.2.1, hk.2.2.2.2.2⟩⟩⟩⟩, hk.2.2.1⟩)) hg hat)
        have n6_ := aZ (Kd.R_after (ok := (fun k_ => (w.heap.size ≤ k_))) (by (with_reducible repeat (first | apply Kd.rA | apply Kd.rN | apply Kd.rD)); exact HO418.out) hg hat)
        have n7_ := aZ (hb)
        have n8_ := aZ (ho)
        clear BK379
        clear BK381
        clear HL402_0
        clear BK408
        clear HO411
        clear HO414
        clear HO418
        clear HB
        clear HO_6
        have BK379 := n0_
        have BK381 := n1_
        have HL402_0 := n2_
        have BK408 := n3_
        have HO411 := n4_
        have HO414 := n5_
        have HO418 := n6_
        have HB := n7_
        have HO421 := n8_
        clear n0_ n1_ n2_ n3_ n4_ n5_ n6_ n7_ n8_
        clear ho hb hg hat
        refine hK.out _ _ ⟨(blk_cell BK381.out 0).trans rfl, (blk_cell BK381.out 1).trans rfl, (blk_cell BK381.out 2).trans rfl, HS3_⟩ (fun hHeld => ?_)
        clear hK K
        refine norm_ (a' := ?_) ?_ ?_
        rotate_left
        · show Act.put _ (some 108) _ = _
          simp only [Act.put, List.setIfInBounds_toArray, List.set_cons_zero, List.set_cons_succ, i64_w, i32_w]
          rfl
        refine pu 13 5 Z36 HT_ rfl rfl (h := ?_)
        refine pu 14 6 Z37 HT_ rfl rfl (h := ?_)
        refine done_ (done_of HT_.out (by kernel_rfl)) ?_
        try go_wp2
        go_roundg kj20
        case measure => have := HK1.out; have := HJ8.out; have := HJ20.out; omega
        case rel => exact ⟨(y412), (y419), (wrap64 (x17_1 + 1)), (x380000_1), (x380001_1), (by first | rfl | (simp; done) | (simp [*]; done) | (simp [i64_w]; done)), H', ⟨by have := HK1.out; have := HJ8.out; have := HJ20.out; omega⟩, ⟨by (with_reducible repeat (first | apply Kd.N_alloc | apply Kd.N_drewN | apply Kd.N_drew)); exact Kd.N_mono HO414.out (fun _ hk => ⟨hk.1.1, ⟨hk.2, hk.1.2.2.1⟩⟩)⟩, ⟨by (with_reducible repeat (first | apply Kd.rA | apply Kd.rN | apply Kd.rD)); exact Kd.R_mono HO421.out (fun _ hk => hk.1)⟩, ⟨by (with_reducible repeat (first | refine bN ?_ _ | refine bD ?_ | refine bA ?_ _)); exact BK379.out⟩, ⟨by repeat (first | (with_reducible first | exact HB.out | apply lA | apply lN | apply lD | refine lS ?_ GE379.out | refine lS ?_ GE381.out | refine lS ?_ GE408.out) | exact HB.out)⟩⟩
end Go.Proofs.Ytgmpnghgmcgghaa.P
