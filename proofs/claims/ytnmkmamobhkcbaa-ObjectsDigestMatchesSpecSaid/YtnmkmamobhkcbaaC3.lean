/- Part 3 of 4 of the proof of ObjectsDigestMatchesSpec: what the printed functions come to, and the row (no condition beyond the statement's own). -/
import Derived.Test.YtnmkmamobhkcbaaC2
namespace Go.Proofs.Ytnmkmamobhkcbaa.P
open Go.RowKit Go.Proofs.YtnmkmamobhkcbaaW.PrintWords Go.Proofs.YtnmkmamobhkcbaaW.PrintLast Go.Proofs.YtnmkmamobhkcbaaW.PrintMore
attribute [local go_sem] max2_int min2_int max_two min_two max_three min_three max_four min_four   -- for this text's walks alone
set_option linter.unusedVariables false
set_option linter.unusedSimpArgs false
def objects_copied.l0 : Nat → List (r9) → Int → Int → List (r9) → Option ((List (r9)))
  | 0, _, _, _, _ => none
  | k + 1, x8, x9, x10, aO0 => if x10 < x9 then (if 0 ≤ x10 then (if x10 < (x8.length : Int) then ((objects_Clone.f ((a7 x8 x10).f1.f0) ((a7 x8 x10).f1.f1) ((a7 x8 x10).f1.f2)).bind fun bw5 => (if aO0.length < 2199023255552 then (objects_copied.l0 k x8 x9 (wrap64 (x10 + 1)) (aO0 ++ [(⟨(a7 x8 x10).f0, (⟨bw5.1, bw5.2.1, bw5.2.2⟩ : S44)⟩ : r9)])) else (none))) else (none)) else (none)) else (some aO0)
def objects_copied.f (k : Nat) (b1 : List (r9)) : Option ((List (r9))) := objects_copied.l0 k b1 (b1.length : Int) 0 ([] : List (r9))
theorem objects_copied.mono_l : ∀ k, (∀ y0 y1 y2 y3, LeO (objects_copied.l0 k y0 y1 y2 y3) (objects_copied.l0 (k + 1) y0 y1 y2 y3))
  | 0 => fun _ _ _ _ r h => by simp [objects_copied.l0] at h
  | k + 1 => by
    have t6 := objects_copied.mono_l k
    · intro y0 y1 y2 y3
      unfold objects_copied.l0
      repeat' first | (with_reducible first | exact t6 _ _ _ _ | exact LeO.refl _ | exact LeO.none _ | refine LeO.ite ?_ ?_ | refine LeO.bind ?_ (fun _ => ?_)) | exact t6 _ _ _ _ | exact LeO.none _ | refine LeO.ite ?_ ?_ | refine LeO.bind ?_ (fun _ => ?_)
theorem objects_copied.mono : ∀ a0 k, LeO (objects_copied.f k a0) (objects_copied.f (k + 1) a0) := by
  intro a0 k
  have t6 := objects_copied.mono_l k
  unfold objects_copied.f
  repeat' first | (with_reducible first | exact t6 _ _ _ _ | exact LeO.refl _ | exact LeO.none _ | refine LeO.ite ?_ ?_ | refine LeO.bind ?_ (fun _ => ?_)) | exact t6 _ _ _ _ | exact LeO.none _ | refine LeO.ite ?_ ?_ | refine LeO.bind ?_ (fun _ => ?_)
def objects_copied.T5 : Bool × List (List Nat × List Nat) := (true, [([], []), ([0], [0]), ([], []), ([2], [2]), ([], []), ([4], [4]), ([5], [5]), ([3, 6], [3, 6]), ([7], [7]), ([1, 8, 6], [1, 8]), ([0, 1, 2, 3, 4, 5, 6, 7, 8, 9], []), ([10, 9, 9, 0, 1, 2, 3, 4, 5, 6, 7, 8, 9], [9, 10])])
def objects_copied.B5 : List Nat := [0, 1, 0, 4, 0, 16, 48, 124, 252, 511, 1023, 2047]
theorem objects_copied.tab5 : rtab .any (opsOf Try.f47 5) = objects_copied.T5 := by kernel_rfl
theorem objects_copied.bits5 : waitsOk objects_copied.T5.2 objects_copied.B5 = true := by kernel_rfl
abbrev objects_copied.Z1 : Array Bool := #[I,I,I,I,I,I,I,I,I,I,I,I]
abbrev objects_copied.Z2 : Array Bool := #[J,I,I,I,I,I,I,I,I,I,I,I]
abbrev objects_copied.Z3 : Array Bool := #[J,I,J,I,I,I,I,I,I,I,I,I]
abbrev objects_copied.Z4 : Array Bool := #[J,I,J,I,J,I,I,I,I,I,I,I]
abbrev objects_copied.Z5 : Array Bool := #[J,J,J,I,J,I,I,I,I,I,I,I]
abbrev objects_copied.Z6 : Array Bool := #[J,J,J,J,J,I,I,I,I,I,I,I]
abbrev objects_copied.Z7 : Array Bool := #[J,J,J,J,J,J,I,I,I,I,I,I]
abbrev objects_copied.Z8 : Array Bool := #[J,J,J,J,J,J,J,I,I,I,I,I]
abbrev objects_copied.Z9 : Array Bool := #[J,J,J,J,J,J,J,J,I,I,I,I]
abbrev objects_copied.Z10 : Array Bool := #[J,J,J,J,J,J,J,J,J,I,I,I]
abbrev objects_copied.Z11 : Array Bool := #[J,J,J,J,J,J,J,J,J,J,I,I]
abbrev objects_copied.Z12 : Array Bool := #[J,J,J,J,J,J,J,J,J,J,J,I]
abbrev objects_copied.Z13 : Array Bool := #[J,J,J,J,J,J,J,J,J,J,J,J]
set_option maxHeartbeats 8000000 in
set_option maxRecDepth 100000 in
theorem objects_copied.calls (k : Nat) (k9 : Option Addr) (j9 : Nat) (b1 : List (r9)) (r : List (r9)) (w : World) (J9 : Kd.C k46 w k9 b1.length b1) (K0 : b1.length ≤ j9) (h : objects_copied.f k b1 = some r) :
  Calls Try.prog 47 #[.agg #[.slice k9 b1.length j9]] w fun e w' => ∃ v0_ : Value, e = .returned (.agg #[v0_]) ∧ Kd.S k46 46 w' w.heap.size (fun _ => True) v0_ r ∧ Below w.heap.size w w' := by
  have aU3 := Try.underlying24
  have bE9 := Try.underlying46
  have aw1 := Try.underlying44
  have m8 := aZ J9
  have V4 := aZ K0
  clear J9 K0
  have HB := aZ (Below.refl w.heap.size w)
  have H : (objects_copied.l0 k b1 (b1.length : Int) 0 ([] : List (r9))) = some r := h
  clear h
  have H' := aZ H
  clear H
  go_enter Try.func47, Try.ntmps47
  go_wp2_with (first | ((with_reducible refine gate_dst (N := 1) rfl ?_); refine box_event ?hg (N := 1) ?hd (cs := #[.slice k9 b1.length j9]) (t := 24) ?hr ?_; (case hd => rfl); (case hg => rfl); (case hr => first | (go_simp; done) | (go_simp; rfl)); intro bk5 hg w2 hbox hb; have E2 := aZ (hbox); have dP1 := xgh hg HB; have bk6 := xgh hg HB; replace HB := xhl HB hb; clear hb hbox hg) | ((with_reducible refine gate_dst (N := 2) rfl ?_); refine box_event ?hg (N := 2) ?hd (cs := #[.slice none 0 0]) (t := 24) ?hr ?_; (case hd => rfl); (case hg => rfl); (case hr => first | (go_simp; done) | (go_simp; rfl)); intro aJ7 hg w3 hbox hb; have F6 := aZ (hbox); have dP2 := xgh hg HB; have bk7 := xgh hg HB; replace HB := xhl HB hb; have aJ8 := xnl hg E2; have aJ9 := xng hg E2; replace E2 := xbb E2 hb; clear hb hbox hg) | ((with_reducible refine gate_dst (N := 3) rfl ?_); refine box_event ?hg (N := 3) ?hd (cs := #[.slice none 0 0]) (t := 24) ?hr ?_; (case hd => rfl); (case hg => rfl); (case hr => first | (go_simp; done) | (go_simp; rfl)); intro aA0 hg w4 hbox hb; have D6 := aZ (hbox); have dP3 := xgh hg HB; have bk8 := xgh hg HB; replace HB := xhl HB hb; have aw6 := xnl hg E2; have aw7 := xng hg E2; replace E2 := xbb E2 hb; have aw8 := xnl hg F6; have aw9 := xng hg F6; replace F6 := xbb F6 hb; clear hb hbox hg; have dp8 := aw7.out; have dp9 := aw6.out; have ca5 := aw9.out; have ca6 := aw8.out; have am7 : w4.cell? ⟨aA0, 0, none⟩ = some (.slice none 0 0) := (blk_cell D6.out 0).trans rfl; have am8 := blk_frozen D6.out 0; have cq9 := aJ8.out; have cr0 := aJ9.out; have aF6 : w4.cell? ⟨bk5, 0, none⟩ = some (.slice k9 b1.length j9) := (blk_cell E2.out 0).trans rfl; have aF7 := blk_frozen E2.out 0))
  go_loopg [10] k (fun kq v10 w' => ∃ (g9 : Int) (F0 : List (r9)) (u626000 : Value), v10 = .int .i64 g9 ∧ Aside0 (objects_copied.l0 kq b1 (b1.length : Int) g9 F0 = some r) ∧ Aside0 (kq ≤ k) ∧ Aside0 (Kd.S k46 46 w' w.heap.size (fun _ => True) u626000 F0) ∧ Aside0 (w'.heap[bk5]? = some (.cells #[(.slice k9 b1.length j9)] 24 (0, 0))) ∧ Aside0 (w'.heap[aJ7]? = some (.cells #[(.slice none 0 0)] 24 (0, 0))) ∧ Aside0 (w'.heap[aA0]? = some (.cells #[u626000] 24 (0, 0))) ∧ Aside0 (Below w.heap.size w w'))
  case atStart => exact ⟨(0), (([] : List (r9))), (.slice none 0 0), xrs, H', ⟨Nat.le_refl _⟩, ⟨by first | exact Kd.S_nil _ _ _ _ _ | exact Kd.N_nil _ _ _ _ _ | exact Kd.V_nil _ _ _ _ _ | exact Kd.Q_nil _ _ _ _ _ | exact Kd.R_nil _ _ _ _ _⟩, xk E2, xk F6, ⟨by (with_reducible repeat (first | refine bN ?_ _ | refine bD ?_ | refine bA ?_ _)); refine blk_put (cs := #[.slice none 0 0]) ?_ 0 _ rfl; (with_reducible repeat (first | refine bN ?_ _ | refine bD ?_ | refine bA ?_ _)); exact D6.out⟩, xb HB⟩
  case round =>
   clear H'
   (try clear am7); (try clear aF6); (try clear am8); (try clear aF7)
   obtain ⟨g9, F0, u626000, rfl, HA, S8, m4, E2, F6, D6, HB⟩ := hrel
   cases gk with
   | zero => exact absurd HA.out (by simp [objects_copied.l0])
   | succ k1 =>
    have H := HA.out
    clear HA
    simp only [objects_copied.l0] at H
    by_cases c10 : g9 < (b1.length : Int)
    rotate_left
    · rw [if_neg c10] at H
      have bW3 : decide (g9 < (b1.length : Int)) = false := decide_eq_false c10
      clear c10
      obtain rfl := Option.some.inj H
      have bT2 := aw7.out
      have bT3 := aw6.out
      have bQ6 := aw9.out
      have bQ7 := aw8.out
      have aL4 : wr.cell? ⟨aA0, 0, none⟩ = some (u626000) := (blk_cell D6.out 0).trans rfl
      have aL5 := blk_frozen D6.out 0
      obtain ⟨cv8, cv9, ds2⟩ := Kd.S_slice m4.out
      subst ds2
      have cw0 := aJ9.out
      have cw1 := aJ8.out
      have cW2 : wr.cell? ⟨aJ7, 0, none⟩ = some (.slice none 0 0) := (blk_cell F6.out 0).trans rfl
      have cW3 := blk_frozen F6.out 0
      go_wp2
      refine bodyPost_ret (results_cell_row rfl _ _ aJ7 24 #[.slice cv8 F0.length cv9] (0, 0) _ rfl (by (with_reducible repeat (first | refine bN ?_ _ | refine bD ?_ | refine bA ?_ _)); refine blk_put (cs := #[.slice none 0 0]) ?_ 0 _ rfl; (with_reducible repeat (first | refine bN ?_ _ | refine bD ?_ | refine bA ?_ _)); exact F6.out) Try.underlying24 rfl (by kernel_rfl)) rfl ?_
      exact ⟨_, xre, by (with_reducible repeat (first | apply Kd.S_alloc | apply Kd.S_drewN | apply Kd.S_drew)); exact Kd.S_mono (Kd.S_far (p := ⟨aJ7, 0, none⟩) (Kd.S_types m4.out F6.out (by decide)) (fun _ hk => hk.2) (.slice cv8 F0.length cv9)) (fun _ hk => trivial), xq HB⟩

    rw [if_pos c10] at H
    have bW3 : decide (g9 < (b1.length : Int)) = true := decide_eq_true c10
    clear c10
    by_cases c11 : 0 ≤ g9
    rotate_left
    · rw [if_neg c11] at H
      exact absurd H (by simp)
    rw [if_pos c11] at H
    have aI8 : decide (0 ≤ g9) = true := decide_eq_true c11
    clear c11
    by_cases c12 : g9 < (b1.length : Int)
    rotate_left
    · rw [if_neg c12] at H
      exact absurd H (by simp)
    rw [if_pos c12] at H
    have aU4 : decide (g9 < (b1.length : Int)) = true := decide_eq_true c12
    clear c12
    replace H := Option.bind_eq_some_iff.mp H
    obtain ⟨⟨bp7, aY6, aY7⟩, bw6, H⟩ := H
    replace H : (if F0.length < 2199023255552 then (objects_copied.l0 k1 b1 (b1.length : Int) (wrap64 (g9 + 1)) (F0 ++ [(⟨(a7 b1 g9).f0, (⟨bp7, aY6, aY7⟩ : S44)⟩ : r9)])) else (none)) = some r := H
    have A13 := aZ bw6
    clear bw6
    by_cases c14 : F0.length < 2199023255552
    rotate_left
    · rw [if_neg c14] at H
      exact absurd H (by simp)
    rw [if_pos c14] at H
    have bv5 := aZ c14
    clear c14
    obtain ⟨bH7, aV2⟩ : ∃ y_ : List (r9), y_ = (F0 ++ [(⟨(a7 b1 g9).f0, (⟨bp7, aY6, aY7⟩ : S44)⟩ : r9)]) := ⟨_, rfl⟩
    replace H : (objects_copied.l0 k1 b1 (b1.length : Int) (wrap64 (g9 + 1)) bH7) = some r := by first | (rw [aV2]; with_reducible exact H) | (have P7 := (Option.bind_some _ _).symm.trans H; rw [aV2]; with_reducible exact P7) | (have P7 := (Option.bind_some _ _).symm.trans H; with_reducible exact P7) | with_reducible exact H | (rw [aV2]; exact H) | exact H
    have cw2 := aZ aV2
    clear aV2
    have H' := aZ H
    clear H
    have ce6 : 0 ≤ (g9 : Int) := of_decide_eq_true xas
    have ce7 : g9 < (b1.length : Int) := of_decide_eq_true xas
    obtain ⟨bW4, N9, O0, P9, Q0, ds3, bk9, bl0, bl1, bl2, bl3, bl4, bl5, bl6⟩ := l8 m8.out g9 ce6 ce7
    cases ds3
    replace bk9 := xcl HB bk9
    replace bl0 := xcl HB bl0
    replace bl1 := xcl HB bl1
    replace bl2 := xcl HB bl2
    have bH8 := aZ bl4
    have bH9 := aZ bl3
    clear bl4 bl3
    have bI0 := aZ bl6
    have bI1 := aZ bl5
    clear bl6 bl5
    replace ce6 := eq_true ce6
    replace ce7 := eq_true ce7
    try go_wp2_with (first | ((with_reducible refine gate_dst (N := 5) rfl ?_); refine box_event ?hg (N := 5) ?hd (cs := #[.int .i64 0, .int .i64 0, .slice none 0 0, .slice none 0 0]) (t := 46) ?hr ?_; (case hd => rfl); (case hg => rfl); (case hr => first | (go_simp; done) | (go_simp; rfl)); intro m5 hg w15 hbox hb; replace m4 := aZ (Kd.S_below (Kd.S_elderB (by (with_reducible repeat (first | apply Kd.S_alloc | apply Kd.S_drewN | apply Kd.S_drew)); exact m4.out) m5 (Nat.le_of_eq hg.symm)) hb); have q2 := aZ (hbox); have dP4 := xgh hg HB; have bl7 := xgh hg HB; replace HB := xhl HB hb; have bp8 := xnl hg E2; have bp9 := xng hg E2; replace E2 := xbb E2 hb; have bq0 := xnl hg F6; have bq1 := xng hg F6; replace F6 := xbb F6 hb; have aK0 := xnl hg D6; have aK1 := xng hg D6; replace D6 := xbb D6 hb; clear hb hbox hg; have cw3 := bp9.out; have cw4 := bp8.out; have bu6 := bq1.out; have bu7 := bq0.out; have bU2 := aK1.out; have bU3 := aK0.out; have aM6 : w15.cell? ⟨m5, 0, none⟩ = some (.int .i64 0) := (blk_cell q2.out 0).trans rfl; have aM7 : w15.cell? ⟨m5, 1, none⟩ = some (.int .i64 0) := (blk_cell q2.out 1).trans rfl; have bh3 : w15.cell? ⟨m5, 2, none⟩ = some (.slice none 0 0) := (blk_cell q2.out 2).trans rfl; have cW5 : w15.cell? ⟨m5, 3, none⟩ = some (.slice none 0 0) := (blk_cell q2.out 3).trans rfl; have aM8 := blk_frozen q2.out 0; have aM9 := blk_frozen q2.out 1; have bh4 := blk_frozen q2.out 2; have cW6 := blk_frozen q2.out 3))
    replace m4 : Aside0 (Kd.S k46 46 ((((w15.setCell ⟨m5, 0, none⟩ (.int .i64 ((a7 b1 g9).f0))).setCell ⟨m5, 1, none⟩ (.int .i64 ((a7 b1 g9).f1.f0))).setCell ⟨m5, 2, none⟩ (.slice N9 ((a7 b1 g9).f1.f1).length O0)).setCell ⟨m5, 3, none⟩ (.slice P9 ((a7 b1 g9).f1.f2).length Q0)) w.heap.size (fun k_ => k_ ≠ m5) u626000 F0) := ⟨by (with_reducible repeat (first | apply Kd.S_alloc | apply Kd.S_drewN | apply Kd.S_drew)); exact Kd.S_mono (Kd.S_far (p := ⟨m5, 3, none⟩) (Kd.S_far (p := ⟨m5, 2, none⟩) (Kd.S_far (p := ⟨m5, 1, none⟩) (Kd.S_far (p := ⟨m5, 0, none⟩) (Kd.S_mono m4.out (fun k_ hk => (⟨hk, hk.2⟩ : _ ∧ k_ ≠ m5))) (fun _ hk => hk.2) (.int .i64 ((a7 b1 g9).f0))) (fun _ hk => hk.2) (.int .i64 ((a7 b1 g9).f1.f0))) (fun _ hk => hk.2) (.slice N9 ((a7 b1 g9).f1.f1).length O0)) (fun _ hk => hk.2) (.slice P9 ((a7 b1 g9).f1.f2).length Q0)) (fun _ hk => hk.1.2)⟩
    replace E2 : Aside0 (((((w15.setCell ⟨m5, 0, none⟩ (.int .i64 ((a7 b1 g9).f0))).setCell ⟨m5, 1, none⟩ (.int .i64 ((a7 b1 g9).f1.f0))).setCell ⟨m5, 2, none⟩ (.slice N9 ((a7 b1 g9).f1.f1).length O0)).setCell ⟨m5, 3, none⟩ (.slice P9 ((a7 b1 g9).f1.f2).length Q0)).heap[bk5]? = some (.cells #[.slice (some bW4) b1.length j9] 24 (0, 0))) := xk E2
    replace F6 : Aside0 (((((w15.setCell ⟨m5, 0, none⟩ (.int .i64 ((a7 b1 g9).f0))).setCell ⟨m5, 1, none⟩ (.int .i64 ((a7 b1 g9).f1.f0))).setCell ⟨m5, 2, none⟩ (.slice N9 ((a7 b1 g9).f1.f1).length O0)).setCell ⟨m5, 3, none⟩ (.slice P9 ((a7 b1 g9).f1.f2).length Q0)).heap[aJ7]? = some (.cells #[.slice none 0 0] 24 (0, 0))) := xk F6
    replace D6 : Aside0 (((((w15.setCell ⟨m5, 0, none⟩ (.int .i64 ((a7 b1 g9).f0))).setCell ⟨m5, 1, none⟩ (.int .i64 ((a7 b1 g9).f1.f0))).setCell ⟨m5, 2, none⟩ (.slice N9 ((a7 b1 g9).f1.f1).length O0)).setCell ⟨m5, 3, none⟩ (.slice P9 ((a7 b1 g9).f1.f2).length Q0)).heap[aA0]? = some (.cells #[u626000] 24 (0, 0))) := xk D6
    replace q2 : Aside0 (((((w15.setCell ⟨m5, 0, none⟩ (.int .i64 ((a7 b1 g9).f0))).setCell ⟨m5, 1, none⟩ (.int .i64 ((a7 b1 g9).f1.f0))).setCell ⟨m5, 2, none⟩ (.slice N9 ((a7 b1 g9).f1.f1).length O0)).setCell ⟨m5, 3, none⟩ (.slice P9 ((a7 b1 g9).f1.f2).length Q0)).heap[m5]? = some (.cells #[.int .i64 ((a7 b1 g9).f0), .int .i64 ((a7 b1 g9).f1.f0), .slice N9 ((a7 b1 g9).f1.f1).length O0, .slice P9 ((a7 b1 g9).f1.f2).length Q0] 46 (0, 0))) := ⟨by (with_reducible repeat (first | refine bN ?_ _ | refine bD ?_ | refine bA ?_ _)); refine blk_put (cs := #[.int .i64 ((a7 b1 g9).f0), .int .i64 ((a7 b1 g9).f1.f0), .slice N9 ((a7 b1 g9).f1.f1).length O0, .slice none 0 0]) ?_ 3 _ rfl; (with_reducible repeat (first | refine bN ?_ _ | refine bD ?_ | refine bA ?_ _)); refine blk_put (cs := #[.int .i64 ((a7 b1 g9).f0), .int .i64 ((a7 b1 g9).f1.f0), .slice none 0 0, .slice none 0 0]) ?_ 2 _ rfl; (with_reducible repeat (first | refine bN ?_ _ | refine bD ?_ | refine bA ?_ _)); refine blk_put (cs := #[.int .i64 ((a7 b1 g9).f0), .int .i64 0, .slice none 0 0, .slice none 0 0]) ?_ 1 _ rfl; (with_reducible repeat (first | refine bN ?_ _ | refine bD ?_ | refine bA ?_ _)); refine blk_put (cs := #[.int .i64 0, .int .i64 0, .slice none 0 0, .slice none 0 0]) ?_ 0 _ rfl; (with_reducible repeat (first | refine bN ?_ _ | refine bD ?_ | refine bA ?_ _)); exact q2.out⟩
    replace HB : Aside0 (Below w.heap.size w ((((w15.setCell ⟨m5, 0, none⟩ (.int .i64 ((a7 b1 g9).f0))).setCell ⟨m5, 1, none⟩ (.int .i64 ((a7 b1 g9).f1.f0))).setCell ⟨m5, 2, none⟩ (.slice N9 ((a7 b1 g9).f1.f1).length O0)).setCell ⟨m5, 3, none⟩ (.slice P9 ((a7 b1 g9).f1.f2).length Q0))) := xb HB
    generalize ((((w15.setCell ⟨m5, 0, none⟩ (.int .i64 ((a7 b1 g9).f0))).setCell ⟨m5, 1, none⟩ (.int .i64 ((a7 b1 g9).f1.f0))).setCell ⟨m5, 2, none⟩ (.slice N9 ((a7 b1 g9).f1.f1).length O0)).setCell ⟨m5, 3, none⟩ (.slice P9 ((a7 b1 g9).f1.f2).length Q0)) = w20 at m4 E2 F6 D6 q2 HB ⊢
    replace m4 := aZ (Kd.S_drew m4.out)
    replace E2 := aZ (bD E2.out)
    replace F6 := aZ (bD F6.out)
    replace D6 := aZ (bD D6.out)
    replace q2 := aZ (bD q2.out)
    replace HB := aZ (lD HB.out)
    refine start_ (n := 12) (S := fun w' => w'.cell? ⟨aA0, 0, none⟩ = some (u626000) ∧ w'.cell? ⟨m5, 0, none⟩ = some (.int .i64 ((a7 b1 g9).f0)) ∧ w'.cell? ⟨m5, 1, none⟩ = some (.int .i64 ((a7 b1 g9).f1.f0)) ∧ w'.cell? ⟨m5, 2, none⟩ = some (.slice N9 ((a7 b1 g9).f1.f1).length O0) ∧ w'.cell? ⟨m5, 3, none⟩ = some (.slice P9 ((a7 b1 g9).f1.f2).length Q0)) (ds := [11]) Z1 (by kernel_rfl) rfl rfl ⟨(blk_cell D6.out 0).trans rfl, (blk_cell q2.out 0).trans rfl, (blk_cell q2.out 1).trans rfl, (blk_cell q2.out 2).trans rfl, (blk_cell q2.out 3).trans rfl⟩ (fun hHeld => ?_); refine with_tabW objects_copied.tab5 objects_copied.bits5 (fun HT_ HW_ => ?_)
    generalize w20.drew = w21 at m4 E2 F6 D6 q2 HB hHeld ⊢
    refine pu 0 14 Z2 HT_ rfl rfl (h := ?_)
    refine pu 2 16 Z3 HT_ rfl rfl (h := ?_)
    refine pu 4 18 Z4 HT_ rfl rfl (h := ?_)
    refine tk 1 15 Z5 HT_ HW_ rfl rfl hHeld (by rintro w' ⟨s0, s1, s2, s3, s4⟩; go_simp; with_reducible rfl) (h := ?_)
    refine tk 3 17 Z6 HT_ HW_ rfl rfl hHeld (by rintro w' ⟨s0, s1, s2, s3, s4⟩; go_simp; with_reducible rfl) (h := ?_)
    refine tk 5 19 Z7 HT_ HW_ rfl rfl hHeld (by rintro w' ⟨s0, s1, s2, s3, s4⟩; go_simp; with_reducible rfl) (h := ?_)
    refine one_ (i := 6) (N := some 20) Z8 rfl rfl (one_of HT_.out (by kernel_rfl)) (by decide) (fun K hK => ?_)
    refine goes_ Try.func51 (by kernel_rfl) rfl #[.agg #[.int .i64 ((a7 b1 g9).f1.f0), .slice N9 ((a7 b1 g9).f1.f1).length O0, .slice P9 ((a7 b1 g9).f1.f2).length Q0]] (by rfl) rfl rfl xmp ?_
    with_reducible refine (objects_Clone.calls ((a7 b1 g9).f1.f0) _ _ ((a7 b1 g9).f1.f1) _ _ ((a7 b1 g9).f1.f2) bp7 aY6 aY7 _ ?side1 ?side2 ?side3 ?side4 A13.out).mono ?_
    (case side1 => exact xcb bH8 HB)
    (case side2 => exact bH9.out)
    (case side3 => exact xcb bI0 HB)
    (case side4 => exact bI1.out)
    rintro e w22 ⟨ea0, ea1, rfl, ho0, ho1, hb⟩
    refine ⟨_, rfl, ?_⟩
    replace m4 := aZ (Kd.S_mono (Kd.S_told (Kd.S_told (Kd.S_old (by (with_reducible repeat (first | apply Kd.S_alloc | apply Kd.S_drewN | apply Kd.S_drew)); exact m4.out) hb) (Kd.R_base ho0)) (Kd.R_base ho1)) (fun _ h_ => h_.1))
    have bl8 := aZ (Kd.R_lower ho0 (lZ (by repeat (first | (with_reducible first | exact HB.out | apply lA | apply lN | apply lD | refine lS ?_ bk6.out | refine lS ?_ bk7.out | refine lS ?_ bk8.out | refine lS ?_ bl7.out) | exact HB.out))))
    have bl9 := aZ (Kd.R_lower ho1 (lZ (by repeat (first | (with_reducible first | exact HB.out | apply lA | apply lN | apply lD | refine lS ?_ bk6.out | refine lS ?_ bk7.out | refine lS ?_ bk8.out | refine lS ?_ bl7.out) | exact HB.out))))
    replace E2 := xbb E2 hb
    replace F6 := xbb F6 hb
    replace D6 := xbb D6 hb
    replace q2 := aZ (blk_below (g := m5) (o := .cells #[.int .i64 ((a7 b1 g9).f0), .int .i64 ((a7 b1 g9).f1.f0), .slice N9 ((a7 b1 g9).f1.f1).length O0, .slice P9 ((a7 b1 g9).f1.f2).length Q0] 46 (0, 0)) (xkq q2) hb)
    replace HB := xhl HB hb
    (try clear hb)
    (try clear H3)
    (try clear hk)
    (try clear hi)
    (try clear ho0)
    (try clear ho1)
    obtain ⟨aO1, aI2, bI2⟩ := Kd.R_slice bl9.out
    (first | subst bI2 | (injection bI2 with f1_ f2_ f3_; have f4_ := f1_.symm; have f5_ := f3_.symm; clear f1_ f2_ f3_; subst f4_; subst f5_))
    obtain ⟨cw5, cw6, cw7⟩ := Kd.R_slice bl8.out
    (first | subst cw7 | (injection cw7 with f1_ f2_ f3_; have f4_ := f1_.symm; have f5_ := f3_.symm; clear f1_ f2_ f3_; subst f4_; subst f5_))
    refine hK.out _ _ ⟨(blk_cell D6.out 0).trans rfl, (blk_cell q2.out 0).trans rfl, (blk_cell q2.out 1).trans rfl, (blk_cell q2.out 2).trans rfl, (blk_cell q2.out 3).trans rfl⟩ (fun hHeld => ?_)
    clear hK K
    refine norm_ (a' := ?_) ?_ ?_
    rotate_left
    · show Act.put _ (some 20) _ = _
      simp only [Act.put, List.setIfInBounds_toArray, List.set_cons_zero, List.set_cons_succ, i64_w, i32_w]
      rfl
    refine pu 7 21 Z9 HT_ rfl rfl (h := ?_)
    refine one_ (i := 8) (N := some 22) Z10 rfl rfl (one_of HT_.out (by kernel_rfl)) (by decide) (fun K hK => ?_)
    refine value_ (w1 := ?_) (v := ?_) (by rfl) rfl ?_ ?_
    rotate_left 2
    · go_simp
      constructor
      · rfl
      · rfl
    refine hK.out _ _ ⟨(blk_cell (bA D6.out _) 0).trans rfl, (blk_cell (bA q2.out _) 0).trans rfl, (blk_cell (bA q2.out _) 1).trans rfl, (blk_cell (bA q2.out _) 2).trans rfl, (blk_cell (bA q2.out _) 3).trans rfl⟩ (fun hHeld => ?_)
    clear hK K
    refine norm_ (a' := ?_) ?_ ?_
    rotate_left
    · show Act.put _ (some 22) _ = _
      simp only [Act.put, List.setIfInBounds_toArray, List.set_cons_zero, List.set_cons_succ, i64_w, i32_w]
      rfl
    refine one_ (i := 9) (N := some 23) Z11 rfl rfl (one_of HT_.out (by kernel_rfl)) (by decide) (fun K hK => ?_)
    refine Kd.S_append_step k46 (w0 := w) w.heap.size (by rfl) (.tmp 15) (.tmp 22) 22 46 (.agg #[(.int .i64 0), (.int .i64 0), (.slice none 0 0), (.slice none 0 0)]) 64 rfl Try.underlying22 aK5 rfl (by decide) (by omega) u626000 F0 (⟨(a7 b1 g9).f0, (⟨bp7, aY6, aY7⟩ : S44)⟩ : r9) [.int .i64 ((a7 b1 g9).f0), .int .i64 bp7, .slice cw5 aY6.length cw6, .slice aO1 aY7.length aI2] (fun k_ => k_ ≠ m5) (fun k_ => some k_ = (.slice cw5 aY6.length cw6 : Value).ownBlock ∨ some k_ = (.slice aO1 aY7.length aI2 : Value).ownBlock) rfl rfl ?aP (fun k_ hk_ => hk_.elim (fun h_ => ((Kd.R_mono (ok' := fun k_ => ((fun k_ => k_ ≠ m5)) k_ ∧ some k_ ≠ (u626000 : Value).ownBlock) (Kd.R_types (Kd.R_apart' (bl8.out) (Kd.S_typed m4.out) (by decide)) q2.out (by decide)) (fun k_ hk => ⟨hk.2, hk.1.2⟩))).1 k_ h_.symm) (fun h_ => ((Kd.R_mono (ok' := fun k_ => ((fun k_ => k_ ≠ m5)) k_ ∧ some k_ ≠ (u626000 : Value).ownBlock) (Kd.R_types (Kd.R_apart' (bl9.out) (Kd.S_typed m4.out) (by decide)) q2.out (by decide)) (fun k_ hk => ⟨hk.2, hk.1.2⟩))).1 k_ h_.symm)) ?aF ?aO ?aB ?aS ?aL ?_
    (case aP => exact bd2 _ _ _ (⟨(a7 b1 g9).f0, (⟨bp7, aY6, aY7⟩ : S44)⟩ : r9) (Kd.R_mono (Kd.R_tight rfl (Kd.R_mono (ok' := fun k_ => ((fun k_ => k_ ≠ m5)) k_ ∧ some k_ ≠ (u626000 : Value).ownBlock) (Kd.R_types (Kd.R_apart' (bl8.out) (Kd.S_typed m4.out) (by decide)) q2.out (by decide)) (fun k_ hk => ⟨hk.2, hk.1.2⟩))) (fun _ h_ => Or.inl h_)) (Kd.R_mono (Kd.R_tight rfl (Kd.R_mono (ok' := fun k_ => ((fun k_ => k_ ≠ m5)) k_ ∧ some k_ ≠ (u626000 : Value).ownBlock) (Kd.R_types (Kd.R_apart' (bl9.out) (Kd.S_typed m4.out) (by decide)) q2.out (by decide)) (fun k_ hk => ⟨hk.2, hk.1.2⟩))) (fun _ h_ => Or.inr (h_))))
    (case aB => exact (by repeat (first | (with_reducible first | exact HB.out | apply lA | apply lN | apply lD | refine lS ?_ bk6.out | refine lS ?_ bk7.out | refine lS ?_ bk8.out | refine lS ?_ bl7.out) | exact HB.out)))
    (case aF => exact (fun k_ hk => Kd.freshB (g := m5) (o := .cells #[.int .i64 ((a7 b1 g9).f0), .int .i64 ((a7 b1 g9).f1.f0), .slice N9 ((a7 b1 g9).f1.f1).length O0, .slice P9 ((a7 b1 g9).f1.f2).length Q0] 46 (0, 0)) (xkq q2) k_ hk))
    (case aO => exact (by (with_reducible repeat (first | apply Kd.S_alloc | apply Kd.S_drewN | apply Kd.S_drew)); exact Kd.S_mono m4.out (fun k_ hk => ⟨hk.1.1, fun e_ => e_.elim (fun h_ => hk.1.2 h_) (fun h_ => hk.2 h_)⟩)))
    (case aS => exact (lZ (by repeat (first | (with_reducible first | exact HB.out | apply lA | apply lN | apply lD | refine lS ?_ bk6.out | refine lS ?_ bk7.out | refine lS ?_ bk8.out | refine lS ?_ bl7.out) | exact HB.out))))
    (case aL => have := bv5.out; omega)
    intro ea2 w25 ho hb hg hat
    rw [← cw2.out] at ho
    replace E2 := aZ (blk_grown (g := bk5) (o := .cells #[.slice (some bW4) b1.length j9] 24 (0, 0)) (xkq E2) hg (Kd.S_ne m4.out E2.out (by decide)))
    replace F6 := aZ (blk_grown (g := aJ7) (o := .cells #[.slice none 0 0] 24 (0, 0)) (xkq F6) hg (Kd.S_ne m4.out F6.out (by decide)))
    replace D6 := aZ (blk_grown (g := aA0) (o := .cells #[u626000] 24 (0, 0)) (xkq D6) hg (Kd.S_ne m4.out D6.out (by decide)))
    replace q2 := aZ (blk_grown (g := m5) (o := .cells #[.int .i64 ((a7 b1 g9).f0), .int .i64 ((a7 b1 g9).f1.f0), .slice N9 ((a7 b1 g9).f1.f1).length O0, .slice P9 ((a7 b1 g9).f1.f2).length Q0] 46 (0, 0)) (xkq q2) hg (Kd.S_away m4.out (fun _ hk => hk.1.1)))
    replace HB := aZ (hb)
    have bW5 := aZ (ho)
    clear m4
    clear bl8
    clear bl9
    clear ho hb hg hat
    obtain ⟨cw8, cw9, cx0⟩ := Kd.S_slice bW5.out
    (first | subst cx0 | (injection cx0 with f1_ f2_ f3_; have f4_ := f1_.symm; have f5_ := f3_.symm; clear f1_ f2_ f3_; subst f4_; subst f5_))
    refine hK.out _ _ ⟨(blk_cell D6.out 0).trans rfl, (blk_cell q2.out 0).trans rfl, (blk_cell q2.out 1).trans rfl, (blk_cell q2.out 2).trans rfl, (blk_cell q2.out 3).trans rfl⟩ (fun hHeld => ?_)
    clear hK K
    refine norm_ (a' := ?_) ?_ ?_
    rotate_left
    · show Act.put _ (some 23) _ = _
      simp only [Act.put, List.setIfInBounds_toArray, List.set_cons_zero, List.set_cons_succ, i64_w, i32_w]
      rfl
    refine pu 10 24 Z12 HT_ rfl rfl (h := ?_)
    refine last_ (i := 11) (N := none) Z13 rfl rfl (one_of HT_.out (by kernel_rfl)) (by decide) (fun K hK => ?_)
    have ea3 : w25.cell? ⟨aA0, 0, none⟩ = some (u626000) := (blk_cell D6.out 0).trans rfl
    have dP5 := blk_frozen D6.out 0
    have cW7 := aw6.out
    have cW8 := aw8.out
    have cW9 := aK1.out
    have cX0 := aw7.out
    have cX1 := aw9.out
    have cX2 := aK0.out
    refine skip_ (w1 := ?_) (by rfl) rfl ?_ ?_
    rotate_left
    · go_simp
      rfl
    refine hK.out _ _ ?_
    clear hK K
    refine done_ (done_of HT_.out (by kernel_rfl)) ?_
    try go_wp2
    go_roundg k1
    case measure => have := S8.out; omega
    case rel => exact ⟨(wrap64 (g9 + 1)), (bH7), (.slice cw8 bH7.length cw9), xrs, H', ⟨by have := S8.out; omega⟩, ⟨by (with_reducible repeat (first | apply Kd.S_alloc | apply Kd.S_drewN | apply Kd.S_drew)); exact Kd.S_mono (Kd.S_far (p := ⟨aA0, 0, none⟩) (Kd.S_types bW5.out D6.out (by decide)) (fun _ hk => hk.2) (.slice cw8 bH7.length cw9)) (fun _ hk => trivial)⟩, xk E2, xk F6, ⟨by (with_reducible repeat (first | refine bN ?_ _ | refine bD ?_ | refine bA ?_ _)); refine blk_put (cs := #[u626000]) ?_ 0 _ rfl; (with_reducible repeat (first | refine bN ?_ _ | refine bD ?_ | refine bA ?_ _)); exact D6.out⟩, xb HB⟩
def slices_Equal_int_int.l0 : Nat → List Int → List Int → Int → Int → Option (Bool)
  | 0, _, _, _, _ => none
  | k + 1, x0, x1, x12, x13 => if x13 < x12 then (if 0 ≤ x13 then (if x13 < (x0.length : Int) then (if x13 < (x1.length : Int) then (if (rd x0 x13) = (rd x1 x13) then (slices_Equal_int_int.l0 k x0 x1 x12 (wrap64 (x13 + 1))) else (some false)) else (none)) else (none)) else (none)) else (some true)
def slices_Equal_int_int.f (k : Nat) (l0 : List Int) (l1 : List Int) : Option (Bool) := if (l0.length : Int) = (l1.length : Int) then (slices_Equal_int_int.l0 k l0 l1 (l0.length : Int) 0) else (some false)
theorem slices_Equal_int_int.mono_l : ∀ k, (∀ y0 y1 y2 y3, LeO (slices_Equal_int_int.l0 k y0 y1 y2 y3) (slices_Equal_int_int.l0 (k + 1) y0 y1 y2 y3))
  | 0 => fun _ _ _ _ r h => by simp [slices_Equal_int_int.l0] at h
  | k + 1 => by
    have t6 := slices_Equal_int_int.mono_l k
    · intro y0 y1 y2 y3
      unfold slices_Equal_int_int.l0
      repeat' first | (with_reducible first | exact t6 _ _ _ _ | exact LeO.refl _ | exact LeO.none _ | refine LeO.ite ?_ ?_ | refine LeO.bind ?_ (fun _ => ?_)) | exact t6 _ _ _ _ | exact LeO.none _ | refine LeO.ite ?_ ?_ | refine LeO.bind ?_ (fun _ => ?_)
theorem slices_Equal_int_int.mono : ∀ a0 a1 k, LeO (slices_Equal_int_int.f k a0 a1) (slices_Equal_int_int.f (k + 1) a0 a1) := by
  intro a0 a1 k
  have t6 := slices_Equal_int_int.mono_l k
  unfold slices_Equal_int_int.f
  repeat' first | (with_reducible first | exact t6 _ _ _ _ | exact LeO.refl _ | exact LeO.none _ | refine LeO.ite ?_ ?_ | refine LeO.bind ?_ (fun _ => ?_)) | exact t6 _ _ _ _ | exact LeO.none _ | refine LeO.ite ?_ ?_ | refine LeO.bind ?_ (fun _ => ?_)
set_option maxHeartbeats 8000000 in
set_option maxRecDepth 100000 in
theorem slices_Equal_int_int.calls (k : Nat) (A0 : Option Addr) (c0 : Nat) (l0 : List Int) (A1 : Option Addr) (c1 : Nat) (l1 : List Int) (r : Bool) (w : World) (hr0 : Kd.C (Kd.int .i64) w A0 l0.length l0) (hc0 : l0.length ≤ c0) (hr1 : Kd.C (Kd.int .i64) w A1 l1.length l1) (hc1 : l1.length ≤ c1) (h : slices_Equal_int_int.f k l0 l1 = some r) :
  Calls Try.prog 59 #[.slice A0 l0.length c0, .slice A1 l1.length c1] w fun e w' => e = .returned (.bool r) ∧ Drawn0 w w' := by
  have HR0 := aZ hr0
  have HC0 := aZ hc0
  clear hr0 hc0
  have HR1 := aZ hr1
  have HC1 := aZ hc1
  clear hr1 hc1
  have H : (if (l0.length : Int) = (l1.length : Int) then (slices_Equal_int_int.l0 k l0 l1 (l0.length : Int) 0) else (some false)) = some r := h
  clear h
  by_cases c3 : (l0.length : Int) = (l1.length : Int)
  rotate_left
  · rw [if_neg c3] at H
    have ae4 : ((l0.length : Int) == (l1.length : Int)) = false := beq_eq_false_iff_ne.mpr c3
    have aA8 : ((l0.length : Int) != (l1.length : Int)) = true := bne_iff_ne.mpr c3
    have aV3 : (l0.length == l1.length) = false := by first | simpa using c3 | (simp at c3 ⊢; omega)
    obtain rfl := Option.some.inj H
    go_enter Try.func59, Try.ntmps59
    go_wp2
    repeat (go_quiet (fail); try go_wp2)
    go_ret
    exact ⟨by first | rfl | (simp; done) | (simp [*]; done), by repeat (first | exact Drawn0.refl _ | apply Drawn0.step)⟩

  rw [if_pos c3] at H
  have ae4 : ((l0.length : Int) == (l1.length : Int)) = true := beq_iff_eq.mpr c3
  have aA8 : ((l0.length : Int) != (l1.length : Int)) = false := bne_eq_false_iff_eq.mpr c3
  have aV3 : (l0.length == l1.length) = true := by first | simpa using c3 | (simp at c3 ⊢; omega)
  clear c3
  have H' := aZ H
  clear H
  go_enter Try.func59, Try.ntmps59
  go_wp2
  repeat (go_quiet (fail); try go_wp2)
  go_loopg [13] k (fun kq v13 w' => ∃ (m3 : Int), v13 = .int .i64 m3 ∧ Aside0 (slices_Equal_int_int.l0 kq l0 l1 (l0.length : Int) m3 = some r) ∧ Aside0 (kq ≤ k) ∧ Drawn0 w w')
  case atStart => exact ⟨(0), xrs, H', ⟨Nat.le_refl _⟩, by repeat (first | exact Drawn0.refl _ | apply Drawn0.step)⟩
  case round =>
   clear H'
   (try clear c1); (try clear c3); (try clear ae4); (try clear aA8); (try clear aV3)
   obtain ⟨m3, rfl, HA, S8, ⟨m1, rfl⟩⟩ := hrel
   cases gk with
   | zero => exact absurd HA.out (by simp [slices_Equal_int_int.l0])
   | succ k1 =>
    have H := HA.out
    clear HA
    simp only [slices_Equal_int_int.l0] at H
    by_cases c4 : m3 < (l0.length : Int)
    rotate_left
    · rw [if_neg c4] at H
      have Y8 : decide (m3 < (l0.length : Int)) = false := decide_eq_false c4
      clear c4
      obtain rfl := Option.some.inj H
      go_wp2
      repeat (go_quiet (fail); try go_wp2)
      go_ret
      exact ⟨by first | rfl | (simp; done) | (simp [*]; done), by repeat (first | exact Drawn0.refl _ | apply Drawn0.step)⟩
    rw [if_pos c4] at H
    have Y8 : decide (m3 < (l0.length : Int)) = true := decide_eq_true c4
    clear c4
    by_cases c5 : 0 ≤ m3
    rotate_left
    · rw [if_neg c5] at H
      exact absurd H (by simp)
    rw [if_pos c5] at H
    have aK8 : decide (0 ≤ m3) = true := decide_eq_true c5
    clear c5
    by_cases c6 : m3 < (l0.length : Int)
    rotate_left
    · rw [if_neg c6] at H
      exact absurd H (by simp)
    rw [if_pos c6] at H
    have Y9 : decide (m3 < (l0.length : Int)) = true := decide_eq_true c6
    clear c6
    by_cases c7 : m3 < (l1.length : Int)
    rotate_left
    · rw [if_neg c7] at H
      exact absurd H (by simp)
    rw [if_pos c7] at H
    have aS2 : decide (m3 < (l1.length : Int)) = true := decide_eq_true c7
    clear c7
    by_cases c8 : (rd l0 m3) = (rd l1 m3)
    rotate_left
    · rw [if_neg c8] at H
      have bs9 : ((rd l0 m3) == (rd l1 m3)) = false := beq_eq_false_iff_ne.mpr c8
      have cx1 : ((rd l0 m3) != (rd l1 m3)) = true := bne_iff_ne.mpr c8
      obtain rfl := Option.some.inj H
      have aY8 : 0 ≤ (m3 : Int) := of_decide_eq_true xas
      have aY9 : m3 < (l0.length : Int) := of_decide_eq_true xas
      obtain ⟨cx2, cf0, bI3⟩ := Kd.at_int HR0.out m3 aY8 aY9
      cases cf0
      replace aY8 := eq_true aY8
      replace aY9 := eq_true aY9
      have aZ0 : 0 ≤ (m3 : Int) := of_decide_eq_true xas
      have aZ1 : m3 < (l1.length : Int) := of_decide_eq_true xas
      obtain ⟨cx3, cf1, bI4⟩ := Kd.at_int HR1.out m3 aZ0 aZ1
      cases cf1
      replace aZ0 := eq_true aZ0
      replace aZ1 := eq_true aZ1
      go_wp2
      repeat (go_quiet (fail); try go_wp2)
      go_ret
      exact ⟨by first | rfl | (simp; done) | (simp [*]; done), by repeat (first | exact Drawn0.refl _ | apply Drawn0.step)⟩
    rw [if_pos c8] at H
    have bs9 : ((rd l0 m3) == (rd l1 m3)) = true := beq_iff_eq.mpr c8
    have cx1 : ((rd l0 m3) != (rd l1 m3)) = false := bne_eq_false_iff_eq.mpr c8
    clear c8
    have H' := aZ H
    clear H
    have aY8 : 0 ≤ (m3 : Int) := of_decide_eq_true xas
    have aY9 : m3 < (l0.length : Int) := of_decide_eq_true xas
    obtain ⟨cx2, cf0, bI3⟩ := Kd.at_int HR0.out m3 aY8 aY9
    cases cf0
    replace aY8 := eq_true aY8
    replace aY9 := eq_true aY9
    have aZ0 : 0 ≤ (m3 : Int) := of_decide_eq_true xas
    have aZ1 : m3 < (l1.length : Int) := of_decide_eq_true xas
    obtain ⟨cx3, cf1, bI4⟩ := Kd.at_int HR1.out m3 aZ0 aZ1
    cases cf1
    replace aZ0 := eq_true aZ0
    replace aZ1 := eq_true aZ1
    go_wp2
    repeat (go_quiet (fail); try go_wp2)
    go_roundg k1
    case measure => have := S8.out; omega
    case rel => exact ⟨(wrap64 (m3 + 1)), xrs, H', ⟨by have := S8.out; omega⟩, by repeat (first | exact Drawn0.refl _ | apply Drawn0.step)⟩
def bytes_Equal.f (l0 : List Int) (l1 : List Int) : Option (Bool) := some ((strOfNums l0).toList == (strOfNums l1).toList)
set_option maxHeartbeats 8000000 in
set_option maxRecDepth 100000 in
theorem bytes_Equal.calls (A0 : Option Addr) (c0 : Nat) (l0 : List Int) (A1 : Option Addr) (c1 : Nat) (l1 : List Int) (r : Bool) (w : World) (hr0 : Kd.C (Kd.int .u8) w A0 l0.length l0) (hc0 : l0.length ≤ c0) (hr1 : Kd.C (Kd.int .u8) w A1 l1.length l1) (hc1 : l1.length ≤ c1) (h : bytes_Equal.f l0 l1 = some r) :
    Calls Try.prog 60 #[.slice A0 l0.length c0, .slice A1 l1.length c1] w fun e w' => e = .returned (.bool r) ∧ Drawn0 w w' := by
  have HR0 := aZ hr0
  have HC0 := aZ hc0
  clear hr0 hc0
  have HR1 := aZ hr1
  have HC1 := aZ hc1
  clear hr1 hc1
  have H : (some ((strOfNums l0).toList == (strOfNums l1).toList)) = some r := h
  clear h
  obtain rfl := Option.some.inj H
  have ea4 := Kd.C_string (P := Try.prog) (A := A0) (c := c0) Try.underlying26 Try.underlying5 Try.underlying9 HR0.out
  have ea5 := Kd.C_string (P := Try.prog) (A := A1) (c := c1) Try.underlying26 Try.underlying5 Try.underlying9 HR1.out
  go_enter Try.func60, Try.ntmps60
  go_wp2
  go_ret
  exact ⟨by first | rfl | (simp; done) | (simp [*]; done), by repeat (first | exact Drawn0.refl _ | apply Drawn0.step)⟩
def objects_Same.f (k : Nat) (d8 : Int) (b9 : List Int) (e0 : List Int) (l7 : Int) (l4 : List Int) (k8 : List Int) : Option (Bool) := if d8 = l7 then ((slices_Equal_int_int.f k b9 l4).bind fun bq2 => (if bq2 = true then ((bytes_Equal.f e0 k8).bind fun aI3 => (some aI3)) else (some false))) else (some false)
theorem objects_Same.mono : ∀ a0 a1 a2 a3 a4 a5 k, LeO (objects_Same.f k a0 a1 a2 a3 a4 a5) (objects_Same.f (k + 1) a0 a1 a2 a3 a4 a5) := by
  intro a0 a1 a2 a3 a4 a5 k
  unfold objects_Same.f
  repeat' first | (with_reducible first | exact slices_Equal_int_int.mono _ _ _ | exact LeO.refl _ | exact LeO.none _ | refine LeO.ite ?_ ?_ | refine LeO.bind ?_ (fun _ => ?_)) | exact slices_Equal_int_int.mono _ _ _ | exact LeO.none _ | refine LeO.ite ?_ ?_ | refine LeO.bind ?_ (fun _ => ?_)
set_option maxHeartbeats 8000000 in
set_option maxRecDepth 100000 in
theorem objects_Same.calls (k : Nat) (d8 : Int) (i9 : Option Addr) (i5 : Nat) (b9 : List Int) (i1 : Option Addr) (i3 : Nat) (e0 : List Int) (l7 : Int) (K1 : Option Addr) (K2 : Nat) (l4 : List Int) (G9 : Option Addr) (H0 : Nat) (k8 : List Int) (r : Bool) (w : World) (F9 : Kd.C (Kd.int .i64) w i9 b9.length b9) (G0 : b9.length ≤ i5) (D9 : Kd.C (Kd.int .u8) w i1 e0.length e0) (E0 : e0.length ≤ i3) (aA1 : Kd.C (Kd.int .i64) w K1 l4.length l4) (aA2 : l4.length ≤ K2) (aA3 : Kd.C (Kd.int .u8) w G9 k8.length k8) (aA4 : k8.length ≤ H0) (h : objects_Same.f k d8 b9 e0 l7 l4 k8 = some r) :
  Calls Try.prog 49 #[.agg #[.int .i64 d8, .slice i9 b9.length i5, .slice i1 e0.length i3], .agg #[.int .i64 l7, .slice K1 l4.length K2, .slice G9 k8.length H0]] w fun e w' => e = .returned (.bool r) ∧ Below w.heap.size w w' := by
  have aw1 := Try.underlying44
  have C4 := aZ F9
  have J6 := aZ G0
  clear F9 G0
  have G3 := aZ D9
  have N5 := aZ E0
  clear D9 E0
  have am4 := aZ aA1
  have am5 := aZ aA2
  clear aA1 aA2
  have aq5 := aZ aA3
  have aG6 := aZ aA4
  clear aA3 aA4
  have HB := aZ (Below.refl w.heap.size w)
  have H : (if d8 = l7 then ((slices_Equal_int_int.f k b9 l4).bind fun bq2 => (if bq2 = true then ((bytes_Equal.f e0 k8).bind fun aI3 => (some aI3)) else (some false))) else (some false)) = some r := h
  clear h
  by_cases c3 : d8 = l7
  rotate_left
  · rw [if_neg c3] at H
    have ae4 : (d8 == l7) = false := beq_eq_false_iff_ne.mpr c3
    have aA8 : (d8 != l7) = true := bne_iff_ne.mpr c3
    obtain rfl := Option.some.inj H
    go_enter Try.func49, Try.ntmps49
    go_wp2_with (first | ((with_reducible refine gate_dst (N := 2) rfl ?_); refine box_event ?hg (N := 2) ?hd (cs := #[.int .i64 d8, .slice i9 b9.length i5, .slice i1 e0.length i3]) (t := 44) ?hr ?_; (case hd => rfl); (case hg => rfl); (case hr => first | (go_simp; done) | (go_simp; rfl)); intro aj7 hg w17 hbox hb; have z2 := aZ (hbox); have bW7 := xgh hg HB; have bm0 := xgh hg HB; replace HB := xhl HB hb; clear hb hbox hg) | ((with_reducible refine gate_dst (N := 3) rfl ?_); refine box_event ?hg (N := 3) ?hd (cs := #[.int .i64 l7, .slice K1 l4.length K2, .slice G9 k8.length H0]) (t := 44) ?hr ?_; (case hd => rfl); (case hg => rfl); (case hr => first | (go_simp; done) | (go_simp; rfl)); intro aj8 hg w18 hbox hb; have P0 := aZ (hbox); have bW8 := xgh hg HB; have bm1 := xgh hg HB; replace HB := xhl HB hb; have ac1 := xnl hg z2; have ac2 := xng hg z2; replace z2 := xbb z2 hb; clear hb hbox hg; have aS3 := ac1.out; have aS4 := ac2.out; have ao4 : w18.cell? ⟨aj7, 0, none⟩ = some (.int .i64 d8) := (blk_cell z2.out 0).trans rfl; have aC1 : w18.cell? ⟨aj7, 1, none⟩ = some (.slice i9 b9.length i5) := (blk_cell z2.out 1).trans rfl; have aC2 : w18.cell? ⟨aj7, 2, none⟩ = some (.slice i1 e0.length i3) := (blk_cell z2.out 2).trans rfl; have ao5 := blk_frozen z2.out 0; have aC3 := blk_frozen z2.out 1; have aC4 := blk_frozen z2.out 2; have aC5 : w18.cell? ⟨aj8, 0, none⟩ = some (.int .i64 l7) := (blk_cell P0.out 0).trans rfl; have aC6 : w18.cell? ⟨aj8, 1, none⟩ = some (.slice K1 l4.length K2) := (blk_cell P0.out 1).trans rfl; have bI5 : w18.cell? ⟨aj8, 2, none⟩ = some (.slice G9 k8.length H0) := (blk_cell P0.out 2).trans rfl; have aC7 := blk_frozen P0.out 0; have aC8 := blk_frozen P0.out 1; have bI6 := blk_frozen P0.out 2))
    go_ret
    exact ⟨xre, xq HB⟩

  rw [if_pos c3] at H
  have ae4 : (d8 == l7) = true := beq_iff_eq.mpr c3
  have aA8 : (d8 != l7) = false := bne_eq_false_iff_eq.mpr c3
  clear c3
  replace H := Option.bind_eq_some_iff.mp H
  obtain ⟨bq2, A40, H⟩ := H
  replace H : (if bq2 = true then ((bytes_Equal.f e0 k8).bind fun aI3 => (some aI3)) else (some false)) = some r := H
  have A4 := aZ A40
  clear A40
  by_cases c5 : bq2 = true
  rotate_left
  · replace c5 := Bool.eq_false_iff.mpr c5
    subst c5
    have H1 : (some false) = some r := by rw [if_neg (show ¬ (false = true) by decide)] at H; exact H
    clear H
    have H := H1
    clear H1
    obtain rfl := Option.some.inj H
    go_enter Try.func49, Try.ntmps49
    go_wp2_with (first | ((with_reducible refine gate_dst (N := 2) rfl ?_); refine box_event ?hg (N := 2) ?hd (cs := #[.int .i64 d8, .slice i9 b9.length i5, .slice i1 e0.length i3]) (t := 44) ?hr ?_; (case hd => rfl); (case hg => rfl); (case hr => first | (go_simp; done) | (go_simp; rfl)); intro aj7 hg w12 hbox hb; have z2 := aZ (hbox); have bW7 := xgh hg HB; have bm0 := xgh hg HB; replace HB := xhl HB hb; clear hb hbox hg) | ((with_reducible refine gate_dst (N := 3) rfl ?_); refine box_event ?hg (N := 3) ?hd (cs := #[.int .i64 l7, .slice K1 l4.length K2, .slice G9 k8.length H0]) (t := 44) ?hr ?_; (case hd => rfl); (case hg => rfl); (case hr => first | (go_simp; done) | (go_simp; rfl)); intro aj8 hg w13 hbox hb; have P0 := aZ (hbox); have bW8 := xgh hg HB; have bm1 := xgh hg HB; replace HB := xhl HB hb; have ac1 := xnl hg z2; have ac2 := xng hg z2; replace z2 := xbb z2 hb; clear hb hbox hg; have cx4 := ac1.out; have cx5 := ac2.out; have bI7 : w13.cell? ⟨aj7, 0, none⟩ = some (.int .i64 d8) := (blk_cell z2.out 0).trans rfl; have bI8 : w13.cell? ⟨aj7, 1, none⟩ = some (.slice i9 b9.length i5) := (blk_cell z2.out 1).trans rfl; have cX3 : w13.cell? ⟨aj7, 2, none⟩ = some (.slice i1 e0.length i3) := (blk_cell z2.out 2).trans rfl; have bI9 := blk_frozen z2.out 0; have bJ0 := blk_frozen z2.out 1; have cX4 := blk_frozen z2.out 2; have ao2 : w13.cell? ⟨aj8, 0, none⟩ = some (.int .i64 l7) := (blk_cell P0.out 0).trans rfl; have aB7 : w13.cell? ⟨aj8, 1, none⟩ = some (.slice K1 l4.length K2) := (blk_cell P0.out 1).trans rfl; have aB8 : w13.cell? ⟨aj8, 2, none⟩ = some (.slice G9 k8.length H0) := (blk_cell P0.out 2).trans rfl; have ao3 := blk_frozen P0.out 0; have aB9 := blk_frozen P0.out 1; have aC0 := blk_frozen P0.out 2) | (go_at_call 59; (with_reducible refine (slices_Equal_int_int.calls k _ _ b9 _ _ l4 false _ ?side1 ?side2 ?side3 ?side4 A4.out).mono ?_); (case side1 => exact xcb C4 HB); (case side2 => exact J6.out); (case side3 => exact xcb am4 HB); (case side4 => exact am5.out); rintro e w' ⟨rfl, ⟨nd, rfl⟩⟩))
    go_ret
    exact ⟨xre, xq HB⟩
  subst c5
  have H1 : ((bytes_Equal.f e0 k8).bind fun aI3 => (some aI3)) = some r := by rw [if_pos rfl] at H; exact H
  clear H
  have H := H1
  clear H1
  replace H := Option.bind_eq_some_iff.mp H
  obtain ⟨aI3, A60, H⟩ := H
  replace H : (some aI3) = some r := H
  have A6 := aZ A60
  clear A60
  obtain rfl := Option.some.inj H
  go_enter Try.func49, Try.ntmps49
  go_wp2_with (first | ((with_reducible refine gate_dst (N := 2) rfl ?_); refine box_event ?hg (N := 2) ?hd (cs := #[.int .i64 d8, .slice i9 b9.length i5, .slice i1 e0.length i3]) (t := 44) ?hr ?_; (case hd => rfl); (case hg => rfl); (case hr => first | (go_simp; done) | (go_simp; rfl)); intro aj7 hg w7 hbox hb; have z2 := aZ (hbox); have bW7 := xgh hg HB; have bm0 := xgh hg HB; replace HB := xhl HB hb; clear hb hbox hg) | ((with_reducible refine gate_dst (N := 3) rfl ?_); refine box_event ?hg (N := 3) ?hd (cs := #[.int .i64 l7, .slice K1 l4.length K2, .slice G9 k8.length H0]) (t := 44) ?hr ?_; (case hd => rfl); (case hg => rfl); (case hr => first | (go_simp; done) | (go_simp; rfl)); intro aj8 hg w8 hbox hb; have P0 := aZ (hbox); have bW8 := xgh hg HB; have bm1 := xgh hg HB; replace HB := xhl HB hb; have ac1 := xnl hg z2; have ac2 := xng hg z2; replace z2 := xbb z2 hb; clear hb hbox hg; have co1 := ac1.out; have co2 := ac2.out; have an8 : w8.cell? ⟨aj7, 0, none⟩ = some (.int .i64 d8) := (blk_cell z2.out 0).trans rfl; have an9 : w8.cell? ⟨aj7, 1, none⟩ = some (.slice i9 b9.length i5) := (blk_cell z2.out 1).trans rfl; have aB5 : w8.cell? ⟨aj7, 2, none⟩ = some (.slice i1 e0.length i3) := (blk_cell z2.out 2).trans rfl; have ao0 := blk_frozen z2.out 0; have ao1 := blk_frozen z2.out 1; have aB6 := blk_frozen z2.out 2; have aN3 : w8.cell? ⟨aj8, 0, none⟩ = some (.int .i64 l7) := (blk_cell P0.out 0).trans rfl; have bJ1 : w8.cell? ⟨aj8, 1, none⟩ = some (.slice K1 l4.length K2) := (blk_cell P0.out 1).trans rfl; have bJ2 : w8.cell? ⟨aj8, 2, none⟩ = some (.slice G9 k8.length H0) := (blk_cell P0.out 2).trans rfl; have aN4 := blk_frozen P0.out 0; have bJ3 := blk_frozen P0.out 1; have bJ4 := blk_frozen P0.out 2) | (go_at_call 59; (with_reducible refine (slices_Equal_int_int.calls k _ _ b9 _ _ l4 true _ ?side1 ?side2 ?side3 ?side4 A4.out).mono ?_); (case side1 => exact xcb C4 HB); (case side2 => exact J6.out); (case side3 => exact xcb am4 HB); (case side4 => exact am5.out); rintro e w' ⟨rfl, ⟨nd, rfl⟩⟩) | (go_at_call 60; (with_reducible refine (bytes_Equal.calls _ _ e0 _ _ k8 aI3 _ ?side1 ?side2 ?side3 ?side4 A6.out).mono ?_); (case side1 => repeat (first | exact (Kd.C_below G3.out (by repeat (first | (with_reducible first | exact HB.out | apply lA | apply lN | apply lD | refine lS ?_ bm0.out | refine lS ?_ bm1.out) | exact HB.out))) | (with_reducible refine Kd.C_alloc ?_ _) | (with_reducible refine Kd.C_drewN ?_ _) | (with_reducible refine Kd.C_drew ?_))); (case side2 => exact N5.out); (case side3 => repeat (first | exact (Kd.C_below aq5.out (by repeat (first | (with_reducible first | exact HB.out | apply lA | apply lN | apply lD | refine lS ?_ bm0.out | refine lS ?_ bm1.out) | exact HB.out))) | (with_reducible refine Kd.C_alloc ?_ _) | (with_reducible refine Kd.C_drewN ?_ _) | (with_reducible refine Kd.C_drew ?_))); (case side4 => exact aG6.out); rintro e w' ⟨rfl, ⟨nd, rfl⟩⟩))
  go_ret
  exact ⟨xre, xq HB⟩
section
open Go.Lib Go.Proofs
theorem ins_copy {P : Program} (w : World) (dT sT ty elem : TypeId) (b o dLen dCap : Nat) (a : Addr) (sLen sCap k : Nat) (cs : List Value)
    (hu : P.underlying dT = some (.slice elem)) (hs : (P.info? elem).map (·.size) = some 4) (hk : k = Nat.min sLen dLen) (hn : cs.length = k * 4)
    (hsrc : ∀ j v, cs[j]? = some v → w.cell? (a.add j) = some v) (hc : ∀ j, j < cs.length → (w.cell? ⟨b, o + j, none⟩).isSome = true) (hf : ∀ j, j < cs.length → w.frozen? ⟨b, o + j, none⟩ = false) (h1 : ∀ v ∈ cs, v.oneCell' = true) :
    (Builtin.copy_ #[dT, sT] ty #[.slice (some ⟨b, o, none⟩) dLen dCap, .slice (some a) sLen sCap]).run P w = .ok (goInt k) (w.setCells b o cs) := by
  have hl := run_loadCells_list (P := P) w a cs hsrc
  have hst := run_storeCells_cells (P := P) b o cs 0 w (by simpa using hc) (by simpa using hf) h1
  cases hq : P.info? elem with
  | none => simp [hq] at hs
  | some i =>
    have hi : i.size = 4 := by simpa [hq] using hs
    rw [hn] at hl
    simp [Builtin.copy_, run_underlying hu, Builtin.lenOf, Builtin.firstCells, sizeOf, typeInfo, hq, hi, ← hk, hl, hst]
set_option maxHeartbeats 4000000 in
set_option maxRecDepth 100000 in
/-- There is room, i < len(s): in place. -/
theorem ins_shift (b off n c i vb voff m vc : Nat) (cs vs : List Value) (w : World) (hi : i < n) (hm : 0 < m) (hroom : n + m ≤ c) (ea6 : c ≤ 9223372036854775807) (hvb : vb ≠ b)
    (hcl : cs.length = n * 4) (hvl : vs.length = m * 4)
    (hcs : ∀ j v, cs[j]? = some v → w.cell? ⟨b, off + j, none⟩ = some v) (hsp : ∀ j, j < (n + m) * 4 → (w.cell? ⟨b, off + j, none⟩).isSome = true) (hfz : ∀ j, j < (n + m) * 4 → w.frozen? ⟨b, off + j, none⟩ = false)
    (hvs : ∀ j v, vs[j]? = some v → w.cell? ⟨vb, voff + j, none⟩ = some v) (h1c : ∀ v ∈ cs, v.oneCell' = true) (h1v : ∀ v ∈ vs, v.oneCell' = true)
    (tA tB : TypeId) (kA kB : Nat) (hsa : w.shape? vb = some (tA, kA)) (hsb : w.shape? b = some (tB, kB)) (hkB : kB ≠ 0) (hfa : w.frozen? ⟨vb, voff, none⟩ = false) (hfe : w.frozen? ⟨vb, kA, none⟩ = false) :
    Calls Try.prog 50 #[.slice (some ⟨b, off, none⟩) n c, .int .i64 i, .slice (some ⟨vb, voff, none⟩) m vc] w fun e w' =>
      e = .returned (.slice (some ⟨b, off, none⟩) (n + m) c) ∧ w' = (w.drew.setCells b (off + (i + m) * 4) (cs.drop (i * 4))).setCells b (off + i * 4) vs := by
  have hz1 : ¬ ((m : Int) = 0) := by omega
  have mixed : Try.prog.follows Departure.mixedOrders = true := by kernel_rfl
  have hz2 : ¬ ((i : Int) = (n : Int)) := by omega
  have hsz : (Try.prog.info? 46).map (·.size) = some 4 := by
    obtain ⟨i0, hi0, h0, h1, h2⟩ := info_parts aK5
    rw [hi0]; simp [h1]
  have hov : ∀ lb cb, (callFunc 61 #[.slice (some ⟨vb, voff, none⟩) m vc, .slice (some ⟨b, off + (i + m) * 4, none⟩) lb cb]).run Try.prog w = .ok (.value (.bool false)) w := fun lb cb => by
    rw [run_callFunc_extern Try.func61 (by kernel_rfl) (by kernel_rfl) (by kernel_rfl) (e := Extern.SlicesOverlaps.overlaps #[22, 22] #[4]) (by kernel_rfl),
      Lib.run_overlaps_apart w 22 4 46 Try.underlying22 4 Try.sizeOf46 ⟨vb, voff, none⟩ ⟨b, off + (i + m) * 4, none⟩ m vc lb cb hvb tA tB kA kB hsa hsb hkB hfa hfe]
    rfl
  have hdl : (cs.drop (i * 4)).length = (n - i) * 4 := by rw [List.length_drop, hcl, Nat.sub_mul]
  have hw1 : IntKind.i64.wrap ((i : Int) + (m : Int)) = (i : Int) + (m : Int) := by rw [IntKind.wrap_i64]; omega
  have hb1 : (0 : Int) ≤ (i : Int) + (m : Int) := by omega
  have hin : i ≤ n := by omega
  have htn : ((i : Int) + (m : Int)).toNat = i + m := by omega
  have H3 : ¬ (c = i + m) := by omega
  have hb3 : (i : Int) ≤ (n : Int) + (m : Int) := by omega
  have hb4 : ¬ (c = i) := by omega
  have cx6 : ∀ ty dc sc, (Builtin.copy_ #[22, 22] ty #[.slice (some ⟨b, off + (i + m) * 4, none⟩) (n + m - (i + m)) dc, .slice (some ⟨b, off + i * 4, none⟩) (n + m - i) sc]).run Try.prog w.drew = .ok (goInt (n - i : Nat)) (w.drew.setCells b (off + (i + m) * 4) (cs.drop (i * 4))) := fun ty dc sc =>
    ins_copy w.drew _ _ ty 46 b (off + (i + m) * 4) (n + m - (i + m)) dc ⟨b, off + i * 4, none⟩ (n + m - i) sc (n - i) (cs.drop (i * 4)) Try.underlying22 hsz (by simp only [Nat.min_def]; split <;> omega) hdl
      (fun j v hj => by rw [Addr.add_lit, Nat.add_assoc]; exact hcs (i * 4 + j) v (by rwa [List.getElem?_drop] at hj))
      (fun j hj => by rw [Nat.add_assoc]; exact hsp _ (by omega)) (fun j hj => by rw [Nat.add_assoc]; exact hfz _ (by omega)) (fun v hv => h1c v (List.mem_of_mem_drop hv))
  obtain ⟨W1, hW1⟩ : ∃ W1, W1 = w.drew.setCells b (off + (i + m) * 4) (cs.drop (i * 4)) := ⟨_, rfl⟩
  have ds6 : ∀ k, k < (n + m) * 4 → (W1.cell? ⟨b, off + k, none⟩).isSome = true := fun k hk => by
    rw [hW1]
    exact isSome_setCells b _ _ _ (fun j hj => by rw [Nat.add_assoc]; exact hsp _ (by omega)) _ (hsp k hk)
  have ds7 : ∀ (W : World), (∀ x, W.cell? x = W1.cell? x) → (∀ x, W.frozen? x = W1.frozen? x) → ∀ ty dc, (Builtin.copy_ #[22, 22] ty #[.slice (some ⟨b, off + i * 4, none⟩) (n + m - i) dc, .slice (some ⟨vb, voff, none⟩) m vc]).run Try.prog W = .ok (goInt m) (W.setCells b (off + i * 4) vs) := fun W hWc hWf ty dc =>
    ins_copy W _ _ ty 46 b (off + i * 4) (n + m - i) dc ⟨vb, voff, none⟩ m vc m vs Try.underlying22 hsz (by simp only [Nat.min_def]; split <;> omega) hvl
      (fun j v hj => by
        rw [Addr.add_lit, hWc, hW1, World.cell?_setCells_out b _ _ _ _ (fun h _ => absurd h hvb)]
        exact hvs j v hj)
      (fun j hj => by rw [hWc, Nat.add_assoc]; exact ds6 _ (by omega)) (fun j hj => by rw [hWf, hW1, World.frozen?_setCells, Nat.add_assoc]; exact hfz _ (by omega)) h1v
  rw [← hW1] at cx6
  go_enter Try.func50, Try.ntmps50
  go_wp2_with (simp only [hov])
  go_region_law_o (refine step_copy_runI rfl _ _ 22 22 rfl _ _ (by simp [Act.eval, Act.put]) (by simp [Act.eval, Act.put]) (cx6 _ _ _) ?_)
  go_wp2_with (at_builtin; refine wpList_copy_runI _ rfl _ _ 22 22 rfl _ _ rfl rfl (ds7 _ (fun _ => rfl) (fun _ => rfl) _ _) ?_)
  go_ret
  first | exact ⟨rfl, rfl⟩ | exact ⟨rfl, by rw [hW1]⟩
set_option maxHeartbeats 4000000 in
set_option maxRecDepth 100000 in
/-- At the end (i = len(s)): an append. -/
theorem ins_end (b : Nat) (base : Nat) (v : Value) (n voff m vc : Nat) (cs vs : List Value) (w : World) (hm : 0 < m) (hown : w.ownsRow base 46 4 v n cs)
    (hvl : vs.length = m * 4) (hvs : ∀ j v, vs[j]? = some v → w.cell? ⟨b, voff + j, none⟩ = some v) (h1v : ∀ v ∈ vs, v.oneCell' = true) (hbig : (n + m) * 64 ≤ 140737488355328) (hbase : base ≤ w.heap.size) :
    Calls Try.prog 50 #[v, .int .i64 n, .slice (some ⟨b, voff, none⟩) m vc] w fun e w' =>
      ∃ v1, e = .returned v1 ∧ w'.ownsRow base 46 4 v1 (n + m) (cs ++ vs) ∧ w.grownBy w' v.ownBlock ∧ (v1.ownBlock = v.ownBlock ∨ v1.ownBlock = some w.heap.size) := by
  obtain ⟨i0, hi0, hz0, hzs, hzb⟩ := info_parts aK5
  have hz1 : ¬ ((m : Int) = 0) := by omega
  have mixed : Try.prog.follows Departure.mixedOrders = true := by kernel_rfl
  rcases hown.2 with ⟨hv, h0⟩ | ⟨g, cap, cur, hv, _⟩
  · subst hv; subst h0
    go_enter Try.func50, Try.ntmps50
    go_wp2_with (at_builtin; refine wpList_append_own_at w rfl _ _ 22 rfl base 46 i0 _ 4 64 Try.underlying22 hi0 hz0 hzs hzb (by decide) (by decide) _ 0 cs rfl hown ⟨b, voff, none⟩ m vc vs rfl hvl (fun j u hj => by rw [Addr.add_lit]; exact hvs j u hj) h1v (by simp only [maxLen]; omega) hbig hbase ?_; intro v1 w1 ho hg _ hat)
    go_ret
    exact ⟨_, rfl, ho, hg, hat⟩
  · subst hv
    go_enter Try.func50, Try.ntmps50
    go_wp2_with (at_builtin; refine wpList_append_own_at w rfl _ _ 22 rfl base 46 i0 _ 4 64 Try.underlying22 hi0 hz0 hzs hzb (by decide) (by decide) _ n cs rfl hown ⟨b, voff, none⟩ m vc vs rfl hvl (fun j u hj => by rw [Addr.add_lit]; exact hvs j u hj) h1v (by simp only [maxLen]; omega) hbig hbase ?_; intro v1 w1 ho hg _ hat)
    all_goals (go_ret; exact ⟨_, rfl, ho, hg, hat⟩)
set_option maxHeartbeats 4000000 in
set_option maxRecDepth 100000 in
/-- i < len(s), no room: a new row. -/
theorem ins_grow (b off n c i vb voff m vc : Nat) (cs vs : List Value) (w : World) (hi : i < n) (hm : 0 < m) (hnc : n ≤ c) (hroom : c < n + m) (hbig : (n + m) * 64 ≤ 140737488355328)
    (hcl : cs.length = n * 4) (hvl : vs.length = m * 4)
    (hcs : ∀ j v, cs[j]? = some v → w.cell? ⟨b, off + j, none⟩ = some v)
    (hvs : ∀ j v, vs[j]? = some v → w.cell? ⟨vb, voff + j, none⟩ = some v) (h1c : ∀ v ∈ cs, v.oneCell' = true) (h1v : ∀ v ∈ vs, v.oneCell' = true) :
    Calls Try.prog 50 #[.slice (some ⟨b, off, none⟩) n c, .int .i64 i, .slice (some ⟨vb, voff, none⟩) m vc] w fun e w' =>
      e = .returned (.slice (some ⟨w.heap.size, 0, none⟩) (n + m) (grownCap w (n + m) c 46)) ∧
      w' = (((w.alloc (.cells ((cs.take (i * 4)).toArray ++ Builtin.zeroCells ((.agg #[(.int .i64 0), (.int .i64 0), (.slice none 0 0), (.slice none 0 0)]) : Value).cells (n + m - i) ++ Builtin.zeroCells ((.agg #[(.int .i64 0), (.int .i64 0), (.slice none 0 0), (.slice none 0 0)]) : Value).cells (grownCap w (n + m) c 46 - (n + m))) 46)).drew.setCells w.heap.size (i * 4) vs).drew).setCells w.heap.size ((i + m) * 4) (cs.drop (i * 4)) := by
  obtain ⟨i0, hi0, hz0, hzs, hzb⟩ := info_parts aK5
  have hz1 : ¬ ((m : Int) = 0) := by omega
  have mixed : Try.prog.follows Departure.mixedOrders = true := by kernel_rfl
  have hz2 : ¬ ((i : Int) = (n : Int)) := by omega
  have hz3 : (c : Int) < (n : Int) + (m : Int) := by omega
  have hsz : (Try.prog.info? 46).map (·.size) = some 4 := by rw [hi0]; simp [hzs]
  have hbw : b < w.heap.size := block_lt_of_cell (hcs 0 _ (List.getElem?_eq_getElem (by omega)))
  have hvw : vb < w.heap.size := block_lt_of_cell (hvs 0 _ (List.getElem?_eq_getElem (by omega)))
  have hkk : (n : Int) + (m : Int) - (i : Int) = ((n + m - i : Nat) : Int) := by omega
  have hik : i + (n + m - i) = n + m := by omega
  have hzz : ((.agg #[(.int .i64 0), (.int .i64 0), (.slice none 0 0), (.slice none 0 0)]) : Value).cells.size = 4 := by rfl
  have hold : (Builtin.firstCells i0.size i (.slice (some ⟨b, off, none⟩) i c)).run Try.prog w.drew = .ok (cs.take (i * 4)).toArray w.drew := by
    rw [hzs]
    exact run_firstCells_some w.drew 4 i ⟨b, off, none⟩ i c (cs.take (i * 4)) (by rw [List.length_take]; omega) (fun j v hj => by
      rw [Addr.add_lit]
      rw [List.getElem?_take] at hj
      split at hj
      · exact hcs j v hj
      · cases hj)
  have hrz : ∀ ty, (Builtin.append_ #[22, 3] ty #[.slice (some ⟨b, off, none⟩) i c, .int .i64 ((n : Int) + (m : Int) - (i : Int))]).run Try.prog w =
      .ok (.slice (some ⟨w.heap.size, 0, none⟩) (n + m) (grownCap w (n + m) c 46)) (w.drew.alloc (.cells ((cs.take (i * 4)).toArray ++ Builtin.zeroCells ((.agg #[(.int .i64 0), (.int .i64 0), (.slice none 0 0), (.slice none 0 0)]) : Value).cells (n + m - i) ++ Builtin.zeroCells ((.agg #[(.int .i64 0), (.int .i64 0), (.slice none 0 0), (.slice none 0 0)]) : Value).cells (grownCap w (n + m) c 46 - (n + m))) 46)) := fun ty => by
    have h := Lib.run_append_grow_zeros w 22 3 ty 46 i0 _ .i64 .i64 Try.underlying22 Try.underlying3 hi0 hz0 (some ⟨b, off, none⟩) i c (cs.take (i * 4)) hold (n + m - i) (by omega) (by omega) (by omega) (by omega) (by rw [hzb]; omega) (by rw [hzb, hik]; exact growslice_fits hroom hbig)
    rw [hik] at h
    rw [hkk]
    exact h
  obtain ⟨G, hG⟩ : ∃ G, G = grownCap w (n + m) c 46 := ⟨_, rfl⟩
  obtain ⟨ROW, hROW⟩ : ∃ ROW : Array Value, ROW = (cs.take (i * 4)).toArray ++ Builtin.zeroCells ((.agg #[(.int .i64 0), (.int .i64 0), (.slice none 0 0), (.slice none 0 0)]) : Value).cells (n + m - i) ++ Builtin.zeroCells ((.agg #[(.int .i64 0), (.int .i64 0), (.slice none 0 0), (.slice none 0 0)]) : Value).cells (G - (n + m)) := ⟨_, rfl⟩
  rw [← hG] at hrz ⊢
  rw [← hROW] at hrz ⊢
  have hRl : (n + m) * 4 ≤ ROW.size := by
    rw [hROW]
    simp only [Array.size_append, List.size_toArray, size_zeroCells, hzz, List.length_take, hcl]
    have h1 : Nat.min (i * 4) (n * 4) = i * 4 := Nat.min_eq_left (Nat.mul_le_mul_right _ (by omega))
    have h2 : (n + m - i) * 4 = (n + m) * 4 - i * 4 := Nat.sub_mul _ _ _
    omega
  obtain ⟨W1, hW1⟩ : ∃ W1, W1 = w.drew.alloc (.cells ROW 46) := ⟨_, rfl⟩
  rw [← hW1] at hrz
  have hN : ∀ j, j < (n + m) * 4 → (W1.cell? ⟨w.heap.size, j, none⟩).isSome = true := fun j hj => by
    rw [hW1, World.cell?_alloc_at (w := w.drew) ROW _ w.heap.size j rfl, Array.getElem?_eq_getElem (by omega)]; rfl
  have hNf : ∀ j, W1.frozen? ⟨w.heap.size, j, none⟩ = false := fun j => by rw [hW1]; exact World.frozen?_alloc_at (w := w.drew) ROW _ w.heap.size j rfl
  have hOb : ∀ j v, w.cell? ⟨b, j, none⟩ = some v → W1.cell? ⟨b, j, none⟩ = some v := fun j v h => by rw [hW1, World.cell?_alloc_past (w := w.drew) _ b j hbw]; exact h
  have hOv : ∀ j v, w.cell? ⟨vb, j, none⟩ = some v → W1.cell? ⟨vb, j, none⟩ = some v := fun j v h => by rw [hW1, World.cell?_alloc_past (w := w.drew) _ vb j hvw]; exact h
  have hcpA : ∀ (W : World), (∀ x, W.cell? x = W1.cell? x) → (∀ x, W.frozen? x = W1.frozen? x) → ∀ ty dc, (Builtin.copy_ #[22, 22] ty #[.slice (some ⟨w.heap.size, i * 4, none⟩) (n + m - i) dc, .slice (some ⟨vb, voff, none⟩) m vc]).run Try.prog W = .ok (goInt m) (W.setCells w.heap.size (i * 4) vs) := fun W hWc hWf ty dc =>
    ins_copy W _ _ ty 46 w.heap.size (i * 4) (n + m - i) dc ⟨vb, voff, none⟩ m vc m vs Try.underlying22 hsz (by simp only [Nat.min_def]; split <;> omega) hvl
      (fun j v hj => by rw [Addr.add_lit, hWc]; exact hOv _ v (hvs j v hj))
      (fun j hj => by rw [hWc]; exact hN _ (by omega)) (fun j hj => by rw [hWf]; exact hNf _) h1v
  have hGn : n + m ≤ G := by rw [hG]; exact grownCap_ge w _ _ _
  have ea9 : G ≤ 9223372036854775807 := by
    have := grownCap_le_maxLen w (n + m) c 46 (by unfold maxLen; omega)
    rw [← hG] at this
    unfold maxLen at this
    omega
  have hGi : ¬ (G = i) := by omega
  have hGim : ¬ (G = i + m) := by omega
  have hci : ¬ (c = i) := by omega
  have hbN : b ≠ w.heap.size := by omega
  have hdl : (cs.drop (i * 4)).length = (n - i) * 4 := by rw [List.length_drop, hcl, Nat.sub_mul]
  have hcpB : ∀ (W : World), (∀ x, W.cell? x = (W1.setCells w.heap.size (i * 4) vs).cell? x) → (∀ x, W.frozen? x = (W1.setCells w.heap.size (i * 4) vs).frozen? x) → ∀ ty dc sc, (Builtin.copy_ #[22, 22] ty #[.slice (some ⟨w.heap.size, (i + m) * 4, none⟩) (n + m - (i + m)) dc, .slice (some ⟨b, off + i * 4, none⟩) (n - i) sc]).run Try.prog W = .ok (goInt (n - i : Nat)) (W.setCells w.heap.size ((i + m) * 4) (cs.drop (i * 4))) := fun W hWc hWf ty dc sc =>
    ins_copy W _ _ ty 46 w.heap.size ((i + m) * 4) (n + m - (i + m)) dc ⟨b, off + i * 4, none⟩ (n - i) sc (n - i) (cs.drop (i * 4)) Try.underlying22 hsz (by simp only [Nat.min_def]; split <;> omega) hdl
      (fun j v hj => by
        rw [Addr.add_lit, hWc, World.cell?_setCells_out _ _ _ _ _ (fun h _ => absurd h hbN), Nat.add_assoc]
        exact hOb _ v (hcs (i * 4 + j) v (by rwa [List.getElem?_drop] at hj)))
      (fun j hj => by rw [hWc]; exact isSome_setCells _ _ _ _ (fun t ht => hN _ (by omega)) _ (hN _ (by omega)))
      (fun j hj => by rw [hWf, World.frozen?_setCells]; exact hNf _) (fun v hv => h1c v (List.mem_of_mem_drop hv))
  subst hW1
  have hE1 : ∀ x, ((w.alloc (.cells ROW 46)).drew).cell? x = (w.drew.alloc (.cells ROW 46)).cell? x := fun x => rfl
  have hE2 : ∀ x, ((w.alloc (.cells ROW 46)).drew).frozen? x = (w.drew.alloc (.cells ROW 46)).frozen? x := fun x => rfl
  have hF1 : ∀ x, (((w.alloc (.cells ROW 46)).drew.setCells w.heap.size (i * 4) vs).drew).cell? x = ((w.drew.alloc (.cells ROW 46)).setCells w.heap.size (i * 4) vs).cell? x := fun x => rfl
  have hF2 : ∀ x, (((w.alloc (.cells ROW 46)).drew.setCells w.heap.size (i * 4) vs).drew).frozen? x = ((w.drew.alloc (.cells ROW 46)).setCells w.heap.size (i * 4) vs).frozen? x := fun x => rfl
  have hw1 : IntKind.i64.wrap ((i : Int) + (m : Int)) = (i : Int) + (m : Int) := by rw [IntKind.wrap_i64]; omega
  have hb1 : (0 : Int) ≤ (i : Int) + (m : Int) := by omega
  have hin : i ≤ n := by omega
  have htn : ((i : Int) + (m : Int)).toNat = i + m := by omega
  have hb3 : (i : Int) ≤ (n : Int) := by omega
  clear hkk hik hold hROW hG hRl
  go_enter Try.func50, Try.ntmps50
  go_wp2_with (first
    | (at_builtin; refine Lib.wpList_append_run _ rfl _ _ _ _ rfl _ _ rfl rfl _ _ (hrz _) ?_)
    | (at_builtin; refine wpList_copy_runI _ rfl _ _ 22 22 rfl _ _ rfl rfl (hcpA _ hE1 hE2 _ _) ?_)
    | (at_builtin; refine wpList_copy_runI _ rfl _ _ 22 22 rfl _ _ rfl rfl (hcpB _ (fun _ => rfl) (fun _ => rfl) _ _ _) ?_))
  go_region_law_o (refine step_copy_runI rfl _ _ 22 22 rfl (.slice (some ⟨w.heap.size, (i + m) * 4, none⟩) (n + m - (i + m)) (G - (i + m))) (.slice (some ⟨b, off + i * 4, none⟩) (n - i) (c - i)) (by simp [Act.eval, Act.put]) (by simp [Act.eval, Act.put]) (hcpB _ hF1 hF2 3 (G - (i + m)) (c - i)) ?_)
  go_wp2
  go_ret
  exact ⟨rfl, rfl⟩
theorem ins_blk {g : Nat} {t : TypeId} : ∀ (vs : List Value) (o : Nat) (w : World) (cur : Array Value), w.heap[g]? = some (.cells cur t (0, 0)) → ∃ cur' : Array Value, (w.setCells g o vs).heap[g]? = some (.cells cur' t (0, 0)) ∧ cur'.size = cur.size
  | [], _, w, cur, h => ⟨cur, h, rfl⟩
  | v :: r, o, w, cur, h => by
    obtain ⟨c, h1, h2⟩ := ins_blk r (o + 1) (w.setCell ⟨g, o, none⟩ v) _ (blk_set h o v)
    exact ⟨c, h1, by rw [h2]; simp⟩
theorem ins_other {g k : Nat} (hk : k ≠ g) : ∀ (vs : List Value) (o : Nat) (w : World), (w.setCells g o vs).heap[k]? = w.heap[k]?
  | [], _, _ => rfl
  | v :: r, o, w => by
    rw [World.setCells, ins_other hk r]
    exact Below.heap_setCell w ⟨g, o, none⟩ v k hk
theorem ins_below (g : Nat) : ∀ (vs : List Value) (o : Nat) (w : World), Below 0 w (w.setCells g o vs)
  | [], _, w => Below.refl 0 w
  | v :: r, o, w => ((Below.refl 0 w).setCell (p := ⟨g, o, none⟩) (Nat.zero_le _) v).trans (ins_below g r (o + 1) _)
theorem ins_owns {w : World} {base g n cap : Nat} {cur : Array Value} {L : List Value} (hb : w.heap[g]? = some (.cells cur 46 (0, 0))) (hbg : base ≤ g) (hn : n ≤ cap) (hm : cap ≤ maxLen) (hs : cur.size = cap * 4) (hL : L.length = n * 4)
    (h : ∀ j, j < n * 4 → w.cell? ⟨g, j, none⟩ = L[j]?) : w.ownsRow base 46 4 (.slice (some ⟨g, 0, none⟩) n cap) n L := by
  refine ⟨hL, .inr ⟨g, cap, cur, rfl, hbg, hb, hn, hm, hs, ?_⟩⟩
  apply List.ext_getElem?
  intro j
  by_cases hj : j < n * 4
  · rw [List.getElem?_take_of_lt hj, ← h j hj]
    simp [World.cell?, hb]
  · rw [List.getElem?_take_eq_none (by omega), List.getElem?_eq_none (by omega)]
theorem ins_list {inner cs : List Value} {n i j : Nat} (hi : i ≤ n) (hl : inner.length = n * 4) (hc : cs.length = 4) :
    (inner.take (i * 4) ++ cs ++ inner.drop (i * 4))[j]? = if j < i * 4 then inner[j]? else if j < (i + 1) * 4 then cs[j - i * 4]? else inner[j - 4]? := by
  have hlt : (inner.take (i * 4)).length = i * 4 := by rw [List.length_take]; omega
  by_cases h1 : j < i * 4
  · rw [if_pos h1, List.append_assoc, List.getElem?_append_left (by omega), List.getElem?_take_of_lt h1]
  · rw [if_neg h1]
    by_cases h2 : j < (i + 1) * 4
    · rw [if_pos h2, List.getElem?_append_left (by rw [List.length_append]; omega), List.getElem?_append_right (by omega), hlt]
    · rw [if_neg h2, List.getElem?_append_right (by rw [List.length_append]; omega), List.getElem?_drop, List.length_append, hlt, hc]
      congr 1
      omega
/-- Insert at a row of the call's own: what it comes to, whatever the road. -/
theorem ins_row {base : Nat} {W : World} {v : Value} {n i : Nat} {inner cs : List Value} (hown : W.ownsRow base 46 4 v n inner) (hi : i ≤ n) (hcs : cs.length = 4) (h1 : ∀ u ∈ cs, u.oneCell' = true) (h1i : ∀ u ∈ inner, u.oneCell' = true) (hbase : base ≤ W.heap.size) (hl : (n + 1) * 64 ≤ 140737488355328) :
    Calls Try.prog 50 #[v, .int .i64 i, .slice (some ⟨W.heap.size, 0, none⟩) 1 1] (W.alloc (.cells cs.toArray 46)) fun e w' => ∃ v1, e = .returned v1 ∧ w'.ownsRow base 46 4 v1 (n + 1) (inner.take (i * 4) ++ cs ++ inner.drop (i * 4)) ∧ W.grownBy w' v.ownBlock ∧ (v1.ownBlock = v.ownBlock ∨ ∃ b, v1.ownBlock = some b ∧ W.heap.size ≤ b) := by
  have hlen := hown.1
  have hbox : (W.alloc (.cells cs.toArray 46)).heap[W.heap.size]? = some (.cells cs.toArray 46 (0, 0)) := heap_alloc_new W (.cells cs.toArray 46)
  have hnews : ∀ j u, cs[j]? = some u → (W.alloc (.cells cs.toArray 46)).cell? ⟨W.heap.size, 0 + j, none⟩ = some u := fun j u hj => by
    rw [Nat.zero_add]
    simp only [World.cell?, hbox]
    simpa using hj
  have hga : W.grownBy (W.alloc (.cells cs.toArray 46)) v.ownBlock := World.grownBy_alloc W _ _
  by_cases he : i = n
  · subst he
    refine (ins_end W.heap.size base v i 0 1 1 inner cs (W.alloc (.cells cs.toArray 46)) (by omega) (hown.alloc _) (by rw [hcs]) hnews h1 hl (by simp; omega)).mono ?_
    rintro e w' ⟨v1, rfl, ho, hg, hat⟩
    refine ⟨v1, rfl, ?_, World.grownBy.trans hga hg, ?_⟩
    · rw [List.take_of_length_le (by omega), List.drop_eq_nil_of_le (by omega), List.append_nil]; exact ho
    · rcases hat with hat | hat
      · exact .inl hat
      · exact .inr ⟨_, hat, by simp⟩
  · rcases hown.2 with ⟨_, h0⟩ | ⟨g, cap, cur, rfl, hbg, hg, hnc, hcm, hcur, htk⟩
    · omega
    have hgl : g < W.heap.size := blk_lt hg
    have hg2 : (W.alloc (.cells cs.toArray 46)).heap[g]? = some (.cells cur 46 (0, 0)) := (heap_alloc_old W _ hgl).trans hg
    have hcells : ∀ j v, inner[j]? = some v → (W.alloc (.cells cs.toArray 46)).cell? ⟨g, 0 + j, none⟩ = some v := fun j v hj => by
      have hjl := (List.getElem?_eq_some_iff.1 hj).1
      rw [← htk, List.getElem?_take_of_lt (by omega)] at hj
      rw [Nat.zero_add]
      simpa [World.cell?, hg2] using hj
    by_cases hroom : n + 1 ≤ cap
    · refine (ins_shift g 0 n cap i W.heap.size 0 1 1 inner cs (W.alloc (.cells cs.toArray 46)) (by omega) (by omega) hroom (by unfold maxLen at hcm; omega) (by omega) hlen (by rw [hcs]) hcells
        (fun j hj => by rw [Nat.zero_add]; simp [World.cell?, hg2]; omega) (fun j hj => blk_frozen hg2 _) hnews h1i h1 46 46 4 cur.size (by simp only [World.shape?, hbox]; simp [hcs]) (by simp only [World.shape?, hg2]) (by omega) (blk_frozen hbox _) (blk_frozen hbox _)).mono ?_
      rintro e w' ⟨rfl, rfl⟩
      obtain ⟨c1, hb1, hs1⟩ := ins_blk (inner.drop (i * 4)) (0 + (i + 1) * 4) (W.alloc (.cells cs.toArray 46)).drew cur hg2
      obtain ⟨c2, H3, hs2⟩ := ins_blk cs (0 + i * 4) _ c1 hb1
      have B1 := ins_below g (inner.drop (i * 4)) (0 + (i + 1) * 4) (W.alloc (.cells cs.toArray 46)).drew
      have B2 := ins_below g cs (0 + i * 4) ((W.alloc (.cells cs.toArray 46)).drew.setCells g (0 + (i + 1) * 4) (inner.drop (i * 4)))
      have hdl : (inner.drop (i * 4)).length = (n - i) * 4 := by rw [List.length_drop, hlen, Nat.sub_mul]
      refine ⟨_, rfl, ins_owns H3 hbg hroom hcm (by omega) (by simp only [List.length_append, List.length_take, hdl, hlen, hcs]; have := Nat.min_eq_left (show i * 4 ≤ n * 4 by omega); omega) (fun j hj => ?_), ⟨B2.os.trans B1.os, B2.tape.trans B1.tape, B2.output.trans B1.output, ?_, fun k hk hne => ?_⟩, .inl rfl⟩
      · rw [ins_list (n := n) (by omega) hlen hcs]
        have hd : ∀ x, (W.alloc (.cells cs.toArray 46)).drew.cell? x = (W.alloc (.cells cs.toArray 46)).cell? x := fun x => rfl
        have ds8 : ∀ j, j < inner.length → (W.alloc (.cells cs.toArray 46)).cell? ⟨g, j, none⟩ = inner[j]? := fun j hj => by
          rw [List.getElem?_eq_getElem hj]
          have := hcells j _ (List.getElem?_eq_getElem hj)
          rwa [Nat.zero_add] at this
        have hsome : ∀ k, k < cap * 4 → ((W.alloc (.cells cs.toArray 46)).drew.cell? ⟨g, k, none⟩).isSome = true := fun k hk => by
          rw [hd]; simp [World.cell?, hg2]; omega
        by_cases h2 : j < i * 4
        · rw [if_pos h2, World.cell?_setCells_out g _ _ _ _ (fun _ _ => .inl (by show j < _; omega)), World.cell?_setCells_out g _ _ _ _ (fun _ _ => .inl (by show j < _; omega)), hd, ds8 j (by omega)]
        · rw [if_neg h2]
          by_cases h3 : j < (i + 1) * 4
          · rw [if_pos h3]
            have := World.cell?_setCells_in g cs (0 + i * 4) ((W.alloc (.cells cs.toArray 46)).drew.setCells g (0 + (i + 1) * 4) (inner.drop (i * 4))) (fun q hq => isSome_setCells g _ _ _ (fun q' hq' => hsome _ (by omega)) _ (hsome _ (by omega))) (j - i * 4) (by omega)
            rw [show 0 + i * 4 + (j - i * 4) = j by omega] at this
            rw [this, List.getElem?_eq_getElem (by omega)]
          · rw [if_neg h3, World.cell?_setCells_out g _ _ _ _ (fun _ _ => .inr (by show 0 + i * 4 + cs.length ≤ j; omega))]
            have := World.cell?_setCells_in g (inner.drop (i * 4)) (0 + (i + 1) * 4) (W.alloc (.cells cs.toArray 46)).drew (fun q hq => hsome _ (by omega)) (j - (i + 1) * 4) (by omega)
            rw [show 0 + (i + 1) * 4 + (j - (i + 1) * 4) = j by omega] at this
            rw [this, ← List.getElem?_eq_getElem, List.getElem?_drop]
            congr 1
            omega
      · have := B1.size
        have := B2.size
        have h3 : W.heap.size ≤ (W.alloc (.cells cs.toArray 46)).drew.heap.size := hga.size
        omega
      · have hkg : k ≠ g := fun e => hne (by simp [Value.ownBlock, e])
        rw [ins_other hkg, ins_other hkg]
        exact hga.block k hk hne
    · refine (ins_grow g 0 n cap i W.heap.size 0 1 1 inner cs (W.alloc (.cells cs.toArray 46)) (by omega) (by omega) hnc (by omega) hl hlen (by rw [hcs]) hcells hnews h1i h1).mono ?_
      rintro e w' ⟨rfl, rfl⟩
      obtain ⟨V, hV⟩ : ∃ V, V = W.alloc (.cells cs.toArray 46) := ⟨_, rfl⟩
      rw [← hV] at hcells hga ⊢
      obtain ⟨G, hG⟩ : ∃ G, G = grownCap V (n + 1) cap 46 := ⟨_, rfl⟩
      have hGn : n + 1 ≤ G := by rw [hG]; exact grownCap_ge V _ _ _
      have hGm : G ≤ maxLen := by rw [hG]; exact grownCap_le_maxLen V (n + 1) cap 46 (by unfold maxLen; omega)
      rw [← hG]
      obtain ⟨ROW, hROW⟩ : ∃ ROW : Array Value, ROW = (inner.take (i * 4)).toArray ++ Builtin.zeroCells ((.agg #[(.int .i64 0), (.int .i64 0), (.slice none 0 0), (.slice none 0 0)]) : Value).cells (n + 1 - i) ++ Builtin.zeroCells ((.agg #[(.int .i64 0), (.int .i64 0), (.slice none 0 0), (.slice none 0 0)]) : Value).cells (G - (n + 1)) := ⟨_, rfl⟩
      rw [← hROW]
      have hzz : ((.agg #[(.int .i64 0), (.int .i64 0), (.slice none 0 0), (.slice none 0 0)]) : Value).cells.size = 4 := by rfl
      have hRs : ROW.size = G * 4 := by
        rw [hROW]
        simp only [Array.size_append, List.size_toArray, size_zeroCells, hzz, List.length_take, hlen]
        have h1 : Nat.min (i * 4) (n * 4) = i * 4 := Nat.min_eq_left (by omega)
        have h1' : min (i * 4) (n * 4) = i * 4 := h1
        have h2 : (n + 1 - i) * 4 = (n + 1) * 4 - i * 4 := Nat.sub_mul _ _ _
        have h3 : (G - (n + 1)) * 4 = G * 4 - (n + 1) * 4 := Nat.sub_mul _ _ _
        omega
      have hnew : (V.alloc (.cells ROW 46)).heap[V.heap.size]? = some (.cells ROW 46 (0, 0)) := heap_alloc_new V (.cells ROW 46)
      obtain ⟨X, hX⟩ : ∃ X, X = (V.alloc (.cells ROW 46)).drew := ⟨_, rfl⟩
      have hnewX : X.heap[V.heap.size]? = some (.cells ROW 46 (0, 0)) := by rw [hX]; exact hnew
      rw [← hX]
      obtain ⟨c1, hb1, hs1⟩ := ins_blk cs (i * 4) X ROW hnewX
      obtain ⟨c2, H3, hs2⟩ := ins_blk (inner.drop (i * 4)) ((i + 1) * 4) (X.setCells V.heap.size (i * 4) cs).drew c1 hb1
      have B1 := ins_below V.heap.size cs (i * 4) X
      have B2 := ins_below V.heap.size (inner.drop (i * 4)) ((i + 1) * 4) (X.setCells V.heap.size (i * 4) cs).drew
      have hdl : (inner.drop (i * 4)).length = (n - i) * 4 := by rw [List.length_drop, hlen, Nat.sub_mul]
      have hgV := hga.size
      have hXo : ∀ k, k < V.heap.size → X.heap[k]? = V.heap[k]? := fun k hk => by rw [hX]; exact heap_alloc_old V _ hk
      have hXs : V.heap.size ≤ X.heap.size := by rw [hX]; simp
      have hsome : ∀ k, k < G * 4 → (X.cell? ⟨V.heap.size, k, none⟩).isSome = true := fun k hk => by simp [World.cell?, hnewX]; omega
      refine ⟨_, rfl, ins_owns H3 (by omega) hGn hGm (by omega) (by simp only [List.length_append, List.length_take, hdl, hlen, hcs]; have := Nat.min_eq_left (show i * 4 ≤ n * 4 by omega); omega) (fun j hj => ?_), ⟨?_, ?_, ?_, ?_, fun k hk hne => ?_⟩, .inr ⟨_, rfl, hgV⟩⟩
      · rw [ins_list (n := n) (by omega) hlen hcs]
        have hd : ∀ x, (X.setCells V.heap.size (i * 4) cs).drew.cell? x = (X.setCells V.heap.size (i * 4) cs).cell? x := fun x => rfl
        by_cases h2 : j < i * 4
        · rw [if_pos h2, World.cell?_setCells_out _ _ _ _ _ (fun _ _ => .inl (by show j < _; omega)), hd, World.cell?_setCells_out _ _ _ _ _ (fun _ _ => .inl (by show j < _; omega))]
          simp only [World.cell?, hnewX]
          rw [hROW]
          have hlt : (inner.take (i * 4)).length = i * 4 := by rw [List.length_take]; omega
          simp only [Array.append_assoc]
          rw [show (((inner.take (i * 4)).toArray ++ (Builtin.zeroCells ((.agg #[(.int .i64 0), (.int .i64 0), (.slice none 0 0), (.slice none 0 0)]) : Value).cells (n + 1 - i) ++ Builtin.zeroCells ((.agg #[(.int .i64 0), (.int .i64 0), (.slice none 0 0), (.slice none 0 0)]) : Value).cells (G - (n + 1))))[j]? : Option Value) = (inner.take (i * 4)).toArray[j]? from Array.getElem?_append_left (by simp only [List.size_toArray, hlt]; exact h2)]
          simp only [Option.isSome_none, Bool.false_eq_true, if_false, List.getElem?_toArray, List.getElem?_take_of_lt h2]
        · rw [if_neg h2]
          by_cases h3 : j < (i + 1) * 4
          · rw [if_pos h3, World.cell?_setCells_out _ _ _ _ _ (fun _ _ => .inl (by show j < _; omega)), hd]
            have := World.cell?_setCells_in V.heap.size cs (i * 4) X (fun q hq => hsome _ (by omega)) (j - i * 4) (by omega)
            rw [show i * 4 + (j - i * 4) = j by omega] at this
            rw [this, List.getElem?_eq_getElem (by omega)]
          · rw [if_neg h3]
            have := World.cell?_setCells_in V.heap.size (inner.drop (i * 4)) ((i + 1) * 4) (X.setCells V.heap.size (i * 4) cs).drew (fun q hq => by rw [hd]; exact isSome_setCells _ _ _ _ (fun q' hq' => hsome _ (by omega)) _ (hsome _ (by omega))) (j - (i + 1) * 4) (by omega)
            rw [show (i + 1) * 4 + (j - (i + 1) * 4) = j by omega] at this
            rw [this, ← List.getElem?_eq_getElem, List.getElem?_drop]
            congr 1
            omega
      · exact B2.os.trans (B1.os.trans (by rw [hX]; exact hga.os))
      · exact B2.tape.trans (B1.tape.trans (by rw [hX]; exact hga.tape))
      · exact B2.output.trans (B1.output.trans (by rw [hX]; exact hga.output))
      · have h3 : X.heap.size ≤ (X.setCells V.heap.size (i * 4) cs).heap.size := B1.size
        have h4 : (X.setCells V.heap.size (i * 4) cs).heap.size ≤ _ := B2.size
        omega
      · have hkg : k ≠ V.heap.size := by omega
        rw [ins_other hkg]
        show (X.setCells V.heap.size (i * 4) cs).heap[k]? = _
        rw [ins_other hkg, hXo k (by omega)]
        exact hga.block k hk hne
end
/-! the words for a walk: a row of the call's own, an element put in -/
def pp_ins {α : Type} (xs : List α) (i : Int) (ys : List α) : List α := xs.take i.toNat ++ ys ++ xs.drop i.toNat
theorem reps_app {α : Type} {R : α → List Value → Prop} {size : Nat} {ps ps' : List α} {cs cs' : List Value} (h : Reps R size ps cs) (h' : Reps R size ps' cs') : Reps R size (ps ++ ps') (cs ++ cs') := by
  refine ⟨by rw [List.length_append, h.1, h'.1, List.length_append, Nat.add_mul], fun j q hq => ?_⟩
  rcases Nat.lt_or_ge j ps.length with hj | hj
  · rw [List.getElem?_append_left hj] at hq
    have h1 : j * size + size ≤ cs.length := by rw [h.1, ← Nat.succ_mul]; exact Nat.mul_le_mul_right _ hj
    rw [List.drop_append_of_le_length (by omega), List.take_append_of_le_length (by rw [List.length_drop]; omega)]
    exact h.2 j q hq
  · rw [List.getElem?_append_right hj] at hq
    have h1 : cs.length ≤ j * size := by rw [h.1]; exact Nat.mul_le_mul_right _ hj
    have h2 : j * size - cs.length = (j - ps.length) * size := by rw [h.1, Nat.sub_mul]
    rw [List.drop_append, List.drop_eq_nil_of_le h1, List.nil_append, h2]
    exact h'.2 _ q hq
theorem reps_take {α : Type} {R : α → List Value → Prop} {size : Nat} {ps : List α} {cs : List Value} (h : Reps R size ps cs) (i : Nat) (hi : i ≤ ps.length) : Reps R size (ps.take i) (cs.take (i * size)) := by
  have hm : i * size ≤ ps.length * size := Nat.mul_le_mul_right _ hi
  refine ⟨by rw [List.length_take, List.length_take, h.1, Nat.min_eq_left hm, Nat.min_eq_left hi], fun j q hq => ?_⟩
  have hj : j < i := by
    have := (List.getElem?_eq_some_iff.1 hq).1
    rw [List.length_take] at this
    omega
  rw [List.getElem?_take_of_lt hj] at hq
  have h1 : j * size + size ≤ i * size := by rw [← Nat.succ_mul]; exact Nat.mul_le_mul_right _ hj
  rw [List.drop_take, List.take_take, Nat.min_eq_left (by omega)]
  exact h.2 j q hq
theorem reps_drop {α : Type} {R : α → List Value → Prop} {size : Nat} {ps : List α} {cs : List Value} (h : Reps R size ps cs) (i : Nat) : Reps R size (ps.drop i) (cs.drop (i * size)) := by
  refine ⟨by rw [List.length_drop, List.length_drop, h.1, Nat.sub_mul], fun j q hq => ?_⟩
  rw [List.getElem?_drop] at hq
  rw [List.drop_drop, ← Nat.add_mul]
  exact h.2 _ q hq
theorem reps_one {α : Type} {R : α → List Value → Prop} {size : Nat} {p : α} {c : List Value} (hp : R p c) (hc : c.length = size) : Reps R size [p] c := by
  have := Reps.snoc (Reps.none R size) hp hc
  simpa using this
theorem reps_cells {α : Type} {d : Kd α} {W : World} {base : Nat} {okk : Nat → Prop} {xs : List α} {inner : List Value} (h : Reps (d.M W base okk) d.sz xs inner) : ∀ u ∈ inner, u.oneCell' = true := by
  intro u hu
  obtain ⟨q, hq, rfl⟩ := List.mem_iff_getElem.1 hu
  have hl := h.1
  have hs : 0 < d.sz := by
    rcases Nat.eq_zero_or_pos d.sz with h0 | h0
    · rw [h0, Nat.mul_zero] at hl; omega
    · exact h0
  have hj : q / d.sz < xs.length := Nat.div_lt_of_lt_mul (by rw [Nat.mul_comm, ← hl]; exact hq)
  have hp := h.2 (q / d.sz) _ (List.getElem?_eq_getElem hj)
  refine d.K_one (d.K_of_M hp) _ (List.mem_iff_getElem?.2 ⟨q % d.sz, ?_⟩)
  rw [List.getElem?_take_of_lt (Nat.mod_lt _ hs), List.getElem?_drop, Nat.mul_comm, Nat.div_add_mod, List.getElem?_eq_getElem hq]
theorem Kd.R_inserted {α : Type} {d : Kd α} {e base : Nat} {ok okp : Nat → Prop} {W w1 : World} {v v1 : Value} {xs : List α} {p : α} {inner cs : List Value} {i : Nat} (hi : i ≤ xs.length) (h0 : ∀ k, v.ownBlock = some k → ok k) (hr : Reps (d.M W base (fun k => ok k ∧ some k ≠ v.ownBlock)) d.sz xs inner) (hp : d.M W base okp p cs) (hokp : ∀ k, okp k → ok k ∧ some k ≠ v.ownBlock) (hfresh : ∀ k, W.heap.size ≤ k → ok k)
    (hown : w1.ownsRow base e d.sz v1 (xs.length + 1) (inner.take (i * d.sz) ++ cs ++ inner.drop (i * d.sz))) (hg : W.grownBy w1 v.ownBlock) (hat : v1.ownBlock = v.ownBlock ∨ ∃ b, v1.ownBlock = some b ∧ W.heap.size ≤ b) : d.R e w1 base ok v1 (xs.take i ++ [p] ++ xs.drop i) := by
  have away : ∀ k, some k ≠ v.ownBlock → k < W.heap.size → some k ≠ v1.ownBlock := fun k hk hlt => by
    rcases hat with hat | ⟨b, hb, hle⟩
    · exact hat ▸ hk
    · rw [hb]; exact fun he => by injection he with he; omega
  have up : ∀ {q : α} {c : List Value} {o : Nat → Prop}, d.M W base o q c → (∀ k, o k → ok k ∧ some k ≠ v.ownBlock) → d.M w1 base (fun k => ok k ∧ some k ≠ v1.ownBlock) q c := fun hq ho =>
    d.M_mono (fun k hk => ⟨(ho k hk.1).1, away k (ho k hk.1).2 hk.2.2.1⟩) (d.M_move (w1 := w1) (fun k hk => hg.block k hk.2.2.1 (ho k hk.1).2) (d.M_bound hq))
  have hrr := hr.imp_ (R' := d.M w1 base (fun k => ok k ∧ some k ≠ v1.ownBlock)) (fun _ _ hq => up hq (fun _ hk => hk))
  refine ⟨fun k hk => ?_, _, ?_, reps_app (reps_app (reps_take hrr i hi) (reps_one (up hp hokp) (d.K_len (d.K_of_M hp)))) (reps_drop hrr i)⟩
  · rcases hat with hat | ⟨b, hb, hle⟩
    · exact h0 k (hat ▸ hk)
    · rw [hb] at hk
      injection hk with hk
      exact hfresh k (by omega)
  · have hl : (xs.take i ++ [p] ++ xs.drop i).length = xs.length + 1 := by
      simp only [List.length_append, List.length_take, List.length_drop, List.length_cons, List.length_nil]
      omega
    rw [hl]; exact hown
theorem Kd.S_of_tags {α : Type} {d : Kd α} {e base : Nat} {ok : Nat → Prop} {w : World} {v : Value} {f : Nat → Nat} {L : List (α × Nat)} (π : Nat → Nat) (h : (Kd.tag f d).R e w base ok v L) (hπ : ∀ j q, L[j]? = some q → π q.2 = j) : Kd.S d e w base ok v (L.map Prod.fst) := by
  obtain ⟨h0, inner, ho, hr⟩ := h
  refine ⟨fun k => π (f k), h0, inner, by rw [List.length_zipIdx, List.length_map]; exact ho, by have := hr.1; rw [List.length_zipIdx, List.length_map]; exact this, fun j q hq => ?_⟩
  rw [List.getElem?_zipIdx, List.getElem?_map] at hq
  cases hL : L[j]? with
  | none => rw [hL] at hq; cases hq
  | some y =>
    rw [hL] at hq
    obtain rfl : (y.1, j) = q := by simpa using hq
    have hM := hr.2 j y hL
    exact d.M_mono (ok' := fun k => (ok k ∧ some k ≠ v.ownBlock) ∧ π (f k) = j) (fun k hk => ⟨hk.1, by rw [hk.2]; exact hπ j y hL⟩) hM
theorem ins_tags {α : Type} (xs : List α) (p : α) (i : Nat) (hi : i ≤ xs.length) : ∀ j q, (xs.zipIdx.take i ++ [(p, xs.length)] ++ xs.zipIdx.drop i)[j]? = some q → (fun t => if t < i then t else if t = xs.length then i else t + 1) q.2 = j := by
  intro j q hq
  have hl : (xs.zipIdx.take i).length = i := by rw [List.length_take, List.length_zipIdx]; omega
  rcases Nat.lt_trichotomy j i with h | h | h
  · rw [List.append_assoc, List.getElem?_append_left (by omega), List.getElem?_take_of_lt h, List.getElem?_zipIdx, Nat.zero_add] at hq
    cases hx : xs[j]? with
    | none => rw [hx] at hq; cases hq
    | some y =>
      rw [hx] at hq
      obtain rfl : (y, j) = q := by simpa using hq
      exact if_pos h
  · subst h
    rw [List.getElem?_append_left (by simp; omega), List.getElem?_append_right (by omega), hl, Nat.sub_self] at hq
    obtain rfl : (p, xs.length) = q := by simpa using hq
    show (if xs.length < j then xs.length else if xs.length = xs.length then j else xs.length + 1) = j
    rw [if_neg (by omega), if_pos rfl]
  · rw [List.getElem?_append_right (by rw [List.length_append, hl]; simp; omega), List.length_append, hl, List.getElem?_drop, List.getElem?_zipIdx, Nat.zero_add] at hq
    have hj : i + (j - (i + [(p, xs.length)].length)) = j - 1 := by simp; omega
    rw [hj] at hq
    cases hx : xs[j - 1]? with
    | none => rw [hx] at hq; cases hq
    | some y =>
      rw [hx] at hq
      obtain rfl : (y, j - 1) = q := by simpa using hq
      have hlt := (List.getElem?_eq_some_iff.1 hx).1
      show (if j - 1 < i then j - 1 else if j - 1 = xs.length then i else j - 1 + 1) = j
      rw [if_neg (by omega), if_neg (by omega)]
      omega
theorem ins_map {α : Type} (xs : List α) (p : α) (m i : Nat) : (xs.zipIdx.take i ++ [(p, m)] ++ xs.zipIdx.drop i).map Prod.fst = xs.take i ++ [p] ++ xs.drop i := by
  simp [List.map_take, List.map_drop]
section
variable {ops : Array Oper} {rest : List Oper} {o : Oper} {a : Act} {Q : Exit → Act → World → Prop} {Kc : Act → World → Prop} {α : Type}
theorem ins_calls (d : Kd α) {w0 W : World} (base : Nat) (hsz : d.sz = 4) (v : Value) (xs : List α) (p : α) (cs : List Value) (i : Int) (ok okp : Nat → Prop) (h0 : 0 ≤ i) (h1 : i ≤ (xs.length : Int)) (hp : d.M W base okp p cs) (hokp : ∀ k, okp k → ok k ∧ some k ≠ v.ownBlock) (hfresh : ∀ k, W.heap.size ≤ k → ok k)
    (HO : d.R 46 W base ok v xs) (HB : Below base w0 W) (hbase : base ≤ W.heap.size) (hl : (xs.length + 1) * 64 ≤ 140737488355328) :
    Calls Try.prog 50 #[v, .int .i64 i, .slice (some ⟨W.heap.size, 0, none⟩) 1 1] (W.alloc (.cells cs.toArray 46)) fun e w1 => ∃ v1, e = .returned v1 ∧ d.R 46 w1 base ok v1 (pp_ins xs i [p]) ∧ Below base w0 w1 ∧ W.grownBy w1 v.ownBlock ∧ (v1.ownBlock = v.ownBlock ∨ ∃ b, v1.ownBlock = some b ∧ W.heap.size ≤ b) := by
  obtain ⟨hh, inner, hown, hr⟩ := HO
  obtain ⟨n, rfl⟩ := Int.eq_ofNat_of_zero_le h0
  have hc := d.K_len (d.K_of_M hp)
  rw [hsz] at hown hc
  refine (ins_row hown (i := n) (cs := cs) (by omega) hc (d.K_one (d.K_of_M hp)) (reps_cells hr) hbase hl).mono ?_
  rintro e w1 ⟨v1, rfl, ho, hg, hat⟩
  exact ⟨v1, rfl, Kd.R_inserted (i := n) (by omega) hh hr hp hokp hfresh (by rw [hsz]; exact ho) hg hat, HB.grown hg hbase (own_base hown), hg, hat⟩
theorem ins_callsS (d : Kd α) {w0 W : World} (base : Nat) (hsz : d.sz = 4) (v : Value) (xs : List α) (p : α) (cs : List Value) (i : Int) (ok okp : Nat → Prop) (h0 : 0 ≤ i) (h1 : i ≤ (xs.length : Int)) (hp : d.M W base okp p cs) (hokp : ∀ k, okp k → ok k ∧ some k ≠ v.ownBlock) (hfresh : ∀ k, W.heap.size ≤ k → ok k)
    (HO : Kd.S d 46 W base (fun k => ok k ∧ ¬ okp k) v xs) (HB : Below base w0 W) (hbase : base ≤ W.heap.size) (hl : (xs.length + 1) * 64 ≤ 140737488355328) :
    Calls Try.prog 50 #[v, .int .i64 i, .slice (some ⟨W.heap.size, 0, none⟩) 1 1] (W.alloc (.cells cs.toArray 46)) fun e w1 => ∃ v1, e = .returned v1 ∧ Kd.S d 46 w1 base ok v1 (pp_ins xs i [p]) ∧ Below base w0 w1 ∧ W.grownBy w1 v.ownBlock ∧ (v1.ownBlock = v.ownBlock ∨ ∃ b, v1.ownBlock = some b ∧ W.heap.size ≤ b) := by
  obtain ⟨f, hf, hR⟩ := Kd.S_tag HO xs.length okp (fun _ hk h2 => h2.2 hk)
  refine (ins_calls (Kd.tag f d) base hsz v xs.zipIdx (p, xs.length) cs i ok okp h0 (by rw [List.length_zipIdx]; exact h1) (d.M_mono (fun k hk => ⟨hk, hf k hk⟩) hp) hokp hfresh (Kd.R_mono hR (fun _ hk => hk.1)) HB hbase (by rw [List.length_zipIdx]; exact hl)).mono ?_
  rintro e w1 ⟨v1, rfl, ho, hb, hg, hat⟩
  refine ⟨v1, rfl, ?_, hb, hg, hat⟩
  have := Kd.S_of_tags (fun t => if t < i.toNat then t else if t = xs.length then i.toNat else t + 1) (L := xs.zipIdx.take i.toNat ++ [(p, xs.length)] ++ xs.zipIdx.drop i.toNat) ho (ins_tags xs p i.toNat (by omega))
  rw [ins_map] at this
  exact this
theorem Kd.R_insert (d : Kd α) {w0 W : World} (base : Nat) (hsz : d.sz = 4) (hgd : o.guard = none) (s ix x : Operand) {ts : Array TypeId} (ho : o.op = .call { callee := .value (.func 50), args := #[s, ix, x], argTypes := ts })
    (v : Value) (xs : List α) (p : α) (cs : List Value) (i : Int) (ok okp : Nat → Prop) (hs : a.eval s = v) (hix : a.eval ix = .int .i64 i) (hx : a.eval x = .slice (some ⟨W.heap.size, 0, none⟩) 1 1) (h0 : 0 ≤ i) (h1 : i ≤ (xs.length : Int)) (hp : d.M W base okp p cs) (hokp : ∀ k, okp k → ok k ∧ some k ≠ v.ownBlock) (hfresh : ∀ k, W.heap.size ≤ k → ok k)
    (HO : d.R 46 W base ok v xs) (HB : Below base w0 W) (hbase : base ≤ W.heap.size) (hl : (xs.length + 1) * 64 ≤ 140737488355328)
    (h : ∀ v1 w1, d.R 46 w1 base ok v1 (pp_ins xs i [p]) → Below base w0 w1 → W.grownBy w1 v.ownBlock → (v1.ownBlock = v.ownBlock ∨ ∃ b, v1.ownBlock = some b ∧ W.heap.size ≤ b) → wpList Try.prog ops Q rest (a.put o.dst v1) w1) :
    wpList Try.prog ops Q (o :: rest) a (W.alloc (.cells cs.toArray 46)) := by
  refine goesL_ o.dst rfl hgd Try.func50 (by kernel_rfl) rfl #[v, .int .i64 i, .slice (some ⟨W.heap.size, 0, none⟩) 1 1] ho (by simp [hs, hix, hx]) ?_
  refine (ins_calls d base hsz v xs p cs i ok okp h0 h1 hp hokp hfresh HO HB hbase hl).mono ?_
  rintro e w1 ⟨v1, rfl, ho, hb, hg, hat⟩
  exact ⟨v1, rfl, h v1 w1 ho hb hg hat⟩
theorem Kd.S_insert (d : Kd α) {w0 W : World} (base : Nat) (hsz : d.sz = 4) (hgd : o.guard = none) (s ix x : Operand) {ts : Array TypeId} (ho : o.op = .call { callee := .value (.func 50), args := #[s, ix, x], argTypes := ts })
    (v : Value) (xs : List α) (p : α) (cs : List Value) (i : Int) (ok okp : Nat → Prop) (hs : a.eval s = v) (hix : a.eval ix = .int .i64 i) (hx : a.eval x = .slice (some ⟨W.heap.size, 0, none⟩) 1 1) (h0 : 0 ≤ i) (h1 : i ≤ (xs.length : Int)) (hp : d.M W base okp p cs) (hokp : ∀ k, okp k → ok k ∧ some k ≠ v.ownBlock) (hfresh : ∀ k, W.heap.size ≤ k → ok k)
    (HO : Kd.S d 46 W base (fun k => ok k ∧ ¬ okp k) v xs) (HB : Below base w0 W) (hbase : base ≤ W.heap.size) (hl : (xs.length + 1) * 64 ≤ 140737488355328)
    (h : ∀ v1 w1, Kd.S d 46 w1 base ok v1 (pp_ins xs i [p]) → Below base w0 w1 → W.grownBy w1 v.ownBlock → (v1.ownBlock = v.ownBlock ∨ ∃ b, v1.ownBlock = some b ∧ W.heap.size ≤ b) → wpList Try.prog ops Q rest (a.put o.dst v1) w1) :
    wpList Try.prog ops Q (o :: rest) a (W.alloc (.cells cs.toArray 46)) := by
  refine goesL_ o.dst rfl hgd Try.func50 (by kernel_rfl) rfl #[v, .int .i64 i, .slice (some ⟨W.heap.size, 0, none⟩) 1 1] ho (by simp [hs, hix, hx]) ?_
  refine (ins_callsS d base hsz v xs p cs i ok okp h0 h1 hp hokp hfresh HO HB hbase hl).mono ?_
  rintro e w1 ⟨v1, rfl, ho, hb, hg, hat⟩
  exact ⟨v1, rfl, h v1 w1 ho hb hg hat⟩
theorem Kd.R_insert_step (d : Kd α) {w0 W : World} (base : Nat) (hsz : d.sz = 4) (hw : Region.wanted o (yielded ops a.tmps) = true) (s ix x : Operand) {ts : Array TypeId} (ho : o.op = .call { callee := .value (.func 50), args := #[s, ix, x], argTypes := ts })
    (v : Value) (xs : List α) (p : α) (cs : List Value) (i : Int) (ok okp : Nat → Prop) (hs : a.eval s = v) (hix : a.eval ix = .int .i64 i) (hx : a.eval x = .slice (some ⟨W.heap.size, 0, none⟩) 1 1) (h0 : 0 ≤ i) (h1 : i ≤ (xs.length : Int)) (hp : d.M W base okp p cs) (hokp : ∀ k, okp k → ok k ∧ some k ≠ v.ownBlock) (hfresh : ∀ k, W.heap.size ≤ k → ok k)
    (HO : d.R 46 W base ok v xs) (HB : Below base w0 W) (hbase : base ≤ W.heap.size) (hl : (xs.length + 1) * 64 ≤ 140737488355328)
    (h : ∀ v1 w1, d.R 46 w1 base ok v1 (pp_ins xs i [p]) → Below base w0 w1 → W.grownBy w1 v.ownBlock → (v1.ownBlock = v.ownBlock ∨ ∃ b, v1.ownBlock = some b ∧ W.heap.size ≤ b) → Kc (a.put o.dst v1) w1) :
    if Region.wanted o (yielded ops a.tmps) = true then Oper.wp Try.prog o a (W.alloc (.cells cs.toArray 46)) Kc Q else Kc (a.put o.dst undef) (W.alloc (.cells cs.toArray 46)) := by
  refine goes_ Try.func50 (by kernel_rfl) rfl #[v, .int .i64 i, .slice (some ⟨W.heap.size, 0, none⟩) 1 1] hw rfl ho (by simp [hs, hix, hx]) ?_
  refine (ins_calls d base hsz v xs p cs i ok okp h0 h1 hp hokp hfresh HO HB hbase hl).mono ?_
  rintro e w1 ⟨v1, rfl, ho, hb, hg, hat⟩
  exact ⟨v1, rfl, h v1 w1 ho hb hg hat⟩
theorem Kd.S_insert_step (d : Kd α) {w0 W : World} (base : Nat) (hsz : d.sz = 4) (hw : Region.wanted o (yielded ops a.tmps) = true) (s ix x : Operand) {ts : Array TypeId} (ho : o.op = .call { callee := .value (.func 50), args := #[s, ix, x], argTypes := ts })
    (v : Value) (xs : List α) (p : α) (cs : List Value) (i : Int) (ok okp : Nat → Prop) (hs : a.eval s = v) (hix : a.eval ix = .int .i64 i) (hx : a.eval x = .slice (some ⟨W.heap.size, 0, none⟩) 1 1) (h0 : 0 ≤ i) (h1 : i ≤ (xs.length : Int)) (hp : d.M W base okp p cs) (hokp : ∀ k, okp k → ok k ∧ some k ≠ v.ownBlock) (hfresh : ∀ k, W.heap.size ≤ k → ok k)
    (HO : Kd.S d 46 W base (fun k => ok k ∧ ¬ okp k) v xs) (HB : Below base w0 W) (hbase : base ≤ W.heap.size) (hl : (xs.length + 1) * 64 ≤ 140737488355328)
    (h : ∀ v1 w1, Kd.S d 46 w1 base ok v1 (pp_ins xs i [p]) → Below base w0 w1 → W.grownBy w1 v.ownBlock → (v1.ownBlock = v.ownBlock ∨ ∃ b, v1.ownBlock = some b ∧ W.heap.size ≤ b) → Kc (a.put o.dst v1) w1) :
    if Region.wanted o (yielded ops a.tmps) = true then Oper.wp Try.prog o a (W.alloc (.cells cs.toArray 46)) Kc Q else Kc (a.put o.dst undef) (W.alloc (.cells cs.toArray 46)) := by
  refine goes_ Try.func50 (by kernel_rfl) rfl #[v, .int .i64 i, .slice (some ⟨W.heap.size, 0, none⟩) 1 1] hw rfl ho (by simp [hs, hix, hx]) ?_
  refine (ins_callsS d base hsz v xs p cs i ok okp h0 h1 hp hokp hfresh HO HB hbase hl).mono ?_
  rintro e w1 ⟨v1, rfl, ho, hb, hg, hat⟩
  exact ⟨v1, rfl, h v1 w1 ho hb hg hat⟩
end
section
attribute [local go_sem high] aR2
def objects_Put.j0 : Nat → Int → Int → Bool → Bool → List (r9) → Int → List Int → List Int → List (r9) → Option ((List (r9)) × Int × Int × Int)
  | 0, _, _, _, _, _, _, _, _, _ => none
  | k + 1, x8, x11, x12, x40, bJ5, bJ6, bJ7, bJ8, aD9 => if x40 = true then (some (([] : List (r9)), 0, 19, (-1))) else (if x12 = true then (some (aD9, x8, 0, 0)) else (if (bJ5.length : Int) = 40 then (some (([] : List (r9)), 0, 14, (-1))) else ((objects_Clone.f bJ6 bJ7 bJ8).bind fun aj9 => (if 0 ≤ x11 then (if x11 ≤ (aD9.length : Int) then (if aD9.length < 2199023255552 then (some ((pp_ins aD9 x11 [(⟨x8, (⟨aj9.1, aj9.2.1, aj9.2.2⟩ : S44)⟩ : r9)]), x8, 0, 0)) else (none)) else (none)) else (none)))))
def objects_Put.f (k : Nat) (b1 : List (r9)) (l7 : Int) (l4 : List Int) (k8 : List Int) : Option ((List (r9)) × Int × Int × Int) := (objects_Validate.f k b1).bind fun aq6 => (if (!(aq6.1 == 0) || (!(aq6.2 == 0))) = true then (some (([] : List (r9)), 0, aq6.1, aq6.2)) else ((objects_Digest.f k l7 l4 k8).bind fun P1 => (if (!(P1.2.1 == 0) || (!(P1.2.2 == 0))) = true then (some (([] : List (r9)), 0, P1.2.1, (-1))) else ((objects_copied.f k b1).bind fun r8 => ((objects_find.f k b1 P1.1).bind fun m0 => (if m0.2 = true then (if 0 ≤ m0.1 then (if m0.1 < (b1.length : Int) then ((objects_Same.f k ((a7 b1 m0.1).f1.f0) ((a7 b1 m0.1).f1.f1) ((a7 b1 m0.1).f1.f2) l7 l4 k8).bind fun aV4 => (objects_Put.j0 k P1.1 m0.1 m0.2 (!t668) b1 l7 l4 k8 r8)) else (none)) else (none)) else (objects_Put.j0 k P1.1 m0.1 m0.2 false b1 l7 l4 k8 r8)))))))
theorem objects_Put.mono_l : ∀ k, (∀ y0 y1 y2 y3 y4 y5 y6 y7 y8, LeO (objects_Put.j0 k y0 y1 y2 y3 y4 y5 y6 y7 y8) (objects_Put.j0 (k + 1) y0 y1 y2 y3 y4 y5 y6 y7 y8))
  | 0 => fun _ _ _ _ _ _ _ _ _ r h => by simp [objects_Put.j0] at h
  | k + 1 => by
    have t6 := objects_Put.mono_l k
    · intro y0 y1 y2 y3 y4 y5 y6 y7 y8
      unfold objects_Put.j0
      repeat' first | (with_reducible first | exact t6 _ _ _ _ _ _ _ _ _ | exact objects_Digest.mono _ _ _ _ | exact objects_Same.mono _ _ _ _ _ _ _ | exact objects_Validate.mono _ _ | exact objects_copied.mono _ _ | exact objects_find.mono _ _ _ | exact LeO.refl _ | exact LeO.none _ | refine LeO.ite ?_ ?_ | refine LeO.bind ?_ (fun _ => ?_)) | exact t6 _ _ _ _ _ _ _ _ _ | exact objects_Digest.mono _ _ _ _ | exact objects_Same.mono _ _ _ _ _ _ _ | exact objects_Validate.mono _ _ | exact objects_copied.mono _ _ | exact objects_find.mono _ _ _ | exact LeO.none _ | refine LeO.ite ?_ ?_ | refine LeO.bind ?_ (fun _ => ?_)
theorem objects_Put.mono : ∀ a0 a1 a2 a3 k, LeO (objects_Put.f k a0 a1 a2 a3) (objects_Put.f (k + 1) a0 a1 a2 a3) := by
  intro a0 a1 a2 a3 k
  have t6 := objects_Put.mono_l k
  unfold objects_Put.f
  repeat' first | (with_reducible first | exact t6 _ _ _ _ _ _ _ _ _ | exact objects_Digest.mono _ _ _ _ | exact objects_Same.mono _ _ _ _ _ _ _ | exact objects_Validate.mono _ _ | exact objects_copied.mono _ _ | exact objects_find.mono _ _ _ | exact LeO.refl _ | exact LeO.none _ | refine LeO.ite ?_ ?_ | refine LeO.bind ?_ (fun _ => ?_)) | exact t6 _ _ _ _ _ _ _ _ _ | exact objects_Digest.mono _ _ _ _ | exact objects_Same.mono _ _ _ _ _ _ _ | exact objects_Validate.mono _ _ | exact objects_copied.mono _ _ | exact objects_find.mono _ _ _ | exact LeO.none _ | refine LeO.ite ?_ ?_ | refine LeO.bind ?_ (fun _ => ?_)
def objects_Put.T9 : Bool × List (List Nat × List Nat) := (true, [([], []), ([0], [0]), ([1], [1]), ([2, 1], [1, 2]), ([1], [1]), ([3, 4, 1], [1, 3, 4]), ([5, 1], [1, 5]), ([6, 1], [1, 6]), ([1], [1]), ([7, 8, 1, 1], [1, 7, 8]), ([9, 1], [1, 9]), ([1, 10], [1, 10]), ([11, 9], [11])])
def objects_Put.B9 : List Nat := [0, 1, 3, 7, 3, 31, 63, 127, 3, 511, 1023, 2047, 4095]
theorem objects_Put.tab9 : rtab .any (opsOf Try.f33 9) = objects_Put.T9 := by kernel_rfl
theorem objects_Put.bits9 : waitsOk objects_Put.T9.2 objects_Put.B9 = true := by kernel_rfl
def objects_Put.T15 : Bool × List (List Nat × List Nat) := (true, [([], []), ([0], [0]), ([], []), ([], []), ([], []), ([4], [4]), ([3, 5], [3, 5]), ([6], [6]), ([1, 2, 7, 5], [1, 2, 7]), ([0, 1, 2, 3, 4, 5, 6, 7, 8], []), ([9, 8, 8, 0, 1, 2, 3, 4, 5, 6, 7, 8], [8, 9])])
def objects_Put.B15 : List Nat := [0, 1, 0, 0, 0, 16, 56, 120, 255, 511, 1023]
theorem objects_Put.tab15 : rtab .any (opsOf Try.f33 15) = objects_Put.T15 := by kernel_rfl
theorem objects_Put.bits15 : waitsOk objects_Put.T15.2 objects_Put.B15 = true := by kernel_rfl
abbrev objects_Put.Z1 : Array Bool := #[I,I,I,I,I,I,I,I,I,I,I,I,I]
abbrev objects_Put.Z2 : Array Bool := #[J,I,I,I,I,I,I,I,I,I,I,I,I]
abbrev objects_Put.Z3 : Array Bool := #[J,J,I,I,I,I,I,I,I,I,I,I,I]
abbrev objects_Put.Z4 : Array Bool := #[J,J,J,I,I,I,I,I,I,I,I,I,I]
abbrev objects_Put.Z5 : Array Bool := #[J,J,J,I,J,I,I,I,I,I,I,I,I]
abbrev objects_Put.Z6 : Array Bool := #[J,J,J,J,J,I,I,I,I,I,I,I,I]
abbrev objects_Put.Z7 : Array Bool := #[J,J,J,J,J,J,I,I,I,I,I,I,I]
abbrev objects_Put.Z8 : Array Bool := #[J,J,J,J,J,J,J,I,I,I,I,I,I]
abbrev objects_Put.Z9 : Array Bool := #[J,J,J,J,J,J,J,J,I,I,I,I,I]
abbrev objects_Put.Z10 : Array Bool := #[J,J,J,J,J,J,J,J,J,I,I,I,I]
abbrev objects_Put.Z11 : Array Bool := #[J,J,J,J,J,J,J,J,J,J,I,I,I]
abbrev objects_Put.Z12 : Array Bool := #[J,J,J,J,J,J,J,J,J,J,J,I,I]
abbrev objects_Put.Z13 : Array Bool := #[J,J,J,J,J,J,J,J,J,J,J,J,I]
abbrev objects_Put.Z14 : Array Bool := #[J,J,J,J,J,J,J,J,J,J,J,J,J]
abbrev objects_Put.Z15 : Array Bool := #[J,J,J,J,I,I,I,I,I,I,I,I,I]
abbrev objects_Put.Z16 : Array Bool := #[I,I,I,I,I,I,I,I,I,I,I]
abbrev objects_Put.Z17 : Array Bool := #[J,I,I,I,I,I,I,I,I,I,I]
abbrev objects_Put.Z18 : Array Bool := #[J,I,J,I,I,I,I,I,I,I,I]
abbrev objects_Put.Z19 : Array Bool := #[J,I,J,J,I,I,I,I,I,I,I]
abbrev objects_Put.Z20 : Array Bool := #[J,J,J,J,I,I,I,I,I,I,I]
abbrev objects_Put.Z21 : Array Bool := #[J,J,J,J,J,I,I,I,I,I,I]
abbrev objects_Put.Z22 : Array Bool := #[J,J,J,J,J,J,I,I,I,I,I]
abbrev objects_Put.Z23 : Array Bool := #[J,J,J,J,J,J,J,I,I,I,I]
abbrev objects_Put.Z24 : Array Bool := #[J,J,J,J,J,J,J,J,I,I,I]
abbrev objects_Put.Z25 : Array Bool := #[J,J,J,J,J,J,J,J,J,I,I]
abbrev objects_Put.Z26 : Array Bool := #[J,J,J,J,J,J,J,J,J,J,I]
abbrev objects_Put.Z27 : Array Bool := #[J,J,J,J,J,J,J,J,J,J,J]
set_option maxHeartbeats 8000000 in
set_option maxRecDepth 100000 in
theorem objects_Put.calls (k : Nat) (k9 : Option Addr) (j9 : Nat) (b1 : List (r9)) (l7 : Int) (K1 : Option Addr) (K2 : Nat) (l4 : List Int) (G9 : Option Addr) (H0 : Nat) (k8 : List Int) (r1 : List (r9)) (r2 : Int) (r3 : Int) (r4 : Int) (w : World) (J9 : Kd.C k46 w k9 b1.length b1) (K0 : b1.length ≤ j9) (aA1 : Kd.C (Kd.int .i64) w K1 l4.length l4) (aA2 : l4.length ≤ K2) (aA3 : Kd.C (Kd.int .u8) w G9 k8.length k8) (aA4 : k8.length ≤ H0) (h : objects_Put.f k b1 l7 l4 k8 = some (r1, r2, r3, r4)) :
  Calls Try.prog 33 #[.agg #[.slice k9 b1.length j9], .agg #[.int .i64 l7, .slice K1 l4.length K2, .slice G9 k8.length H0]] w fun e w' => ∃ v0_ : Value, e = .returned (.tuple #[.agg #[v0_], .int .i64 r2, .agg #[.int .i64 r3, .int .i64 r4]]) ∧ Kd.S k46 46 w' w.heap.size (fun _ => True) v0_ r1 ∧ Below w.heap.size w w' := by
  have aU3 := Try.underlying24
  have aw1 := Try.underlying44
  have aH5 := Try.underlying28
  have bE9 := Try.underlying46
  have m8 := aZ J9
  have V4 := aZ K0
  clear J9 K0
  have am4 := aZ aA1
  have am5 := aZ aA2
  clear aA1 aA2
  have aq5 := aZ aA3
  have aG6 := aZ aA4
  clear aA3 aA4
  have HB := aZ (Below.refl w.heap.size w)
  have H : ((objects_Validate.f k b1).bind fun aq6 => (if (!(aq6.1 == 0) || (!(aq6.2 == 0))) = true then (some (([] : List (r9)), 0, aq6.1, aq6.2)) else ((objects_Digest.f k l7 l4 k8).bind fun P1 => (if (!(P1.2.1 == 0) || (!(P1.2.2 == 0))) = true then (some (([] : List (r9)), 0, P1.2.1, (-1))) else ((objects_copied.f k b1).bind fun r8 => ((objects_find.f k b1 P1.1).bind fun m0 => (if m0.2 = true then (if 0 ≤ m0.1 then (if m0.1 < (b1.length : Int) then ((objects_Same.f k ((a7 b1 m0.1).f1.f0) ((a7 b1 m0.1).f1.f1) ((a7 b1 m0.1).f1.f2) l7 l4 k8).bind fun aV4 => (objects_Put.j0 k P1.1 m0.1 m0.2 (!t668) b1 l7 l4 k8 r8)) else (none)) else (none)) else (objects_Put.j0 k P1.1 m0.1 m0.2 false b1 l7 l4 k8 r8)))))))) = some (r1, r2, r3, r4) := h
  clear h
  replace H := Option.bind_eq_some_iff.mp H
  obtain ⟨⟨T0, Y6⟩, A30, H⟩ := H
  replace H : (if (!(T0 == 0) || (!(Y6 == 0))) = true then (some (([] : List (r9)), 0, T0, Y6)) else ((objects_Digest.f k l7 l4 k8).bind fun P1 => (if (!(P1.2.1 == 0) || (!(P1.2.2 == 0))) = true then (some (([] : List (r9)), 0, P1.2.1, (-1))) else ((objects_copied.f k b1).bind fun r8 => ((objects_find.f k b1 P1.1).bind fun m0 => (if m0.2 = true then (if 0 ≤ m0.1 then (if m0.1 < (b1.length : Int) then ((objects_Same.f k ((a7 b1 m0.1).f1.f0) ((a7 b1 m0.1).f1.f1) ((a7 b1 m0.1).f1.f2) l7 l4 k8).bind fun aV4 => (objects_Put.j0 k P1.1 m0.1 m0.2 (!t668) b1 l7 l4 k8 r8)) else (none)) else (none)) else (objects_Put.j0 k P1.1 m0.1 m0.2 false b1 l7 l4 k8 r8))))))) = some (r1, r2, r3, r4) := H
  have A3 := aZ A30
  clear A30
  by_cases c4 : (!(T0 == 0) || (!(Y6 == 0))) = true
  · rw [if_pos c4] at H
    have Y8 : (!(T0 == 0) || (!(Y6 == 0))) = true := c4
    clear c4
    simp only [Option.some.injEq, Prod.mk.injEq] at H
    obtain ⟨rfl, rfl, rfl, rfl⟩ := H
    go_enter Try.func33, Try.ntmps33
    try go_wp2_with (first | ((with_reducible refine gate_dst (N := 2) rfl ?_); refine box_event ?hg (N := 2) ?hd (cs := #[.slice k9 b1.length j9]) (t := 24) ?hr ?_; (case hd => rfl); (case hg => rfl); (case hr => first | (go_simp; done) | (go_simp; rfl)); intro aa3 hg w5 hbox hb; have f4 := aZ (hbox); have bW9 := xgh hg HB; have ac3 := xgh hg HB; replace HB := xhl HB hb; clear hb hbox hg) | ((with_reducible refine gate_dst (N := 3) rfl ?_); refine box_event ?hg (N := 3) ?hd (cs := #[.int .i64 l7, .slice K1 l4.length K2, .slice G9 k8.length H0]) (t := 44) ?hr ?_; (case hd => rfl); (case hg => rfl); (case hr => first | (go_simp; done) | (go_simp; rfl)); intro S9 hg w6 hbox hb; have f3 := aZ (hbox); have bX0 := xgh hg HB; have ac4 := xgh hg HB; replace HB := xhl HB hb; have T2 := xnl hg f4; have T3 := xng hg f4; replace f4 := xbb f4 hb; clear hb hbox hg) | ((with_reducible refine gate_dst (N := 4) rfl ?_); refine box_event ?hg (N := 4) ?hd (cs := #[.slice none 0 0]) (t := 24) ?hr ?_; (case hd => rfl); (case hg => rfl); (case hr => first | (go_simp; done) | (go_simp; rfl)); intro I3 hg w7 hbox hb; have g7 := aZ (hbox); have bX1 := xgh hg HB; have ac5 := xgh hg HB; replace HB := xhl HB hb; have F1 := xnl hg f4; have F2 := xng hg f4; replace f4 := xbb f4 hb; have G6 := xnl hg f3; have G7 := xng hg f3; replace f3 := xbb f3 hb; clear hb hbox hg) | ((with_reducible refine gate_dst (N := 6) rfl ?_); refine box_event ?hg (N := 6) ?hd (cs := #[.int .i64 0, .int .i64 0]) (t := 28) ?hr ?_; (case hd => rfl); (case hg => rfl); (case hr => first | (go_simp; done) | (go_simp; rfl)); intro r7 hg w8 hbox hb; have g8 := aZ (hbox); have bX2 := xgh hg HB; have ac6 := xgh hg HB; replace HB := xhl HB hb; have B0 := xnl hg f4; have B4 := xng hg f4; replace f4 := xbb f4 hb; have D2 := xnl hg f3; have D3 := xng hg f3; replace f3 := xbb f3 hb; have l5 := xnl hg g7; have o8 := xng hg g7; replace g7 := xbb g7 hb; clear hb hbox hg; have co1 := T2.out; have co2 := T3.out; have bR8 := F1.out; have bR9 := F2.out; have bS0 := B0.out; have bS1 := B4.out; have bf3 : w8.cell? ⟨aa3, 0, none⟩ = some (.slice k9 b1.length j9) := (blk_cell f4.out 0).trans rfl; have bf4 := blk_frozen f4.out 0) | ((with_reducible refine gate_callee (f := 32) rfl ?_); refine goesL_ (some 14) rfl rfl Try.func32 (by kernel_rfl) rfl #[.agg #[.slice k9 b1.length j9]] rfl xmp ?_; (with_reducible refine (objects_Validate.calls k _ _ b1 T0 Y6 _ ?side1 ?side2 A3.out).mono ?_); (case side1 => exact xcb m8 HB); (case side2 => exact V4.out); rintro e w13 ⟨rfl, hb⟩; refine ⟨_, rfl, ?_⟩; replace f4 := xbb f4 hb; replace f3 := xbb f3 hb; replace g7 := xbb g7 hb; replace g8 := xbb g8 hb; replace HB := xhl HB hb; skip; (try clear hb); (try clear H3); (try clear hk); (try clear hi)) | ((with_reducible refine gate_dst (N := 7) rfl ?_); refine box_event ?hg (N := 7) ?hd (cs := #[.int .i64 0, .int .i64 0]) (t := 28) ?hr ?_; (case hd => rfl); (case hg => rfl); (case hr => first | (go_simp; done) | (go_simp; rfl)); intro C5 hg w14 hbox hb; have k3 := aZ (hbox); have bX3 := xgh hg HB; have ac7 := xgh hg HB; replace HB := xhl HB hb; have T4 := xnl hg f4; have T7 := xng hg f4; replace f4 := xbb f4 hb; have ac8 := xnl hg f3; have ac9 := xng hg f3; replace f3 := xbb f3 hb; have F3 := xnl hg g7; have B7 := xng hg g7; replace g7 := xbb g7 hb; have B8 := xnl hg g8; have p9 := xng hg g8; replace g8 := xbb g8 hb; clear hb hbox hg; have bt0 := T7.out; have bt1 := T4.out; have cw3 := ac9.out; have cw4 := ac8.out; have bu6 := B7.out; have bu7 := F3.out; have bU2 := p9.out; have bU3 := B8.out; have aM6 : w14.cell? ⟨C5, 0, none⟩ = some (.int .i64 0) := (blk_cell k3.out 0).trans rfl; have aM7 : w14.cell? ⟨C5, 1, none⟩ = some (.int .i64 0) := (blk_cell k3.out 1).trans rfl; have aM8 := blk_frozen k3.out 0; have aM9 := blk_frozen k3.out 1))
    replace f4 : Aside0 (((w14.setCell ⟨C5, 0, none⟩ (.int .i64 T0)).setCell ⟨C5, 1, none⟩ (.int .i64 Y6)).heap[aa3]? = some (.cells #[.slice k9 b1.length j9] 24 (0, 0))) := xk f4
    replace f3 : Aside0 (((w14.setCell ⟨C5, 0, none⟩ (.int .i64 T0)).setCell ⟨C5, 1, none⟩ (.int .i64 Y6)).heap[S9]? = some (.cells #[.int .i64 l7, .slice K1 l4.length K2, .slice G9 k8.length H0] 44 (0, 0))) := xk f3
    replace g7 : Aside0 (((w14.setCell ⟨C5, 0, none⟩ (.int .i64 T0)).setCell ⟨C5, 1, none⟩ (.int .i64 Y6)).heap[I3]? = some (.cells #[.slice none 0 0] 24 (0, 0))) := xk g7
    replace g8 : Aside0 (((w14.setCell ⟨C5, 0, none⟩ (.int .i64 T0)).setCell ⟨C5, 1, none⟩ (.int .i64 Y6)).heap[r7]? = some (.cells #[.int .i64 0, .int .i64 0] 28 (0, 0))) := xk g8
    replace k3 : Aside0 (((w14.setCell ⟨C5, 0, none⟩ (.int .i64 T0)).setCell ⟨C5, 1, none⟩ (.int .i64 Y6)).heap[C5]? = some (.cells #[.int .i64 T0, .int .i64 Y6] 28 (0, 0))) := ⟨by (with_reducible repeat (first | refine bN ?_ _ | refine bD ?_ | refine bA ?_ _)); refine blk_put (cs := #[.int .i64 T0, .int .i64 0]) ?_ 1 _ rfl; (with_reducible repeat (first | refine bN ?_ _ | refine bD ?_ | refine bA ?_ _)); refine blk_put (cs := #[.int .i64 0, .int .i64 0]) ?_ 0 _ rfl; (with_reducible repeat (first | refine bN ?_ _ | refine bD ?_ | refine bA ?_ _)); exact k3.out⟩
    replace HB : Aside0 (Below w.heap.size w ((w14.setCell ⟨C5, 0, none⟩ (.int .i64 T0)).setCell ⟨C5, 1, none⟩ (.int .i64 Y6))) := xb HB
    generalize ((w14.setCell ⟨C5, 0, none⟩ (.int .i64 T0)).setCell ⟨C5, 1, none⟩ (.int .i64 Y6)) = w20 at f4 f3 g7 g8 k3 HB ⊢
    replace f4 := aZ (bD f4.out)
    replace f3 := aZ (bD f3.out)
    replace g7 := aZ (bD g7.out)
    replace g8 := aZ (bD g8.out)
    replace k3 := aZ (bD k3.out)
    replace HB := aZ (lD HB.out)
    refine start_ (n := 5) (S := fun w' => w'.cell? ⟨C5, 0, none⟩ = some (.int .i64 T0) ∧ w'.cell? ⟨C5, 1, none⟩ = some (.int .i64 Y6)) (ds := []) #[false, false, false, false, false] (by kernel_rfl) rfl rfl ⟨(blk_cell k3.out 0).trans rfl, (blk_cell k3.out 1).trans rfl⟩ (fun hHeld => ?_)
    generalize w20.drew = w21 at f4 f3 g7 g8 k3 HB hHeld ⊢
    refine pure_ (i := 0) (N := some 18) (v := ?_) (a' := ?_) #[true, false, false, false, false] rfl rfl (by kernel_rfl) (fun _ _ _ h => h) (Or.inl ⟨by rfl, ?_⟩) ?_ ?_
    rotate_left
    · intro w'
      go_simp
      with_reducible rfl
    rotate_left
    · simp only [Act.put, List.setIfInBounds_toArray, List.set_cons_zero, List.set_cons_succ, i64_w, i32_w]
      rfl
    refine take_ (i := 1) (N := some 19) (v := ?_) (a' := ?_) #[true, true, false, false, false] rfl rfl (by kernel_rfl) (fun _ _ _ h => h) (Or.inl ⟨by rfl, ?_⟩) hHeld ?_ ?_
    rotate_left
    · rintro w' ⟨s0, s1⟩
      go_simp
      with_reducible rfl
    rotate_left
    · simp only [Act.put, List.setIfInBounds_toArray, List.set_cons_zero, List.set_cons_succ, i64_w, i32_w]
      rfl
    refine one_ (i := 2) (N := none) #[true, true, true, false, false] rfl rfl (by kernel_rfl) (by decide) (fun K hK => ?_)
    have eb6 : w21.cell? ⟨I3, 0, none⟩ = some (.slice none 0 0) := (blk_cell g7.out 0).trans rfl
    have dP8 := blk_frozen g7.out 0
    have cX5 := F1.out
    have cX6 := G6.out
    have cX7 := o8.out
    have cX8 := B7.out
    have cX9 := F2.out
    have cY0 := G7.out
    have cY1 := l5.out
    have cY2 := F3.out
    refine skip_ (w1 := ?_) (by rfl) rfl ?_ ?_
    rotate_left
    · go_simp
      rfl
    refine hK.out _ _ ⟨((cell_far (p := ⟨I3, _, none⟩) B7.out _).trans (hHeld.1)), ((cell_far (p := ⟨I3, _, none⟩) B7.out _).trans (hHeld.2))⟩ (fun hHeld => ?_)
    clear hK K
    refine pure_ (i := 3) (N := some 5) (v := ?_) (a' := ?_) #[true, true, true, true, false] rfl rfl (by kernel_rfl) (fun _ _ _ h => h) (Or.inl ⟨by rfl, ?_⟩) ?_ ?_
    rotate_left
    · intro w'
      go_simp
      with_reducible rfl
    rotate_left
    · simp only [Act.put, List.setIfInBounds_toArray, List.set_cons_zero, List.set_cons_succ, i64_w, i32_w]
      rfl
    refine one_ (i := 4) (N := none) #[true, true, true, true, true] rfl rfl (by kernel_rfl) (by decide) (fun K hK => ?_)
    have eb7 : w21.cell? ⟨r7, 0, none⟩ = some (.int .i64 0) := (blk_cell g8.out 0).trans rfl
    have dP9 := blk_frozen g8.out 0
    have cY3 := B0.out
    have cY4 := D2.out
    have cY5 := l5.out
    have cY6 := p9.out
    have cY7 := B4.out
    have cY8 := D3.out
    have cY9 := o8.out
    have cZ0 := B8.out
    have eb8 : w21.cell? ⟨r7, 1, none⟩ = some (.int .i64 0) := (blk_cell g8.out 1).trans rfl
    have dQ0 := blk_frozen g8.out 1
    have cZ1 := B0.out
    have cZ2 := D2.out
    have cZ3 := l5.out
    have cZ4 := p9.out
    have cZ5 := B4.out
    have cZ6 := D3.out
    have cZ7 := o8.out
    have cZ8 := B8.out
    refine skip_ (w1 := ?_) (by rfl) rfl ?_ ?_
    rotate_left
    · go_simp
      rfl
    refine hK.out _ _ ⟨((cell_far (p := ⟨r7, _, none⟩) p9.out _).trans (((cell_far (p := ⟨r7, _, none⟩) p9.out _).trans (hHeld.1)))), ((cell_far (p := ⟨r7, _, none⟩) p9.out _).trans (((cell_far (p := ⟨r7, _, none⟩) p9.out _).trans (hHeld.2))))⟩ (fun hHeld => ?_)
    clear hK K
    refine done_ (by kernel_rfl) ?_
    try go_wp2
    refine bodyPost_ret (results_list (rs := [.cell 4 24, .tmp 5, .cell 6 28]) rfl (by simp) (.cell I3 24 #[.slice none 0 0] (0, 0) _ rfl (by (with_reducible repeat (first | refine bN ?_ _ | refine bD ?_ | refine bA ?_ _)); refine blk_far ?_ l5.out _; (with_reducible repeat (first | refine bN ?_ _ | refine bD ?_ | refine bA ?_ _)); refine blk_far ?_ l5.out _; (with_reducible repeat (first | refine bN ?_ _ | refine bD ?_ | refine bA ?_ _)); refine blk_put (cs := #[.slice none 0 0]) ?_ 0 _ rfl; (with_reducible repeat (first | refine bN ?_ _ | refine bD ?_ | refine bA ?_ _)); exact g7.out) Try.underlying24 rfl (by kernel_rfl) (.tmp (.cell r7 28 #[.int .i64 T0, .int .i64 Y6] (0, 0) _ rfl (by (with_reducible repeat (first | refine bN ?_ _ | refine bD ?_ | refine bA ?_ _)); refine blk_put (cs := #[.int .i64 T0, .int .i64 0]) ?_ 1 _ rfl; (with_reducible repeat (first | refine bN ?_ _ | refine bD ?_ | refine bA ?_ _)); refine blk_put (cs := #[.int .i64 0, .int .i64 0]) ?_ 0 _ rfl; (with_reducible repeat (first | refine bN ?_ _ | refine bD ?_ | refine bA ?_ _)); refine blk_far ?_ o8.out _; (with_reducible repeat (first | refine bN ?_ _ | refine bD ?_ | refine bA ?_ _)); exact g8.out) Try.underlying28 rfl (by kernel_rfl) .nil)))) rfl ?_
    exact ⟨_, xre, by first | exact Kd.S_nil _ _ _ _ _ | exact Kd.N_nil _ _ _ _ _ | exact Kd.V_nil _ _ _ _ _ | exact Kd.Q_nil _ _ _ _ _ | exact Kd.R_nil _ _ _ _ _, xq HB⟩
  rw [if_neg c4] at H
  have Y8 : (!(T0 == 0) || (!(Y6 == 0))) = false := by simpa using c4
  clear c4
  replace H := Option.bind_eq_some_iff.mp H
  obtain ⟨⟨Q1, W0, ae7⟩, bw7, H⟩ := H
  replace H : (if (!(W0 == 0) || (!(ae7 == 0))) = true then (some (([] : List (r9)), 0, W0, (-1))) else ((objects_copied.f k b1).bind fun r8 => ((objects_find.f k b1 Q1).bind fun m0 => (if m0.2 = true then (if 0 ≤ m0.1 then (if m0.1 < (b1.length : Int) then ((objects_Same.f k ((a7 b1 m0.1).f1.f0) ((a7 b1 m0.1).f1.f1) ((a7 b1 m0.1).f1.f2) l7 l4 k8).bind fun aV4 => (objects_Put.j0 k Q1 m0.1 m0.2 (!t668) b1 l7 l4 k8 r8)) else (none)) else (none)) else (objects_Put.j0 k Q1 m0.1 m0.2 false b1 l7 l4 k8 r8))))) = some (r1, r2, r3, r4) := H
  have A25 := aZ bw7
  clear bw7
  by_cases c26 : (!(W0 == 0) || (!(ae7 == 0))) = true
  · rw [if_pos c26] at H
    have az4 : (!(W0 == 0) || (!(ae7 == 0))) = true := c26
    clear c26
    simp only [Option.some.injEq, Prod.mk.injEq] at H
    obtain ⟨rfl, rfl, rfl, rfl⟩ := H
    go_enter Try.func33, Try.ntmps33
    try go_wp2_with (first | ((with_reducible refine gate_dst (N := 2) rfl ?_); refine box_event ?hg (N := 2) ?hd (cs := #[.slice k9 b1.length j9]) (t := 24) ?hr ?_; (case hd => rfl); (case hg => rfl); (case hr => first | (go_simp; done) | (go_simp; rfl)); intro aa3 hg w27 hbox hb; have f4 := aZ (hbox); have bW9 := xgh hg HB; have ac3 := xgh hg HB; replace HB := xhl HB hb; clear hb hbox hg) | ((with_reducible refine gate_dst (N := 3) rfl ?_); refine box_event ?hg (N := 3) ?hd (cs := #[.int .i64 l7, .slice K1 l4.length K2, .slice G9 k8.length H0]) (t := 44) ?hr ?_; (case hd => rfl); (case hg => rfl); (case hr => first | (go_simp; done) | (go_simp; rfl)); intro S9 hg w28 hbox hb; have f3 := aZ (hbox); have bX0 := xgh hg HB; have ac4 := xgh hg HB; replace HB := xhl HB hb; have T2 := xnl hg f4; have T3 := xng hg f4; replace f4 := xbb f4 hb; clear hb hbox hg) | ((with_reducible refine gate_dst (N := 4) rfl ?_); refine box_event ?hg (N := 4) ?hd (cs := #[.slice none 0 0]) (t := 24) ?hr ?_; (case hd => rfl); (case hg => rfl); (case hr => first | (go_simp; done) | (go_simp; rfl)); intro I3 hg w29 hbox hb; have g7 := aZ (hbox); have bX1 := xgh hg HB; have ac5 := xgh hg HB; replace HB := xhl HB hb; have F1 := xnl hg f4; have F2 := xng hg f4; replace f4 := xbb f4 hb; have G6 := xnl hg f3; have G7 := xng hg f3; replace f3 := xbb f3 hb; clear hb hbox hg) | ((with_reducible refine gate_dst (N := 6) rfl ?_); refine box_event ?hg (N := 6) ?hd (cs := #[.int .i64 0, .int .i64 0]) (t := 28) ?hr ?_; (case hd => rfl); (case hg => rfl); (case hr => first | (go_simp; done) | (go_simp; rfl)); intro r7 hg w30 hbox hb; have g8 := aZ (hbox); have bX2 := xgh hg HB; have ac6 := xgh hg HB; replace HB := xhl HB hb; have B0 := xnl hg f4; have B4 := xng hg f4; replace f4 := xbb f4 hb; have D2 := xnl hg f3; have D3 := xng hg f3; replace f3 := xbb f3 hb; have l5 := xnl hg g7; have o8 := xng hg g7; replace g7 := xbb g7 hb; clear hb hbox hg; have bQ8 := T2.out; have bQ9 := T3.out; have cw0 := F1.out; have cw1 := F2.out; have cx7 := B0.out; have cx8 := B4.out; have c_0 : w30.cell? ⟨aa3, 0, none⟩ = some (.slice k9 b1.length j9) := (blk_cell f4.out 0).trans rfl; have c_1 := blk_frozen f4.out 0) | ((with_reducible refine gate_callee (f := 32) rfl ?_); refine goesL_ (some 14) rfl rfl Try.func32 (by kernel_rfl) rfl #[.agg #[.slice k9 b1.length j9]] rfl xmp ?_; (with_reducible refine (objects_Validate.calls k _ _ b1 T0 Y6 _ ?side1 ?side2 A3.out).mono ?_); (case side1 => exact xcb m8 HB); (case side2 => exact V4.out); rintro e w35 ⟨rfl, hb⟩; refine ⟨_, rfl, ?_⟩; replace f4 := xbb f4 hb; replace f3 := xbb f3 hb; replace g7 := xbb g7 hb; replace g8 := xbb g8 hb; replace HB := xhl HB hb; skip; (try clear hb); (try clear H3); (try clear hk); (try clear hi)) | ((with_reducible refine gate_dst (N := 7) rfl ?_); refine box_event ?hg (N := 7) ?hd (cs := #[.int .i64 0, .int .i64 0]) (t := 28) ?hr ?_; (case hd => rfl); (case hg => rfl); (case hr => first | (go_simp; done) | (go_simp; rfl)); intro C5 hg w36 hbox hb; have k3 := aZ (hbox); have bX3 := xgh hg HB; have ac7 := xgh hg HB; replace HB := xhl HB hb; have T4 := xnl hg f4; have T7 := xng hg f4; replace f4 := xbb f4 hb; have ac8 := xnl hg f3; have ac9 := xng hg f3; replace f3 := xbb f3 hb; have F3 := xnl hg g7; have B7 := xng hg g7; replace g7 := xbb g7 hb; have B8 := xnl hg g8; have p9 := xng hg g8; replace g8 := xbb g8 hb; clear hb hbox hg; have bR3 := T7.out; have bR4 := T4.out; have dQ1 := ac9.out; have dQ2 := ac8.out; have cx9 := B7.out; have cy0 := F3.out; have bR5 := p9.out; have bR6 := B8.out; have bB8 : w36.cell? ⟨C5, 0, none⟩ = some (.int .i64 0) := (blk_cell k3.out 0).trans rfl; have bB9 : w36.cell? ⟨C5, 1, none⟩ = some (.int .i64 0) := (blk_cell k3.out 1).trans rfl; have bC0 := blk_frozen k3.out 0; have bC1 := blk_frozen k3.out 1; have bR0 := G6.out; have bR1 := G7.out; have bV2 := D2.out; have bV3 := D3.out; have bG4 : w36.cell? ⟨S9, 0, none⟩ = some (.int .i64 l7) := (blk_cell f3.out 0).trans rfl; have bG5 : w36.cell? ⟨S9, 1, none⟩ = some (.slice K1 l4.length K2) := (blk_cell f3.out 1).trans rfl; have c_2 : w36.cell? ⟨S9, 2, none⟩ = some (.slice G9 k8.length H0) := (blk_cell f3.out 2).trans rfl; have bG6 := blk_frozen f3.out 0; have bG7 := blk_frozen f3.out 1; have c_3 := blk_frozen f3.out 2) | ((with_reducible refine gate_callee (f := 29) rfl ?_); refine goesL_ (some 22) rfl rfl Try.func29 (by kernel_rfl) rfl #[.agg #[.int .i64 l7, .slice K1 l4.length K2, .slice G9 k8.length H0]] rfl xmp ?_; (with_reducible refine (objects_Digest.calls k l7 _ _ l4 _ _ k8 Q1 W0 ae7 _ ?side1 ?side2 ?side3 ?side4 A25.out).mono ?_); (case side1 => exact Kd.C_below am4.out (by repeat (first | (with_reducible first | exact HB.out | apply lA | apply lN | apply lD | refine lS ?_ ac3.out | refine lS ?_ ac4.out | refine lS ?_ ac5.out | refine lS ?_ ac6.out | refine lS ?_ ac7.out) | exact HB.out))); (case side2 => exact am5.out); (case side3 => exact Kd.C_below aq5.out (by repeat (first | (with_reducible first | exact HB.out | apply lA | apply lN | apply lD | refine lS ?_ ac3.out | refine lS ?_ ac4.out | refine lS ?_ ac5.out | refine lS ?_ ac6.out | refine lS ?_ ac7.out) | exact HB.out))); (case side4 => exact aG6.out); rintro e w45 ⟨rfl, hb⟩; refine ⟨_, rfl, ?_⟩; replace f4 := xbb f4 hb; replace f3 := xbb f3 hb; replace g7 := xbb g7 hb; replace g8 := xbb g8 hb; replace k3 := aZ (blk_below (g := C5) (o := .cells #[.int .i64 T0, .int .i64 Y6] 28 (0, 0)) (by (with_reducible repeat (first | refine bN ?_ _ | refine bD ?_ | refine bA ?_ _)); refine blk_put (cs := #[.int .i64 T0, .int .i64 0]) ?_ 1 _ rfl; (with_reducible repeat (first | refine bN ?_ _ | refine bD ?_ | refine bA ?_ _)); refine blk_put (cs := #[.int .i64 0, .int .i64 0]) ?_ 0 _ rfl; (with_reducible repeat (first | refine bN ?_ _ | refine bD ?_ | refine bA ?_ _)); exact k3.out) hb); replace HB := xhl HB hb; (try clear hb); (try clear H3); (try clear hk); (try clear hi)) | ((with_reducible refine gate_dst (N := 9) rfl ?_); refine box_event ?hg (N := 9) ?hd (cs := #[.int .i64 0, .int .i64 0]) (t := 28) ?hr ?_; (case hd => rfl); (case hg => rfl); (case hr => first | (go_simp; done) | (go_simp; rfl)); intro F4 hg w46 hbox hb; have o6 := aZ (hbox); have cy1 := xgh hg HB; have aA5 := xgh hg HB; replace HB := xhl HB hb; have ad0 := xnl hg f4; have ad1 := xng hg f4; replace f4 := xbb f4 hb; have ax0 := xnl hg f3; have ax1 := xng hg f3; replace f3 := xbb f3 hb; have P3 := xnl hg g7; have G8 := xng hg g7; replace g7 := xbb g7 hb; have M3 := xnl hg g8; have C0 := xng hg g8; replace g8 := xbb g8 hb; have ax2 := xnl hg k3; have ax3 := xng hg k3; replace k3 := xbb k3 hb; clear hb hbox hg; have dQ3 := ad1.out; have dQ4 := ad0.out; have cr6 := ax1.out; have cr7 := ax0.out; have dQ5 := G8.out; have dQ6 := P3.out; have bv9 := C0.out; have bw0 := M3.out; have bU8 := ax3.out; have bU9 := ax2.out; have bi8 : w46.cell? ⟨F4, 0, none⟩ = some (.int .i64 0) := (blk_cell o6.out 0).trans rfl; have bi9 : w46.cell? ⟨F4, 1, none⟩ = some (.int .i64 0) := (blk_cell o6.out 1).trans rfl; have bj0 := blk_frozen o6.out 0; have bj1 := blk_frozen o6.out 1))
    replace f4 : Aside0 (((w46.setCell ⟨F4, 0, none⟩ (.int .i64 W0)).setCell ⟨F4, 1, none⟩ (.int .i64 ae7)).heap[aa3]? = some (.cells #[.slice k9 b1.length j9] 24 (0, 0))) := xk f4
    replace f3 : Aside0 (((w46.setCell ⟨F4, 0, none⟩ (.int .i64 W0)).setCell ⟨F4, 1, none⟩ (.int .i64 ae7)).heap[S9]? = some (.cells #[.int .i64 l7, .slice K1 l4.length K2, .slice G9 k8.length H0] 44 (0, 0))) := xk f3
    replace g7 : Aside0 (((w46.setCell ⟨F4, 0, none⟩ (.int .i64 W0)).setCell ⟨F4, 1, none⟩ (.int .i64 ae7)).heap[I3]? = some (.cells #[.slice none 0 0] 24 (0, 0))) := xk g7
    replace g8 : Aside0 (((w46.setCell ⟨F4, 0, none⟩ (.int .i64 W0)).setCell ⟨F4, 1, none⟩ (.int .i64 ae7)).heap[r7]? = some (.cells #[.int .i64 0, .int .i64 0] 28 (0, 0))) := xk g8
    replace k3 : Aside0 (((w46.setCell ⟨F4, 0, none⟩ (.int .i64 W0)).setCell ⟨F4, 1, none⟩ (.int .i64 ae7)).heap[C5]? = some (.cells #[.int .i64 T0, .int .i64 Y6] 28 (0, 0))) := xk k3
    replace o6 : Aside0 (((w46.setCell ⟨F4, 0, none⟩ (.int .i64 W0)).setCell ⟨F4, 1, none⟩ (.int .i64 ae7)).heap[F4]? = some (.cells #[.int .i64 W0, .int .i64 ae7] 28 (0, 0))) := ⟨by (with_reducible repeat (first | refine bN ?_ _ | refine bD ?_ | refine bA ?_ _)); refine blk_put (cs := #[.int .i64 W0, .int .i64 0]) ?_ 1 _ rfl; (with_reducible repeat (first | refine bN ?_ _ | refine bD ?_ | refine bA ?_ _)); refine blk_put (cs := #[.int .i64 0, .int .i64 0]) ?_ 0 _ rfl; (with_reducible repeat (first | refine bN ?_ _ | refine bD ?_ | refine bA ?_ _)); exact o6.out⟩
    replace HB : Aside0 (Below w.heap.size w ((w46.setCell ⟨F4, 0, none⟩ (.int .i64 W0)).setCell ⟨F4, 1, none⟩ (.int .i64 ae7))) := xb HB
    generalize ((w46.setCell ⟨F4, 0, none⟩ (.int .i64 W0)).setCell ⟨F4, 1, none⟩ (.int .i64 ae7)) = w53 at f4 f3 g7 g8 k3 o6 HB ⊢
    replace f4 := aZ (bD f4.out)
    replace f3 := aZ (bD f3.out)
    replace g7 := aZ (bD g7.out)
    replace g8 := aZ (bD g8.out)
    replace k3 := aZ (bD k3.out)
    replace o6 := aZ (bD o6.out)
    replace HB := aZ (lD HB.out)
    refine start_ (n := 7) (S := fun w' => w'.cell? ⟨F4, 0, none⟩ = some (.int .i64 W0) ∧ w'.cell? ⟨F4, 1, none⟩ = some (.int .i64 ae7)) (ds := []) #[false, false, false, false, false, false, false] (by kernel_rfl) rfl rfl ⟨(blk_cell o6.out 0).trans rfl, (blk_cell o6.out 1).trans rfl⟩ (fun hHeld => ?_)
    generalize w53.drew = w54 at f4 f3 g7 g8 k3 o6 HB hHeld ⊢
    refine pure_ (i := 0) (N := some 28) (v := ?_) (a' := ?_) #[true, false, false, false, false, false, false] rfl rfl (by kernel_rfl) (fun _ _ _ h => h) (Or.inl ⟨by rfl, ?_⟩) ?_ ?_
    rotate_left
    · intro w'
      go_simp
      with_reducible rfl
    rotate_left
    · simp only [Act.put, List.setIfInBounds_toArray, List.set_cons_zero, List.set_cons_succ, i64_w, i32_w]
      rfl
    refine pure_ (i := 1) (N := some 29) (v := ?_) (a' := ?_) #[true, true, false, false, false, false, false] rfl rfl (by kernel_rfl) (fun _ _ _ h => h) (Or.inl ⟨by rfl, ?_⟩) ?_ ?_
    rotate_left
    · intro w'
      go_simp
      with_reducible rfl
    rotate_left
    · simp only [Act.put, List.setIfInBounds_toArray, List.set_cons_zero, List.set_cons_succ, i64_w, i32_w]
      rfl
    refine take_ (i := 2) (N := some 30) (v := ?_) (a' := ?_) #[true, true, true, false, false, false, false] rfl rfl (by kernel_rfl) (fun _ _ _ h => h) (Or.inl ⟨by rfl, ?_⟩) hHeld ?_ ?_
    rotate_left
    · rintro w' ⟨s0, s1⟩
      go_simp
      with_reducible rfl
    rotate_left
    · simp only [Act.put, List.setIfInBounds_toArray, List.set_cons_zero, List.set_cons_succ, i64_w, i32_w]
      rfl
    refine pure_ (i := 3) (N := some 31) (v := ?_) (a' := ?_) #[true, true, true, true, false, false, false] rfl rfl (by kernel_rfl) (fun _ _ _ h => h) (Or.inl ⟨by rfl, ?_⟩) ?_ ?_
    rotate_left
    · intro w'
      go_simp
      with_reducible rfl
    rotate_left
    · simp only [Act.put, List.setIfInBounds_toArray, List.set_cons_zero, List.set_cons_succ, i64_w, i32_w]
      rfl
    refine one_ (i := 4) (N := none) #[true, true, true, true, true, false, false] rfl rfl (by kernel_rfl) (by decide) (fun K hK => ?_)
    have ec0 : w54.cell? ⟨I3, 0, none⟩ = some (.slice none 0 0) := (blk_cell g7.out 0).trans rfl
    have dQ7 := blk_frozen g7.out 0
    have c_4 := F1.out
    have c_5 := G6.out
    have c_6 := o8.out
    have c_7 := B7.out
    have c_8 := G8.out
    have c_9 := F2.out
    have da0 := G7.out
    have da1 := l5.out
    have da2 := F3.out
    have da3 := P3.out
    refine skip_ (w1 := ?_) (by rfl) rfl ?_ ?_
    rotate_left
    · go_simp
      rfl
    refine hK.out _ _ ⟨((cell_far (p := ⟨I3, _, none⟩) G8.out _).trans (hHeld.1)), ((cell_far (p := ⟨I3, _, none⟩) G8.out _).trans (hHeld.2))⟩ (fun hHeld => ?_)
    clear hK K
    refine pure_ (i := 5) (N := some 5) (v := ?_) (a' := ?_) #[true, true, true, true, true, true, false] rfl rfl (by kernel_rfl) (fun _ _ _ h => h) (Or.inl ⟨by rfl, ?_⟩) ?_ ?_
    rotate_left
    · intro w'
      go_simp
      with_reducible rfl
    rotate_left
    · simp only [Act.put, List.setIfInBounds_toArray, List.set_cons_zero, List.set_cons_succ, i64_w, i32_w]
      rfl
    refine one_ (i := 6) (N := none) #[true, true, true, true, true, true, true] rfl rfl (by kernel_rfl) (by decide) (fun K hK => ?_)
    have ec1 : w54.cell? ⟨r7, 0, none⟩ = some (.int .i64 0) := (blk_cell g8.out 0).trans rfl
    have dQ8 := blk_frozen g8.out 0
    have da4 := B0.out
    have da5 := D2.out
    have da6 := l5.out
    have da7 := p9.out
    have da8 := C0.out
    have da9 := B4.out
    have db0 := D3.out
    have db1 := o8.out
    have db2 := B8.out
    have db3 := M3.out
    have ec2 : w54.cell? ⟨r7, 1, none⟩ = some (.int .i64 0) := (blk_cell g8.out 1).trans rfl
    have dQ9 := blk_frozen g8.out 1
    have db4 := B0.out
    have db5 := D2.out
    have db6 := l5.out
    have db7 := p9.out
    have db8 := C0.out
    have db9 := B4.out
    have dc0 := D3.out
    have dc1 := o8.out
    have dc2 := B8.out
    have dc3 := M3.out
    refine skip_ (w1 := ?_) (by rfl) rfl ?_ ?_
    rotate_left
    · go_simp
      rfl
    refine hK.out _ _ ⟨((cell_far (p := ⟨r7, _, none⟩) C0.out _).trans (((cell_far (p := ⟨r7, _, none⟩) C0.out _).trans (hHeld.1)))), ((cell_far (p := ⟨r7, _, none⟩) C0.out _).trans (((cell_far (p := ⟨r7, _, none⟩) C0.out _).trans (hHeld.2))))⟩ (fun hHeld => ?_)
    clear hK K
    refine done_ (by kernel_rfl) ?_
    try go_wp2
    refine bodyPost_ret (results_list (rs := [.cell 4 24, .tmp 5, .cell 6 28]) rfl (by simp) (.cell I3 24 #[.slice none 0 0] (0, 0) _ rfl (by (with_reducible repeat (first | refine bN ?_ _ | refine bD ?_ | refine bA ?_ _)); refine blk_far ?_ l5.out _; (with_reducible repeat (first | refine bN ?_ _ | refine bD ?_ | refine bA ?_ _)); refine blk_far ?_ l5.out _; (with_reducible repeat (first | refine bN ?_ _ | refine bD ?_ | refine bA ?_ _)); refine blk_put (cs := #[.slice none 0 0]) ?_ 0 _ rfl; (with_reducible repeat (first | refine bN ?_ _ | refine bD ?_ | refine bA ?_ _)); exact g7.out) Try.underlying24 rfl (by kernel_rfl) (.tmp (.cell r7 28 #[.int .i64 W0, .int .i64 (-1)] (0, 0) _ rfl (by (with_reducible repeat (first | refine bN ?_ _ | refine bD ?_ | refine bA ?_ _)); refine blk_put (cs := #[.int .i64 W0, .int .i64 0]) ?_ 1 _ rfl; (with_reducible repeat (first | refine bN ?_ _ | refine bD ?_ | refine bA ?_ _)); refine blk_put (cs := #[.int .i64 0, .int .i64 0]) ?_ 0 _ rfl; (with_reducible repeat (first | refine bN ?_ _ | refine bD ?_ | refine bA ?_ _)); refine blk_far ?_ o8.out _; (with_reducible repeat (first | refine bN ?_ _ | refine bD ?_ | refine bA ?_ _)); exact g8.out) Try.underlying28 rfl (by kernel_rfl) .nil)))) rfl ?_
    exact ⟨_, xre, by first | exact Kd.S_nil _ _ _ _ _ | exact Kd.N_nil _ _ _ _ _ | exact Kd.V_nil _ _ _ _ _ | exact Kd.Q_nil _ _ _ _ _ | exact Kd.R_nil _ _ _ _ _, xq HB⟩
  rw [if_neg c26] at H
  have az4 : (!(W0 == 0) || (!(ae7 == 0))) = false := by simpa using c26
  clear c26
  replace H := Option.bind_eq_some_iff.mp H
  obtain ⟨r8, cy2, H⟩ := H
  replace H : ((objects_find.f k b1 Q1).bind fun m0 => (if m0.2 = true then (if 0 ≤ m0.1 then (if m0.1 < (b1.length : Int) then ((objects_Same.f k ((a7 b1 m0.1).f1.f0) ((a7 b1 m0.1).f1.f1) ((a7 b1 m0.1).f1.f2) l7 l4 k8).bind fun aV4 => (objects_Put.j0 k Q1 m0.1 m0.2 (!t668) b1 l7 l4 k8 r8)) else (none)) else (none)) else (objects_Put.j0 k Q1 m0.1 m0.2 false b1 l7 l4 k8 r8))) = some (r1, r2, r3, r4) := H
  have A58 := aZ cy2
  clear cy2
  replace H := Option.bind_eq_some_iff.mp H
  obtain ⟨⟨r5, aV5⟩, cy3, H⟩ := H
  replace H : (if aV5 = true then (if 0 ≤ r5 then (if r5 < (b1.length : Int) then ((objects_Same.f k ((a7 b1 r5).f1.f0) ((a7 b1 r5).f1.f1) ((a7 b1 r5).f1.f2) l7 l4 k8).bind fun aV4 => (objects_Put.j0 k Q1 r5 aV5 (!t668) b1 l7 l4 k8 r8)) else (none)) else (none)) else (objects_Put.j0 k Q1 r5 aV5 false b1 l7 l4 k8 r8)) = some (r1, r2, r3, r4) := H
  have A59 := aZ cy3
  clear cy3
  have cf2 := aZ H
  clear H
  go_enter Try.func33, Try.ntmps33
  go_upto_region 9 with (first | ((with_reducible refine gate_dst (N := 2) rfl ?_); refine box_event ?hg (N := 2) ?hd (cs := #[.slice k9 b1.length j9]) (t := 24) ?hr ?_; (case hd => rfl); (case hg => rfl); (case hr => first | (go_simp; done) | (go_simp; rfl)); intro aa3 hg w61 hbox hb; have f4 := aZ (hbox); have bW9 := xgh hg HB; have ac3 := xgh hg HB; replace HB := xhl HB hb; clear hb hbox hg) | ((with_reducible refine gate_dst (N := 3) rfl ?_); refine box_event ?hg (N := 3) ?hd (cs := #[.int .i64 l7, .slice K1 l4.length K2, .slice G9 k8.length H0]) (t := 44) ?hr ?_; (case hd => rfl); (case hg => rfl); (case hr => first | (go_simp; done) | (go_simp; rfl)); intro S9 hg w62 hbox hb; have f3 := aZ (hbox); have bX0 := xgh hg HB; have ac4 := xgh hg HB; replace HB := xhl HB hb; have T2 := xnl hg f4; have T3 := xng hg f4; replace f4 := xbb f4 hb; clear hb hbox hg) | ((with_reducible refine gate_dst (N := 4) rfl ?_); refine box_event ?hg (N := 4) ?hd (cs := #[.slice none 0 0]) (t := 24) ?hr ?_; (case hd => rfl); (case hg => rfl); (case hr => first | (go_simp; done) | (go_simp; rfl)); intro I3 hg w63 hbox hb; have g7 := aZ (hbox); have bX1 := xgh hg HB; have ac5 := xgh hg HB; replace HB := xhl HB hb; have F1 := xnl hg f4; have F2 := xng hg f4; replace f4 := xbb f4 hb; have G6 := xnl hg f3; have G7 := xng hg f3; replace f3 := xbb f3 hb; clear hb hbox hg) | ((with_reducible refine gate_dst (N := 6) rfl ?_); refine box_event ?hg (N := 6) ?hd (cs := #[.int .i64 0, .int .i64 0]) (t := 28) ?hr ?_; (case hd => rfl); (case hg => rfl); (case hr => first | (go_simp; done) | (go_simp; rfl)); intro r7 hg w64 hbox hb; have g8 := aZ (hbox); have bX2 := xgh hg HB; have ac6 := xgh hg HB; replace HB := xhl HB hb; have B0 := xnl hg f4; have B4 := xng hg f4; replace f4 := xbb f4 hb; have D2 := xnl hg f3; have D3 := xng hg f3; replace f3 := xbb f3 hb; have l5 := xnl hg g7; have o8 := xng hg g7; replace g7 := xbb g7 hb; clear hb hbox hg; have bX4 := T2.out; have bX5 := T3.out; have bX6 := F1.out; have bX7 := F2.out; have bX8 := B0.out; have bX9 := B4.out; have aO2 : w64.cell? ⟨aa3, 0, none⟩ = some (.slice k9 b1.length j9) := (blk_cell f4.out 0).trans rfl; have aO3 := blk_frozen f4.out 0) | ((with_reducible refine gate_callee (f := 32) rfl ?_); refine goesL_ (some 14) rfl rfl Try.func32 (by kernel_rfl) rfl #[.agg #[.slice k9 b1.length j9]] rfl xmp ?_; (with_reducible refine (objects_Validate.calls k _ _ b1 T0 Y6 _ ?side1 ?side2 A3.out).mono ?_); (case side1 => exact xcb m8 HB); (case side2 => exact V4.out); rintro e w69 ⟨rfl, hb⟩; refine ⟨_, rfl, ?_⟩; replace f4 := xbb f4 hb; replace f3 := xbb f3 hb; replace g7 := xbb g7 hb; replace g8 := xbb g8 hb; replace HB := xhl HB hb; skip; (try clear hb); (try clear H3); (try clear hk); (try clear hi)) | ((with_reducible refine gate_dst (N := 7) rfl ?_); refine box_event ?hg (N := 7) ?hd (cs := #[.int .i64 0, .int .i64 0]) (t := 28) ?hr ?_; (case hd => rfl); (case hg => rfl); (case hr => first | (go_simp; done) | (go_simp; rfl)); intro C5 hg w70 hbox hb; have k3 := aZ (hbox); have bX3 := xgh hg HB; have ac7 := xgh hg HB; replace HB := xhl HB hb; have T4 := xnl hg f4; have T7 := xng hg f4; replace f4 := xbb f4 hb; have ac8 := xnl hg f3; have ac9 := xng hg f3; replace f3 := xbb f3 hb; have F3 := xnl hg g7; have B7 := xng hg g7; replace g7 := xbb g7 hb; have B8 := xnl hg g8; have p9 := xng hg g8; replace g8 := xbb g8 hb; clear hb hbox hg; have dR0 := T7.out; have dR1 := T4.out; have dR2 := ac9.out; have dR3 := ac8.out; have dR4 := B7.out; have dR5 := F3.out; have ct7 := p9.out; have ct8 := B8.out; have bJ9 : w70.cell? ⟨C5, 0, none⟩ = some (.int .i64 0) := (blk_cell k3.out 0).trans rfl; have bK0 : w70.cell? ⟨C5, 1, none⟩ = some (.int .i64 0) := (blk_cell k3.out 1).trans rfl; have bK1 := blk_frozen k3.out 0; have bK2 := blk_frozen k3.out 1; have dR6 := G6.out; have dR7 := G7.out; have dR8 := D2.out; have dR9 := D3.out; have bK3 : w70.cell? ⟨S9, 0, none⟩ = some (.int .i64 l7) := (blk_cell f3.out 0).trans rfl; have bK4 : w70.cell? ⟨S9, 1, none⟩ = some (.slice K1 l4.length K2) := (blk_cell f3.out 1).trans rfl; have bK5 : w70.cell? ⟨S9, 2, none⟩ = some (.slice G9 k8.length H0) := (blk_cell f3.out 2).trans rfl; have bK6 := blk_frozen f3.out 0; have bK7 := blk_frozen f3.out 1; have bK8 := blk_frozen f3.out 2) | ((with_reducible refine gate_callee (f := 29) rfl ?_); refine goesL_ (some 22) rfl rfl Try.func29 (by kernel_rfl) rfl #[.agg #[.int .i64 l7, .slice K1 l4.length K2, .slice G9 k8.length H0]] rfl xmp ?_; (with_reducible refine (objects_Digest.calls k l7 _ _ l4 _ _ k8 Q1 W0 ae7 _ ?side1 ?side2 ?side3 ?side4 A25.out).mono ?_); (case side1 => exact Kd.C_below am4.out (by repeat (first | (with_reducible first | exact HB.out | apply lA | apply lN | apply lD | refine lS ?_ ac3.out | refine lS ?_ ac4.out | refine lS ?_ ac5.out | refine lS ?_ ac6.out | refine lS ?_ ac7.out) | exact HB.out))); (case side2 => exact am5.out); (case side3 => exact Kd.C_below aq5.out (by repeat (first | (with_reducible first | exact HB.out | apply lA | apply lN | apply lD | refine lS ?_ ac3.out | refine lS ?_ ac4.out | refine lS ?_ ac5.out | refine lS ?_ ac6.out | refine lS ?_ ac7.out) | exact HB.out))); (case side4 => exact aG6.out); rintro e w79 ⟨rfl, hb⟩; refine ⟨_, rfl, ?_⟩; replace f4 := xbb f4 hb; replace f3 := xbb f3 hb; replace g7 := xbb g7 hb; replace g8 := xbb g8 hb; replace k3 := aZ (blk_below (g := C5) (o := .cells #[.int .i64 T0, .int .i64 Y6] 28 (0, 0)) (by (with_reducible repeat (first | refine bN ?_ _ | refine bD ?_ | refine bA ?_ _)); refine blk_put (cs := #[.int .i64 T0, .int .i64 0]) ?_ 1 _ rfl; (with_reducible repeat (first | refine bN ?_ _ | refine bD ?_ | refine bA ?_ _)); refine blk_put (cs := #[.int .i64 0, .int .i64 0]) ?_ 0 _ rfl; (with_reducible repeat (first | refine bN ?_ _ | refine bD ?_ | refine bA ?_ _)); exact k3.out) hb); replace HB := xhl HB hb; (try clear hb); (try clear H3); (try clear hk); (try clear hi)) | ((with_reducible refine gate_dst (N := 9) rfl ?_); refine box_event ?hg (N := 9) ?hd (cs := #[.int .i64 0, .int .i64 0]) (t := 28) ?hr ?_; (case hd => rfl); (case hg => rfl); (case hr => first | (go_simp; done) | (go_simp; rfl)); intro F4 hg w80 hbox hb; have o6 := aZ (hbox); have cy1 := xgh hg HB; have aA5 := xgh hg HB; replace HB := xhl HB hb; have ad0 := xnl hg f4; have ad1 := xng hg f4; replace f4 := xbb f4 hb; have ax0 := xnl hg f3; have ax1 := xng hg f3; replace f3 := xbb f3 hb; have P3 := xnl hg g7; have G8 := xng hg g7; replace g7 := xbb g7 hb; have M3 := xnl hg g8; have C0 := xng hg g8; replace g8 := xbb g8 hb; have ax2 := xnl hg k3; have ax3 := xng hg k3; replace k3 := xbb k3 hb; clear hb hbox hg; have cu5 := ad1.out; have cu6 := ad0.out; have dS0 := ax1.out; have dS1 := ax0.out; have dS2 := G8.out; have dS3 := P3.out; have bU4 := C0.out; have bU5 := M3.out; have dS4 := ax3.out; have dS5 := ax2.out; have bm2 : w80.cell? ⟨F4, 0, none⟩ = some (.int .i64 0) := (blk_cell o6.out 0).trans rfl; have bm3 : w80.cell? ⟨F4, 1, none⟩ = some (.int .i64 0) := (blk_cell o6.out 1).trans rfl; have bm4 := blk_frozen o6.out 0; have bm5 := blk_frozen o6.out 1; have bi4 : w80.cell? ⟨aa3, 0, none⟩ = some (.slice k9 b1.length j9) := (blk_cell f4.out 0).trans rfl; have bi5 := blk_frozen f4.out 0) | ((with_reducible refine gate_callee (f := 47) rfl ?_); refine goesL_ (some 33) rfl rfl Try.func47 (by kernel_rfl) rfl #[.agg #[.slice k9 b1.length j9]] rfl xmp ?_; (with_reducible refine (objects_copied.calls k _ _ b1 r8 _ ?side1 ?side2 A58.out).mono ?_); (case side1 => exact Kd.C_below m8.out (by repeat (first | (with_reducible first | exact HB.out | apply lA | apply lN | apply lD | refine lS ?_ ac3.out | refine lS ?_ ac4.out | refine lS ?_ ac5.out | refine lS ?_ ac6.out | refine lS ?_ ac7.out | refine lS ?_ aA5.out) | exact HB.out))); (case side2 => exact V4.out); rintro e w88 ⟨ec5, rfl, ho0, hb⟩; refine ⟨_, rfl, ?_⟩; have Y7 := aZ (Kd.S_lower ho0 (lZ (by repeat (first | (with_reducible first | exact HB.out | apply lA | apply lN | apply lD | refine lS ?_ ac3.out | refine lS ?_ ac4.out | refine lS ?_ ac5.out | refine lS ?_ ac6.out | refine lS ?_ ac7.out | refine lS ?_ aA5.out) | exact HB.out)))); replace f4 := xbb f4 hb; replace f3 := xbb f3 hb; replace g7 := xbb g7 hb; replace g8 := xbb g8 hb; replace k3 := xbb k3 hb; replace o6 := aZ (blk_below (g := F4) (o := .cells #[.int .i64 W0, .int .i64 ae7] 28 (0, 0)) (by (with_reducible repeat (first | refine bN ?_ _ | refine bD ?_ | refine bA ?_ _)); refine blk_put (cs := #[.int .i64 W0, .int .i64 0]) ?_ 1 _ rfl; (with_reducible repeat (first | refine bN ?_ _ | refine bD ?_ | refine bA ?_ _)); refine blk_put (cs := #[.int .i64 0, .int .i64 0]) ?_ 0 _ rfl; (with_reducible repeat (first | refine bN ?_ _ | refine bD ?_ | refine bA ?_ _)); exact o6.out) hb); replace HB := xhl HB hb; (try clear hb); (try clear H3); (try clear hk); (try clear hi); (try clear ho0)) | ((with_reducible refine gate_dst (N := 10) rfl ?_); refine box_event ?hg (N := 10) ?hd (cs := #[.slice none 0 0]) (t := 24) ?hr ?_; (case hd => rfl); (case hg => rfl); (case hr => first | (go_simp; done) | (go_simp; rfl)); intro am6 hg w89 hbox hb; replace Y7 := xS Y7 hb; have t8 := aZ (hbox); have dS7 := xgh hg HB; have aV6 := xgh hg HB; replace HB := xhl HB hb; have ad2 := xnl hg f4; have ad3 := xng hg f4; replace f4 := xbb f4 hb; have al0 := xnl hg f3; have al1 := xng hg f3; replace f3 := xbb f3 hb; have T8 := xnl hg g7; have Y2 := xng hg g7; replace g7 := xbb g7 hb; have U0 := xnl hg g8; have Y3 := xng hg g8; replace g8 := xbb g8 hb; have al2 := xnl hg k3; have al3 := xng hg k3; replace k3 := xbb k3 hb; have al4 := xnl hg o6; have al5 := xng hg o6; replace o6 := xbb o6 hb; clear hb hbox hg; obtain ⟨am1, am2, dt2⟩ := Kd.S_slice Y7.out; subst dt2; have dS8 := ad3.out; have dS9 := ad2.out; have dT0 := al1.out; have dT1 := al0.out; have dT2 := Y2.out; have dT3 := T8.out; have dT4 := Y3.out; have dT5 := U0.out; have dT6 := al3.out; have dT7 := al2.out; have dT8 := al5.out; have dT9 := al4.out; have bK9 : w89.cell? ⟨am6, 0, none⟩ = some (.slice none 0 0) := (blk_cell t8.out 0).trans rfl; have bL0 := blk_frozen t8.out 0; have bL1 : w89.cell? ⟨aa3, 0, none⟩ = some (.slice k9 b1.length j9) := (blk_cell f4.out 0).trans rfl; have bL2 := blk_frozen f4.out 0) | ((with_reducible refine gate_callee (f := 48) rfl ?_); refine goesL_ (some 37) rfl rfl Try.func48 (by kernel_rfl) rfl #[.agg #[.slice k9 b1.length j9], .int .i64 Q1] rfl xmp ?_; (with_reducible refine (objects_find.calls k _ _ b1 Q1 r5 aV5 _ ?side1 ?side2 A59.out).mono ?_); (case side1 => exact Kd.C_below m8.out (by repeat (first | (with_reducible first | exact HB.out | apply lA | apply lN | apply lD | refine lS ?_ ac3.out | refine lS ?_ ac4.out | refine lS ?_ ac5.out | refine lS ?_ ac6.out | refine lS ?_ ac7.out | refine lS ?_ aA5.out | refine lS ?_ aV6.out) | exact HB.out))); (case side2 => exact V4.out); rintro e w99 ⟨rfl, hb⟩; refine ⟨_, rfl, ?_⟩; replace Y7 := aZ (Kd.S_below (by (with_reducible repeat (first | apply Kd.S_alloc | apply Kd.S_drewN | apply Kd.S_drew)); exact (Kd.S_mono (Kd.S_far (p := ⟨am6, 0, none⟩) (Kd.S_types Y7.out t8.out (by decide)) (fun _ hk => hk.2) (.slice am1 r8.length am2)) (fun _ h_ => h_.1))) hb); replace f4 := xbb f4 hb; replace f3 := xbb f3 hb; replace g7 := xbb g7 hb; replace g8 := xbb g8 hb; replace k3 := xbb k3 hb; replace o6 := xbb o6 hb; replace t8 := aZ (blk_below (g := am6) (o := .cells #[.slice am1 r8.length am2] 24 (0, 0)) (by (with_reducible repeat (first | refine bN ?_ _ | refine bD ?_ | refine bA ?_ _)); refine blk_put (cs := #[.slice none 0 0]) ?_ 0 _ rfl; (with_reducible repeat (first | refine bN ?_ _ | refine bD ?_ | refine bA ?_ _)); exact t8.out) hb); replace HB := xhl HB hb; (try clear hb); (try clear H3); (try clear hk); (try clear hi)))
  (try simp only [Act.put, List.setIfInBounds_toArray, List.set_cons_zero, List.set_cons_succ])
  go_cut [40] (fun v40 wc => ∃ (kq : Nat) (aO4 : Bool), v40 = .bool aO4 ∧ Aside0 (objects_Put.j0 kq Q1 r5 aV5 aO4 b1 l7 l4 k8 r8 = some (r1, r2, r3, r4)) ∧ Aside0 (kq ≤ k) ∧ Aside0 (Kd.S k46 46 wc w.heap.size (fun _ => True) (.slice am1 r8.length am2) r8) ∧ Aside0 (wc.heap[aa3]? = some (.cells #[(.slice k9 b1.length j9)] 24 (0, 0))) ∧ Aside0 (wc.heap[S9]? = some (.cells #[.int .i64 l7, (.slice K1 l4.length K2), (.slice G9 k8.length H0)] 44 (0, 0))) ∧ Aside0 (wc.heap[I3]? = some (.cells #[(.slice none 0 0)] 24 (0, 0))) ∧ Aside0 (wc.heap[r7]? = some (.cells #[.int .i64 0, .int .i64 0] 28 (0, 0))) ∧ Aside0 (wc.heap[C5]? = some (.cells #[.int .i64 T0, .int .i64 Y6] 28 (0, 0))) ∧ Aside0 (wc.heap[F4]? = some (.cells #[.int .i64 W0, .int .i64 ae7] 28 (0, 0))) ∧ Aside0 (wc.heap[am6]? = some (.cells #[(.slice am1 r8.length am2)] 24 (0, 0))) ∧ Aside0 (Below w.heap.size w wc))
  case first =>
   have H := cf2.out
   clear cf2
   by_cases bL3 : aV5 = true
   rotate_left
   · replace bL3 := Bool.eq_false_iff.mpr bL3
     subst bL3
     have H1 : (objects_Put.j0 k Q1 r5 false false b1 l7 l4 k8 r8) = some (r1, r2, r3, r4) := by rw [if_neg (show ¬ (false = true) by decide)] at H; exact H
     clear H
     have H := H1
     clear H1
     have H' := aZ H
     clear H
     try go_wp2
     replace Y7 := aZ (Kd.S_drew Y7.out)
     replace f4 := aZ (bD f4.out)
     replace f3 := aZ (bD f3.out)
     replace g7 := aZ (bD g7.out)
     replace g8 := aZ (bD g8.out)
     replace k3 := aZ (bD k3.out)
     replace o6 := aZ (bD o6.out)
     replace t8 := aZ (bD t8.out)
     replace HB := aZ (lD HB.out)
     refine start_ (n := 13) (S := fun w' => True) (ds := []) Z1 (by kernel_rfl) rfl rfl trivial (fun hHeld => ?_); refine with_tabW objects_Put.tab9 objects_Put.bits9 (fun HT_ HW_ => ?_)
     generalize w99.drew = ec7 at Y7 f4 f3 g7 g8 k3 o6 t8 HB hHeld ⊢
     refine pu 0 41 Z2 HT_ rfl rfl (h := ?_)
     refine pu 1 42 Z3 HT_ rfl rfl (h := ?_)
     refine pv 2 43 Z4 HT_ rfl rfl (h := ?_)
     refine pv 3 44 Z15 HT_ rfl rfl (h := ?_)
     refine pv 4 45 Z6 HT_ rfl rfl (h := ?_)
     refine pv 5 46 Z7 HT_ rfl rfl (h := ?_)
     refine pv 6 47 Z8 HT_ rfl rfl (h := ?_)
     refine pv 7 48 Z9 HT_ rfl rfl (h := ?_)
     refine pv 8 49 Z10 HT_ rfl rfl (h := ?_)
     refine pv 9 50 Z11 HT_ rfl rfl (h := ?_)
     refine pv 10 51 Z12 HT_ rfl rfl (h := ?_)
     refine pu 11 52 Z13 HT_ rfl rfl (h := ?_)
     refine pu 12 40 Z14 HT_ rfl rfl (h := ?_)
     refine done_ (done_of HT_.out (by kernel_rfl)) ?_
     try go_wp2
     go_meet
     case rel => exact ⟨_, (false), xrs, H', ⟨by first | omega | exact Nat.le_refl _⟩, ⟨by (with_reducible repeat (first | apply Kd.S_alloc | apply Kd.S_drewN | apply Kd.S_drew)); exact Y7.out⟩, xk f4, xk f3, xk g7, xk g8, xk k3, xk o6, xk t8, xb HB⟩
   subst bL3
   have H1 : (if 0 ≤ r5 then (if r5 < (b1.length : Int) then ((objects_Same.f k ((a7 b1 r5).f1.f0) ((a7 b1 r5).f1.f1) ((a7 b1 r5).f1.f2) l7 l4 k8).bind fun aV4 => (objects_Put.j0 k Q1 r5 true (!t668) b1 l7 l4 k8 r8)) else (none)) else (none)) = some (r1, r2, r3, r4) := by rw [if_pos rfl] at H; exact H
   clear H
   have H := H1
   clear H1
   by_cases bL4 : 0 ≤ r5
   rotate_left
   · rw [if_neg bL4] at H
     exact absurd H (by simp)
   rw [if_pos bL4] at H
   have bw8 : decide (0 ≤ r5) = true := decide_eq_true bL4
   clear bL4
   (first | rw [bw8] | (simp only [i64_w, i32_w]; rw [bw8]) | skip)
   by_cases bL5 : r5 < (b1.length : Int)
   rotate_left
   · rw [if_neg bL5] at H
     exact absurd H (by simp)
   rw [if_pos bL5] at H
   have dt3 : decide (r5 < (b1.length : Int)) = true := decide_eq_true bL5
   clear bL5
   replace H := Option.bind_eq_some_iff.mp H
   obtain ⟨aV4, bY0, H⟩ := H
   replace H : (objects_Put.j0 k Q1 r5 true (!t668) b1 l7 l4 k8 r8) = some (r1, r2, r3, r4) := H
   have dt4 := aZ bY0
   clear bY0
   have H' := aZ H
   clear H
   try go_wp2
   replace Y7 := aZ (Kd.S_drew Y7.out)
   replace f4 := aZ (bD f4.out)
   replace f3 := aZ (bD f3.out)
   replace g7 := aZ (bD g7.out)
   replace g8 := aZ (bD g8.out)
   replace k3 := aZ (bD k3.out)
   replace o6 := aZ (bD o6.out)
   replace t8 := aZ (bD t8.out)
   replace HB := aZ (lD HB.out)
   have cf3 : 0 ≤ (r5 : Int) := of_decide_eq_true xas
   have cf4 : r5 < (b1.length : Int) := of_decide_eq_true xas
   obtain ⟨aA6, bw9, bx0, bx1, bx2, dt5, aE0, aE1, aE2, aE3, bm6, bm7, bm8, bm9⟩ := l8 m8.out r5 cf3 cf4
   have bn0 := aE3
   have bn1 := aE2
   have bn2 := aE1
   have bn3 := aE0
   cases dt5
   replace aE0 := xcl HB aE0
   replace aE1 := xcl HB aE1
   replace aE2 := xcl HB aE2
   replace aE3 := xcl HB aE3
   have bn4 := aZ bm7
   have bL6 := aZ bm6
   clear bm7 bm6
   have bn5 := aZ bm9
   have bL7 := aZ bm8
   clear bm9 bm8
   replace cf3 := eq_true cf3
   replace cf4 := eq_true cf4
   refine start_ (n := 13) (S := fun w' => w'.cell? ⟨aa3, 0, none⟩ = some (.slice (some aA6) b1.length j9) ∧ w'.cell? ⟨S9, 0, none⟩ = some (.int .i64 l7) ∧ w'.cell? ⟨S9, 1, none⟩ = some (.slice K1 l4.length K2) ∧ w'.cell? ⟨S9, 2, none⟩ = some (.slice G9 k8.length H0) ∧ w'.cell? (aA6.add ((r5).toNat * 4)) = some (.int .i64 ((a7 b1 r5).f0)) ∧ w'.cell? ⟨(aA6.add ((r5).toNat * 4)).block, (aA6.add ((r5).toNat * 4)).off + 1, none⟩ = some (.int .i64 ((a7 b1 r5).f1.f0)) ∧ w'.cell? ⟨(aA6.add ((r5).toNat * 4)).block, (aA6.add ((r5).toNat * 4)).off + 2, none⟩ = some (.slice bw9 ((a7 b1 r5).f1.f1).length bx0) ∧ w'.cell? ⟨(aA6.add ((r5).toNat * 4)).block, (aA6.add ((r5).toNat * 4)).off + 3, none⟩ = some (.slice bx1 ((a7 b1 r5).f1.f2).length bx2)) (ds := []) Z1 (by kernel_rfl) rfl rfl ⟨(blk_cell f4.out 0).trans rfl, (blk_cell f3.out 0).trans rfl, (blk_cell f3.out 1).trans rfl, (blk_cell f3.out 2).trans rfl, (xcl HB bn3), (xcl HB bn2), (xcl HB bn1), (xcl HB bn0)⟩ (fun hHeld => ?_); refine with_tabW objects_Put.tab9 objects_Put.bits9 (fun HT_ HW_ => ?_)
   generalize w99.drew = ec8 at Y7 f4 f3 g7 g8 k3 o6 t8 HB bn4 bn5 aE0 aE1 aE2 aE3 hHeld ⊢
   refine pu 0 41 Z2 HT_ rfl rfl (h := ?_)
   refine pu 1 42 Z3 HT_ rfl rfl (h := ?_)
   refine pu 2 43 Z4 HT_ rfl rfl (h := ?_)
   refine pu 4 45 Z5 HT_ rfl rfl (h := ?_)
   refine tk 3 44 Z6 HT_ HW_ rfl rfl hHeld (by rintro w' ⟨s0, s1, s2, s3, s4, s5, s6, s7⟩; go_simp; with_reducible rfl) (h := ?_)
   refine pu 5 46 Z7 HT_ rfl rfl (h := ?_)
   refine pu 6 47 Z8 HT_ rfl rfl (h := ?_)
   refine tk 7 48 Z9 HT_ HW_ rfl rfl hHeld (by rintro w' ⟨s0, s1, s2, s3, s4, s5, s6, s7⟩; go_simp; with_reducible rfl) (h := ?_)
   refine tk 8 49 Z10 HT_ HW_ rfl rfl hHeld (by rintro w' ⟨s0, s1, s2, s3, s4, s5, s6, s7⟩; go_simp; with_reducible rfl) (h := ?_)
   refine one_ (i := 9) (N := some 50) Z11 rfl rfl (one_of HT_.out (by kernel_rfl)) (by decide) (fun K hK => ?_)
   refine goes_ Try.func49 (by kernel_rfl) rfl #[.agg #[.int .i64 ((a7 b1 r5).f1.f0), .slice bw9 ((a7 b1 r5).f1.f1).length bx0, .slice bx1 ((a7 b1 r5).f1.f2).length bx2], .agg #[.int .i64 l7, .slice K1 l4.length K2, .slice G9 k8.length H0]] (by rfl) rfl rfl xmp ?_
   with_reducible refine (objects_Same.calls k ((a7 b1 r5).f1.f0) _ _ ((a7 b1 r5).f1.f1) _ _ ((a7 b1 r5).f1.f2) l7 _ _ l4 _ _ k8 aV4 _ ?side1 ?side2 ?side3 ?side4 ?side5 ?side6 ?side7 ?side8 dt4.out).mono ?_
   (case side1 => exact xcb bn4 HB)
   (case side2 => exact bL6.out)
   (case side3 => exact xcb bn5 HB)
   (case side4 => exact bL7.out)
   (case side5 => exact xcb am4 HB)
   (case side6 => exact am5.out)
   (case side7 => exact xcb aq5 HB)
   (case side8 => exact aG6.out)
   rintro e ec9 ⟨rfl, hb⟩
   refine ⟨_, rfl, ?_⟩
   replace Y7 := xS Y7 hb
   replace f4 := xbb f4 hb
   replace f3 := xbb f3 hb
   replace g7 := xbb g7 hb
   replace g8 := xbb g8 hb
   replace k3 := xbb k3 hb
   replace o6 := xbb o6 hb
   replace t8 := xbb t8 hb
   replace HB := xhl HB hb
   (try clear hb)
   (try clear H3)
   (try clear hk)
   (try clear hi)
   refine hK.out _ _ ⟨(blk_cell f4.out 0).trans rfl, (blk_cell f3.out 0).trans rfl, (blk_cell f3.out 1).trans rfl, (blk_cell f3.out 2).trans rfl, (xcl HB bn3), (xcl HB bn2), (xcl HB bn1), (xcl HB bn0)⟩ (fun hHeld => ?_)
   clear hK K
   refine norm_ (a' := ?_) ?_ ?_
   rotate_left
   · show Act.put _ (some 50) _ = _
     simp only [Act.put, List.setIfInBounds_toArray, List.set_cons_zero, List.set_cons_succ, i64_w, i32_w]
     rfl
   refine pu 10 51 Z12 HT_ rfl rfl (h := ?_)
   refine pu 11 52 Z13 HT_ rfl rfl (h := ?_)
   refine pu 12 40 Z14 HT_ rfl rfl (h := ?_)
   refine done_ (done_of HT_.out (by kernel_rfl)) ?_
   try go_wp2
   go_meet
   case rel => exact ⟨_, (!t668), xrs, H', ⟨by first | omega | exact Nat.le_refl _⟩, ⟨by (with_reducible repeat (first | apply Kd.S_alloc | apply Kd.S_drewN | apply Kd.S_drew)); exact Y7.out⟩, xk f4, xk f3, xk g7, xk g8, xk k3, xk o6, xk t8, xb HB⟩
  case rest =>
   clear cf2
   (try clear c4); (try clear Y8); (try clear c26); (try clear az4); (try clear aO2); (try clear bJ9); (try clear bK0); (try clear bK3); (try clear bK4); (try clear bK5); (try clear bm2); (try clear bm3); (try clear bi4); (try clear bK9); (try clear bL1); (try clear aO3); (try clear bK1); (try clear bK2); (try clear bK6); (try clear bK7); (try clear bK8); (try clear bm4); (try clear bm5); (try clear bi5); (try clear bL0); (try clear bL2)
   obtain ⟨kq, aO4, rfl, HA, ed0, n3, f4, f3, g7, g8, k3, o6, t8, HB⟩ := hcut
   cases kq with
   | zero => exact absurd HA.out (by simp [objects_Put.j0])
   | succ ed1 =>
    have H := HA.out
    clear HA
    simp only [objects_Put.j0] at H
    by_cases bL8 : aO4 = true
    · subst bL8
      have H1 : (some (([] : List (r9)), 0, 19, (-1))) = some (r1, r2, r3, r4) := by rw [if_pos rfl] at H; exact H
      clear H
      have H := H1
      clear H1
      simp only [Option.some.injEq, Prod.mk.injEq] at H
      obtain ⟨rfl, rfl, rfl, rfl⟩ := H
      have dt6 := F2.out
      have dt7 := F1.out
      have dt8 := G7.out
      have dt9 := G6.out
      have du0 := l5.out
      have du1 := o8.out
      have du2 := F3.out
      have du3 := B7.out
      have du4 := P3.out
      have du5 := G8.out
      have du6 := T8.out
      have du7 := Y2.out
      have cy5 : wc.cell? ⟨I3, 0, none⟩ = some (.slice none 0 0) := (blk_cell g7.out 0).trans rfl
      have cy6 := blk_frozen g7.out 0
      have du8 := B4.out
      have du9 := B0.out
      have dv0 := D3.out
      have dv1 := D2.out
      have dv2 := B8.out
      have dv3 := p9.out
      have dv4 := M3.out
      have dv5 := C0.out
      have dv6 := U0.out
      have dv7 := Y3.out
      have cy7 : wc.cell? ⟨r7, 0, none⟩ = some (.int .i64 0) := (blk_cell g8.out 0).trans rfl
      have cy8 : wc.cell? ⟨r7, 1, none⟩ = some (.int .i64 0) := (blk_cell g8.out 1).trans rfl
      have cy9 := blk_frozen g8.out 0
      have cz0 := blk_frozen g8.out 1
      go_wp2
      refine bodyPost_ret (results_list (rs := [.cell 4 24, .tmp 5, .cell 6 28]) rfl (by simp) (.cell I3 24 #[.slice none 0 0] (0, 0) _ rfl (by (with_reducible repeat (first | refine bN ?_ _ | refine bD ?_ | refine bA ?_ _)); refine blk_far ?_ l5.out _; (with_reducible repeat (first | refine bN ?_ _ | refine bD ?_ | refine bA ?_ _)); refine blk_far ?_ l5.out _; (with_reducible repeat (first | refine bN ?_ _ | refine bD ?_ | refine bA ?_ _)); refine blk_put (cs := #[.slice none 0 0]) ?_ 0 _ rfl; (with_reducible repeat (first | refine bN ?_ _ | refine bD ?_ | refine bA ?_ _)); exact g7.out) Try.underlying24 rfl (by kernel_rfl) (.tmp (.cell r7 28 #[.int .i64 19, .int .i64 (-1)] (0, 0) _ rfl (by (with_reducible repeat (first | refine bN ?_ _ | refine bD ?_ | refine bA ?_ _)); refine blk_put (cs := #[.int .i64 19, .int .i64 0]) ?_ 1 _ rfl; (with_reducible repeat (first | refine bN ?_ _ | refine bD ?_ | refine bA ?_ _)); refine blk_put (cs := #[.int .i64 0, .int .i64 0]) ?_ 0 _ rfl; (with_reducible repeat (first | refine bN ?_ _ | refine bD ?_ | refine bA ?_ _)); refine blk_far ?_ o8.out _; (with_reducible repeat (first | refine bN ?_ _ | refine bD ?_ | refine bA ?_ _)); exact g8.out) Try.underlying28 rfl (by kernel_rfl) .nil)))) rfl ?_
      exact ⟨_, xre, by first | exact Kd.S_nil _ _ _ _ _ | exact Kd.N_nil _ _ _ _ _ | exact Kd.V_nil _ _ _ _ _ | exact Kd.Q_nil _ _ _ _ _ | exact Kd.R_nil _ _ _ _ _, xq HB⟩
    replace bL8 := Bool.eq_false_iff.mpr bL8
    subst bL8
    have H1 : (if aV5 = true then (some (r8, Q1, 0, 0)) else (if (b1.length : Int) = 40 then (some (([] : List (r9)), 0, 14, (-1))) else ((objects_Clone.f l7 l4 k8).bind fun aj9 => (if 0 ≤ r5 then (if r5 ≤ (r8.length : Int) then (if r8.length < 2199023255552 then (some ((pp_ins r8 r5 [(⟨Q1, (⟨aj9.1, aj9.2.1, aj9.2.2⟩ : S44)⟩ : r9)]), Q1, 0, 0)) else (none)) else (none)) else (none))))) = some (r1, r2, r3, r4) := by rw [if_neg (show ¬ (false = true) by decide)] at H; exact H
    clear H
    have H := H1
    clear H1
    by_cases bL9 : aV5 = true
    · subst bL9
      have H1 : (some (r8, Q1, 0, 0)) = some (r1, r2, r3, r4) := by rw [if_pos rfl] at H; exact H
      clear H
      have H := H1
      clear H1
      simp only [Option.some.injEq, Prod.mk.injEq] at H
      obtain ⟨rfl, rfl, rfl, rfl⟩ := H
      have dv8 := ad3.out
      have dv9 := ad2.out
      have dw0 := al1.out
      have dw1 := al0.out
      have dw2 := Y2.out
      have dw3 := T8.out
      have dw4 := Y3.out
      have dw5 := U0.out
      have dw6 := al3.out
      have dw7 := al2.out
      have dw8 := al5.out
      have dw9 := al4.out
      have cz1 : wc.cell? ⟨am6, 0, none⟩ = some (.slice am1 r8.length am2) := (blk_cell t8.out 0).trans rfl
      have cz2 := blk_frozen t8.out 0
      have dx0 := F2.out
      have dx1 := F1.out
      have dx2 := G7.out
      have dx3 := G6.out
      have dx4 := l5.out
      have dx5 := o8.out
      have dx6 := F3.out
      have dx7 := B7.out
      have dx8 := P3.out
      have dx9 := G8.out
      have cz3 : wc.cell? ⟨I3, 0, none⟩ = some (.slice none 0 0) := (blk_cell g7.out 0).trans rfl
      have cz4 := blk_frozen g7.out 0
      have dy0 := B4.out
      have dy1 := B0.out
      have dy2 := D3.out
      have dy3 := D2.out
      have dy4 := B8.out
      have dy5 := p9.out
      have dy6 := M3.out
      have dy7 := C0.out
      have cz5 : wc.cell? ⟨r7, 0, none⟩ = some (.int .i64 0) := (blk_cell g8.out 0).trans rfl
      have cz6 : wc.cell? ⟨r7, 1, none⟩ = some (.int .i64 0) := (blk_cell g8.out 1).trans rfl
      have cz7 := blk_frozen g8.out 0
      have cz8 := blk_frozen g8.out 1
      go_wp2
      refine bodyPost_ret (results_list (rs := [.cell 4 24, .tmp 5, .cell 6 28]) rfl (by simp) (.cell I3 24 #[.slice am1 r8.length am2] (0, 0) _ rfl (by (with_reducible repeat (first | refine bN ?_ _ | refine bD ?_ | refine bA ?_ _)); refine blk_far ?_ l5.out _; (with_reducible repeat (first | refine bN ?_ _ | refine bD ?_ | refine bA ?_ _)); refine blk_far ?_ l5.out _; (with_reducible repeat (first | refine bN ?_ _ | refine bD ?_ | refine bA ?_ _)); refine blk_put (cs := #[.slice none 0 0]) ?_ 0 _ rfl; (with_reducible repeat (first | refine bN ?_ _ | refine bD ?_ | refine bA ?_ _)); exact g7.out) Try.underlying24 rfl (by kernel_rfl) (.tmp (.cell r7 28 #[.int .i64 0, .int .i64 0] (0, 0) _ rfl (by (with_reducible repeat (first | refine bN ?_ _ | refine bD ?_ | refine bA ?_ _)); refine blk_put (cs := #[.int .i64 0, .int .i64 0]) ?_ 1 _ rfl; (with_reducible repeat (first | refine bN ?_ _ | refine bD ?_ | refine bA ?_ _)); refine blk_put (cs := #[.int .i64 0, .int .i64 0]) ?_ 0 _ rfl; (with_reducible repeat (first | refine bN ?_ _ | refine bD ?_ | refine bA ?_ _)); refine blk_far ?_ o8.out _; (with_reducible repeat (first | refine bN ?_ _ | refine bD ?_ | refine bA ?_ _)); exact g8.out) Try.underlying28 rfl (by kernel_rfl) .nil)))) rfl ?_
      exact ⟨_, xre, by (with_reducible repeat (first | apply Kd.S_alloc | apply Kd.S_drewN | apply Kd.S_drew)); exact Kd.S_mono (Kd.S_far (p := ⟨r7, 1, none⟩) (Kd.S_far (p := ⟨r7, 0, none⟩) (Kd.S_far (p := ⟨I3, 0, none⟩) (Kd.S_types (Kd.S_types n3.out g7.out (by decide)) g8.out (by decide)) (fun _ hk => hk.1.2) (.slice am1 r8.length am2)) (fun _ hk => hk.2) (.int .i64 0)) (fun _ hk => hk.2) (.int .i64 0)) (fun _ hk => trivial), xq HB⟩
    replace bL9 := Bool.eq_false_iff.mpr bL9
    subst bL9
    have H1 : (if (b1.length : Int) = 40 then (some (([] : List (r9)), 0, 14, (-1))) else ((objects_Clone.f l7 l4 k8).bind fun aj9 => (if 0 ≤ r5 then (if r5 ≤ (r8.length : Int) then (if r8.length < 2199023255552 then (some ((pp_ins r8 r5 [(⟨Q1, (⟨aj9.1, aj9.2.1, aj9.2.2⟩ : S44)⟩ : r9)]), Q1, 0, 0)) else (none)) else (none)) else (none)))) = some (r1, r2, r3, r4) := by rw [if_neg (show ¬ (false = true) by decide)] at H; exact H
    clear H
    have H := H1
    clear H1
    by_cases aZ2 : (b1.length : Int) = 40
    · rw [if_pos aZ2] at H
      have cf5 : ((b1.length : Int) == 40) = true := beq_iff_eq.mpr aZ2
      have cf6 : ((b1.length : Int) != 40) = false := bne_eq_false_iff_eq.mpr aZ2
      clear aZ2
      simp only [Option.some.injEq, Prod.mk.injEq] at H
      obtain ⟨rfl, rfl, rfl, rfl⟩ := H
      have dy8 := T2.out
      have dy9 := T3.out
      have dz0 := F1.out
      have dz1 := F2.out
      have dz2 := B0.out
      have dz3 := B4.out
      have dz4 := T4.out
      have dz5 := T7.out
      have dz6 := ad0.out
      have dz7 := ad1.out
      have dz8 := ad2.out
      have dz9 := ad3.out
      have cz9 : wc.cell? ⟨aa3, 0, none⟩ = some (.slice k9 b1.length j9) := (blk_cell f4.out 0).trans rfl
      have cA0 := blk_frozen f4.out 0
      have dA0 := G7.out
      have dA1 := G6.out
      have dA2 := l5.out
      have dA3 := o8.out
      have dA4 := F3.out
      have dA5 := B7.out
      have dA6 := P3.out
      have dA7 := G8.out
      have dA8 := T8.out
      have dA9 := Y2.out
      have cA1 : wc.cell? ⟨I3, 0, none⟩ = some (.slice none 0 0) := (blk_cell g7.out 0).trans rfl
      have cA2 := blk_frozen g7.out 0
      have dB0 := D3.out
      have dB1 := D2.out
      have dB2 := B8.out
      have dB3 := p9.out
      have dB4 := M3.out
      have dB5 := C0.out
      have dB6 := U0.out
      have dB7 := Y3.out
      have cA3 : wc.cell? ⟨r7, 0, none⟩ = some (.int .i64 0) := (blk_cell g8.out 0).trans rfl
      have cA4 : wc.cell? ⟨r7, 1, none⟩ = some (.int .i64 0) := (blk_cell g8.out 1).trans rfl
      have cA5 := blk_frozen g8.out 0
      have cA6 := blk_frozen g8.out 1
      go_wp2
      refine bodyPost_ret (results_list (rs := [.cell 4 24, .tmp 5, .cell 6 28]) rfl (by simp) (.cell I3 24 #[.slice none 0 0] (0, 0) _ rfl (by (with_reducible repeat (first | refine bN ?_ _ | refine bD ?_ | refine bA ?_ _)); refine blk_far ?_ l5.out _; (with_reducible repeat (first | refine bN ?_ _ | refine bD ?_ | refine bA ?_ _)); refine blk_far ?_ l5.out _; (with_reducible repeat (first | refine bN ?_ _ | refine bD ?_ | refine bA ?_ _)); refine blk_put (cs := #[.slice none 0 0]) ?_ 0 _ rfl; (with_reducible repeat (first | refine bN ?_ _ | refine bD ?_ | refine bA ?_ _)); exact g7.out) Try.underlying24 rfl (by kernel_rfl) (.tmp (.cell r7 28 #[.int .i64 14, .int .i64 (-1)] (0, 0) _ rfl (by (with_reducible repeat (first | refine bN ?_ _ | refine bD ?_ | refine bA ?_ _)); refine blk_put (cs := #[.int .i64 14, .int .i64 0]) ?_ 1 _ rfl; (with_reducible repeat (first | refine bN ?_ _ | refine bD ?_ | refine bA ?_ _)); refine blk_put (cs := #[.int .i64 0, .int .i64 0]) ?_ 0 _ rfl; (with_reducible repeat (first | refine bN ?_ _ | refine bD ?_ | refine bA ?_ _)); refine blk_far ?_ o8.out _; (with_reducible repeat (first | refine bN ?_ _ | refine bD ?_ | refine bA ?_ _)); exact g8.out) Try.underlying28 rfl (by kernel_rfl) .nil)))) rfl ?_
      exact ⟨_, xre, by first | exact Kd.S_nil _ _ _ _ _ | exact Kd.N_nil _ _ _ _ _ | exact Kd.V_nil _ _ _ _ _ | exact Kd.Q_nil _ _ _ _ _ | exact Kd.R_nil _ _ _ _ _, xq HB⟩
    rw [if_neg aZ2] at H
    have cf5 : ((b1.length : Int) == 40) = false := beq_eq_false_iff_ne.mpr aZ2
    have cf6 : ((b1.length : Int) != 40) = true := bne_iff_ne.mpr aZ2
    replace H := Option.bind_eq_some_iff.mp H
    obtain ⟨⟨bq3, aZ3, aZ4⟩, bY1, H⟩ := H
    replace H : (if 0 ≤ r5 then (if r5 ≤ (r8.length : Int) then (if r8.length < 2199023255552 then (some ((pp_ins r8 r5 [(⟨Q1, (⟨bq3, aZ3, aZ4⟩ : S44)⟩ : r9)]), Q1, 0, 0)) else (none)) else (none)) else (none)) = some (r1, r2, r3, r4) := H
    have dB8 := aZ bY1
    clear bY1
    by_cases bM0 : 0 ≤ r5
    rotate_left
    · rw [if_neg bM0] at H
      exact absurd H (by simp)

    rw [if_pos bM0] at H
    have dB9 : decide (0 ≤ r5) = true := decide_eq_true bM0
    clear bM0
    by_cases bM1 : r5 ≤ (r8.length : Int)
    rotate_left
    · rw [if_neg bM1] at H
      exact absurd H (by simp)
    rw [if_pos bM1] at H
    have dC0 : decide (r5 ≤ (r8.length : Int)) = true := decide_eq_true bM1
    clear bM1
    by_cases bM2 : r8.length < 2199023255552
    rotate_left
    · rw [if_neg bM2] at H
      exact absurd H (by simp)
    rw [if_pos bM2] at H
    have cf7 := aZ bM2
    clear bM2
    obtain ⟨bM3, aV7⟩ : ∃ y_ : List (r9), y_ = (pp_ins r8 r5 [(⟨Q1, (⟨bq3, aZ3, aZ4⟩ : S44)⟩ : r9)]) := ⟨_, rfl⟩
    replace H : (some (bM3, Q1, 0, 0)) = some (r1, r2, r3, r4) := by first | (rw [aV7]; with_reducible exact H) | (have P7 := (Option.bind_some _ _).symm.trans H; rw [aV7]; with_reducible exact P7) | (have P7 := (Option.bind_some _ _).symm.trans H; with_reducible exact P7) | with_reducible exact H | (rw [aV7]; exact H) | exact H
    have cA7 := aZ aV7
    clear aV7
    simp only [Option.some.injEq, Prod.mk.injEq] at H
    obtain ⟨rfl, rfl, rfl, rfl⟩ := H
    have dC1 := T2.out
    have dC2 := T3.out
    have dC3 := F1.out
    have dC4 := F2.out
    have dC5 := B0.out
    have dC6 := B4.out
    have dC7 := T4.out
    have dC8 := T7.out
    have dC9 := ad0.out
    have dD0 := ad1.out
    have dD1 := ad2.out
    have dD2 := ad3.out
    have cA8 : wc.cell? ⟨aa3, 0, none⟩ = some (.slice k9 b1.length j9) := (blk_cell f4.out 0).trans rfl
    have cA9 := blk_frozen f4.out 0
    try go_wp2
    replace n3 := aZ (Kd.S_drew n3.out)
    replace f4 := aZ (bD f4.out)
    replace f3 := aZ (bD f3.out)
    replace g7 := aZ (bD g7.out)
    replace g8 := aZ (bD g8.out)
    replace k3 := aZ (bD k3.out)
    replace o6 := aZ (bD o6.out)
    replace t8 := aZ (bD t8.out)
    replace HB := aZ (lD HB.out)
    refine start_ (n := 11) (S := fun w' => w'.cell? ⟨am6, 0, none⟩ = some (.slice am1 r8.length am2) ∧ w'.cell? ⟨S9, 0, none⟩ = some (.int .i64 l7) ∧ w'.cell? ⟨S9, 1, none⟩ = some (.slice K1 l4.length K2) ∧ w'.cell? ⟨S9, 2, none⟩ = some (.slice G9 k8.length H0)) (ds := [10]) Z16 (by kernel_rfl) rfl rfl ⟨(blk_cell t8.out 0).trans rfl, (blk_cell f3.out 0).trans rfl, (blk_cell f3.out 1).trans rfl, (blk_cell f3.out 2).trans rfl⟩ (fun hHeld => ?_); refine with_tabW objects_Put.tab15 objects_Put.bits15 (fun HT_ HW_ => ?_)
    generalize wc.drew = ed2 at n3 f4 f3 g7 g8 k3 o6 t8 HB hHeld ⊢
    refine pu 0 67 Z17 HT_ rfl rfl (h := ?_)
    refine pu 2 69 Z18 HT_ rfl rfl (h := ?_)
    refine pu 3 70 Z19 HT_ rfl rfl (h := ?_)
    refine tk 1 68 Z20 HT_ HW_ rfl rfl hHeld (by rintro w' ⟨s0, s1, s2, s3⟩; go_simp; with_reducible rfl) (h := ?_)
    refine tk 4 71 Z21 HT_ HW_ rfl rfl hHeld (by rintro w' ⟨s0, s1, s2, s3⟩; go_simp; with_reducible rfl) (h := ?_)
    refine one_ (i := 5) (N := some 72) Z22 rfl rfl (one_of HT_.out (by kernel_rfl)) (by decide) (fun K hK => ?_)
    refine goes_ Try.func51 (by kernel_rfl) rfl #[.agg #[.int .i64 l7, .slice K1 l4.length K2, .slice G9 k8.length H0]] (by rfl) rfl rfl xmp ?_
    with_reducible refine (objects_Clone.calls l7 _ _ l4 _ _ k8 bq3 aZ3 aZ4 _ ?side1 ?side2 ?side3 ?side4 dB8.out).mono ?_
    (case side1 => exact xcb am4 HB)
    (case side2 => exact am5.out)
    (case side3 => exact xcb aq5 HB)
    (case side4 => exact aG6.out)
    rintro e ed3 ⟨ed4, ed5, rfl, ho0, ho1, hb⟩
    refine ⟨_, rfl, ?_⟩
    replace n3 := aZ (Kd.S_mono (Kd.S_told (Kd.S_told (Kd.S_old (by (with_reducible repeat (first | apply Kd.S_alloc | apply Kd.S_drewN | apply Kd.S_drew)); exact n3.out) hb) (Kd.R_base ho0)) (Kd.R_base ho1)) (fun _ h_ => h_.1))
    have bn6 := aZ (Kd.R_lower ho0 (lZ (by repeat (first | (with_reducible first | exact HB.out | apply lA | apply lN | apply lD | refine lS ?_ ac3.out | refine lS ?_ ac4.out | refine lS ?_ ac5.out | refine lS ?_ ac6.out | refine lS ?_ ac7.out | refine lS ?_ aA5.out | refine lS ?_ aV6.out) | exact HB.out))))
    have bn7 := aZ (Kd.R_lower ho1 (lZ (by repeat (first | (with_reducible first | exact HB.out | apply lA | apply lN | apply lD | refine lS ?_ ac3.out | refine lS ?_ ac4.out | refine lS ?_ ac5.out | refine lS ?_ ac6.out | refine lS ?_ ac7.out | refine lS ?_ aA5.out | refine lS ?_ aV6.out) | exact HB.out))))
    replace f4 := xbb f4 hb
    replace f3 := xbb f3 hb
    replace g7 := xbb g7 hb
    replace g8 := xbb g8 hb
    replace k3 := xbb k3 hb
    replace o6 := xbb o6 hb
    replace t8 := xbb t8 hb
    replace HB := xhl HB hb
    (try clear hb)
    (try clear H3)
    (try clear hk)
    (try clear hi)
    (try clear ho0)
    (try clear ho1)
    obtain ⟨bY2, bY3, bY4⟩ := Kd.R_slice bn7.out
    (first | subst bY4 | (injection bY4 with f1_ f2_ f3_; have f4_ := f1_.symm; have f5_ := f3_.symm; clear f1_ f2_ f3_; subst f4_; subst f5_))
    obtain ⟨bY5, bY6, bY7⟩ := Kd.R_slice bn6.out
    (first | subst bY7 | (injection bY7 with f1_ f2_ f3_; have f4_ := f1_.symm; have f5_ := f3_.symm; clear f1_ f2_ f3_; subst f4_; subst f5_))
    refine hK.out _ _ ⟨(blk_cell t8.out 0).trans rfl, (blk_cell f3.out 0).trans rfl, (blk_cell f3.out 1).trans rfl, (blk_cell f3.out 2).trans rfl⟩ (fun hHeld => ?_)
    clear hK K
    refine norm_ (a' := ?_) ?_ ?_
    rotate_left
    · show Act.put _ (some 72) _ = _
      simp only [Act.put, List.setIfInBounds_toArray, List.set_cons_zero, List.set_cons_succ, i64_w, i32_w]
      rfl
    refine pu 6 73 Z23 HT_ rfl rfl (h := ?_)
    refine one_ (i := 7) (N := some 74) Z24 rfl rfl (one_of HT_.out (by kernel_rfl)) (by decide) (fun K hK => ?_)
    refine value_ (w1 := ?_) (v := ?_) (by rfl) rfl ?_ ?_
    rotate_left 2
    · go_simp
      constructor
      · rfl
      · rfl
    refine hK.out _ _ ⟨(blk_cell (bA t8.out _) 0).trans rfl, (blk_cell (bA f3.out _) 0).trans rfl, (blk_cell (bA f3.out _) 1).trans rfl, (blk_cell (bA f3.out _) 2).trans rfl⟩ (fun hHeld => ?_)
    clear hK K
    refine norm_ (a' := ?_) ?_ ?_
    rotate_left
    · show Act.put _ (some 74) _ = _
      simp only [Act.put, List.setIfInBounds_toArray, List.set_cons_zero, List.set_cons_succ, i64_w, i32_w]
      rfl
    refine one_ (i := 8) (N := some 75) Z25 rfl rfl (one_of HT_.out (by kernel_rfl)) (by decide) (fun K hK => ?_)
    refine Kd.S_insert_step k46 (w0 := w) w.heap.size rfl (by rfl) (.tmp 68) (.tmp 69) (.tmp 74) rfl (.slice am1 r8.length am2) r8 (⟨Q1, (⟨bq3, aZ3, aZ4⟩ : S44)⟩ : r9) [.int .i64 Q1, .int .i64 bq3, .slice bY5 aZ3.length bY6, .slice bY2 aZ4.length bY3] r5 (fun _ => True) (fun k_ => some k_ = (.slice bY5 aZ3.length bY6 : Value).ownBlock ∨ some k_ = (.slice bY2 aZ4.length bY3 : Value).ownBlock) rfl rfl rfl (of_decide_eq_true xas) (of_decide_eq_true xas) ?aP (fun k_ hk_ => hk_.elim (fun h_ => ((Kd.R_mono (ok' := fun k_ => ((fun _ => True)) k_ ∧ some k_ ≠ (.slice am1 r8.length am2 : Value).ownBlock) (Kd.R_apart' (bn6.out) (Kd.S_typed n3.out) (by decide)) (fun k_ hk => ⟨trivial, hk.2⟩))).1 k_ h_.symm) (fun h_ => ((Kd.R_mono (ok' := fun k_ => ((fun _ => True)) k_ ∧ some k_ ≠ (.slice am1 r8.length am2 : Value).ownBlock) (Kd.R_apart' (bn7.out) (Kd.S_typed n3.out) (by decide)) (fun k_ hk => ⟨trivial, hk.2⟩))).1 k_ h_.symm)) ?aF ?aO ?aB ?aS ?aL ?_
    (case aP => exact bd2 _ _ _ (⟨Q1, (⟨bq3, aZ3, aZ4⟩ : S44)⟩ : r9) (Kd.R_mono (Kd.R_tight rfl (Kd.R_mono (ok' := fun k_ => ((fun _ => True)) k_ ∧ some k_ ≠ (.slice am1 r8.length am2 : Value).ownBlock) (Kd.R_apart' (bn6.out) (Kd.S_typed n3.out) (by decide)) (fun k_ hk => ⟨trivial, hk.2⟩))) (fun _ h_ => Or.inl h_)) (Kd.R_mono (Kd.R_tight rfl (Kd.R_mono (ok' := fun k_ => ((fun _ => True)) k_ ∧ some k_ ≠ (.slice am1 r8.length am2 : Value).ownBlock) (Kd.R_apart' (bn7.out) (Kd.S_typed n3.out) (by decide)) (fun k_ hk => ⟨trivial, hk.2⟩))) (fun _ h_ => Or.inr (h_))))
    (case aB => exact (by repeat (first | (with_reducible first | exact HB.out | apply lA | apply lN | apply lD | refine lS ?_ ac3.out | refine lS ?_ ac4.out | refine lS ?_ ac5.out | refine lS ?_ ac6.out | refine lS ?_ ac7.out | refine lS ?_ aA5.out | refine lS ?_ aV6.out) | exact HB.out)))
    (case aF => exact (fun _ _ => trivial))
    (case aO => exact (by (with_reducible repeat (first | apply Kd.S_alloc | apply Kd.S_drewN | apply Kd.S_drew)); exact Kd.S_mono n3.out (fun k_ hk => ⟨trivial, fun e_ => e_.elim (fun h_ => hk.1.2 h_) (fun h_ => hk.2 h_)⟩)))
    (case aS => exact (lZ (by repeat (first | (with_reducible first | exact HB.out | apply lA | apply lN | apply lD | refine lS ?_ ac3.out | refine lS ?_ ac4.out | refine lS ?_ ac5.out | refine lS ?_ ac6.out | refine lS ?_ ac7.out | refine lS ?_ aA5.out | refine lS ?_ aV6.out) | exact HB.out))))
    (case aL => have := cf7.out; omega)
    intro ed6 bx3 ho hb hg hat
    rw [← cA7.out] at ho
    replace f4 := aZ (blk_grown (g := aa3) (o := .cells #[.slice k9 b1.length j9] 24 (0, 0)) (xkq f4) hg (Kd.S_ne n3.out f4.out (by decide)))
    replace f3 := aZ (blk_grown (g := S9) (o := .cells #[.int .i64 l7, .slice K1 l4.length K2, .slice G9 k8.length H0] 44 (0, 0)) (xkq f3) hg (Kd.S_ne n3.out f3.out (by decide)))
    replace g7 := aZ (blk_grown (g := I3) (o := .cells #[.slice none 0 0] 24 (0, 0)) (xkq g7) hg (Kd.S_ne n3.out g7.out (by decide)))
    replace g8 := aZ (blk_grown (g := r7) (o := .cells #[.int .i64 0, .int .i64 0] 28 (0, 0)) (xkq g8) hg (Kd.S_ne n3.out g8.out (by decide)))
    replace k3 := aZ (blk_grown (g := C5) (o := .cells #[.int .i64 T0, .int .i64 Y6] 28 (0, 0)) (xkq k3) hg (Kd.S_ne n3.out k3.out (by decide)))
    replace o6 := aZ (blk_grown (g := F4) (o := .cells #[.int .i64 W0, .int .i64 ae7] 28 (0, 0)) (xkq o6) hg (Kd.S_ne n3.out o6.out (by decide)))
    replace t8 := aZ (blk_grown (g := am6) (o := .cells #[.slice am1 r8.length am2] 24 (0, 0)) (xkq t8) hg (Kd.S_ne n3.out t8.out (by decide)))
    replace HB := aZ (hb)
    have bY8 := aZ (ho)
    clear n3
    clear bn6
    clear bn7
    clear ho hb hg hat
    obtain ⟨bx4, bx5, bY9⟩ := Kd.S_slice bY8.out
    (first | subst bY9 | (injection bY9 with f1_ f2_ f3_; have f4_ := f1_.symm; have f5_ := f3_.symm; clear f1_ f2_ f3_; subst f4_; subst f5_))
    refine hK.out _ _ ⟨(blk_cell t8.out 0).trans rfl, (blk_cell f3.out 0).trans rfl, (blk_cell f3.out 1).trans rfl, (blk_cell f3.out 2).trans rfl⟩ (fun hHeld => ?_)
    clear hK K
    refine norm_ (a' := ?_) ?_ ?_
    rotate_left
    · show Act.put _ (some 75) _ = _
      simp only [Act.put, List.setIfInBounds_toArray, List.set_cons_zero, List.set_cons_succ, i64_w, i32_w]
      rfl
    refine pu 9 76 Z26 HT_ rfl rfl (h := ?_)
    refine last_ (i := 10) (N := none) Z27 rfl rfl (one_of HT_.out (by kernel_rfl)) (by decide) (fun K hK => ?_)
    have dU1 : bx3.cell? ⟨am6, 0, none⟩ = some (.slice am1 r8.length am2) := (blk_cell t8.out 0).trans rfl
    have dD3 := blk_frozen t8.out 0
    have cB0 := ad2.out
    have cB1 := al0.out
    have cB2 := T8.out
    have cB3 := U0.out
    have cB4 := al2.out
    have cB5 := al4.out
    have cB6 := ad3.out
    have cB7 := al1.out
    have cB8 := Y2.out
    have cB9 := Y3.out
    have cC0 := al3.out
    have cC1 := al5.out
    refine skip_ (w1 := ?_) (by rfl) rfl ?_ ?_
    rotate_left
    · go_simp
      rfl
    refine hK.out _ _ ?_
    clear hK K
    refine done_ (done_of HT_.out (by kernel_rfl)) ?_
    have dD4 := al1.out
    have dD5 := al0.out
    have dD6 := Y2.out
    have dD7 := T8.out
    have dD8 := Y3.out
    have dD9 := U0.out
    have dE0 := al3.out
    have dE1 := al2.out
    have dE2 := al5.out
    have dE3 := al4.out
    have cC2 : bx3.cell? ⟨am6, 0, none⟩ = some (.slice am1 r8.length am2) := (blk_cell t8.out 0).trans rfl
    have cC3 := blk_frozen t8.out 0
    have dE4 := G7.out
    have dE5 := G6.out
    have dE6 := l5.out
    have dE7 := o8.out
    have dE8 := F3.out
    have dE9 := B7.out
    have dF0 := P3.out
    have dF1 := G8.out
    have cC4 : bx3.cell? ⟨I3, 0, none⟩ = some (.slice none 0 0) := (blk_cell g7.out 0).trans rfl
    have cC5 := blk_frozen g7.out 0
    have dF2 := D3.out
    have dF3 := D2.out
    have dF4 := B8.out
    have dF5 := p9.out
    have dF6 := M3.out
    have dF7 := C0.out
    have cC6 : bx3.cell? ⟨r7, 0, none⟩ = some (.int .i64 0) := (blk_cell g8.out 0).trans rfl
    have cC7 : bx3.cell? ⟨r7, 1, none⟩ = some (.int .i64 0) := (blk_cell g8.out 1).trans rfl
    have cC8 := blk_frozen g8.out 0
    have cC9 := blk_frozen g8.out 1
    try go_wp2
    refine bodyPost_ret (results_list (rs := [.cell 4 24, .tmp 5, .cell 6 28]) rfl (by simp) (.cell I3 24 #[.slice bx4 bM3.length bx5] (0, 0) _ rfl (by (with_reducible repeat (first | refine bN ?_ _ | refine bD ?_ | refine bA ?_ _)); refine blk_far ?_ l5.out _; (with_reducible repeat (first | refine bN ?_ _ | refine bD ?_ | refine bA ?_ _)); refine blk_far ?_ l5.out _; (with_reducible repeat (first | refine bN ?_ _ | refine bD ?_ | refine bA ?_ _)); refine blk_put (cs := #[.slice none 0 0]) ?_ 0 _ rfl; (with_reducible repeat (first | refine bN ?_ _ | refine bD ?_ | refine bA ?_ _)); refine blk_far ?_ T8.out _; (with_reducible repeat (first | refine bN ?_ _ | refine bD ?_ | refine bA ?_ _)); exact g7.out) Try.underlying24 rfl (by kernel_rfl) (.tmp (.cell r7 28 #[.int .i64 0, .int .i64 0] (0, 0) _ rfl (by (with_reducible repeat (first | refine bN ?_ _ | refine bD ?_ | refine bA ?_ _)); refine blk_put (cs := #[.int .i64 0, .int .i64 0]) ?_ 1 _ rfl; (with_reducible repeat (first | refine bN ?_ _ | refine bD ?_ | refine bA ?_ _)); refine blk_put (cs := #[.int .i64 0, .int .i64 0]) ?_ 0 _ rfl; (with_reducible repeat (first | refine bN ?_ _ | refine bD ?_ | refine bA ?_ _)); refine blk_far ?_ o8.out _; (with_reducible repeat (first | refine bN ?_ _ | refine bD ?_ | refine bA ?_ _)); refine blk_far ?_ U0.out _; (with_reducible repeat (first | refine bN ?_ _ | refine bD ?_ | refine bA ?_ _)); exact g8.out) Try.underlying28 rfl (by kernel_rfl) .nil)))) rfl ?_
    exact ⟨_, xre, by (with_reducible repeat (first | apply Kd.S_alloc | apply Kd.S_drewN | apply Kd.S_drew)); exact Kd.S_mono (Kd.S_far (p := ⟨r7, 1, none⟩) (Kd.S_far (p := ⟨r7, 0, none⟩) (Kd.S_far (p := ⟨I3, 0, none⟩) (Kd.S_far (p := ⟨am6, 0, none⟩) (Kd.S_types (Kd.S_types (Kd.S_types bY8.out t8.out (by decide)) g7.out (by decide)) g8.out (by decide)) (fun _ hk => hk.1.1.2) (.slice bx4 bM3.length bx5)) (fun _ hk => hk.1.2) (.slice bx4 bM3.length bx5)) (fun _ hk => hk.2) (.int .i64 0)) (fun _ hk => hk.2) (.int .i64 0)) (fun _ hk => trivial), xq HB⟩
end
section
attribute [local go_sem high] aR2
def objects_Has.f (k : Nat) (b1 : List (r9)) (a1 : Int) : Option (Bool × Int × Int) := (objects_Validate.f k b1).bind fun aq7 => (if (!(aq7.1 == 0) || (!(aq7.2 == 0))) = true then (some (false, aq7.1, aq7.2)) else ((objects_find.f k b1 a1).bind fun aV8 => (some (aV8.2, 0, 0))))
theorem objects_Has.mono : ∀ a0 a1 k, LeO (objects_Has.f k a0 a1) (objects_Has.f (k + 1) a0 a1) := by
  intro a0 a1 k
  unfold objects_Has.f
  repeat' first | (with_reducible first | exact objects_Validate.mono _ _ | exact objects_find.mono _ _ _ | exact LeO.refl _ | exact LeO.none _ | refine LeO.ite ?_ ?_ | refine LeO.bind ?_ (fun _ => ?_)) | exact objects_Validate.mono _ _ | exact objects_find.mono _ _ _ | exact LeO.none _ | refine LeO.ite ?_ ?_ | refine LeO.bind ?_ (fun _ => ?_)
set_option maxHeartbeats 8000000 in
set_option maxRecDepth 100000 in
theorem objects_Has.calls (k : Nat) (k9 : Option Addr) (j9 : Nat) (b1 : List (r9)) (a1 : Int) (r1 : Bool) (r2 : Int) (r3 : Int) (w : World) (J9 : Kd.C k46 w k9 b1.length b1) (K0 : b1.length ≤ j9) (h : objects_Has.f k b1 a1 = some (r1, r2, r3)) :
  Calls Try.prog 35 #[.agg #[.slice k9 b1.length j9], .int .i64 a1] w fun e w' => e = .returned (.tuple #[.bool r1, .agg #[.int .i64 r2, .int .i64 r3]]) ∧ Below w.heap.size w w' := by
  have aU3 := Try.underlying24
  have aH5 := Try.underlying28
  have m8 := aZ J9
  have V4 := aZ K0
  clear J9 K0
  have HB := aZ (Below.refl w.heap.size w)
  have H : ((objects_Validate.f k b1).bind fun aq7 => (if (!(aq7.1 == 0) || (!(aq7.2 == 0))) = true then (some (false, aq7.1, aq7.2)) else ((objects_find.f k b1 a1).bind fun aV8 => (some (aV8.2, 0, 0))))) = some (r1, r2, r3) := h
  clear h
  replace H := Option.bind_eq_some_iff.mp H
  obtain ⟨⟨ae8, am3⟩, A30, H⟩ := H
  replace H : (if (!(ae8 == 0) || (!(am3 == 0))) = true then (some (false, ae8, am3)) else ((objects_find.f k b1 a1).bind fun aV8 => (some (aV8.2, 0, 0)))) = some (r1, r2, r3) := H
  have A3 := aZ A30
  clear A30
  by_cases c4 : (!(ae8 == 0) || (!(am3 == 0))) = true
  rotate_left
  · rw [if_neg c4] at H
    have Y8 : (!(ae8 == 0) || (!(am3 == 0))) = false := by simpa using c4
    clear c4
    replace H := Option.bind_eq_some_iff.mp H
    obtain ⟨⟨dF8, cD0⟩, bx6, H⟩ := H
    replace H : (some (cD0, 0, 0)) = some (r1, r2, r3) := H
    have A18 := aZ bx6
    clear bx6
    simp only [Option.some.injEq, Prod.mk.injEq] at H
    obtain ⟨rfl, rfl, rfl⟩ := H
    go_enter Try.func35, Try.ntmps35
    go_wp2_with (first | ((with_reducible refine gate_dst (N := 2) rfl ?_); refine box_event ?hg (N := 2) ?hd (cs := #[.slice k9 b1.length j9]) (t := 24) ?hr ?_; (case hd => rfl); (case hg => rfl); (case hr => first | (go_simp; done) | (go_simp; rfl)); intro aV9 hg w19 hbox hb; have u2 := aZ (hbox); have cD1 := xgh hg HB; have bZ0 := xgh hg HB; replace HB := xhl HB hb; clear hb hbox hg) | ((with_reducible refine gate_dst (N := 5) rfl ?_); refine box_event ?hg (N := 5) ?hd (cs := #[.int .i64 0, .int .i64 0]) (t := 28) ?hr ?_; (case hd => rfl); (case hg => rfl); (case hr => first | (go_simp; done) | (go_simp; rfl)); intro ah9 hg w20 hbox hb; have C2 := aZ (hbox); have cD2 := xgh hg HB; have bZ1 := xgh hg HB; replace HB := xhl HB hb; have ad4 := xnl hg u2; have ad5 := xng hg u2; replace u2 := xbb u2 hb; clear hb hbox hg; have dU2 := ad4.out; have dU3 := ad5.out; have bn8 : w20.cell? ⟨aV9, 0, none⟩ = some (.slice k9 b1.length j9) := (blk_cell u2.out 0).trans rfl; have bn9 := blk_frozen u2.out 0) | ((with_reducible refine gate_callee (f := 32) rfl ?_); refine goesL_ (some 10) rfl rfl Try.func32 (by kernel_rfl) rfl #[.agg #[.slice k9 b1.length j9]] rfl xmp ?_; (with_reducible refine (objects_Validate.calls k _ _ b1 ae8 am3 _ ?side1 ?side2 A3.out).mono ?_); (case side1 => exact xcb m8 HB); (case side2 => exact V4.out); rintro e w23 ⟨rfl, hb⟩; refine ⟨_, rfl, ?_⟩; replace u2 := xbb u2 hb; replace C2 := xbb C2 hb; replace HB := xhl HB hb; skip; (try clear hb); (try clear H3); (try clear hk); (try clear hi)) | ((with_reducible refine gate_dst (N := 6) rfl ?_); refine box_event ?hg (N := 6) ?hd (cs := #[.int .i64 0, .int .i64 0]) (t := 28) ?hr ?_; (case hd => rfl); (case hg => rfl); (case hr => first | (go_simp; done) | (go_simp; rfl)); intro Q2 hg w24 hbox hb; have Q3 := aZ (hbox); have cD3 := xgh hg HB; have bZ2 := xgh hg HB; replace HB := xhl HB hb; have ax4 := xnl hg u2; have ax5 := xng hg u2; replace u2 := xbb u2 hb; have ad6 := xnl hg C2; have M4 := xng hg C2; replace C2 := xbb C2 hb; clear hb hbox hg; have bu8 := ax5.out; have bu9 := ax4.out; have bx7 := M4.out; have bx8 := ad6.out; have aE4 : w24.cell? ⟨Q2, 0, none⟩ = some (.int .i64 0) := (blk_cell Q3.out 0).trans rfl; have bM4 : w24.cell? ⟨Q2, 1, none⟩ = some (.int .i64 0) := (blk_cell Q3.out 1).trans rfl; have aE5 := blk_frozen Q3.out 0; have bM5 := blk_frozen Q3.out 1; have be3 : w24.cell? ⟨aV9, 0, none⟩ = some (.slice k9 b1.length j9) := (blk_cell u2.out 0).trans rfl; have be4 := blk_frozen u2.out 0) | ((with_reducible refine gate_callee (f := 48) rfl ?_); refine goesL_ (some 18) rfl rfl Try.func48 (by kernel_rfl) rfl #[.agg #[.slice k9 b1.length j9], .int .i64 a1] rfl xmp ?_; (with_reducible refine (objects_find.calls k _ _ b1 a1 dF8 cD0 _ ?side1 ?side2 A18.out).mono ?_); (case side1 => exact Kd.C_below m8.out (by repeat (first | (with_reducible first | exact HB.out | apply lA | apply lN | apply lD | refine lS ?_ bZ0.out | refine lS ?_ bZ1.out | refine lS ?_ bZ2.out) | exact HB.out))); (case side2 => exact V4.out); rintro e w29 ⟨rfl, hb⟩; refine ⟨_, rfl, ?_⟩; replace u2 := xbb u2 hb; replace C2 := xbb C2 hb; replace Q3 := aZ (blk_below (g := Q2) (o := .cells #[.int .i64 ae8, .int .i64 am3] 28 (0, 0)) (by (with_reducible repeat (first | refine bN ?_ _ | refine bD ?_ | refine bA ?_ _)); refine blk_put (cs := #[.int .i64 ae8, .int .i64 0]) ?_ 1 _ rfl; (with_reducible repeat (first | refine bN ?_ _ | refine bD ?_ | refine bA ?_ _)); refine blk_put (cs := #[.int .i64 0, .int .i64 0]) ?_ 0 _ rfl; (with_reducible repeat (first | refine bN ?_ _ | refine bD ?_ | refine bA ?_ _)); exact Q3.out) hb); replace HB := xhl HB hb; (try clear hb); (try clear H3); (try clear hk); (try clear hi); have aL4 : w29.cell? ⟨ah9, 0, none⟩ = some (.int .i64 0) := (blk_cell C2.out 0).trans rfl; have be1 : w29.cell? ⟨ah9, 1, none⟩ = some (.int .i64 0) := (blk_cell C2.out 1).trans rfl; have aL5 := blk_frozen C2.out 0; have be2 := blk_frozen C2.out 1))
    refine bodyPost_ret (results_tc rfl _ _ ah9 28 #[.int .i64 0, .int .i64 0] (0, 0) _ rfl (by (with_reducible repeat (first | refine bN ?_ _ | refine bD ?_ | refine bA ?_ _)); refine blk_put (cs := #[.int .i64 0, .int .i64 0]) ?_ 1 _ rfl; (with_reducible repeat (first | refine bN ?_ _ | refine bD ?_ | refine bA ?_ _)); refine blk_put (cs := #[.int .i64 0, .int .i64 0]) ?_ 0 _ rfl; (with_reducible repeat (first | refine bN ?_ _ | refine bD ?_ | refine bA ?_ _)); exact C2.out) Try.underlying28 rfl (by kernel_rfl)) rfl ?_
    exact ⟨xre, xq HB⟩

  rw [if_pos c4] at H
  have Y8 : (!(ae8 == 0) || (!(am3 == 0))) = true := c4
  clear c4
  simp only [Option.some.injEq, Prod.mk.injEq] at H
  obtain ⟨rfl, rfl, rfl⟩ := H
  go_enter Try.func35, Try.ntmps35
  try go_wp2_with (first | ((with_reducible refine gate_dst (N := 2) rfl ?_); refine box_event ?hg (N := 2) ?hd (cs := #[.slice k9 b1.length j9]) (t := 24) ?hr ?_; (case hd => rfl); (case hg => rfl); (case hr => first | (go_simp; done) | (go_simp; rfl)); intro aV9 hg w5 hbox hb; have u2 := aZ (hbox); have cD1 := xgh hg HB; have bZ0 := xgh hg HB; replace HB := xhl HB hb; clear hb hbox hg) | ((with_reducible refine gate_dst (N := 5) rfl ?_); refine box_event ?hg (N := 5) ?hd (cs := #[.int .i64 0, .int .i64 0]) (t := 28) ?hr ?_; (case hd => rfl); (case hg => rfl); (case hr => first | (go_simp; done) | (go_simp; rfl)); intro ah9 hg w6 hbox hb; have C2 := aZ (hbox); have cD2 := xgh hg HB; have bZ1 := xgh hg HB; replace HB := xhl HB hb; have ad4 := xnl hg u2; have ad5 := xng hg u2; replace u2 := xbb u2 hb; clear hb hbox hg; have dm9 := ad4.out; have dn0 := ad5.out; have aL0 : w6.cell? ⟨aV9, 0, none⟩ = some (.slice k9 b1.length j9) := (blk_cell u2.out 0).trans rfl; have aL1 := blk_frozen u2.out 0) | ((with_reducible refine gate_callee (f := 32) rfl ?_); refine goesL_ (some 10) rfl rfl Try.func32 (by kernel_rfl) rfl #[.agg #[.slice k9 b1.length j9]] rfl xmp ?_; (with_reducible refine (objects_Validate.calls k _ _ b1 ae8 am3 _ ?side1 ?side2 A3.out).mono ?_); (case side1 => exact xcb m8 HB); (case side2 => exact V4.out); rintro e w9 ⟨rfl, hb⟩; refine ⟨_, rfl, ?_⟩; replace u2 := xbb u2 hb; replace C2 := xbb C2 hb; replace HB := xhl HB hb; skip; (try clear hb); (try clear H3); (try clear hk); (try clear hi)) | ((with_reducible refine gate_dst (N := 6) rfl ?_); refine box_event ?hg (N := 6) ?hd (cs := #[.int .i64 0, .int .i64 0]) (t := 28) ?hr ?_; (case hd => rfl); (case hg => rfl); (case hr => first | (go_simp; done) | (go_simp; rfl)); intro Q2 hg w10 hbox hb; have Q3 := aZ (hbox); have cD3 := xgh hg HB; have bZ2 := xgh hg HB; replace HB := xhl HB hb; have ax4 := xnl hg u2; have ax5 := xng hg u2; replace u2 := xbb u2 hb; have ad6 := xnl hg C2; have M4 := xng hg C2; replace C2 := xbb C2 hb; clear hb hbox hg; have bS0 := ax5.out; have bS1 := ax4.out; have bQ3 := M4.out; have bQ4 := ad6.out; have aL2 : w10.cell? ⟨Q2, 0, none⟩ = some (.int .i64 0) := (blk_cell Q3.out 0).trans rfl; have bB0 : w10.cell? ⟨Q2, 1, none⟩ = some (.int .i64 0) := (blk_cell Q3.out 1).trans rfl; have aL3 := blk_frozen Q3.out 0; have bB1 := blk_frozen Q3.out 1))
  replace u2 : Aside0 (((w10.setCell ⟨Q2, 0, none⟩ (.int .i64 ae8)).setCell ⟨Q2, 1, none⟩ (.int .i64 am3)).heap[aV9]? = some (.cells #[.slice k9 b1.length j9] 24 (0, 0))) := xk u2
  replace C2 : Aside0 (((w10.setCell ⟨Q2, 0, none⟩ (.int .i64 ae8)).setCell ⟨Q2, 1, none⟩ (.int .i64 am3)).heap[ah9]? = some (.cells #[.int .i64 0, .int .i64 0] 28 (0, 0))) := xk C2
  replace Q3 : Aside0 (((w10.setCell ⟨Q2, 0, none⟩ (.int .i64 ae8)).setCell ⟨Q2, 1, none⟩ (.int .i64 am3)).heap[Q2]? = some (.cells #[.int .i64 ae8, .int .i64 am3] 28 (0, 0))) := ⟨by (with_reducible repeat (first | refine bN ?_ _ | refine bD ?_ | refine bA ?_ _)); refine blk_put (cs := #[.int .i64 ae8, .int .i64 0]) ?_ 1 _ rfl; (with_reducible repeat (first | refine bN ?_ _ | refine bD ?_ | refine bA ?_ _)); refine blk_put (cs := #[.int .i64 0, .int .i64 0]) ?_ 0 _ rfl; (with_reducible repeat (first | refine bN ?_ _ | refine bD ?_ | refine bA ?_ _)); exact Q3.out⟩
  replace HB : Aside0 (Below w.heap.size w ((w10.setCell ⟨Q2, 0, none⟩ (.int .i64 ae8)).setCell ⟨Q2, 1, none⟩ (.int .i64 am3))) := xb HB
  generalize ((w10.setCell ⟨Q2, 0, none⟩ (.int .i64 ae8)).setCell ⟨Q2, 1, none⟩ (.int .i64 am3)) = w14 at u2 C2 Q3 HB ⊢
  replace u2 := aZ (bD u2.out)
  replace C2 := aZ (bD C2.out)
  replace Q3 := aZ (bD Q3.out)
  replace HB := aZ (lD HB.out)
  refine start_ (n := 3) (S := fun w' => w'.cell? ⟨Q2, 0, none⟩ = some (.int .i64 ae8) ∧ w'.cell? ⟨Q2, 1, none⟩ = some (.int .i64 am3)) (ds := []) #[false, false, false] (by kernel_rfl) rfl rfl ⟨(blk_cell Q3.out 0).trans rfl, (blk_cell Q3.out 1).trans rfl⟩ (fun hHeld => ?_)
  generalize w14.drew = w15 at u2 C2 Q3 HB hHeld ⊢
  refine pure_ (i := 1) (N := some 4) (v := ?_) (a' := ?_) #[false, true, false] rfl rfl (by kernel_rfl) (fun _ _ _ h => h) (Or.inl ⟨by rfl, ?_⟩) ?_ ?_
  rotate_left
  · intro w'
    go_simp
    with_reducible rfl
  rotate_left
  · simp only [Act.put, List.setIfInBounds_toArray, List.set_cons_zero, List.set_cons_succ, i64_w, i32_w]
    rfl
  refine take_ (i := 0) (N := some 14) (v := ?_) (a' := ?_) #[true, true, false] rfl rfl (by kernel_rfl) (fun _ _ _ h => h) (Or.inl ⟨by rfl, ?_⟩) hHeld ?_ ?_
  rotate_left
  · rintro w' ⟨s0, s1⟩
    go_simp
    with_reducible rfl
  rotate_left
  · simp only [Act.put, List.setIfInBounds_toArray, List.set_cons_zero, List.set_cons_succ, i64_w, i32_w]
    rfl
  refine one_ (i := 2) (N := none) #[true, true, true] rfl rfl (by kernel_rfl) (by decide) (fun K hK => ?_)
  have dn7 : w15.cell? ⟨ah9, 0, none⟩ = some (.int .i64 0) := (blk_cell C2.out 0).trans rfl
  have cp4 := blk_frozen C2.out 0
  have bC4 := ad4.out
  have bC5 := M4.out
  have bC6 := ad5.out
  have bC7 := ad6.out
  have ed7 : w15.cell? ⟨ah9, 1, none⟩ = some (.int .i64 0) := (blk_cell C2.out 1).trans rfl
  have dU4 := blk_frozen C2.out 1
  have dc4 := ad4.out
  have dc5 := M4.out
  have dc6 := ad5.out
  have dc7 := ad6.out
  refine skip_ (w1 := ?_) (by rfl) rfl ?_ ?_
  rotate_left
  · go_simp
    rfl
  refine hK.out _ _ ⟨((cell_far (p := ⟨ah9, _, none⟩) M4.out _).trans (((cell_far (p := ⟨ah9, _, none⟩) M4.out _).trans (hHeld.1)))), ((cell_far (p := ⟨ah9, _, none⟩) M4.out _).trans (((cell_far (p := ⟨ah9, _, none⟩) M4.out _).trans (hHeld.2))))⟩ (fun hHeld => ?_)
  clear hK K
  refine done_ (by kernel_rfl) ?_
  try go_wp2
  refine bodyPost_ret (results_tc rfl _ _ ah9 28 #[.int .i64 ae8, .int .i64 am3] (0, 0) _ rfl (by (with_reducible repeat (first | refine bN ?_ _ | refine bD ?_ | refine bA ?_ _)); refine blk_put (cs := #[.int .i64 ae8, .int .i64 0]) ?_ 1 _ rfl; (with_reducible repeat (first | refine bN ?_ _ | refine bD ?_ | refine bA ?_ _)); refine blk_put (cs := #[.int .i64 0, .int .i64 0]) ?_ 0 _ rfl; (with_reducible repeat (first | refine bN ?_ _ | refine bD ?_ | refine bA ?_ _)); exact C2.out) Try.underlying28 rfl (by kernel_rfl)) rfl ?_
  exact ⟨xre, xq HB⟩
end

end Go.Proofs.Ytnmkmamobhkcbaa.P
