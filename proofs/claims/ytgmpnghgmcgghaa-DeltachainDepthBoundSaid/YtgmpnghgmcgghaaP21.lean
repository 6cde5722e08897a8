/- What the Go functions of this seat compute, and that they do: printed by a program over the kit's print. -/
import Derived.Test.YtgmpnghgmcgghaaP0
import Derived.Test.YtgmpnghgmcgghaaP19
namespace Go.Proofs.Ytgmpnghgmcgghaa.P
open Go.RowKit Go.Proofs.YtgmpnghgmcgghaaW.PrintWords Go.Proofs.YtgmpnghgmcgghaaW.PrintLast Go.Proofs.YtgmpnghgmcgghaaW.PrintMore
attribute [local go_sem] max2_int min2_int max_two min_two max_three min_three max_four min_four   -- for this text's walks alone
set_option linter.unusedVariables false
set_option linter.unusedSimpArgs false

/-! ### deltachain_Depths: function 20 -/
def deltachain_Depths.f (k : Nat) (l0 : List (S45)) : Option (List Int × Int × Int) := (deltachain_unpack.f k l0).bind fun bt434 => (some (bt434.2.1, bt434.2.2.1, bt434.2.2.2))
theorem deltachain_Depths.mono : ∀ a0 k, LeO (deltachain_Depths.f k a0) (deltachain_Depths.f (k + 1) a0) := by
  intro a0 k
  unfold deltachain_Depths.f
  repeat' first
      | (with_reducible exact deltachain_unpack.mono _ _)
      | (with_reducible exact LeO.refl _)
      | (with_reducible exact LeO.none _)
      | (with_reducible refine LeO.ite ?_ ?_)
      | (with_reducible refine LeO.bind ?_ (fun _ => ?_))
      | exact deltachain_unpack.mono _ _
      | exact LeO.none _
      | refine LeO.ite ?_ ?_
      | refine LeO.bind ?_ (fun _ => ?_)
set_option maxHeartbeats 8000000 in
set_option maxRecDepth 100000 in
theorem deltachain_Depths.calls (k : Nat) (A0 : Option Addr) (c0 : Nat) (l0 : List (S45)) (r1 : List Int) (r2 : Int) (r3 : Int) (w : World) (hr0 : Kd.C k45 w A0 l0.length l0) (hc0 : l0.length ≤ c0) (h : deltachain_Depths.f k l0 = some (r1, r2, r3)) :
  Calls Try.prog 20 #[.slice A0 l0.length c0] w fun e w' => ∃ v0_ : Value, e = .returned (.tuple #[v0_, .agg #[.int .i64 r2, .int .i64 r3]]) ∧ Kd.R (Kd.int .i64) 3 w' w.heap.size (fun _ => True) v0_ r1 ∧ Below w.heap.size w w' := by
  have hu26 := Try.underlying26
  have HR0 := aZ hr0
  have HC0 := aZ hc0
  clear hr0 hc0
  have HB := aZ (Below.refl w.heap.size w)
  have H : ((deltachain_unpack.f k l0).bind fun bt434 => (some (bt434.2.1, bt434.2.2.1, bt434.2.2.2))) = some (r1, r2, r3) := h
  clear h
  replace H := Option.bind_eq_some_iff.mp H
  obtain ⟨⟨t434, t437, t440, t441⟩, A20, H⟩ := H
  replace H : (some (t437, t440, t441)) = some (r1, r2, r3) := H
  have A2 := aZ A20
  clear A20
  simp only [Option.some.injEq, Prod.mk.injEq] at H
  obtain ⟨rfl, rfl, rfl⟩ := H
  go_enter Try.func20, Try.ntmps20
  try go_wp2_with (first | ((with_reducible refine gate_dst (N := 3) rfl ?_); refine box_event ?hg (N := 3) ?hd (cs := #[.int .i64 0, .int .i64 0]) (t := 26) ?hr ?_; (case hd => rfl); (case hg => rfl); (case hr => first | (go_simp; done) | (go_simp; rfl)); intro gb433 hg w3 hbox hb; have n0_ := aZ (lT (by repeat (first | (with_reducible first | exact HB.out | apply lA | apply lN | apply lD) | exact HB.out)) hb); have n1_ := aZ (hbox); have n2_ := aZ ((by rw [hg]; exact (lZ (by repeat (first | (with_reducible first | exact HB.out | apply lA | apply lN | apply lD) | exact HB.out))) : w.heap.size ≤ gb433)); have n3_ := aZ ((by rw [hg]; exact (lZ (by repeat (first | (with_reducible first | exact HB.out | apply lA | apply lN | apply lD) | exact HB.out))) : w.heap.size ≤ gb433)); clear HB; have HB := n0_; have BK433 := n1_; have GW433 := n2_; have GE433 := n3_; clear n0_ n1_ n2_ n3_; clear hb hbox hg) | ((with_reducible refine gate_callee (f := 27) rfl ?_); refine goesL_ (some 9) rfl rfl Try.func27 (by kernel_rfl) rfl #[.slice A0 l0.length c0] rfl (by (try simp only [List.map_toArray, List.map_cons, List.map_nil]); first | done | rfl | (simp only [List.length_drop, List.length_take]; rfl)) ?_; (with_reducible refine (deltachain_unpack.calls k _ _ l0 t434 t437 t440 t441 _ ?side1 ?side2 A2.out).mono ?_); (case side1 => repeat (first | exact (Kd.C_below HR0.out HB.out) | (with_reducible refine Kd.C_alloc ?_ _) | (with_reducible refine Kd.C_drewN ?_ _) | (with_reducible refine Kd.C_drew ?_))); (case side2 => exact HC0.out); rintro e w4 ⟨v435, v438, rfl, ho0, ho1, hb⟩; refine ⟨_, rfl, ?_⟩; have n0_ := aZ (Kd.N_lower (Kd.N_mono (ok' := fun k_ => some k_ ≠ (v438 : Value).ownBlock ∧ k_ ≠ gb433) ho0 (fun k_ hk_ => ⟨hk_.2, (Kd.freshB (g := gb433) (o := .cells #[.int .i64 0, .int .i64 0] 26 (0, 0)) (by (with_reducible repeat (first | refine bN ?_ _ | refine bD ?_ | refine bA ?_ _)); exact BK433.out) k_ hk_.1)⟩)) (lZ (by repeat (first | (with_reducible first | exact HB.out | apply lA | apply lN | apply lD | refine lS ?_ GE433.out) | exact HB.out)))); have n1_ := aZ (Kd.R_lower (Kd.R_mono (ok' := fun k_ => True) ho1 (fun _ hk_ => trivial)) (lZ (by repeat (first | (with_reducible first | exact HB.out | apply lA | apply lN | apply lD | refine lS ?_ GE433.out) | exact HB.out)))); have n2_ := aZ (blk_below (g := gb433) (o := .cells #[.int .i64 0, .int .i64 0] 26 (0, 0)) (by (with_reducible repeat (first | refine bN ?_ _ | refine bD ?_ | refine bA ?_ _)); exact BK433.out) hb); have n3_ := aZ (lT (by repeat (first | (with_reducible first | exact HB.out | apply lA | apply lN | apply lD | refine lS ?_ GE433.out) | exact HB.out)) hb); clear BK433; clear HB; have HO436 := n0_; have HO439 := n1_; have BK433 := n2_; have HB := n3_; clear n0_ n1_ n2_ n3_; (try clear hb); (try clear hb2); (try clear hk); (try clear hi); (try clear ho0); (try clear ho1)) | ((with_reducible refine gate_dst (N := 6) rfl ?_); refine box_event ?hg (N := 6) ?hd (cs := #[.int .i64 0, .int .i64 0]) (t := 26) ?hr ?_; (case hd => rfl); (case hg => rfl); (case hr => first | (go_simp; done) | (go_simp; rfl)); intro gb442 hg w5 hbox hb; have n0_ := aZ (Kd.N_below (Kd.N_elderB (by (with_reducible repeat (first | apply Kd.N_alloc | apply Kd.N_drewN | apply Kd.N_drew)); exact HO436.out) gb442 (Nat.le_of_eq hg.symm)) hb); have n1_ := aZ (Kd.R_below (by (with_reducible repeat (first | apply Kd.rA | apply Kd.rN | apply Kd.rD)); exact HO439.out) hb); have n2_ := aZ (blk_below (g := gb433) (o := .cells #[.int .i64 0, .int .i64 0] 26 (0, 0)) (by (with_reducible repeat (first | refine bN ?_ _ | refine bD ?_ | refine bA ?_ _)); exact BK433.out) hb); have n3_ := aZ (lT (by repeat (first | (with_reducible first | exact HB.out | apply lA | apply lN | apply lD | refine lS ?_ GE433.out) | exact HB.out)) hb); have n4_ := aZ (hbox); have n5_ := aZ ((by rw [hg]; exact (lZ (by repeat (first | (with_reducible first | exact HB.out | apply lA | apply lN | apply lD | refine lS ?_ GE433.out) | exact HB.out))) : w.heap.size ≤ gb442)); have n6_ := aZ ((by rw [hg]; exact (lZ (by repeat (first | (with_reducible first | exact HB.out | apply lA | apply lN | apply lD | refine lS ?_ GE433.out) | exact HB.out))) : w.heap.size ≤ gb442)); have n7_ := aZ ((by rw [hg]; exact Nat.ne_of_lt (blk_lt (g := gb433) (o := .cells #[.int .i64 0, .int .i64 0] 26 (0, 0)) (by (with_reducible repeat (first | refine bN ?_ _ | refine bD ?_ | refine bA ?_ _)); exact BK433.out)) : gb433 ≠ gb442)); have n8_ := aZ ((by rw [hg]; exact Nat.ne_of_gt (blk_lt (g := gb433) (o := .cells #[.int .i64 0, .int .i64 0] 26 (0, 0)) (by (with_reducible repeat (first | refine bN ?_ _ | refine bD ?_ | refine bA ?_ _)); exact BK433.out)) : gb442 ≠ gb433)); clear HO436; clear HO439; clear BK433; clear HB; have HO436 := n0_; have HO439 := n1_; have BK433 := n2_; have HB := n3_; have BK442 := n4_; have GW442 := n5_; have GE442 := n6_; have NB433_442 := n7_; have NB442_433 := n8_; clear n0_ n1_ n2_ n3_ n4_ n5_ n6_ n7_ n8_; clear hb hbox hg; have hnb6 := NB442_433.out; have hnc6 := NB433_442.out; have hcz7_0 : w5.cell? ⟨gb442, 0, none⟩ = some (.int .i64 0) := (blk_cell BK442.out 0).trans rfl; have hcz7_1 : w5.cell? ⟨gb442, 1, none⟩ = some (.int .i64 0) := (blk_cell BK442.out 1).trans rfl; have hfz7_0 := blk_frozen BK442.out 0; have hfz7_1 := blk_frozen BK442.out 1))
  have n0_ : Aside0 (Kd.N (Kd.slice 5 (Kd.int .u8)) 22 ((w5.setCell ⟨gb442, 0, none⟩ (.int .i64 t440)).setCell ⟨gb442, 1, none⟩ (.int .i64 t441)) w.heap.size (fun k_ => some k_ ≠ (v438 : Value).ownBlock ∧ k_ ≠ gb433 ∧ k_ ≠ gb442) v435 t434) := ⟨by (with_reducible repeat (first | apply Kd.N_alloc | apply Kd.N_drewN | apply Kd.N_drew)); exact Kd.N_mono (Kd.N_far (p := ⟨gb442, 1, none⟩) (Kd.N_far (p := ⟨gb442, 0, none⟩) (Kd.N_mono HO436.out (fun k_ hk => (⟨hk, hk.2⟩ : _ ∧ k_ ≠ gb442))) (fun _ hk => hk.2) (.int .i64 t440)) (fun _ hk => hk.2) (.int .i64 t441)) (fun _ hk => ⟨hk.1.1.1, ⟨hk.1.1.2, hk.1.2⟩⟩)⟩
  have n1_ : Aside0 (Kd.R (Kd.int .i64) 3 ((w5.setCell ⟨gb442, 0, none⟩ (.int .i64 t440)).setCell ⟨gb442, 1, none⟩ (.int .i64 t441)) w.heap.size (fun _ => True) v438 t437) := ⟨by (with_reducible repeat (first | apply Kd.rA | apply Kd.rN | apply Kd.rD)); exact Kd.R_mono (Kd.R_far (p := ⟨gb442, 1, none⟩) (Kd.R_far (p := ⟨gb442, 0, none⟩) (Kd.R_types HO439.out BK442.out (by decide)) (fun _ hk => hk.2) (.int .i64 t440)) (fun _ hk => hk.2) (.int .i64 t441)) (fun _ hk => trivial)⟩
  have n2_ : Aside0 (((w5.setCell ⟨gb442, 0, none⟩ (.int .i64 t440)).setCell ⟨gb442, 1, none⟩ (.int .i64 t441)).heap[gb433]? = some (.cells #[.int .i64 0, .int .i64 0] 26 (0, 0))) := ⟨by (with_reducible repeat (first | refine bN ?_ _ | refine bD ?_ | refine bA ?_ _)); refine blk_far ?_ NB433_442.out _; (with_reducible repeat (first | refine bN ?_ _ | refine bD ?_ | refine bA ?_ _)); refine blk_far ?_ NB433_442.out _; (with_reducible repeat (first | refine bN ?_ _ | refine bD ?_ | refine bA ?_ _)); exact BK433.out⟩
  have n3_ : Aside0 (((w5.setCell ⟨gb442, 0, none⟩ (.int .i64 t440)).setCell ⟨gb442, 1, none⟩ (.int .i64 t441)).heap[gb442]? = some (.cells #[.int .i64 t440, .int .i64 t441] 26 (0, 0))) := ⟨by (with_reducible repeat (first | refine bN ?_ _ | refine bD ?_ | refine bA ?_ _)); refine blk_put (cs := #[.int .i64 t440, .int .i64 0]) ?_ 1 _ rfl; (with_reducible repeat (first | refine bN ?_ _ | refine bD ?_ | refine bA ?_ _)); refine blk_put (cs := #[.int .i64 0, .int .i64 0]) ?_ 0 _ rfl; (with_reducible repeat (first | refine bN ?_ _ | refine bD ?_ | refine bA ?_ _)); exact BK442.out⟩
  have n4_ : Aside0 (Below w.heap.size w ((w5.setCell ⟨gb442, 0, none⟩ (.int .i64 t440)).setCell ⟨gb442, 1, none⟩ (.int .i64 t441))) := ⟨by repeat (first | (with_reducible first | exact HB.out | apply lA | apply lN | apply lD | refine lS ?_ GE433.out | refine lS ?_ GE442.out) | exact HB.out)⟩
  (try clear HO436)
  (try clear HO439)
  (try clear BK433)
  (try clear BK442)
  (try clear HB)
  generalize ((w5.setCell ⟨gb442, 0, none⟩ (.int .i64 t440)).setCell ⟨gb442, 1, none⟩ (.int .i64 t441)) = w8 at n0_ n1_ n2_ n3_ n4_ ⊢
  have HO436 := n0_
  have HO439 := n1_
  have BK433 := n2_
  have BK442 := n3_
  have HB := n4_
  clear n0_ n1_ n2_ n3_ n4_
  have n0_ := aZ (Kd.N_drew HO436.out)
  have n1_ := aZ (Kd.rD HO439.out)
  have n2_ := aZ (bD BK433.out)
  have n3_ := aZ (bD BK442.out)
  have n4_ := aZ (lD HB.out)
  clear HO436
  clear HO439
  clear BK433
  clear BK442
  clear HB
  have HO436 := n0_
  have HO439 := n1_
  have BK433 := n2_
  have BK442 := n3_
  have HB := n4_
  clear n0_ n1_ n2_ n3_ n4_
  refine start_ (n := 4) (S := fun w' => w'.cell? ⟨gb442, 0, none⟩ = some (.int .i64 t440) ∧ w'.cell? ⟨gb442, 1, none⟩ = some (.int .i64 t441)) (ds := []) #[false, false, false, false] (by kernel_rfl) rfl rfl ⟨(blk_cell BK442.out 0).trans rfl, (blk_cell BK442.out 1).trans rfl⟩ (fun hHeld => ?_)
  generalize w8.drew = w9 at HO436 HO439 BK433 BK442 HB hHeld ⊢
  refine pure_ (i := 0) (N := some 13) (v := ?_) (a' := ?_) #[true, false, false, false] rfl rfl (by kernel_rfl) (fun _ _ _ h => h) (Or.inl ⟨by rfl, ?_⟩) ?_ ?_
  rotate_left
  · intro w'
    go_simp
    with_reducible rfl
  rotate_left
  · simp only [Act.put, List.setIfInBounds_toArray, List.set_cons_zero, List.set_cons_succ, i64_w, i32_w]
    rfl
  refine pure_ (i := 2) (N := some 2) (v := ?_) (a' := ?_) #[true, false, true, false] rfl rfl (by kernel_rfl) (fun _ _ _ h => h) (Or.inl ⟨by rfl, ?_⟩) ?_ ?_
  rotate_left
  · intro w'
    go_simp
    with_reducible rfl
  rotate_left
  · simp only [Act.put, List.setIfInBounds_toArray, List.set_cons_zero, List.set_cons_succ, i64_w, i32_w]
    rfl
  refine take_ (i := 1) (N := some 14) (v := ?_) (a' := ?_) #[true, true, true, false] rfl rfl (by kernel_rfl) (fun _ _ _ h => h) (Or.inl ⟨by rfl, ?_⟩) hHeld ?_ ?_
  rotate_left
  · rintro w' ⟨s0, s1⟩
    go_simp
    with_reducible rfl
  rotate_left
  · simp only [Act.put, List.setIfInBounds_toArray, List.set_cons_zero, List.set_cons_succ, i64_w, i32_w]
    rfl
  refine one_ (i := 3) (N := none) #[true, true, true, true] rfl rfl (by kernel_rfl) (by decide) (fun K hK => ?_)
  have hs10 : w9.cell? ⟨gb433, 0, none⟩ = some (.int .i64 0) := (blk_cell BK433.out 0).trans rfl
  have hfs10 := blk_frozen BK433.out 0
  have hns10_1 := NB442_433.out
  have hms10_1 := NB433_442.out
  have hs11 : w9.cell? ⟨gb433, 1, none⟩ = some (.int .i64 0) := (blk_cell BK433.out 1).trans rfl
  have hfs11 := blk_frozen BK433.out 1
  have hns11_1 := NB442_433.out
  have hms11_1 := NB433_442.out
  refine skip_ (w1 := ?_) (by rfl) rfl ?_ ?_
  rotate_left
  · go_simp
    rfl
  refine hK.out _ _ ⟨((cell_far (p := ⟨gb433, _, none⟩) NB442_433.out _).trans (((cell_far (p := ⟨gb433, _, none⟩) NB442_433.out _).trans (hHeld.1)))), ((cell_far (p := ⟨gb433, _, none⟩) NB442_433.out _).trans (((cell_far (p := ⟨gb433, _, none⟩) NB442_433.out _).trans (hHeld.2))))⟩ (fun hHeld => ?_)
  clear hK K
  refine done_ (by kernel_rfl) ?_
  try go_wp2
  refine bodyPost_ret (results_tc rfl _ _ gb433 26 #[.int .i64 t440, .int .i64 t441] (0, 0) _ rfl (by (with_reducible repeat (first | refine bN ?_ _ | refine bD ?_ | refine bA ?_ _)); refine blk_put (cs := #[.int .i64 t440, .int .i64 0]) ?_ 1 _ rfl; (with_reducible repeat (first | refine bN ?_ _ | refine bD ?_ | refine bA ?_ _)); refine blk_put (cs := #[.int .i64 0, .int .i64 0]) ?_ 0 _ rfl; (with_reducible repeat (first | refine bN ?_ _ | refine bD ?_ | refine bA ?_ _)); exact BK433.out) Try.underlying26 rfl (by kernel_rfl)) rfl ?_
  exact ⟨_, by first | rfl | (simp [errW_none, errW_some] <;> rfl) | (simp [*, errW_none, errW_some] <;> rfl), by (with_reducible repeat (first | apply Kd.rA | apply Kd.rN | apply Kd.rD)); exact Kd.R_mono (Kd.R_far (p := ⟨gb433, 1, none⟩) (Kd.R_far (p := ⟨gb433, 0, none⟩) (Kd.R_types HO439.out BK433.out (by decide)) (fun _ hk => hk.2) (.int .i64 t440)) (fun _ hk => hk.2) (.int .i64 t441)) (fun _ hk => trivial), by repeat (first | (with_reducible first | exact HB.out | apply lA | apply lN | apply lD | refine lS ?_ GE433.out | refine lS ?_ GE442.out) | exact HB.out)⟩

end Go.Proofs.Ytgmpnghgmcgghaa.P
