/- Texts of the proofs of PackIndexCovers, PackReadMatchesSpec: what the printed functions come to, plain laws, rows (no condition beyond the statements' own). -/
import Derived.Test.YtnmkmamobhkcbaaGP0
import Derived.Test.YtnmkmamobhkcbaaGP30
namespace Go.Proofs.Ytnmkmamobhkcbaa.P
open Go.RowKit Go.Proofs.YtnmkmamobhkcbaaW.PrintWords Go.Proofs.YtnmkmamobhkcbaaW.PrintLast Go.Proofs.YtnmkmamobhkcbaaW.PrintMore
attribute [local go_sem] max2_int min2_int max_two min_two max_three min_three max_four min_four   -- for this text's walks alone
set_option linter.unusedVariables false
set_option linter.unusedSimpArgs false
def pack_Index.f (k : Nat) (l0 : List Int) : Option ((List (S48)) × Int × Int) := (pack_read.f k l0).bind fun cQ2 => (some (cQ2.2.1, cQ2.2.2.1, cQ2.2.2.2))
theorem pack_Index.mono : ∀ a0 k, LeO (pack_Index.f k a0) (pack_Index.f (k + 1) a0) := by
  intro a0 k
  unfold pack_Index.f
  repeat' first | (with_reducible first | exact pack_read.mono _ _ | exact LeO.refl _ | exact LeO.none _ | refine LeO.ite ?_ ?_ | refine LeO.bind ?_ (fun _ => ?_)) | exact pack_read.mono _ _ | exact LeO.none _ | refine LeO.ite ?_ ?_ | refine LeO.bind ?_ (fun _ => ?_)
set_option maxHeartbeats 8000000 in
set_option maxRecDepth 100000 in
theorem pack_Index.calls (k : Nat) (A0 : Option Addr) (c0 : Nat) (l0 : List Int) (r1 : List (S48)) (r2 : Int) (r3 : Int) (w : World) (hr0 : Kd.C (Kd.int .u8) w A0 l0.length l0) (hc0 : l0.length ≤ c0) (h : pack_Index.f k l0 = some (r1, r2, r3)) :
  Calls Try.prog 21 #[.slice A0 l0.length c0] w fun e w' => ∃ v0_ : Value, e = .returned (.tuple #[v0_, .agg #[.int .i64 r2, .int .i64 r3]]) ∧ Kd.R k48 48 w' w.heap.size (fun _ => True) v0_ r1 ∧ Below w.heap.size w w' := by
  have aQg := Try.underlying28
  have aP7 := Try.underlying24
  have HR0 := aZ hr0
  have HC0 := aZ hc0
  clear hr0 hc0
  have HB := aZ (Below.refl w.heap.size w)
  have H : ((pack_read.f k l0).bind fun cQ2 => (some (cQ2.2.1, cQ2.2.2.1, cQ2.2.2.2))) = some (r1, r2, r3) := h
  clear h
  replace H := Option.bind_eq_some_iff.mp H
  obtain ⟨⟨cGr, fTj, bOg, bU7⟩, A20, H⟩ := H
  replace H : (some (fTj, bOg, bU7)) = some (r1, r2, r3) := H
  have A2 := aZ A20
  clear A20
  simp only [Option.some.injEq, Prod.mk.injEq] at H
  obtain ⟨rfl, rfl, rfl⟩ := H
  go_enter Try.func21, Try.ntmps21
  try go_wp2_with (first | ((with_reducible refine gate_dst (N := 3) rfl ?_); refine box_event ?hg (N := 3) ?hd (cs := #[.int .i64 0, .int .i64 0]) (t := 28) ?hr ?_; (case hd => rfl); (case hg => rfl); (case hr => first | (go_simp; done) | (go_simp; rfl)); intro bTf hg w3 hbox hb; have aNc := aZ (hbox); have iFp := xgh hg HB; have fDn := xgh hg HB; replace HB := xhl HB hb; clear hb hbox hg) | ((with_reducible refine gate_callee (f := 44) rfl ?_); refine goesL_ (some 9) rfl rfl Try.func44 (by kernel_rfl) rfl #[.slice A0 l0.length c0] rfl xmp ?_; (with_reducible refine (pack_read.calls k _ _ l0 cGr fTj bOg bU7 _ ?side1 ?side2 A2.out).mono ?_); (case side1 => exact xcb HR0 HB); (case side2 => exact HC0.out); rintro e w4 ⟨iLy, hYr, rfl, gZ, ho1, hb⟩; refine ⟨_, rfl, ?_⟩; have bOh := aZ (Kd.S_lower gZ (lZ (by repeat (first | (with_reducible first | exact HB.out | apply lA | apply lN | apply lD | refine lS ?_ fDn.out) | exact HB.out)))); have bOi := aZ (Kd.R_lower ho1 (lZ (by repeat (first | (with_reducible first | exact HB.out | apply lA | apply lN | apply lD | refine lS ?_ fDn.out) | exact HB.out)))); replace aNc := xbb aNc hb; replace HB := xhl HB hb; (try clear hb); (try clear iV); (try clear hk); (try clear hi); (try clear gZ); (try clear ho1)) | ((with_reducible refine gate_dst (N := 4) rfl ?_); refine box_event ?hg (N := 4) ?hd (cs := #[.slice none 0 0]) (t := 24) ?hr ?_; (case hd => rfl); (case hg => rfl); (case hr => first | (go_simp; done) | (go_simp; rfl)); intro bOj hg w5 hbox hb; replace bOh := xS bOh hb; replace bOi := xR bOi hb; have bDl := aZ (hbox); have iFq := xgh hg HB; have iFr := xgh hg HB; replace HB := xhl HB hb; have cGs := xnl hg aNc; have cGt := xng hg aNc; replace aNc := xbb aNc hb; clear hb hbox hg) | ((with_reducible refine gate_dst (N := 6) rfl ?_); refine box_event ?hg (N := 6) ?hd (cs := #[.int .i64 0, .int .i64 0]) (t := 28) ?hr ?_; (case hd => rfl); (case hg => rfl); (case hr => first | (go_simp; done) | (go_simp; rfl)); intro aJn hg w6 hbox hb; replace bOh := xS bOh hb; replace bOi := xR bOi hb; have bDm := aZ (hbox); have iFs := xgh hg HB; have iFt := xgh hg HB; replace HB := xhl HB hb; have cGu := xnl hg aNc; have aVa := xng hg aNc; replace aNc := xbb aNc hb; have cGv := xnl hg bDl; have cUy := xng hg bDl; replace bDl := xbb bDl hb; clear hb hbox hg; obtain ⟨Ao7, co7, eo7⟩ := Kd.S_slice bOh.out; subst eo7; have dYw := cGt.out; have dYx := cGs.out; have dJq := cGv.out; have dJr := cUy.out; have aA3 : w6.cell? ⟨bOj, 0, none⟩ = some (.slice none 0 0) := (blk_cell bDl.out 0).trans rfl; have aA4 := blk_frozen bDl.out 0; have bMj := aVa.out; have bMk := cGu.out; have aHh : w6.cell? ⟨aJn, 0, none⟩ = some (.int .i64 0) := (blk_cell bDm.out 0).trans rfl; have cVk : w6.cell? ⟨aJn, 1, none⟩ = some (.int .i64 0) := (blk_cell bDm.out 1).trans rfl; have aHi := blk_frozen bDm.out 0; have cVl := blk_frozen bDm.out 1))
  replace bOh : Aside0 (Kd.S qL 46 (((w6.setCell ⟨bOj, 0, none⟩ (.slice Ao7 cGr.length co7)).setCell ⟨aJn, 0, none⟩ (.int .i64 bOg)).setCell ⟨aJn, 1, none⟩ (.int .i64 bU7)) w.heap.size (fun _ => True) (.slice Ao7 cGr.length co7) cGr) := ⟨by (with_reducible repeat (first | apply Kd.S_alloc | apply Kd.S_drewN | apply Kd.S_drew)); exact Kd.S_mono (Kd.S_far (p := ⟨aJn, 1, none⟩) (Kd.S_far (p := ⟨aJn, 0, none⟩) (Kd.S_far (p := ⟨bOj, 0, none⟩) (Kd.S_types (Kd.S_types bOh.out bDl.out (by decide)) bDm.out (by decide)) (fun _ hk => hk.1.2) (.slice Ao7 cGr.length co7)) (fun _ hk => hk.2) (.int .i64 bOg)) (fun _ hk => hk.2) (.int .i64 bU7)) (fun _ hk => trivial)⟩
  replace bOi : Aside0 (Kd.R k48 48 (((w6.setCell ⟨bOj, 0, none⟩ (.slice Ao7 cGr.length co7)).setCell ⟨aJn, 0, none⟩ (.int .i64 bOg)).setCell ⟨aJn, 1, none⟩ (.int .i64 bU7)) w.heap.size (fun _ => True) hYr fTj) := ⟨by (with_reducible repeat (first | apply Kd.rA | apply Kd.rN | apply Kd.rD)); exact Kd.R_mono (Kd.R_far (p := ⟨aJn, 1, none⟩) (Kd.R_far (p := ⟨aJn, 0, none⟩) (Kd.R_far (p := ⟨bOj, 0, none⟩) (Kd.R_types (Kd.R_types bOi.out bDl.out (by decide)) bDm.out (by decide)) (fun _ hk => hk.1.2) (.slice Ao7 cGr.length co7)) (fun _ hk => hk.2) (.int .i64 bOg)) (fun _ hk => hk.2) (.int .i64 bU7)) (fun _ hk => trivial)⟩
  replace aNc : Aside0 ((((w6.setCell ⟨bOj, 0, none⟩ (.slice Ao7 cGr.length co7)).setCell ⟨aJn, 0, none⟩ (.int .i64 bOg)).setCell ⟨aJn, 1, none⟩ (.int .i64 bU7)).heap[bTf]? = some (.cells #[.int .i64 0, .int .i64 0] 28 (0, 0))) := xk aNc
  replace bDl : Aside0 ((((w6.setCell ⟨bOj, 0, none⟩ (.slice Ao7 cGr.length co7)).setCell ⟨aJn, 0, none⟩ (.int .i64 bOg)).setCell ⟨aJn, 1, none⟩ (.int .i64 bU7)).heap[bOj]? = some (.cells #[.slice Ao7 cGr.length co7] 24 (0, 0))) := ⟨by refine xpl ?_; refine blk_far ?_ cGv.out _; refine xpl ?_; refine blk_far ?_ cGv.out _; refine xpl ?_; refine blk_put (cs := #[.slice none 0 0]) ?_ 0 _ rfl; refine xpl ?_; exact bDl.out⟩
  replace bDm : Aside0 ((((w6.setCell ⟨bOj, 0, none⟩ (.slice Ao7 cGr.length co7)).setCell ⟨aJn, 0, none⟩ (.int .i64 bOg)).setCell ⟨aJn, 1, none⟩ (.int .i64 bU7)).heap[aJn]? = some (.cells #[.int .i64 bOg, .int .i64 bU7] 28 (0, 0))) := ⟨by refine xpl ?_; refine blk_put (cs := #[.int .i64 bOg, .int .i64 0]) ?_ 1 _ rfl; refine xpl ?_; refine blk_put (cs := #[.int .i64 0, .int .i64 0]) ?_ 0 _ rfl; refine xpl ?_; refine blk_far ?_ cUy.out _; refine xpl ?_; exact bDm.out⟩
  replace HB : Aside0 (Below w.heap.size w (((w6.setCell ⟨bOj, 0, none⟩ (.slice Ao7 cGr.length co7)).setCell ⟨aJn, 0, none⟩ (.int .i64 bOg)).setCell ⟨aJn, 1, none⟩ (.int .i64 bU7))) := xb HB
  generalize (((w6.setCell ⟨bOj, 0, none⟩ (.slice Ao7 cGr.length co7)).setCell ⟨aJn, 0, none⟩ (.int .i64 bOg)).setCell ⟨aJn, 1, none⟩ (.int .i64 bU7)) = w13 at bOh bOi aNc bDl bDm HB ⊢
  replace bOh := aZ (Kd.S_drew bOh.out)
  replace bOi := aZ (Kd.rD bOi.out)
  replace aNc := aZ (bD aNc.out)
  replace bDl := aZ (bD bDl.out)
  replace bDm := aZ (bD bDm.out)
  replace HB := aZ (lD HB.out)
  refine start_ (n := 4) (S := fun w' => w'.cell? ⟨aJn, 0, none⟩ = some (.int .i64 bOg) ∧ w'.cell? ⟨aJn, 1, none⟩ = some (.int .i64 bU7)) (ds := []) #[false, false, false, false] (by kernel_rfl) rfl rfl ⟨(blk_cell bDm.out 0).trans rfl, (blk_cell bDm.out 1).trans rfl⟩ (fun hHeld => ?_)
  generalize w13.drew = w14 at bOh bOi aNc bDl bDm HB hHeld ⊢
  refine pure_ (i := 0) (N := some 13) (v := ?_) (a' := ?_) #[true, false, false, false] rfl rfl (by kernel_rfl) (fun _ _ _ h => h) (Or.inl ⟨by rfl, ?_⟩) ?_ ?_
  rotate_left
  · intro w'
    go_simp
    with_reducible rfl
  rotate_left
  · simp only [Act.put, List.setIfInBounds_toArray, List.set_cons_zero, List.set_cons_succ, i64_w, i32_w]
    rfl
  refine pure_ (i := 2) (N := some 2) (v := ?_) (a' := ?_) #[true, false, true, false] rfl rfl (by kernel_rfl) (fun _ _ _ h => h) (Or.inl ⟨by rfl, ?_⟩) ?_ ?_
  rotate_left
  · intro w'
    go_simp
    with_reducible rfl
  rotate_left
  · simp only [Act.put, List.setIfInBounds_toArray, List.set_cons_zero, List.set_cons_succ, i64_w, i32_w]
    rfl
  refine take_ (i := 1) (N := some 14) (v := ?_) (a' := ?_) #[true, true, true, false] rfl rfl (by kernel_rfl) (fun _ _ _ h => h) (Or.inl ⟨by rfl, ?_⟩) hHeld ?_ ?_
  rotate_left
  · rintro w' ⟨s0, s1⟩
    go_simp
    with_reducible rfl
  rotate_left
  · simp only [Act.put, List.setIfInBounds_toArray, List.set_cons_zero, List.set_cons_succ, i64_w, i32_w]
    rfl
  refine one_ (i := 3) (N := none) #[true, true, true, true] rfl rfl (by kernel_rfl) (by decide) (fun K hK => ?_)
  have fVy : w14.cell? ⟨bTf, 0, none⟩ = some (.int .i64 0) := (blk_cell aNc.out 0).trans rfl
  have eZ0 := blk_frozen aNc.out 0
  have hFl := cGt.out
  have dPb := aVa.out
  have hFm := cGs.out
  have dPc := cGu.out
  have fFe : w14.cell? ⟨bTf, 1, none⟩ = some (.int .i64 0) := (blk_cell aNc.out 1).trans rfl
  have eBz := blk_frozen aNc.out 1
  have hFo := cGt.out
  have cVm := aVa.out
  have hFp := cGs.out
  have cVn := cGu.out
  refine skip_ (w1 := ?_) (by rfl) rfl ?_ ?_
  rotate_left
  · go_simp
    rfl
  refine hK.out _ _ ⟨((cell_far (p := ⟨bTf, _, none⟩) aVa.out _).trans (((cell_far (p := ⟨bTf, _, none⟩) aVa.out _).trans (hHeld.1)))), ((cell_far (p := ⟨bTf, _, none⟩) aVa.out _).trans (((cell_far (p := ⟨bTf, _, none⟩) aVa.out _).trans (hHeld.2))))⟩ (fun hHeld => ?_)
  clear hK K
  refine done_ (by kernel_rfl) ?_
  try go_wp2
  refine bodyPost_ret (results_tc rfl _ _ bTf 28 #[.int .i64 bOg, .int .i64 bU7] (0, 0) _ rfl (by refine xpl ?_; refine blk_put (cs := #[.int .i64 bOg, .int .i64 0]) ?_ 1 _ rfl; refine xpl ?_; refine blk_put (cs := #[.int .i64 0, .int .i64 0]) ?_ 0 _ rfl; refine xpl ?_; exact aNc.out) Try.underlying28 rfl (by kernel_rfl)) rfl ?_
  exact ⟨_, xre, by (with_reducible repeat (first | apply Kd.rA | apply Kd.rN | apply Kd.rD)); exact Kd.R_mono (Kd.R_far (p := ⟨bTf, 1, none⟩) (Kd.R_far (p := ⟨bTf, 0, none⟩) (Kd.R_types bOi.out aNc.out (by decide)) (fun _ hk => hk.2) (.int .i64 bOg)) (fun _ hk => hk.2) (.int .i64 bU7)) (fun _ hk => trivial), xq HB⟩

end Go.Proofs.Ytnmkmamobhkcbaa.P
