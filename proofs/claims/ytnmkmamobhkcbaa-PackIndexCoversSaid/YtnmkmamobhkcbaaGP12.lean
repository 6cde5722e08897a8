/- Texts of the proofs of 4 statements: what the printed functions come to, plain laws, rows (no condition beyond the statements' own). -/
import Derived.Test.YtnmkmamobhkcbaaGP0
import Derived.Test.YtnmkmamobhkcbaaGP10
namespace Go.Proofs.Ytnmkmamobhkcbaa.P
open Go.RowKit Go.Proofs.YtnmkmamobhkcbaaW.PrintWords Go.Proofs.YtnmkmamobhkcbaaW.PrintLast Go.Proofs.YtnmkmamobhkcbaaW.PrintMore
attribute [local go_sem] max2_int min2_int max_two min_two max_three min_three max_four min_four   -- for this text's walks alone
set_option linter.unusedVariables false
set_option linter.unusedSimpArgs false
def pack_number.l0 : Nat → List Int → Int → Int → Option (List Int)
  | 0, _, _, _ => none
  | k + 1, x0, x1, x5 => if x5 ≥ 0 then (if 0 ≤ x5 then (if x0.length < 140737488355328 then (pack_number.l0 k (x0 ++ [(shr .i64 x1 x5) % 256]) x1 (wrap64 (x5 - 8))) else (none)) else (none)) else (some x0)
def pack_number.f (k : Nat) (l0 : List Int) (a1 : Int) : Option (List Int) := pack_number.l0 k l0 a1 56
theorem pack_number.mono_l : ∀ k, (∀ y0 y1 y2, LeO (pack_number.l0 k y0 y1 y2) (pack_number.l0 (k + 1) y0 y1 y2))
  | 0 => fun _ _ _ r h => by simp [pack_number.l0] at h
  | k + 1 => by
    have mU := pack_number.mono_l k
    · intro y0 y1 y2
      unfold pack_number.l0
      repeat' first | (with_reducible first | exact mU _ _ _ | exact LeO.refl _ | exact LeO.none _ | refine LeO.ite ?_ ?_ | refine LeO.bind ?_ (fun _ => ?_)) | exact mU _ _ _ | exact LeO.none _ | refine LeO.ite ?_ ?_ | refine LeO.bind ?_ (fun _ => ?_)
theorem pack_number.mono : ∀ a0 a1 k, LeO (pack_number.f k a0 a1) (pack_number.f (k + 1) a0 a1) := by
  intro a0 a1 k
  have mU := pack_number.mono_l k
  unfold pack_number.f
  repeat' first | (with_reducible first | exact mU _ _ _ | exact LeO.refl _ | exact LeO.none _ | refine LeO.ite ?_ ?_ | refine LeO.bind ?_ (fun _ => ?_)) | exact mU _ _ _ | exact LeO.none _ | refine LeO.ite ?_ ?_ | refine LeO.bind ?_ (fun _ => ?_)
set_option maxHeartbeats 8000000 in
set_option maxRecDepth 100000 in
theorem pack_number.calls (k : Nat) (P0_ : Nat → Prop) (bN6 : Value) (l0 : List Int) (a1 : Int) (r : List Int) (w0 w : World) (hB : Below w0.heap.size w0 w) (gZ : Kd.R (Kd.int .u8) 5 w w0.heap.size P0_ bN6 l0) (h : pack_number.f k l0 a1 = some r) :
  Calls Try.prog 41 #[bN6, .int .i64 a1] w fun e w' => ∃ v0_ : Value, e = .returned (v0_) ∧ Kd.R (Kd.int .u8) 5 w' w0.heap.size (fun k_ => (P0_ k_ ∨ w.heap.size ≤ k_)) v0_ r ∧ Below w0.heap.size w0 w' ∧ Kept w w' (fun k_ => P0_ k_) := by
  have HO0 := aZ (show Kd.R (Kd.int .u8) 5 w w0.heap.size (fun k_ => (P0_ k_ ∨ w.heap.size ≤ k_)) bN6 l0 from Kd.R_mono gZ (fun k_ hk => (.inl hk)))
  have HK := aZ (Kept.refl w (fun k_ => P0_ k_))
  have HW0 := aZ hB.size
  have HB := aZ hB
  clear hB
  have H : (pack_number.l0 k l0 a1 56) = some r := h
  clear h
  have H' := aZ H
  clear H
  go_enter Try.func41, Try.ntmps41
  go_wp2
  go_loopg [0, 5] k (fun kq v0 v5 w' => ∃ (aF1 : List Int) (dC : Int), v5 = .int .i64 dC ∧ Aside0 (pack_number.l0 kq aF1 a1 dC = some r) ∧ Aside0 (kq ≤ k) ∧ Aside0 (Kd.R (Kd.int .u8) 5 w' w0.heap.size (fun k_ => (P0_ k_ ∨ w.heap.size ≤ k_)) v0 aF1) ∧ Aside0 (Kept w w' (fun k_ => P0_ k_)) ∧ Aside0 (Below w0.heap.size w0 w'))
  case atStart => exact ⟨(l0), (56), xrs, H', ⟨Nat.le_refl _⟩, ⟨by (with_reducible repeat (first | apply Kd.rA | apply Kd.rN | apply Kd.rD)); exact HO0.out⟩, ⟨by repeat (first | (with_reducible first | exact HK.out | apply Kept.alloc | apply Kept.drewN | apply Kept.drew) | exact HK.out)⟩, xb HB⟩
  case round =>
   clear H'
   obtain ⟨aF1, dC, rfl, HA, yS, bU3, HK, HB⟩ := hrel
   cases gk with
   | zero => exact absurd HA.out (by simp [pack_number.l0])
   | succ k1 =>
    have H := HA.out
    clear HA
    simp only [pack_number.l0] at H
    by_cases c3 : dC ≥ 0
    rotate_left
    · rw [if_neg c3] at H
      have aNk : decide (0 ≤ dC) = false := decide_eq_false c3
      clear c3
      obtain rfl := Option.some.inj H
      go_wp2
      go_ret
      exact ⟨_, xre, by (with_reducible repeat (first | apply Kd.rA | apply Kd.rN | apply Kd.rD)); exact bU3.out, xq HB, by repeat (first | (with_reducible first | exact HK.out | apply Kept.alloc | apply Kept.drewN | apply Kept.drew) | exact HK.out)⟩

    rw [if_pos c3] at H
    have aNk : decide (0 ≤ dC) = true := decide_eq_true c3
    clear c3
    by_cases c4 : 0 ≤ dC
    rotate_left
    · rw [if_neg c4] at H
      exact absurd H (by simp)
    rw [if_pos c4] at H
    have aJy := eq_true c4
    have cMl : decide (0 ≤ dC) = true := decide_eq_true c4
    clear c4
    obtain ⟨ji5, eYh⟩ : ∃ j_ : Int, (shr .i64 a1 dC) = j_ := ⟨_, rfl⟩
    replace H : (if aF1.length < 140737488355328 then (pack_number.l0 k1 (aF1 ++ [(ji5) % 256]) a1 (wrap64 (dC - 8))) else (none)) = some r := by first | (rw [eYh] at H; exact H) | (simp only [eYh] at H ⊢; exact H)
    have iEt : (a1 / 2 ^ min dC.toNat 64) = ji5 := eYh
    have iEu : dC ≤ 64 → (a1 / 2 ^ dC.toNat) = ji5 := shr_small eYh
    by_cases c6 : aF1.length < 140737488355328
    rotate_left
    · rw [if_neg c6] at H
      exact absurd H (by simp)
    rw [if_pos c6] at H
    have hXc := aZ c6
    clear c6
    obtain ⟨gL6, dH1⟩ : ∃ y_ : List Int, y_ = (aF1 ++ [(ji5) % 256]) := ⟨_, rfl⟩
    replace H : (pack_number.l0 k1 gL6 a1 (wrap64 (dC - 8))) = some r := by first | (rw [dH1]; with_reducible exact H) | (have qY := (Option.bind_some _ _).symm.trans H; rw [dH1]; with_reducible exact qY) | (have qY := (Option.bind_some _ _).symm.trans H; with_reducible exact qY) | with_reducible exact H | (rw [dH1]; exact H) | exact H
    have gL7 := aZ dH1
    clear dH1
    have H' := aZ H
    clear H
    go_wp2_with (first | ((with_reducible refine gate_builtin (b := .append) (xs := #[.tmp 10, .tmp 15]) rfl ?_); at_builtin; refine Kd.R_append (Kd.int .u8) (w0 := w0) w0.heap.size rfl (.tmp 10) (.tmp 15) 26 5 (.int .u8 0) 1 rfl Try.underlying26 aFk rfl (by decide) (by omega) u0 aF1 ((ji5) % 256) [.int .u8 ((ji5) % 256)] (fun k_ => (P0_ k_ ∨ w.heap.size ≤ k_)) (fun _ => False) rfl rfl ?aP (fun _ hk => hk.elim) ?aF ?aO ?aB ?aS ?aL ?_; (case aP => exact rfl); (case aB => exact (by repeat (first | (with_reducible first | exact HB.out | apply lA | apply lN | apply lD) | exact HB.out))); (case aF => exact (fun k_ hk => (.inr (Nat.le_trans (by first | exact HK.out.1 | exact (show Kept w _ (fun k_ => P0_ k_) from by repeat (first | (with_reducible first | exact HK.out | apply Kept.alloc | apply Kept.drewN | apply Kept.drew) | exact HK.out)).1) hk)))); (case aO => exact (by (with_reducible repeat (first | apply Kd.rA | apply Kd.rN | apply Kd.rD)); exact bU3.out)); (case aS => exact (lZ (by repeat (first | (with_reducible first | exact HB.out | apply lA | apply lN | apply lD) | exact HB.out)))); (case aL => have := hXc.out; omega); intro iK0 w7 ho hb hg hat; rw [← gL7.out] at ho; replace HB := aZ (hb); replace HK := aZ (Kept.of_grown (S := (fun k_ => P0_ k_)) hg (by repeat (first | (with_reducible first | exact HK.out | apply Kept.alloc | apply Kept.drewN | apply Kept.drew) | exact HK.out)) (fun k_ e_ => (bU3.out.1 k_ e_))); have gL8 := aZ (ho); clear bU3; clear ho hb hg hat))
    go_roundg k1
    case measure => have := yS.out; omega
    case rel => exact ⟨(gL6), (wrap64 (dC - 8)), xrs, H', ⟨by have := yS.out; omega⟩, ⟨by (with_reducible repeat (first | apply Kd.rA | apply Kd.rN | apply Kd.rD)); exact gL8.out⟩, ⟨by repeat (first | (with_reducible first | exact HK.out | apply Kept.alloc | apply Kept.drewN | apply Kept.drew) | exact HK.out)⟩, xb HB⟩
def pack_entry.l0 : Nat → List Int → List Int → Int → Int → Int → List Int → List Int → Option (List Int)
  | 0, _, _, _, _, _, _, _ => none
  | k + 1, x0, x27, x28, x29, eYi, eYj, dB6 => if x29 < x28 then (if 0 ≤ x29 then (if x29 < (x27.length : Int) then ((pack_number.f k x0 (rd x27 x29)).bind fun eM8 => (pack_entry.l0 k eM8 x27 x28 (wrap64 (x29 + 1)) eYi eYj dB6)) else (none)) else (none)) else (if x0.length + dB6.length < 140737488355328 then (some (x0 ++ dB6)) else (none))
def pack_entry.f (k : Nat) (l0 : List Int) (dH : Int) (bX : List Int) (cO : List Int) : Option (List Int) := (some (([(dH) % 256, ((bX.length : Int)) % 256, ((cO.length : Int) / 256) % 256, ((cO.length : Int)) % 256] : List Int) : List Int)).bind fun cI8 => (if l0.length + cI8.length < 140737488355328 then (pack_entry.l0 k (l0 ++ cI8) bX (bX.length : Int) 0 dH bX cO) else (none))
theorem pack_entry.mono_l : ∀ k, (∀ y0 y1 y2 y3 y4 y5 y6, LeO (pack_entry.l0 k y0 y1 y2 y3 y4 y5 y6) (pack_entry.l0 (k + 1) y0 y1 y2 y3 y4 y5 y6))
  | 0 => fun _ _ _ _ _ _ _ r h => by simp [pack_entry.l0] at h
  | k + 1 => by
    have mU := pack_entry.mono_l k
    · intro y0 y1 y2 y3 y4 y5 y6
      unfold pack_entry.l0
      repeat' first | (with_reducible first | exact mU _ _ _ _ _ _ _ | exact pack_number.mono _ _ _ | exact LeO.refl _ | exact LeO.none _ | refine LeO.ite ?_ ?_ | refine LeO.bind ?_ (fun _ => ?_)) | exact mU _ _ _ _ _ _ _ | exact pack_number.mono _ _ _ | exact LeO.none _ | refine LeO.ite ?_ ?_ | refine LeO.bind ?_ (fun _ => ?_)
theorem pack_entry.mono : ∀ a0 a1 a2 a3 k, LeO (pack_entry.f k a0 a1 a2 a3) (pack_entry.f (k + 1) a0 a1 a2 a3) := by
  intro a0 a1 a2 a3 k
  have mU := pack_entry.mono_l k
  unfold pack_entry.f
  repeat' first | (with_reducible first | exact mU _ _ _ _ _ _ _ | exact pack_number.mono _ _ _ | exact LeO.refl _ | exact LeO.none _ | refine LeO.ite ?_ ?_ | refine LeO.bind ?_ (fun _ => ?_)) | exact mU _ _ _ _ _ _ _ | exact pack_number.mono _ _ _ | exact LeO.none _ | refine LeO.ite ?_ ?_ | refine LeO.bind ?_ (fun _ => ?_)
set_option maxHeartbeats 8000000 in
set_option maxRecDepth 100000 in
theorem pack_entry.calls (k : Nat) (P0_ : Nat → Prop) (bN6 : Value) (l0 : List Int) (dH : Int) (kW : Option Addr) (kX : Nat) (bX : List Int) (kR : Option Addr) (kS : Nat) (cO : List Int) (r : List Int) (w0 w : World) (hB : Below w0.heap.size w0 w) (gZ : Kd.R (Kd.int .u8) 5 w w0.heap.size P0_ bN6 l0) (aNp : ∀ W_, Kept w W_ (fun k_ => P0_ k_) → Kd.C (Kd.int .i64) W_ kW bX.length bX) (aNq : bX.length ≤ kX) (aNr : ∀ W_, Kept w W_ (fun k_ => P0_ k_) → Kd.C (Kd.int .u8) W_ kR cO.length cO) (aNs : cO.length ≤ kS) (h : pack_entry.f k l0 dH bX cO = some r) :
  Calls Try.prog 39 #[bN6, .agg #[.int .i64 dH, .slice kW bX.length kX, .slice kR cO.length kS]] w fun e w' => ∃ v0_ : Value, e = .returned (v0_) ∧ Kd.R (Kd.int .u8) 5 w' w0.heap.size (fun k_ => (P0_ k_ ∨ w.heap.size ≤ k_)) v0_ r ∧ Below w0.heap.size w0 w' ∧ Kept w w' (fun k_ => P0_ k_) := by
  have aQf := Try.underlying44
  have HO0 := aZ (show Kd.R (Kd.int .u8) 5 w w0.heap.size (fun k_ => (P0_ k_ ∨ w.heap.size ≤ k_)) bN6 l0 from Kd.R_mono gZ (fun k_ hk => (.inl hk)))
  have aDm := aZ aNp
  have aD8 := aZ aNq
  clear aNp aNq
  have aD9 := aZ aNr
  have aF2 := aZ aNs
  clear aNr aNs
  have HK := aZ (Kept.refl w (fun k_ => P0_ k_))
  have HW0 := aZ hB.size
  have HB := aZ hB
  clear hB
  have H : ((some (([(dH) % 256, ((bX.length : Int)) % 256, ((cO.length : Int) / 256) % 256, ((cO.length : Int)) % 256] : List Int) : List Int)).bind fun cI8 => (if l0.length + cI8.length < 140737488355328 then (pack_entry.l0 k (l0 ++ cI8) bX (bX.length : Int) 0 dH bX cO) else (none))) = some r := h
  clear h
  obtain ⟨cI8, dH2⟩ : ∃ y_ : List Int, y_ = (([(dH) % 256, ((bX.length : Int)) % 256, ((cO.length : Int) / 256) % 256, ((cO.length : Int)) % 256] : List Int)) := ⟨_, rfl⟩
  replace H : (if l0.length + cI8.length < 140737488355328 then (pack_entry.l0 k (l0 ++ cI8) bX (bX.length : Int) 0 dH bX cO) else (none)) = some r := by first | (rw [dH2]; with_reducible exact H) | (have qY := (Option.bind_some _ _).symm.trans H; rw [dH2]; with_reducible exact qY) | (have qY := (Option.bind_some _ _).symm.trans H; with_reducible exact qY) | with_reducible exact H | (rw [dH2]; exact H) | exact H
  have fC2 := aZ dH2
  clear dH2
  by_cases c3 : l0.length + cI8.length < 140737488355328
  rotate_left
  · rw [if_neg c3] at H
    exact absurd H (by simp)

  rw [if_pos c3] at H
  have hXd := aZ c3
  clear c3
  obtain ⟨gMa, dH3⟩ : ∃ y_ : List Int, y_ = (l0 ++ cI8) := ⟨_, rfl⟩
  replace H : (pack_entry.l0 k gMa bX (bX.length : Int) 0 dH bX cO) = some r := by first | (rw [dH3]; with_reducible exact H) | (have qY := (Option.bind_some _ _).symm.trans H; rw [dH3]; with_reducible exact qY) | (have qY := (Option.bind_some _ _).symm.trans H; with_reducible exact qY) | with_reducible exact H | (rw [dH3]; exact H) | exact H
  have gMb := aZ dH3
  clear dH3
  have H' := aZ H
  clear H
  go_enter Try.func39, Try.ntmps39
  go_wp2_with (first | ((with_reducible refine gate_dst (N := 3) rfl ?_); refine box_event ?hg (N := 3) ?hd (cs := #[.int .i64 dH, .slice kW bX.length kX, .slice kR cO.length kS]) (t := 44) ?hr ?_; (case hd => rfl); (case hg => rfl); (case hr => first | (go_simp; done) | (go_simp; rfl)); intro bDc hg w4 hbox hb; replace HO0 := xR HO0 hb; have aBj := aZ (hbox); have bLy := aZ ((by rw [hg]; exact (by first | exact HK.out.1 | exact (show Kept w _ (fun k_ => P0_ k_) from by repeat (first | (with_reducible first | exact HK.out | apply Kept.alloc | apply Kept.drewN | apply Kept.drew) | exact HK.out)).1) : w.heap.size ≤ bDc)); replace HK := aZ (Kept.below (S := (fun k_ => P0_ k_)) (by repeat (first | (with_reducible first | exact HK.out | apply Kept.alloc | apply Kept.drewN | apply Kept.drew) | exact HK.out)) hb); have cUp := aZ ((by rw [hg]; exact (lZ (by repeat (first | (with_reducible first | exact HB.out | apply lA | apply lN | apply lD) | exact HB.out))) : w0.heap.size ≤ bDc)); replace HB := xhl HB hb; clear hb hbox hg; have dKs : w4.cell? ⟨bDc, 0, none⟩ = some (.int .i64 dH) := (blk_cell aBj.out 0).trans rfl; have eM9 : w4.cell? ⟨bDc, 1, none⟩ = some (.slice kW bX.length kX) := (blk_cell aBj.out 1).trans rfl; have eNa : w4.cell? ⟨bDc, 2, none⟩ = some (.slice kR cO.length kS) := (blk_cell aBj.out 2).trans rfl; have eD8 := blk_frozen aBj.out 0; have eNb := blk_frozen aBj.out 1; have eNc := blk_frozen aBj.out 2) | ((with_reducible refine gate_dst (N := 24) rfl ?_); refine Kd.R_lit (Kd.int .u8) _ 5 ?hg (N := 24) ?hd (xs := ([(dH) % 256, ((bX.length : Int)) % 256, ((cO.length : Int) / 256) % 256, ((cO.length : Int)) % 256] : List Int)) (inner := [.int .u8 ((dH) % 256), .int .u8 (((bX.length : Int)) % 256), .int .u8 (((cO.length : Int) / 256) % 256), .int .u8 (((cO.length : Int)) % 256)]) (ok := fun _ => True) (okp := fun _ => True) ?hr ?hp (fun _ hk => hk) trivial (Below.refl _ _) (Nat.le_refl _) (by simp) ?_; (case hd => rfl); (case hg => rfl); (case hr => first | (go_simp; done) | (go_simp; rfl)); (case hp => exact (Reps.one (show Kd.M (Kd.int .u8) _ _ _ ((dH) % 256) [.int .u8 ((dH) % 256)] from rfl) (Reps.one (show Kd.M (Kd.int .u8) _ _ _ (((bX.length : Int)) % 256) [.int .u8 (((bX.length : Int)) % 256)] from rfl) (Reps.one (show Kd.M (Kd.int .u8) _ _ _ (((cO.length : Int) / 256) % 256) [.int .u8 (((cO.length : Int) / 256) % 256)] from rfl) (Reps.one (show Kd.M (Kd.int .u8) _ _ _ (((cO.length : Int)) % 256) [.int .u8 (((cO.length : Int)) % 256)] from rfl) (Reps.none _ _)))))); intro iK1 w6 ho7 hb hg_ hnew_; clear hg_ hnew_; (first | rw [← fC2.out] at ho7 | (simp only [Int.reduceToNat] at ho7; rw [← fC2.out] at ho7)); have dH4 := aZ (Kd.R_lower (Kd.R_new' (Kd.R_newM (M := fun k_ => (P0_ k_ ∨ w.heap.size ≤ k_)) ho7 (by first | exact HK.out.1 | exact (show Kept w _ (fun k_ => P0_ k_) from by repeat (first | (with_reducible first | exact HK.out | apply Kept.alloc | apply Kept.drewN | apply Kept.drew | refine Kept.setCell ?_ (.inr bLy.out) _) | exact HK.out)).1) (fun k_ h_ => .inr h_)) (Kd.R_lt (by (with_reducible repeat (first | apply Kd.rA | apply Kd.rN | apply Kd.rD)); exact HO0.out))) (lZ (by repeat (first | (with_reducible first | exact HB.out | apply lA | apply lN | apply lD | refine lS ?_ cUp.out) | exact HB.out)))); replace HO0 := aZ (Kd.R_elder' (by (with_reducible repeat (first | apply Kd.rA | apply Kd.rN | apply Kd.rD)); exact HO0.out) (Kd.R_base ho7) hb); replace aBj := xbb aBj hb; replace HK := aZ (Kept.below (S := (fun k_ => P0_ k_)) (by repeat (first | (with_reducible first | exact HK.out | apply Kept.alloc | apply Kept.drewN | apply Kept.drew | refine Kept.setCell ?_ (.inr bLy.out) _) | exact HK.out)) hb); replace HB := xhl HB hb; clear hb ho7; obtain ⟨Ao9, co9, eo9⟩ := Kd.R_slice dH4.out; subst eo9) | ((with_reducible refine gate_builtin (b := .append) (xs := #[.tmp 7, .tmp 24]) rfl ?_); at_builtin; refine Kd.R_append_rows (Kd.int .u8) (w0 := w0) w0.heap.size rfl (.tmp 7) (.tmp 24) 26 5 (.int .u8 0) 1 rfl Try.underlying26 aFk rfl (by decide) (by omega) bN6 l0 cI8 _ _ _ (fun k_ => (P0_ k_ ∨ w.heap.size ≤ k_) ∧ some k_ ≠ (.slice Ao9 cI8.length co9 : Value).ownBlock) (fun _ => False) rfl rfl ?aO ?aR (fun _ _ h => h) (fun _ h => h.elim) ?aF ?aB ?aS ?aL ?_; (case aR => repeat (first | exact (Kd.R_reads' dH4.out).2.2 | (with_reducible refine Kd.C_alloc ?_ _) | (with_reducible refine Kd.C_drewN ?_ _) | (with_reducible refine Kd.C_drew ?_))); (case aB => exact (by repeat (first | (with_reducible first | exact HB.out | apply lA | apply lN | apply lD | refine lS ?_ cUp.out) | exact HB.out))); (case aF => exact (fun k_ hk => ⟨(.inr (Nat.le_trans (by first | exact HK.out.1 | exact (show Kept w _ (fun k_ => P0_ k_) from by repeat (first | (with_reducible first | exact HK.out | apply Kept.alloc | apply Kept.drewN | apply Kept.drew | refine Kept.setCell ?_ (.inr bLy.out) _) | exact HK.out)).1) hk)), Kd.fresh' (Kd.R_lt (by (with_reducible repeat (first | apply Kd.rA | apply Kd.rN | apply Kd.rD)); exact dH4.out)) k_ hk⟩)); (case aO => exact (by (with_reducible repeat (first | apply Kd.rA | apply Kd.rN | apply Kd.rD)); exact HO0.out)); (case aS => exact (lZ (by repeat (first | (with_reducible first | exact HB.out | apply lA | apply lN | apply lD | refine lS ?_ cUp.out) | exact HB.out)))); (case aL => have := hXd.out; omega); intro iK2 w8 ho hb hg hat; rw [← gMb.out] at ho; replace aBj := aZ (blk_grown (g := bDc) (o := .cells #[.int .i64 dH, .slice kW bX.length kX, .slice kR cO.length kS] 44 (0, 0)) (xkq aBj) hg (Kd.R_ne HO0.out aBj.out (by decide))); replace dH4 := aZ (Kd.R_after (ok := (fun k_ => (P0_ k_ ∨ w.heap.size ≤ k_))) (by (with_reducible repeat (first | apply Kd.rA | apply Kd.rN | apply Kd.rD)); exact Kd.R_mono dH4.out (fun _ hk => ⟨hk.1.1, hk.2⟩)) hg hat); replace HB := aZ (hb); replace HK := aZ (Kept.of_grown (S := (fun k_ => P0_ k_)) hg (by repeat (first | (with_reducible first | exact HK.out | apply Kept.alloc | apply Kept.drewN | apply Kept.drew | refine Kept.setCell ?_ (.inr bLy.out) _) | exact HK.out)) (fun k_ e_ => (HO0.out.1 k_ e_).1)); have gMc := aZ (ho); clear HO0; clear ho hb hg hat; have aA3 : w8.cell? ⟨bDc, 0, none⟩ = some (.int .i64 dH) := (blk_cell aBj.out 0).trans rfl; have bIv : w8.cell? ⟨bDc, 1, none⟩ = some (.slice kW bX.length kX) := (blk_cell aBj.out 1).trans rfl; have bPl : w8.cell? ⟨bDc, 2, none⟩ = some (.slice kR cO.length kS) := (blk_cell aBj.out 2).trans rfl; have aA4 := blk_frozen aBj.out 0; have bIw := blk_frozen aBj.out 1; have bPm := blk_frozen aBj.out 2))
  go_loopg [0, 29] k (fun kq v0 v29 w' => ∃ (aF1 : List Int) (aV6 : Int), v29 = .int .i64 aV6 ∧ Aside0 (pack_entry.l0 kq aF1 bX (bX.length : Int) aV6 dH bX cO = some r) ∧ Aside0 (kq ≤ k) ∧ Aside0 (Kd.R (Kd.int .u8) 5 w' w0.heap.size (fun k_ => (P0_ k_ ∨ w.heap.size ≤ k_)) v0 aF1) ∧ Aside0 (w'.heap[bDc]? = some (.cells #[.int .i64 dH, (.slice kW bX.length kX), (.slice kR cO.length kS)] 44 (0, 0))) ∧ Aside0 (Kept w w' (fun k_ => P0_ k_)) ∧ Aside0 (Below w0.heap.size w0 w'))
  case atStart => exact ⟨(gMa), (0), xrs, H', ⟨Nat.le_refl _⟩, ⟨by (with_reducible repeat (first | apply Kd.rA | apply Kd.rN | apply Kd.rD)); exact Kd.R_mono gMc.out (fun _ hk => hk.1)⟩, xk aBj, ⟨by repeat (first | (with_reducible first | exact HK.out | apply Kept.alloc | apply Kept.drewN | apply Kept.drew | refine Kept.setCell ?_ (.inr bLy.out) _) | exact HK.out)⟩, xb HB⟩
  case round =>
   clear H'
   (try clear c3); (try clear aA3); (try clear bIv); (try clear bPl); (try clear dKs); (try clear eM9); (try clear eNa); (try clear aA4); (try clear bIw); (try clear bPm); (try clear eD8); (try clear eNb); (try clear eNc)
   obtain ⟨aF1, aV6, rfl, HA, yS, bU3, aBj, HK, HB⟩ := hrel
   cases gk with
   | zero => exact absurd HA.out (by simp [pack_entry.l0])
   | succ k1 =>
    have H := HA.out
    clear HA
    simp only [pack_entry.l0] at H
    by_cases c11 : aV6 < (bX.length : Int)
    rotate_left
    · rw [if_neg c11] at H
      have cG6 : decide (aV6 < (bX.length : Int)) = false := decide_eq_false c11
      clear c11
      by_cases c17 : aF1.length + cO.length < 140737488355328
      rotate_left
      · rw [if_neg c17] at H
        exact absurd H (by simp)
      rw [if_pos c17] at H
      have gMd := aZ c17
      clear c17
      obtain ⟨hXe, dH5⟩ : ∃ y_ : List Int, y_ = (aF1 ++ cO) := ⟨_, rfl⟩
      replace H : (some hXe) = some r := by first | (rw [dH5]; with_reducible exact H) | (have qY := (Option.bind_some _ _).symm.trans H; rw [dH5]; with_reducible exact qY) | (have qY := (Option.bind_some _ _).symm.trans H; with_reducible exact qY) | with_reducible exact H | (rw [dH5]; exact H) | exact H
      have gMe := aZ dH5
      clear dH5
      obtain rfl := Option.some.inj H
      have bI2 : wr.cell? ⟨bDc, 0, none⟩ = some (.int .i64 dH) := (blk_cell aBj.out 0).trans rfl
      have cKh : wr.cell? ⟨bDc, 1, none⟩ = some (.slice kW bX.length kX) := (blk_cell aBj.out 1).trans rfl
      have cV1 : wr.cell? ⟨bDc, 2, none⟩ = some (.slice kR cO.length kS) := (blk_cell aBj.out 2).trans rfl
      have bI3 := blk_frozen aBj.out 0
      have cKi := blk_frozen aBj.out 1
      have cV2 := blk_frozen aBj.out 2
      go_wp2_with (first | ((with_reducible refine gate_builtin (b := .append) (xs := #[.tmp 37, .tmp 39]) rfl ?_); at_builtin; refine Kd.R_append_rows (Kd.int .u8) (w0 := w0) w0.heap.size rfl (.tmp 37) (.tmp 39) 26 5 (.int .u8 0) 1 rfl Try.underlying26 aFk rfl (by decide) (by omega) u0 aF1 cO _ _ _ (fun k_ => (P0_ k_ ∨ w.heap.size ≤ k_)) (fun _ => False) rfl rfl ?aO ?aR (fun _ _ h => h) (fun _ h => h.elim) ?aF ?aB ?aS ?aL ?_; (case aR => exact Kd.C_kept_now aD9.out (by repeat (first | (with_reducible first | exact HK.out | apply Kept.alloc | apply Kept.drewN | apply Kept.drew | refine Kept.setCell ?_ (.inr bLy.out) _) | exact HK.out))); (case aB => exact (by repeat (first | (with_reducible first | exact HB.out | apply lA | apply lN | apply lD | refine lS ?_ cUp.out) | exact HB.out))); (case aF => exact (fun k_ hk => (.inr (Nat.le_trans (by first | exact HK.out.1 | exact (show Kept w _ (fun k_ => P0_ k_) from by repeat (first | (with_reducible first | exact HK.out | apply Kept.alloc | apply Kept.drewN | apply Kept.drew | refine Kept.setCell ?_ (.inr bLy.out) _) | exact HK.out)).1) hk)))); (case aO => exact (by (with_reducible repeat (first | apply Kd.rA | apply Kd.rN | apply Kd.rD)); exact bU3.out)); (case aS => exact (lZ (by repeat (first | (with_reducible first | exact HB.out | apply lA | apply lN | apply lD | refine lS ?_ cUp.out) | exact HB.out)))); (case aL => have := gMd.out; omega); intro iK4 w19 ho hb hg hat; rw [← gMe.out] at ho; replace aBj := aZ (blk_grown (g := bDc) (o := .cells #[.int .i64 dH, .slice kW bX.length kX, .slice kR cO.length kS] 44 (0, 0)) (xkq aBj) hg (Kd.R_ne bU3.out aBj.out (by decide))); replace HB := aZ (hb); replace HK := aZ (Kept.of_grown (S := (fun k_ => P0_ k_)) hg (by repeat (first | (with_reducible first | exact HK.out | apply Kept.alloc | apply Kept.drewN | apply Kept.drew | refine Kept.setCell ?_ (.inr bLy.out) _) | exact HK.out)) (fun k_ e_ => (bU3.out.1 k_ e_))); have gMf := aZ (ho); clear bU3; clear ho hb hg hat))
      go_ret
      exact ⟨_, xre, by (with_reducible repeat (first | apply Kd.rA | apply Kd.rN | apply Kd.rD)); exact gMf.out, xq HB, by repeat (first | (with_reducible first | exact HK.out | apply Kept.alloc | apply Kept.drewN | apply Kept.drew | refine Kept.setCell ?_ (.inr bLy.out) _) | exact HK.out)⟩
    rw [if_pos c11] at H
    have cG6 : decide (aV6 < (bX.length : Int)) = true := decide_eq_true c11
    clear c11
    by_cases c12 : 0 ≤ aV6
    rotate_left
    · rw [if_neg c12] at H
      exact absurd H (by simp)
    rw [if_pos c12] at H
    have cS3 : decide (0 ≤ aV6) = true := decide_eq_true c12
    clear c12
    by_cases c13 : aV6 < (bX.length : Int)
    rotate_left
    · rw [if_neg c13] at H
      exact absurd H (by simp)
    rw [if_pos c13] at H
    have bMu : decide (aV6 < (bX.length : Int)) = true := decide_eq_true c13
    clear c13
    replace H := Option.bind_eq_some_iff.mp H
    obtain ⟨eM8, cCi, H⟩ := H
    replace H : (pack_entry.l0 k1 eM8 bX (bX.length : Int) (wrap64 (aV6 + 1)) dH bX cO) = some r := H
    have A14 := aZ cCi
    clear cCi
    have H' := aZ H
    clear H
    have fSo : 0 ≤ (aV6 : Int) := of_decide_eq_true xas
    have fSp : aV6 < (bX.length : Int) := of_decide_eq_true xas
    obtain ⟨iEw, hXf, hEh⟩ := Kd.at_int (Kd.C_kept_now aDm.out HK.out) aV6 fSo fSp
    cases hXf
    replace fSo := eq_true fSo
    replace fSp := eq_true fSp
    obtain ⟨aSk, aN0, cQo⟩ := Kd.R_slice bU3.out
    subst cQo
    go_wp2_with (first | ((with_reducible refine gate_callee (f := 41) rfl ?_); refine goesL_ (some 35) rfl rfl Try.func41 (by kernel_rfl) rfl #[.slice aSk aF1.length aN0, .int .i64 (rd bX aV6)] rfl xmp ?_; (with_reducible refine (pack_number.calls k1 (fun k_ => some k_ = (.slice aSk aF1.length aN0 : Value).ownBlock) (.slice aSk aF1.length aN0) aF1 (rd bX aV6) eM8 w0 _ ?side1 ?side2 A14.out).mono ?_); (case side1 => repeat (first | (with_reducible first | exact HB.out | apply lA | apply lN | apply lD | refine lS ?_ cUp.out) | exact HB.out)); (case side2 => exact Kd.R_tight rfl bU3.out); rintro e w16 ⟨iK5, rfl, gZ, hb, hkp⟩; refine ⟨_, rfl, ?_⟩; replace aBj := aZ (blk_kept (xkq aBj) hkp (fun hs_ => (fun e_ => (Kd.R_ne bU3.out aBj.out (by decide)) e_) hs_)); have gMg := aZ (Kd.R_mono (ok' := fun k_ => (P0_ k_ ∨ w.heap.size ≤ k_)) gZ (fun k_ hk_ => Or.elim hk_ (fun hs_ => (bU3.out.1 k_ (hs_).symm)) (fun hn_ => (.inr (Nat.le_trans (by first | exact HK.out.1 | exact (show Kept w _ (fun k_ => P0_ k_) from by repeat (first | (with_reducible first | exact HK.out | apply Kept.alloc | apply Kept.drewN | apply Kept.drew | refine Kept.setCell ?_ (.inr bLy.out) _) | exact HK.out)).1) hn_))))); replace HK := aZ (Kept.then_ (S := (fun k_ => P0_ k_)) (by repeat (first | (with_reducible first | exact HK.out | apply Kept.alloc | apply Kept.drewN | apply Kept.drew | refine Kept.setCell ?_ (.inr bLy.out) _) | exact HK.out)) hkp (fun k_ hs_ => (fun e_ => (bU3.out.1 k_ e_.symm)) hs_)); replace HB := aZ (hb); clear bU3; (try clear hb); (try clear hkp); (try clear gZ)))
    go_roundg k1
    case measure => have := yS.out; omega
    case rel => exact ⟨(eM8), (wrap64 (aV6 + 1)), xrs, H', ⟨by have := yS.out; omega⟩, ⟨by (with_reducible repeat (first | apply Kd.rA | apply Kd.rN | apply Kd.rD)); exact gMg.out⟩, xk aBj, ⟨by repeat (first | (with_reducible first | exact HK.out | apply Kept.alloc | apply Kept.drewN | apply Kept.drew | refine Kept.setCell ?_ (.inr bLy.out) _) | exact HK.out)⟩, xb HB⟩
section
attribute [local go_sem high] bAt
def pack_Build.l0 : Nat → List Int → List (fB) → Int → Int → Option (List Int × Int × Int)
  | 0, _, _, _, _ => none
  | k + 1, x5, x22, x23, x24 => if x24 < x23 then (if 0 ≤ x24 then (if x24 < (x22.length : Int) then ((pack_entry.f k x5 ((aA x22 x24).f1.f0) ((aA x22 x24).f1.f1) ((aA x22 x24).f1.f2)).bind fun eM2 => (pack_Build.l0 k eM2 x22 x23 (wrap64 (x24 + 1)))) else (none)) else (none)) else (if (x5.length : Int) > 4088 then (some (([] : List Int), 10, (-1))) else ((digest_Of.f k x5).bind fun gLw => ((pack_number.f k x5 gLw.1).bind fun eAf => (some (eAf, 0, 0)))))
def pack_Build.f (k : Nat) (aD : List (fB)) : Option (List Int × Int × Int) := (objects_Validate.f k aD).bind fun cA0 => (if (!(cA0.1 == 0) || (!(cA0.2 == 0))) = true then (some (([] : List Int), cA0.1, cA0.2)) else (pack_Build.l0 k (([80, 75, ((aD.length : Int)) % 256] : List Int)) aD (aD.length : Int) 0))
theorem pack_Build.mono_l : ∀ k, (∀ y0 y1 y2 y3, LeO (pack_Build.l0 k y0 y1 y2 y3) (pack_Build.l0 (k + 1) y0 y1 y2 y3))
  | 0 => fun _ _ _ _ r h => by simp [pack_Build.l0] at h
  | k + 1 => by
    have mU := pack_Build.mono_l k
    · intro y0 y1 y2 y3
      unfold pack_Build.l0
      repeat' first | (with_reducible first | exact mU _ _ _ _ | exact digest_Of.mono _ _ | exact objects_Validate.mono _ _ | exact pack_entry.mono _ _ _ _ _ | exact pack_number.mono _ _ _ | exact LeO.refl _ | exact LeO.none _ | refine LeO.ite ?_ ?_ | refine LeO.bind ?_ (fun _ => ?_)) | exact mU _ _ _ _ | exact digest_Of.mono _ _ | exact objects_Validate.mono _ _ | exact pack_entry.mono _ _ _ _ _ | exact pack_number.mono _ _ _ | exact LeO.none _ | refine LeO.ite ?_ ?_ | refine LeO.bind ?_ (fun _ => ?_)
theorem pack_Build.mono : ∀ a0 k, LeO (pack_Build.f k a0) (pack_Build.f (k + 1) a0) := by
  intro a0 k
  have mU := pack_Build.mono_l k
  unfold pack_Build.f
  repeat' first | (with_reducible first | exact mU _ _ _ _ | exact digest_Of.mono _ _ | exact objects_Validate.mono _ _ | exact pack_entry.mono _ _ _ _ _ | exact pack_number.mono _ _ _ | exact LeO.refl _ | exact LeO.none _ | refine LeO.ite ?_ ?_ | refine LeO.bind ?_ (fun _ => ?_)) | exact mU _ _ _ _ | exact digest_Of.mono _ _ | exact objects_Validate.mono _ _ | exact pack_entry.mono _ _ _ _ _ | exact pack_number.mono _ _ _ | exact LeO.none _ | refine LeO.ite ?_ ?_ | refine LeO.bind ?_ (fun _ => ?_)
set_option maxHeartbeats 8000000 in
set_option maxRecDepth 100000 in
theorem pack_Build.calls (k : Nat) (bP : Option Addr) (bK : Nat) (aD : List (fB)) (r1 : List Int) (r2 : Int) (r3 : Int) (w : World) (mZ : Kd.C qL w bP aD.length aD) (nA : aD.length ≤ bK) (h : pack_Build.f k aD = some (r1, r2, r3)) :
  Calls Try.prog 15 #[.agg #[.slice bP aD.length bK]] w fun e w' => ∃ v0_ : Value, e = .returned (.tuple #[v0_, .agg #[.int .i64 r2, .int .i64 r3]]) ∧ Kd.R (Kd.int .u8) 5 w' w.heap.size (fun _ => True) v0_ r1 ∧ Below w.heap.size w w' := by
  have aP7 := Try.underlying24
  have aQg := Try.underlying28
  have cRq := Try.underlying46
  have aQf := Try.underlying44
  have fI := aZ mZ
  have lC := aZ nA
  clear mZ nA
  have HB := aZ (Below.refl w.heap.size w)
  have H : ((objects_Validate.f k aD).bind fun cA0 => (if (!(cA0.1 == 0) || (!(cA0.2 == 0))) = true then (some (([] : List Int), cA0.1, cA0.2)) else (pack_Build.l0 k (([80, 75, ((aD.length : Int)) % 256] : List Int)) aD (aD.length : Int) 0))) = some (r1, r2, r3) := h
  clear h
  replace H := Option.bind_eq_some_iff.mp H
  obtain ⟨⟨bHh, bN4⟩, A20, H⟩ := H
  replace H : (if (!(bHh == 0) || (!(bN4 == 0))) = true then (some (([] : List Int), bHh, bN4)) else (pack_Build.l0 k (([80, 75, ((aD.length : Int)) % 256] : List Int)) aD (aD.length : Int) 0)) = some (r1, r2, r3) := H
  have A2 := aZ A20
  clear A20
  by_cases c3 : (!(bHh == 0) || (!(bN4 == 0))) = true
  · rw [if_pos c3] at H
    have aNk : (!(bHh == 0) || (!(bN4 == 0))) = true := c3
    clear c3
    simp only [Option.some.injEq, Prod.mk.injEq] at H
    obtain ⟨rfl, rfl, rfl⟩ := H
    go_enter Try.func15, Try.ntmps15
    try go_wp2_with (first | ((with_reducible refine gate_dst (N := 1) rfl ?_); refine box_event ?hg (N := 1) ?hd (cs := #[.slice bP aD.length bK]) (t := 24) ?hr ?_; (case hd => rfl); (case hg => rfl); (case hr => first | (go_simp; done) | (go_simp; rfl)); intro cQk hg w4 hbox hb; have pW := aZ (hbox); have gLx := xgh hg HB; have cH2 := xgh hg HB; replace HB := xhl HB hb; clear hb hbox hg) | ((with_reducible refine gate_dst (N := 3) rfl ?_); refine box_event ?hg (N := 3) ?hd (cs := #[.int .i64 0, .int .i64 0]) (t := 28) ?hr ?_; (case hd => rfl); (case hg => rfl); (case hr => first | (go_simp; done) | (go_simp; rfl)); intro aSv hg w5 hbox hb; have pX := aZ (hbox); have gLy := xgh hg HB; have cH3 := xgh hg HB; replace HB := xhl HB hb; have aU2 := xnl hg pW; have aU3 := xng hg pW; replace pW := xbb pW hb; clear hb hbox hg; have eP0 := aU2.out; have eP1 := aU3.out; have bD1 : w5.cell? ⟨cQk, 0, none⟩ = some (.slice bP aD.length bK) := (blk_cell pW.out 0).trans rfl; have bIr := blk_frozen pW.out 0) | ((with_reducible refine gate_callee (f := 32) rfl ?_); refine goesL_ (some 11) rfl rfl Try.func32 (by kernel_rfl) rfl #[.agg #[.slice bP aD.length bK]] rfl xmp ?_; (with_reducible refine (objects_Validate.calls k _ _ aD bHh bN4 _ ?side1 ?side2 A2.out).mono ?_); (case side1 => exact xcb fI HB); (case side2 => exact lC.out); rintro e w8 ⟨rfl, hb⟩; refine ⟨_, rfl, ?_⟩; replace pW := xbb pW hb; replace pX := xbb pX hb; replace HB := xhl HB hb; skip; (try clear hb); (try clear iV); (try clear hk); (try clear hi)) | ((with_reducible refine gate_dst (N := 4) rfl ?_); refine box_event ?hg (N := 4) ?hd (cs := #[.int .i64 0, .int .i64 0]) (t := 28) ?hr ?_; (case hd => rfl); (case hg => rfl); (case hr => first | (go_simp; done) | (go_simp; rfl)); intro aPg hg w9 hbox hb; have wL := aZ (hbox); have gLz := xgh hg HB; have cH4 := xgh hg HB; replace HB := xhl HB hb; have cF7 := xnl hg pW; have cF8 := xng hg pW; replace pW := xbb pW hb; have aU4 := xnl hg pX; have aE5 := xng hg pX; replace pX := xbb pX hb; clear hb hbox hg; have dDc := cF8.out; have dDd := cF7.out; have bMj := aE5.out; have bMk := aU4.out; have aHh : w9.cell? ⟨aPg, 0, none⟩ = some (.int .i64 0) := (blk_cell wL.out 0).trans rfl; have cVk : w9.cell? ⟨aPg, 1, none⟩ = some (.int .i64 0) := (blk_cell wL.out 1).trans rfl; have aHi := blk_frozen wL.out 0; have cVl := blk_frozen wL.out 1))
    replace pW : Aside0 (((w9.setCell ⟨aPg, 0, none⟩ (.int .i64 bHh)).setCell ⟨aPg, 1, none⟩ (.int .i64 bN4)).heap[cQk]? = some (.cells #[.slice bP aD.length bK] 24 (0, 0))) := xk pW
    replace pX : Aside0 (((w9.setCell ⟨aPg, 0, none⟩ (.int .i64 bHh)).setCell ⟨aPg, 1, none⟩ (.int .i64 bN4)).heap[aSv]? = some (.cells #[.int .i64 0, .int .i64 0] 28 (0, 0))) := xk pX
    replace wL : Aside0 (((w9.setCell ⟨aPg, 0, none⟩ (.int .i64 bHh)).setCell ⟨aPg, 1, none⟩ (.int .i64 bN4)).heap[aPg]? = some (.cells #[.int .i64 bHh, .int .i64 bN4] 28 (0, 0))) := ⟨by (with_reducible repeat (first | refine bN ?_ _ | refine bD ?_ | refine bA ?_ _)); refine blk_put (cs := #[.int .i64 bHh, .int .i64 0]) ?_ 1 _ rfl; (with_reducible repeat (first | refine bN ?_ _ | refine bD ?_ | refine bA ?_ _)); refine blk_put (cs := #[.int .i64 0, .int .i64 0]) ?_ 0 _ rfl; (with_reducible repeat (first | refine bN ?_ _ | refine bD ?_ | refine bA ?_ _)); exact wL.out⟩
    replace HB : Aside0 (Below w.heap.size w ((w9.setCell ⟨aPg, 0, none⟩ (.int .i64 bHh)).setCell ⟨aPg, 1, none⟩ (.int .i64 bN4))) := xb HB
    generalize ((w9.setCell ⟨aPg, 0, none⟩ (.int .i64 bHh)).setCell ⟨aPg, 1, none⟩ (.int .i64 bN4)) = w13 at pW pX wL HB ⊢
    replace pW := aZ (bD pW.out)
    replace pX := aZ (bD pX.out)
    replace wL := aZ (bD wL.out)
    replace HB := aZ (lD HB.out)
    refine start_ (n := 3) (S := fun w' => w'.cell? ⟨aPg, 0, none⟩ = some (.int .i64 bHh) ∧ w'.cell? ⟨aPg, 1, none⟩ = some (.int .i64 bN4)) (ds := []) #[false, false, false] (by kernel_rfl) rfl rfl ⟨(blk_cell wL.out 0).trans rfl, (blk_cell wL.out 1).trans rfl⟩ (fun hHeld => ?_)
    generalize w13.drew = w14 at pW pX wL HB hHeld ⊢
    refine pure_ (i := 1) (N := some 2) (v := ?_) (a' := ?_) #[false, true, false] rfl rfl (by kernel_rfl) (fun _ _ _ h => h) (Or.inl ⟨by rfl, ?_⟩) ?_ ?_
    rotate_left
    · intro w'
      go_simp
      with_reducible rfl
    rotate_left
    · simp only [Act.put, List.setIfInBounds_toArray, List.set_cons_zero, List.set_cons_succ, i64_w, i32_w]
      rfl
    refine take_ (i := 0) (N := some 15) (v := ?_) (a' := ?_) #[true, true, false] rfl rfl (by kernel_rfl) (fun _ _ _ h => h) (Or.inl ⟨by rfl, ?_⟩) hHeld ?_ ?_
    rotate_left
    · rintro w' ⟨s0, s1⟩
      go_simp
      with_reducible rfl
    rotate_left
    · simp only [Act.put, List.setIfInBounds_toArray, List.set_cons_zero, List.set_cons_succ, i64_w, i32_w]
      rfl
    refine one_ (i := 2) (N := none) #[true, true, true] rfl rfl (by kernel_rfl) (by decide) (fun K hK => ?_)
    have fVy : w14.cell? ⟨aSv, 0, none⟩ = some (.int .i64 0) := (blk_cell pX.out 0).trans rfl
    have eZ0 := blk_frozen pX.out 0
    have eP2 := aU2.out
    have dPb := aE5.out
    have eP3 := aU3.out
    have dPc := aU4.out
    have fFe : w14.cell? ⟨aSv, 1, none⟩ = some (.int .i64 0) := (blk_cell pX.out 1).trans rfl
    have eBz := blk_frozen pX.out 1
    have dPd := aU2.out
    have cVm := aE5.out
    have dPe := aU3.out
    have cVn := aU4.out
    refine skip_ (w1 := ?_) (by rfl) rfl ?_ ?_
    rotate_left
    · go_simp
      rfl
    refine hK.out _ _ ⟨((cell_far (p := ⟨aSv, _, none⟩) aE5.out _).trans (((cell_far (p := ⟨aSv, _, none⟩) aE5.out _).trans (hHeld.1)))), ((cell_far (p := ⟨aSv, _, none⟩) aE5.out _).trans (((cell_far (p := ⟨aSv, _, none⟩) aE5.out _).trans (hHeld.2))))⟩ (fun hHeld => ?_)
    clear hK K
    refine done_ (by kernel_rfl) ?_
    try go_wp2
    refine bodyPost_ret (results_tc rfl _ _ aSv 28 #[.int .i64 bHh, .int .i64 bN4] (0, 0) _ rfl (by (with_reducible repeat (first | refine bN ?_ _ | refine bD ?_ | refine bA ?_ _)); refine blk_put (cs := #[.int .i64 bHh, .int .i64 0]) ?_ 1 _ rfl; (with_reducible repeat (first | refine bN ?_ _ | refine bD ?_ | refine bA ?_ _)); refine blk_put (cs := #[.int .i64 0, .int .i64 0]) ?_ 0 _ rfl; (with_reducible repeat (first | refine bN ?_ _ | refine bD ?_ | refine bA ?_ _)); exact pX.out) Try.underlying28 rfl (by kernel_rfl)) rfl ?_
    exact ⟨_, xre, by first | exact Kd.R_nil _ _ _ _ _ | exact Kd.N_nil _ _ _ _ _ | exact Kd.V_nil _ _ _ _ _ | exact Kd.Q_nil _ _ _ _ _ | exact Kd.S_nil _ _ _ _ _, xq HB⟩
  rw [if_neg c3] at H
  have aNk : (!(bHh == 0) || (!(bN4 == 0))) = false := by simpa using c3
  clear c3
  obtain ⟨gL0, dH0⟩ : ∃ y_ : List Int, y_ = (([80, 75, ((aD.length : Int)) % 256] : List Int)) := ⟨_, rfl⟩
  replace H : (pack_Build.l0 k gL0 aD (aD.length : Int) 0) = some (r1, r2, r3) := by first | (rw [dH0]; with_reducible exact H) | (have qY := (Option.bind_some _ _).symm.trans H; rw [dH0]; with_reducible exact qY) | (have qY := (Option.bind_some _ _).symm.trans H; with_reducible exact qY) | with_reducible exact H | (rw [dH0]; exact H) | exact H
  have fC0 := aZ dH0
  clear dH0
  have H' := aZ H
  clear H
  go_enter Try.func15, Try.ntmps15
  go_wp2_with (first | ((with_reducible refine gate_dst (N := 1) rfl ?_); refine box_event ?hg (N := 1) ?hd (cs := #[.slice bP aD.length bK]) (t := 24) ?hr ?_; (case hd => rfl); (case hg => rfl); (case hr => first | (go_simp; done) | (go_simp; rfl)); intro cQk hg w17 hbox hb; have pW := aZ (hbox); have gLx := xgh hg HB; have cH2 := xgh hg HB; replace HB := xhl HB hb; clear hb hbox hg) | ((with_reducible refine gate_dst (N := 3) rfl ?_); refine box_event ?hg (N := 3) ?hd (cs := #[.int .i64 0, .int .i64 0]) (t := 28) ?hr ?_; (case hd => rfl); (case hg => rfl); (case hr => first | (go_simp; done) | (go_simp; rfl)); intro aSv hg w18 hbox hb; have pX := aZ (hbox); have gLy := xgh hg HB; have cH3 := xgh hg HB; replace HB := xhl HB hb; have aU2 := xnl hg pW; have aU3 := xng hg pW; replace pW := xbb pW hb; clear hb hbox hg; have bMh := aU2.out; have bMi := aU3.out; have aJw : w18.cell? ⟨cQk, 0, none⟩ = some (.slice bP aD.length bK) := (blk_cell pW.out 0).trans rfl; have aJx := blk_frozen pW.out 0) | ((with_reducible refine gate_callee (f := 32) rfl ?_); refine goesL_ (some 11) rfl rfl Try.func32 (by kernel_rfl) rfl #[.agg #[.slice bP aD.length bK]] rfl xmp ?_; (with_reducible refine (objects_Validate.calls k _ _ aD bHh bN4 _ ?side1 ?side2 A2.out).mono ?_); (case side1 => exact xcb fI HB); (case side2 => exact lC.out); rintro e w21 ⟨rfl, hb⟩; refine ⟨_, rfl, ?_⟩; replace pW := xbb pW hb; replace pX := xbb pX hb; replace HB := xhl HB hb; skip; (try clear hb); (try clear iV); (try clear hk); (try clear hi)) | ((with_reducible refine gate_dst (N := 4) rfl ?_); refine box_event ?hg (N := 4) ?hd (cs := #[.int .i64 0, .int .i64 0]) (t := 28) ?hr ?_; (case hd => rfl); (case hg => rfl); (case hr => first | (go_simp; done) | (go_simp; rfl)); intro aPg hg w22 hbox hb; have wL := aZ (hbox); have gLz := xgh hg HB; have cH4 := xgh hg HB; replace HB := xhl HB hb; have cF7 := xnl hg pW; have cF8 := xng hg pW; replace pW := xbb pW hb; have aU4 := xnl hg pX; have aE5 := xng hg pX; replace pX := xbb pX hb; clear hb hbox hg; have bMl := cF8.out; have bMm := cF7.out; have cG3 := aE5.out; have cG4 := aU4.out; have bPi : w22.cell? ⟨aPg, 0, none⟩ = some (.int .i64 0) := (blk_cell wL.out 0).trans rfl; have cJz : w22.cell? ⟨aPg, 1, none⟩ = some (.int .i64 0) := (blk_cell wL.out 1).trans rfl; have bPj := blk_frozen wL.out 0; have cJ0 := blk_frozen wL.out 1; have aN4 : w22.cell? ⟨cQk, 0, none⟩ = some (.slice bP aD.length bK) := (blk_cell pW.out 0).trans rfl; have aN5 := blk_frozen pW.out 0) | ((with_reducible refine gate_dst (N := 20) rfl ?_); refine Kd.R_lit (Kd.int .u8) _ 5 ?hg (N := 20) ?hd (xs := ([80, 75, ((aD.length : Int)) % 256] : List Int)) (inner := [.int .u8 80, .int .u8 75, .int .u8 (((aD.length : Int)) % 256)]) (ok := fun _ => True) (okp := fun _ => True) ?hr ?hp (fun _ hk => hk) trivial (Below.refl _ _) (Nat.le_refl _) (by simp) ?_; (case hd => rfl); (case hg => rfl); (case hr => first | (go_simp; done) | (go_simp; rfl)); (case hp => exact (Reps.one (show Kd.M (Kd.int .u8) _ _ _ 80 [.int .u8 80] from rfl) (Reps.one (show Kd.M (Kd.int .u8) _ _ _ 75 [.int .u8 75] from rfl) (Reps.one (show Kd.M (Kd.int .u8) _ _ _ (((aD.length : Int)) % 256) [.int .u8 (((aD.length : Int)) % 256)] from rfl) (Reps.none _ _))))); intro iKw w27 cMg hb hg_ hnew_; clear hg_ hnew_; (first | rw [← fC0.out] at cMg | (simp only [Int.reduceToNat] at cMg; rw [← fC0.out] at cMg)); have gL1 := aZ (Kd.R_lower cMg (lZ (by repeat (first | (with_reducible first | exact HB.out | apply lA | apply lN | apply lD | refine lS ?_ cH2.out | refine lS ?_ cH3.out | refine lS ?_ cH4.out) | exact HB.out)))); replace pW := xbb pW hb; replace pX := xbb pX hb; replace wL := aZ (blk_below (g := aPg) (o := .cells #[.int .i64 bHh, .int .i64 bN4] 28 (0, 0)) (by (with_reducible repeat (first | refine bN ?_ _ | refine bD ?_ | refine bA ?_ _)); refine blk_put (cs := #[.int .i64 bHh, .int .i64 0]) ?_ 1 _ rfl; (with_reducible repeat (first | refine bN ?_ _ | refine bD ?_ | refine bA ?_ _)); refine blk_put (cs := #[.int .i64 0, .int .i64 0]) ?_ 0 _ rfl; (with_reducible repeat (first | refine bN ?_ _ | refine bD ?_ | refine bA ?_ _)); exact wL.out) hb); replace HB := xhl HB hb; clear hb cMg; have bIs : w27.cell? ⟨cQk, 0, none⟩ = some (.slice bP aD.length bK) := (blk_cell pW.out 0).trans rfl; have bIt := blk_frozen pW.out 0))
  go_loopg [5, 24] k (fun kq v5 v24 w' => ∃ (dC : List Int) (vY : Int), v24 = .int .i64 vY ∧ Aside0 (pack_Build.l0 kq dC aD (aD.length : Int) vY = some (r1, r2, r3)) ∧ Aside0 (kq ≤ k) ∧ Aside0 (Kd.R (Kd.int .u8) 5 w' w.heap.size (fun _ => True) v5 dC) ∧ Aside0 (w'.heap[cQk]? = some (.cells #[(.slice bP aD.length bK)] 24 (0, 0))) ∧ Aside0 (w'.heap[aSv]? = some (.cells #[.int .i64 0, .int .i64 0] 28 (0, 0))) ∧ Aside0 (w'.heap[aPg]? = some (.cells #[.int .i64 bHh, .int .i64 bN4] 28 (0, 0))) ∧ Aside0 (Below w.heap.size w w'))
  case atStart => exact ⟨(gL0), (0), xrs, H', ⟨Nat.le_refl _⟩, ⟨by (with_reducible repeat (first | apply Kd.rA | apply Kd.rN | apply Kd.rD)); exact gL1.out⟩, xk pW, xk pX, xk wL, xb HB⟩
  case round =>
   clear H'
   (try clear c3); (try clear aNk); (try clear aJw); (try clear bPi); (try clear cJz); (try clear aN4); (try clear bIs); (try clear aJx); (try clear bPj); (try clear cJ0); (try clear aN5); (try clear bIt)
   obtain ⟨dC, vY, rfl, HA, yS, gJ, pW, pX, wL, HB⟩ := hrel
   cases gk with
   | zero => exact absurd HA.out (by simp [pack_Build.l0])
   | succ k1 =>
    have H := HA.out
    clear HA
    simp only [pack_Build.l0] at H
    by_cases c30 : vY < (aD.length : Int)
    rotate_left
    · rw [if_neg c30] at H
      have cSg : decide (vY < (aD.length : Int)) = false := decide_eq_false c30
      clear c30
      by_cases c43 : (dC.length : Int) > 4088
      · rw [if_pos c43] at H
        have gL2 : decide (4088 < (dC.length : Int)) = true := decide_eq_true c43
        have gL3 : decide (4088 < dC.length) = true := decide_eq_true (by omega)
        clear c43
        simp only [Option.some.injEq, Prod.mk.injEq] at H
        obtain ⟨rfl, rfl, rfl⟩ := H
        obtain ⟨fV4, fV5, fFi⟩ := Kd.R_slice gJ.out
        subst fFi
        have bLh := aU3.out
        have bLi := aU2.out
        have dDj := aU4.out
        have dDk := aE5.out
        have bIl : wr.cell? ⟨aSv, 0, none⟩ = some (.int .i64 0) := (blk_cell pX.out 0).trans rfl
        have cVc : wr.cell? ⟨aSv, 1, none⟩ = some (.int .i64 0) := (blk_cell pX.out 1).trans rfl
        have bIm := blk_frozen pX.out 0
        have cVd := blk_frozen pX.out 1
        go_wp2
        refine bodyPost_ret (results_tc rfl _ _ aSv 28 #[.int .i64 10, .int .i64 (-1)] (0, 0) _ rfl (by (with_reducible repeat (first | refine bN ?_ _ | refine bD ?_ | refine bA ?_ _)); refine blk_put (cs := #[.int .i64 10, .int .i64 0]) ?_ 1 _ rfl; (with_reducible repeat (first | refine bN ?_ _ | refine bD ?_ | refine bA ?_ _)); refine blk_put (cs := #[.int .i64 0, .int .i64 0]) ?_ 0 _ rfl; (with_reducible repeat (first | refine bN ?_ _ | refine bD ?_ | refine bA ?_ _)); exact pX.out) Try.underlying28 rfl (by kernel_rfl)) rfl ?_
        exact ⟨_, xre, by first | exact Kd.R_nil _ _ _ _ _ | exact Kd.N_nil _ _ _ _ _ | exact Kd.V_nil _ _ _ _ _ | exact Kd.Q_nil _ _ _ _ _ | exact Kd.S_nil _ _ _ _ _, xq HB⟩
      rw [if_neg c43] at H
      have gL2 : decide (4088 < (dC.length : Int)) = false := decide_eq_false c43
      have gL3 : decide (4088 < dC.length) = false := decide_eq_false (by omega)
      clear c43
      replace H := Option.bind_eq_some_iff.mp H
      obtain ⟨⟨eYb, eM3, eYc⟩, cPs, H⟩ := H
      replace H : ((pack_number.f k1 dC eYb).bind fun eAf => (some (eAf, 0, 0))) = some (r1, r2, r3) := H
      have A48 := aZ cPs
      clear cPs
      replace H := Option.bind_eq_some_iff.mp H
      obtain ⟨eAf, eM4, H⟩ := H
      replace H : (some (eAf, 0, 0)) = some (r1, r2, r3) := H
      have A49 := aZ eM4
      clear eM4
      simp only [Option.some.injEq, Prod.mk.injEq] at H
      obtain ⟨rfl, rfl, rfl⟩ := H
      obtain ⟨eM5, eM6, hXa⟩ := Kd.R_slice gJ.out
      subst hXa
      go_wp2_with (first | ((with_reducible refine gate_callee (f := 40) rfl ?_); refine goesL_ (some 39) rfl rfl Try.func40 (by kernel_rfl) rfl #[.slice eM5 dC.length eM6] rfl xmp ?_; (with_reducible refine (digest_Of.calls k1 _ _ dC eYb eM3 eYc _ ?side1 ?side2 A48.out).mono ?_); (case side1 => repeat (first | exact (Kd.R_reads' gJ.out).2.2 | (with_reducible refine Kd.C_alloc ?_ _) | (with_reducible refine Kd.C_drewN ?_ _) | (with_reducible refine Kd.C_drew ?_))); (case side2 => exact (Kd.R_reads' gJ.out).2.1); rintro e w51 ⟨rfl, hb⟩; refine ⟨_, rfl, ?_⟩; replace gJ := xR gJ hb; replace pW := xbb pW hb; replace pX := xbb pX hb; replace wL := xbb wL hb; replace HB := xhl HB hb; (try clear hb); (try clear iV); (try clear hk); (try clear hi)) | ((with_reducible refine gate_dst (N := 9) rfl ?_); refine box_event ?hg (N := 9) ?hd (cs := #[.int .i64 0, .int .i64 0]) (t := 28) ?hr ?_; (case hd => rfl); (case hg => rfl); (case hr => first | (go_simp; done) | (go_simp; rfl)); intro cQl hg w52 hbox hb; replace gJ := xR gJ hb; have bTc := aZ (hbox); have iEp := xgh hg HB; have fC1 := xgh hg HB; replace HB := xhl HB hb; have eAg := xnl hg pW; have eAh := xng hg pW; replace pW := xbb pW hb; have eAi := xnl hg pX; have eAj := xng hg pX; replace pX := xbb pX hb; have eAk := xnl hg wL; have eAl := xng hg wL; replace wL := xbb wL hb; clear hb hbox hg; have bNj := eAh.out; have bNk := eAg.out; have bCg := eAj.out; have bCh := eAi.out; have bNa := eAl.out; have bNb := eAk.out; have bOt : w52.cell? ⟨cQl, 0, none⟩ = some (.int .i64 0) := (blk_cell bTc.out 0).trans rfl; have bOu : w52.cell? ⟨cQl, 1, none⟩ = some (.int .i64 0) := (blk_cell bTc.out 1).trans rfl; have bOv := blk_frozen bTc.out 0; have bOw := blk_frozen bTc.out 1) | ((with_reducible refine gate_store (t := 28) (p := 9) rfl ?_); refine store_event (t := 28) (p := 9) (v := ?vo_w57) (w1 := ((w52.setCell ⟨cQl, 0, none⟩ (.int .i64 eM3)).setCell ⟨cQl, 1, none⟩ (.int .i64 eYc))) ?hg ?ho ?hn ?hr ?_; (case ho => rfl); (case hg => rfl); (case hn => rfl); (case hr => first | (go_simp; done) | (go_simp; rfl)); intro w57 hw; replace gJ : Aside0 (Kd.R (Kd.int .u8) 5 w57 w.heap.size (fun _ => True) (.slice eM5 dC.length eM6) dC) := ⟨(by rw [hw]; exact (by (with_reducible repeat (first | apply Kd.rA | apply Kd.rN | apply Kd.rD)); exact Kd.R_mono (Kd.R_far (p := ⟨cQl, 1, none⟩) (Kd.R_far (p := ⟨cQl, 0, none⟩) (Kd.R_types gJ.out bTc.out (by decide)) (fun _ hk => hk.2) (.int .i64 eM3)) (fun _ hk => hk.2) (.int .i64 eYc)) (fun _ hk => trivial)))⟩; replace pW := xsB pW hw; replace pX := xsB pX hw; replace wL := xsB wL hw; replace bTc : Aside0 (w57.heap[cQl]? = some (.cells #[.int .i64 eM3, .int .i64 eYc] 28 (0, 0))) := ⟨(by rw [hw]; exact (by (with_reducible repeat (first | refine bN ?_ _ | refine bD ?_ | refine bA ?_ _)); refine blk_put (cs := #[.int .i64 eM3, .int .i64 0]) ?_ 1 _ rfl; (with_reducible repeat (first | refine bN ?_ _ | refine bD ?_ | refine bA ?_ _)); refine blk_put (cs := #[.int .i64 0, .int .i64 0]) ?_ 0 _ rfl; (with_reducible repeat (first | refine bN ?_ _ | refine bD ?_ | refine bA ?_ _)); exact bTc.out))⟩; replace HB : Aside0 (Below w.heap.size w w57) := ⟨(by rw [hw]; exact (by repeat (first | (with_reducible first | exact HB.out | apply lA | apply lN | apply lD | refine lS ?_ cH2.out | refine lS ?_ cH3.out | refine lS ?_ cH4.out | refine lS ?_ fC1.out) | exact HB.out)))⟩; clear hw) | ((with_reducible refine gate_callee (f := 41) rfl ?_); refine goesL_ (some 44) rfl rfl Try.func41 (by kernel_rfl) rfl #[.slice eM5 dC.length eM6, .int .i64 eYb] rfl xmp ?_; (with_reducible refine (pack_number.calls k1 (fun k_ => some k_ = (.slice eM5 dC.length eM6 : Value).ownBlock) (.slice eM5 dC.length eM6) dC eYb eAf w _ ?side1 ?side2 A49.out).mono ?_); (case side1 => repeat (first | (with_reducible first | exact HB.out | apply lA | apply lN | apply lD | refine lS ?_ cH2.out | refine lS ?_ cH3.out | refine lS ?_ cH4.out | refine lS ?_ fC1.out) | exact HB.out)); (case side2 => exact Kd.R_tight rfl gJ.out); rintro e w58 ⟨iKy, rfl, gZ, hb, hkp⟩; refine ⟨_, rfl, ?_⟩; replace pW := aZ (blk_kept (xkq pW) hkp (fun hs_ => (fun e_ => (Kd.R_ne gJ.out pW.out (by decide)) e_) hs_)); replace pX := aZ (blk_kept (xkq pX) hkp (fun hs_ => (fun e_ => (Kd.R_ne gJ.out pX.out (by decide)) e_) hs_)); replace wL := aZ (blk_kept (xkq wL) hkp (fun hs_ => (fun e_ => (Kd.R_ne gJ.out wL.out (by decide)) e_) hs_)); replace bTc := aZ (blk_kept (xkq bTc) hkp (fun hs_ => (fun e_ => (Kd.R_ne gJ.out bTc.out (by decide)) e_) hs_)); have gL4 := aZ (Kd.R_mono (ok' := fun k_ => True) gZ (fun k_ hk_ => trivial)); replace HB := aZ (hb); clear gJ; (try clear hb); (try clear hkp); (try clear gZ); have cGy := aU3.out; have cGz := aU2.out; have bWt := aU4.out; have bWu := aE5.out; have bOx : w58.cell? ⟨aSv, 0, none⟩ = some (.int .i64 0) := (blk_cell pX.out 0).trans rfl; have cJk : w58.cell? ⟨aSv, 1, none⟩ = some (.int .i64 0) := (blk_cell pX.out 1).trans rfl; have bOy := blk_frozen pX.out 0; have cJl := blk_frozen pX.out 1))
      refine bodyPost_ret (results_tc rfl _ _ aSv 28 #[.int .i64 0, .int .i64 0] (0, 0) _ rfl (by (with_reducible repeat (first | refine bN ?_ _ | refine bD ?_ | refine bA ?_ _)); refine blk_put (cs := #[.int .i64 0, .int .i64 0]) ?_ 1 _ rfl; (with_reducible repeat (first | refine bN ?_ _ | refine bD ?_ | refine bA ?_ _)); refine blk_put (cs := #[.int .i64 0, .int .i64 0]) ?_ 0 _ rfl; (with_reducible repeat (first | refine bN ?_ _ | refine bD ?_ | refine bA ?_ _)); exact pX.out) Try.underlying28 rfl (by kernel_rfl)) rfl ?_
      exact ⟨_, xre, by (with_reducible repeat (first | apply Kd.rA | apply Kd.rN | apply Kd.rD)); exact Kd.R_mono (Kd.R_far (p := ⟨aSv, 1, none⟩) (Kd.R_far (p := ⟨aSv, 0, none⟩) (Kd.R_types gL4.out pX.out (by decide)) (fun _ hk => hk.2) (.int .i64 0)) (fun _ hk => hk.2) (.int .i64 0)) (fun _ hk => trivial), xq HB⟩

    rw [if_pos c30] at H
    have cSg : decide (vY < (aD.length : Int)) = true := decide_eq_true c30
    clear c30
    by_cases c31 : 0 ≤ vY
    rotate_left
    · rw [if_neg c31] at H
      exact absurd H (by simp)
    rw [if_pos c31] at H
    have bVt : decide (0 ≤ vY) = true := decide_eq_true c31
    clear c31
    by_cases c32 : vY < (aD.length : Int)
    rotate_left
    · rw [if_neg c32] at H
      exact absurd H (by simp)
    rw [if_pos c32] at H
    have dDl : decide (vY < (aD.length : Int)) = true := decide_eq_true c32
    clear c32
    replace H := Option.bind_eq_some_iff.mp H
    obtain ⟨eM2, eCc, H⟩ := H
    replace H : (pack_Build.l0 k1 eM2 aD (aD.length : Int) (wrap64 (vY + 1))) = some (r1, r2, r3) := H
    have A33 := aZ eCc
    clear eCc
    have H' := aZ H
    clear H
    have fSm : 0 ≤ (vY : Int) := of_decide_eq_true xas
    have fSn : vY < (aD.length : Int) := of_decide_eq_true xas
    obtain ⟨iEq, cF9, cGa, cQm, cQn, hXb, dW1, dW2, dW3, dW4, dW5, dW6, dW7, dW8⟩ := gY fI.out vY fSm fSn
    cases hXb
    replace dW1 := xcl HB dW1
    replace dW2 := xcl HB dW2
    replace dW3 := xcl HB dW3
    replace dW4 := xcl HB dW4
    have eYd := aZ dW6
    have eYe := aZ dW5
    clear dW6 dW5
    have eYf := aZ dW8
    have eYg := aZ dW7
    clear dW8 dW7
    replace fSm := eq_true fSm
    replace fSn := eq_true fSn
    go_wp2_with (first | ((with_reducible refine gate_dst (N := 7) rfl ?_); refine box_event ?hg (N := 7) ?hd (cs := #[.int .i64 0, .int .i64 0, .slice none 0 0, .slice none 0 0]) (t := 46) ?hr ?_; (case hd => rfl); (case hg => rfl); (case hr => first | (go_simp; done) | (go_simp; rfl)); intro aV5 hg w34 hbox hb; replace gJ := xR gJ hb; have aM9 := aZ (hbox); have iEr := xgh hg HB; have dW9 := xgh hg HB; replace HB := xhl HB hb; have eAm := xnl hg pW; have eAn := xng hg pW; replace pW := xbb pW hb; have eAo := xnl hg pX; have eAp := xng hg pX; replace pX := xbb pX hb; have eAq := xnl hg wL; have eAr := xng hg wL; replace wL := xbb wL hb; clear hb hbox hg; have cR9 := eAn.out; have cSa := eAm.out; have cG0 := eAp.out; have cG1 := eAo.out; have bV1 := eAr.out; have bV2 := eAq.out; have bB6 : w34.cell? ⟨aV5, 0, none⟩ = some (.int .i64 0) := (blk_cell aM9.out 0).trans rfl; have bB7 : w34.cell? ⟨aV5, 1, none⟩ = some (.int .i64 0) := (blk_cell aM9.out 1).trans rfl; have eR3 : w34.cell? ⟨aV5, 2, none⟩ = some (.slice none 0 0) := (blk_cell aM9.out 2).trans rfl; have eR4 : w34.cell? ⟨aV5, 3, none⟩ = some (.slice none 0 0) := (blk_cell aM9.out 3).trans rfl; have bB8 := blk_frozen aM9.out 0; have bB9 := blk_frozen aM9.out 1; have eR5 := blk_frozen aM9.out 2; have eR6 := blk_frozen aM9.out 3) | ((with_reducible refine gate_store (t := 46) (p := 7) rfl ?_); refine store_event (t := 46) (p := 7) (v := ?vo_w39) (w1 := ((((w34.setCell ⟨aV5, 0, none⟩ (.int .i64 ((aA aD vY).f0))).setCell ⟨aV5, 1, none⟩ (.int .i64 ((aA aD vY).f1.f0))).setCell ⟨aV5, 2, none⟩ (.slice cF9 ((aA aD vY).f1.f1).length cGa)).setCell ⟨aV5, 3, none⟩ (.slice cQm ((aA aD vY).f1.f2).length cQn))) ?hg ?ho ?hn ?hr ?_; (case ho => rfl); (case hg => rfl); (case hn => rfl); (case hr => first | (go_simp; done) | (go_simp; rfl)); intro w39 hw; replace gJ : Aside0 (Kd.R (Kd.int .u8) 5 w39 w.heap.size (fun _ => True) u5 dC) := ⟨(by rw [hw]; exact (by (with_reducible repeat (first | apply Kd.rA | apply Kd.rN | apply Kd.rD)); exact Kd.R_mono (Kd.R_far (p := ⟨aV5, 3, none⟩) (Kd.R_far (p := ⟨aV5, 2, none⟩) (Kd.R_far (p := ⟨aV5, 1, none⟩) (Kd.R_far (p := ⟨aV5, 0, none⟩) (Kd.R_types gJ.out aM9.out (by decide)) (fun _ hk => hk.2) (.int .i64 ((aA aD vY).f0))) (fun _ hk => hk.2) (.int .i64 ((aA aD vY).f1.f0))) (fun _ hk => hk.2) (.slice cF9 ((aA aD vY).f1.f1).length cGa)) (fun _ hk => hk.2) (.slice cQm ((aA aD vY).f1.f2).length cQn)) (fun _ hk => trivial)))⟩; replace pW := xsB pW hw; replace pX := xsB pX hw; replace wL := xsB wL hw; replace aM9 : Aside0 (w39.heap[aV5]? = some (.cells #[.int .i64 ((aA aD vY).f0), .int .i64 ((aA aD vY).f1.f0), .slice cF9 ((aA aD vY).f1.f1).length cGa, .slice cQm ((aA aD vY).f1.f2).length cQn] 46 (0, 0))) := ⟨(by rw [hw]; exact (by (with_reducible repeat (first | refine bN ?_ _ | refine bD ?_ | refine bA ?_ _)); refine blk_put (cs := #[.int .i64 ((aA aD vY).f0), .int .i64 ((aA aD vY).f1.f0), .slice cF9 ((aA aD vY).f1.f1).length cGa, .slice none 0 0]) ?_ 3 _ rfl; (with_reducible repeat (first | refine bN ?_ _ | refine bD ?_ | refine bA ?_ _)); refine blk_put (cs := #[.int .i64 ((aA aD vY).f0), .int .i64 ((aA aD vY).f1.f0), .slice none 0 0, .slice none 0 0]) ?_ 2 _ rfl; (with_reducible repeat (first | refine bN ?_ _ | refine bD ?_ | refine bA ?_ _)); refine blk_put (cs := #[.int .i64 ((aA aD vY).f0), .int .i64 0, .slice none 0 0, .slice none 0 0]) ?_ 1 _ rfl; (with_reducible repeat (first | refine bN ?_ _ | refine bD ?_ | refine bA ?_ _)); refine blk_put (cs := #[.int .i64 0, .int .i64 0, .slice none 0 0, .slice none 0 0]) ?_ 0 _ rfl; (with_reducible repeat (first | refine bN ?_ _ | refine bD ?_ | refine bA ?_ _)); exact aM9.out))⟩; replace HB : Aside0 (Below w.heap.size w w39) := ⟨(by rw [hw]; exact (by repeat (first | (with_reducible first | exact HB.out | apply lA | apply lN | apply lD | refine lS ?_ cH2.out | refine lS ?_ cH3.out | refine lS ?_ cH4.out | refine lS ?_ dW9.out) | exact HB.out)))⟩; clear hw; have cWo : w39.cell? ⟨aV5, 0, none⟩ = some (.int .i64 ((aA aD vY).f0)) := (blk_cell aM9.out 0).trans rfl; have eUb : w39.cell? ⟨aV5, 1, none⟩ = some (.int .i64 ((aA aD vY).f1.f0)) := (blk_cell aM9.out 1).trans rfl; have hEc : w39.cell? ⟨aV5, 2, none⟩ = some (.slice cF9 ((aA aD vY).f1.f1).length cGa) := (blk_cell aM9.out 2).trans rfl; have hEd : w39.cell? ⟨aV5, 3, none⟩ = some (.slice cQm ((aA aD vY).f1.f2).length cQn) := (blk_cell aM9.out 3).trans rfl; have cWp := blk_frozen aM9.out 0; have eUc := blk_frozen aM9.out 1; have hEf := blk_frozen aM9.out 2; have hEg := blk_frozen aM9.out 3; obtain ⟨aKl, aHc, fIw⟩ := Kd.R_slice gJ.out; subst fIw) | ((with_reducible refine gate_callee (f := 39) rfl ?_); refine goesL_ (some 31) rfl rfl Try.func39 (by kernel_rfl) rfl #[.slice aKl dC.length aHc, .agg #[.int .i64 ((aA aD vY).f1.f0), .slice cF9 ((aA aD vY).f1.f1).length cGa, .slice cQm ((aA aD vY).f1.f2).length cQn]] rfl xmp ?_; (with_reducible refine (pack_entry.calls k1 (fun k_ => some k_ = (.slice aKl dC.length aHc : Value).ownBlock) (.slice aKl dC.length aHc) dC ((aA aD vY).f1.f0) _ _ ((aA aD vY).f1.f1) _ _ ((aA aD vY).f1.f2) eM2 w _ ?side1 ?side2 ?side3 ?side4 ?side5 ?side6 A33.out).mono ?_); (case side1 => repeat (first | (with_reducible first | exact HB.out | apply lA | apply lN | apply lD | refine lS ?_ cH2.out | refine lS ?_ cH3.out | refine lS ?_ cH4.out | refine lS ?_ dW9.out) | exact HB.out)); (case side2 => exact Kd.R_tight rfl gJ.out); (case side3 => exact Kd.C_kept_came (Kd.heap_int .i64) eYd.out (by repeat (first | (with_reducible first | exact HB.out | apply lA | apply lN | apply lD | refine lS ?_ cH2.out | refine lS ?_ cH3.out | refine lS ?_ cH4.out | refine lS ?_ dW9.out) | exact HB.out)) (fun k_ hs_ => (fun e_ => Kd.R_base gJ.out k_ e_.symm) hs_)); (case side4 => exact eYe.out); (case side5 => exact Kd.C_kept_came (Kd.heap_int .u8) eYf.out (by repeat (first | (with_reducible first | exact HB.out | apply lA | apply lN | apply lD | refine lS ?_ cH2.out | refine lS ?_ cH3.out | refine lS ?_ cH4.out | refine lS ?_ dW9.out) | exact HB.out)) (fun k_ hs_ => (fun e_ => Kd.R_base gJ.out k_ e_.symm) hs_)); (case side6 => exact eYg.out); rintro e w42 ⟨iKz, rfl, gZ, hb, hkp⟩; refine ⟨_, rfl, ?_⟩; replace pW := aZ (blk_kept (xkq pW) hkp (fun hs_ => (fun e_ => (Kd.R_ne gJ.out pW.out (by decide)) e_) hs_)); replace pX := aZ (blk_kept (xkq pX) hkp (fun hs_ => (fun e_ => (Kd.R_ne gJ.out pX.out (by decide)) e_) hs_)); replace wL := aZ (blk_kept (xkq wL) hkp (fun hs_ => (fun e_ => (Kd.R_ne gJ.out wL.out (by decide)) e_) hs_)); replace aM9 := aZ (blk_kept (xkq aM9) hkp (fun hs_ => (fun e_ => (Kd.R_ne gJ.out aM9.out (by decide)) e_) hs_)); have gL5 := aZ (Kd.R_mono (ok' := fun k_ => True) gZ (fun k_ hk_ => trivial)); replace HB := aZ (hb); clear gJ; (try clear hb); (try clear hkp); (try clear gZ)))
    go_roundg k1
    case measure => have := yS.out; omega
    case rel => exact ⟨(eM2), (wrap64 (vY + 1)), xrs, H', ⟨by have := yS.out; omega⟩, ⟨by (with_reducible repeat (first | apply Kd.rA | apply Kd.rN | apply Kd.rD)); exact gL5.out⟩, xk pW, xk pX, xk wL, xb HB⟩
end
def aY.f (k : Nat)  : Option (Bool) := (pack_Build.f k ([] : List (fB))).bind fun aV7 => (if aV7.2.1 = 0 then (if (aV7.1.length : Int) = 11 then (if 0 < (aV7.1.length : Int) then (if (rd aV7.1 0) = 80 then (if 1 < (aV7.1.length : Int) then (if (rd aV7.1 1) = 75 then (if 2 < (aV7.1.length : Int) then (some ((rd aV7.1 2) == 0)) else (none)) else (some false)) else (none)) else (some false)) else (none)) else (some false)) else (some false))
theorem aY.mono : ∀ k, LeO (aY.f k ) (aY.f (k + 1) ) := by
  intro  k
  unfold aY.f
  repeat' first | (with_reducible first | exact pack_Build.mono _ _ | exact LeO.refl _ | exact LeO.none _ | refine LeO.ite ?_ ?_ | refine LeO.bind ?_ (fun _ => ?_)) | exact pack_Build.mono _ _ | exact LeO.none _ | refine LeO.ite ?_ ?_ | refine LeO.bind ?_ (fun _ => ?_)
set_option maxHeartbeats 8000000 in
set_option maxRecDepth 100000 in
theorem aY.calls (k : Nat)  (r : Bool) (w : World) (h : aY.f k  = some r) :
  Calls Try.prog 14 #[] w fun e w' => e = .returned (.bool r) ∧ Below w.heap.size w w' := by
  have aP7 := Try.underlying24
  have aQg := Try.underlying28
  have HB := aZ (Below.refl w.heap.size w)
  have H : ((pack_Build.f k ([] : List (fB))).bind fun aV7 => (if aV7.2.1 = 0 then (if (aV7.1.length : Int) = 11 then (if 0 < (aV7.1.length : Int) then (if (rd aV7.1 0) = 80 then (if 1 < (aV7.1.length : Int) then (if (rd aV7.1 1) = 75 then (if 2 < (aV7.1.length : Int) then (some ((rd aV7.1 2) == 0)) else (none)) else (some false)) else (none)) else (some false)) else (none)) else (some false)) else (some false))) = some r := h
  clear h
  replace H := Option.bind_eq_some_iff.mp H
  obtain ⟨⟨aB1, bN7, cQp⟩, A10, H⟩ := H
  replace H : (if bN7 = 0 then (if (aB1.length : Int) = 11 then (if 0 < (aB1.length : Int) then (if (rd aB1 0) = 80 then (if 1 < (aB1.length : Int) then (if (rd aB1 1) = 75 then (if 2 < (aB1.length : Int) then (some ((rd aB1 2) == 0)) else (none)) else (some false)) else (none)) else (some false)) else (none)) else (some false)) else (some false)) = some r := H
  have A1 := aZ A10
  clear A10
  by_cases c2 : bN7 = 0
  rotate_left
  · rw [if_neg c2] at H
    have aW6 : (bN7 == 0) = false := beq_eq_false_iff_ne.mpr c2
    have bEc : (bN7 != 0) = true := bne_iff_ne.mpr c2
    obtain rfl := Option.some.inj H
    go_enter Try.func14, Try.ntmps14
    go_wp2_with (first | ((with_reducible refine gate_callee (f := 15) rfl ?_); refine goesL_ (some 5) rfl rfl Try.func15 (by kernel_rfl) rfl #[.agg #[.slice none 0 0]] rfl xmp ?_; (refine (pack_Build.calls k _ _ ([] : List (fB)) aB1 bN7 cQp _ ?side1 ?side2 A1.out).mono ?_); (case side1 => exact Kd.C_nil _ _); (case side2 => exact Nat.le_refl _); rintro e w25 ⟨eYk, rfl, gZ, hb⟩; refine ⟨_, rfl, ?_⟩; have zM := aZ (Kd.R_lower gZ (lZ (by repeat (first | (with_reducible first | exact HB.out | apply lA | apply lN | apply lD) | exact HB.out)))); replace HB := xhl HB hb; (try clear hb); (try clear iV); (try clear hk); (try clear hi); (try clear gZ)) | ((with_reducible refine gate_dst (N := 2) rfl ?_); (try (refine gate_guard (by rfl) ?_; dsimp only)); refine box_event ?hg (N := 2) ?hd (cs := #[.int .i64 0, .int .i64 0]) (t := 28) ?hr ?_; (case hd => rfl); (case hg => rfl); (case hr => first | (go_simp; done) | (go_simp; rfl)); intro yM hg w26 hbox hb; replace zM := xR zM hb; have zN := aZ (hbox); have dXa := xgh hg HB; have dXb := xgh hg HB; replace HB := xhl HB hb; clear hb hbox hg; have aQh : w26.cell? ⟨yM, 0, none⟩ = some (.int .i64 0) := (blk_cell zN.out 0).trans rfl; have dO3 : w26.cell? ⟨yM, 1, none⟩ = some (.int .i64 0) := (blk_cell zN.out 1).trans rfl; have aQi := blk_frozen zN.out 0; have dO4 := blk_frozen zN.out 1))
    go_ret
    exact ⟨xre, xq HB⟩

  rw [if_pos c2] at H
  have aW6 : (bN7 == 0) = true := beq_iff_eq.mpr c2
  have bEc : (bN7 != 0) = false := bne_eq_false_iff_eq.mpr c2
  clear c2
  by_cases c3 : (aB1.length : Int) = 11
  rotate_left
  · rw [if_neg c3] at H
    have aNk : ((aB1.length : Int) == 11) = false := beq_eq_false_iff_ne.mpr c3
    have bNc : ((aB1.length : Int) != 11) = true := bne_iff_ne.mpr c3
    obtain rfl := Option.some.inj H
    go_enter Try.func14, Try.ntmps14
    go_wp2_with (first | ((with_reducible refine gate_callee (f := 15) rfl ?_); refine goesL_ (some 5) rfl rfl Try.func15 (by kernel_rfl) rfl #[.agg #[.slice none 0 0]] rfl xmp ?_; (refine (pack_Build.calls k _ _ ([] : List (fB)) aB1 bN7 cQp _ ?side1 ?side2 A1.out).mono ?_); (case side1 => exact Kd.C_nil _ _); (case side2 => exact Nat.le_refl _); rintro e w21 ⟨eYk, rfl, gZ, hb⟩; refine ⟨_, rfl, ?_⟩; have zM := aZ (Kd.R_lower gZ (lZ (by repeat (first | (with_reducible first | exact HB.out | apply lA | apply lN | apply lD) | exact HB.out)))); replace HB := xhl HB hb; (try clear hb); (try clear iV); (try clear hk); (try clear hi); (try clear gZ)) | ((with_reducible refine gate_dst (N := 2) rfl ?_); (try (refine gate_guard (by rfl) ?_; dsimp only)); refine box_event ?hg (N := 2) ?hd (cs := #[.int .i64 0, .int .i64 0]) (t := 28) ?hr ?_; (case hd => rfl); (case hg => rfl); (case hr => first | (go_simp; done) | (go_simp; rfl)); intro yM hg w22 hbox hb; replace zM := xR zM hb; have zN := aZ (hbox); have dXa := xgh hg HB; have dXb := xgh hg HB; replace HB := xhl HB hb; clear hb hbox hg; have bPd : w22.cell? ⟨yM, 0, none⟩ = some (.int .i64 0) := (blk_cell zN.out 0).trans rfl; have cVi : w22.cell? ⟨yM, 1, none⟩ = some (.int .i64 0) := (blk_cell zN.out 1).trans rfl; have bPe := blk_frozen zN.out 0; have cVj := blk_frozen zN.out 1; obtain ⟨eSm, eSn, dY6⟩ := Kd.R_slice zM.out; subst dY6))
    go_ret
    exact ⟨xre, xq HB⟩
  rw [if_pos c3] at H
  have aNk : ((aB1.length : Int) == 11) = true := beq_iff_eq.mpr c3
  have bNc : ((aB1.length : Int) != 11) = false := bne_eq_false_iff_eq.mpr c3
  clear c3
  by_cases c4 : 0 < (aB1.length : Int)
  rotate_left
  · rw [if_neg c4] at H
    exact absurd H (by simp)
  rw [if_pos c4] at H
  have aJy : decide (0 < (aB1.length : Int)) = true := decide_eq_true c4
  have cMl : decide (0 < aB1.length) = true := decide_eq_true (by omega)
  clear c4
  by_cases c5 : (rd aB1 0) = 80
  rotate_left
  · rw [if_neg c5] at H
    have bAy : ((rd aB1 0) == 80) = false := beq_eq_false_iff_ne.mpr c5
    have cWj : ((rd aB1 0) != 80) = true := bne_iff_ne.mpr c5
    obtain rfl := Option.some.inj H
    go_enter Try.func14, Try.ntmps14
    go_wp2_with (first | ((with_reducible refine gate_callee (f := 15) rfl ?_); refine goesL_ (some 5) rfl rfl Try.func15 (by kernel_rfl) rfl #[.agg #[.slice none 0 0]] rfl xmp ?_; (refine (pack_Build.calls k _ _ ([] : List (fB)) aB1 bN7 cQp _ ?side1 ?side2 A1.out).mono ?_); (case side1 => exact Kd.C_nil _ _); (case side2 => exact Nat.le_refl _); rintro e w17 ⟨eYk, rfl, gZ, hb⟩; refine ⟨_, rfl, ?_⟩; have zM := aZ (Kd.R_lower gZ (lZ (by repeat (first | (with_reducible first | exact HB.out | apply lA | apply lN | apply lD) | exact HB.out)))); replace HB := xhl HB hb; (try clear hb); (try clear iV); (try clear hk); (try clear hi); (try clear gZ)) | ((with_reducible refine gate_dst (N := 2) rfl ?_); (try (refine gate_guard (by rfl) ?_; dsimp only)); refine box_event ?hg (N := 2) ?hd (cs := #[.int .i64 0, .int .i64 0]) (t := 28) ?hr ?_; (case hd => rfl); (case hg => rfl); (case hr => first | (go_simp; done) | (go_simp; rfl)); intro yM hg w18 hbox hb; replace zM := xR zM hb; have zN := aZ (hbox); have dXa := xgh hg HB; have dXb := xgh hg HB; replace HB := xhl HB hb; clear hb hbox hg; have bI4 : w18.cell? ⟨yM, 0, none⟩ = some (.int .i64 0) := (blk_cell zN.out 0).trans rfl; have bPp : w18.cell? ⟨yM, 1, none⟩ = some (.int .i64 0) := (blk_cell zN.out 1).trans rfl; have bI5 := blk_frozen zN.out 0; have bPq := blk_frozen zN.out 1; obtain ⟨iK6, iK7, hXg⟩ := Kd.R_slice zM.out; subst hXg; have cQq : 0 ≤ (0 : Int) := (by omega); have cQr : 0 < (aB1.length : Int) := of_decide_eq_true xas; obtain ⟨aV8, eNd, aAk⟩ := Kd.at_int (Kd.R_reads' zM.out).2.2 0 cQq cQr; cases eNd; have fC3 : (0 < aB1.length) = True := eq_true (by omega); (try rw [show ((0 : Int)).toNat = 0 from rfl] at aAk); (try rw [Addr.add_zero'] at aAk); have aIk : aV8.block ≠ yM := Kd.own_blk (Kd.R_ne zM.out zN.out (by decide)); have aIl : aV8.block ≠ yM := Kd.own_blk (Kd.R_ne zM.out zN.out (by decide)); replace aAk := (cell_far (p := ⟨yM, 0, none⟩) (by first | (rw [add_block]; exact aIk) | (show (Addr.add _ _).block ≠ _; rw [add_block]; exact aIk) | exact aIk) (.int .i64 bN7)).trans aAk; replace aAk := (cell_far (p := ⟨yM, 1, none⟩) (by first | (rw [add_block]; exact aIl) | (show (Addr.add _ _).block ≠ _; rw [add_block]; exact aIl) | exact aIl) (.int .i64 cQp)).trans aAk; clear aIk; clear aIl; replace cQq := eq_true cQq; replace cQr := eq_true cQr))
    go_ret
    exact ⟨xre, xq HB⟩
  rw [if_pos c5] at H
  have bAy : ((rd aB1 0) == 80) = true := beq_iff_eq.mpr c5
  have cWj : ((rd aB1 0) != 80) = false := bne_eq_false_iff_eq.mpr c5
  clear c5
  by_cases c6 : 1 < (aB1.length : Int)
  rotate_left
  · rw [if_neg c6] at H
    exact absurd H (by simp)
  rw [if_pos c6] at H
  have aWf : decide (1 < (aB1.length : Int)) = true := decide_eq_true c6
  have cU7 : decide (1 < aB1.length) = true := decide_eq_true (by omega)
  clear c6
  by_cases c7 : (rd aB1 1) = 75
  rotate_left
  · rw [if_neg c7] at H
    have bTm : ((rd aB1 1) == 75) = false := beq_eq_false_iff_ne.mpr c7
    have dYr : ((rd aB1 1) != 75) = true := bne_iff_ne.mpr c7
    obtain rfl := Option.some.inj H
    go_enter Try.func14, Try.ntmps14
    go_wp2_with (first | ((with_reducible refine gate_callee (f := 15) rfl ?_); refine goesL_ (some 5) rfl rfl Try.func15 (by kernel_rfl) rfl #[.agg #[.slice none 0 0]] rfl xmp ?_; (refine (pack_Build.calls k _ _ ([] : List (fB)) aB1 bN7 cQp _ ?side1 ?side2 A1.out).mono ?_); (case side1 => exact Kd.C_nil _ _); (case side2 => exact Nat.le_refl _); rintro e w13 ⟨eYk, rfl, gZ, hb⟩; refine ⟨_, rfl, ?_⟩; have zM := aZ (Kd.R_lower gZ (lZ (by repeat (first | (with_reducible first | exact HB.out | apply lA | apply lN | apply lD) | exact HB.out)))); replace HB := xhl HB hb; (try clear hb); (try clear iV); (try clear hk); (try clear hi); (try clear gZ)) | ((with_reducible refine gate_dst (N := 2) rfl ?_); (try (refine gate_guard (by rfl) ?_; dsimp only)); refine box_event ?hg (N := 2) ?hd (cs := #[.int .i64 0, .int .i64 0]) (t := 28) ?hr ?_; (case hd => rfl); (case hg => rfl); (case hr => first | (go_simp; done) | (go_simp; rfl)); intro yM hg w14 hbox hb; replace zM := xR zM hb; have zN := aZ (hbox); have dXa := xgh hg HB; have dXb := xgh hg HB; replace HB := xhl HB hb; clear hb hbox hg; have bO9 : w14.cell? ⟨yM, 0, none⟩ = some (.int .i64 0) := (blk_cell zN.out 0).trans rfl; have cJm : w14.cell? ⟨yM, 1, none⟩ = some (.int .i64 0) := (blk_cell zN.out 1).trans rfl; have bPa := blk_frozen zN.out 0; have cJn := blk_frozen zN.out 1; obtain ⟨bKo, bBb, eLk⟩ := Kd.R_slice zM.out; subst eLk; have cQq : 0 ≤ (0 : Int) := (by omega); have cQr : 0 < (aB1.length : Int) := of_decide_eq_true xas; obtain ⟨aV8, eNd, aAk⟩ := Kd.at_int (Kd.R_reads' zM.out).2.2 0 cQq cQr; cases eNd; have fC3 : (0 < aB1.length) = True := eq_true (by omega); (try rw [show ((0 : Int)).toNat = 0 from rfl] at aAk); (try rw [Addr.add_zero'] at aAk); have aIk : aV8.block ≠ yM := Kd.own_blk (Kd.R_ne zM.out zN.out (by decide)); have aIl : aV8.block ≠ yM := Kd.own_blk (Kd.R_ne zM.out zN.out (by decide)); replace aAk := (cell_far (p := ⟨yM, 0, none⟩) (by first | (rw [add_block]; exact aIk) | (show (Addr.add _ _).block ≠ _; rw [add_block]; exact aIk) | exact aIk) (.int .i64 bN7)).trans aAk; replace aAk := (cell_far (p := ⟨yM, 1, none⟩) (by first | (rw [add_block]; exact aIl) | (show (Addr.add _ _).block ≠ _; rw [add_block]; exact aIl) | exact aIl) (.int .i64 cQp)).trans aAk; clear aIk; clear aIl; replace cQq := eq_true cQq; replace cQr := eq_true cQr; have dN2 : 0 ≤ (1 : Int) := (by omega); have dN3 : 1 < (aB1.length : Int) := of_decide_eq_true xas; obtain ⟨eNe, fSq, aMm⟩ := Kd.at_int (Kd.R_reads' zM.out).2.2 1 dN2 dN3; obtain rfl : aV8 = eNe := (by injection fSq); (try simp only [show (1 : Int).toNat = 1 from rfl, Nat.reduceMul, Nat.reduceEqDiff, Go.Addr.add, ↓reduceIte] at aMm); have gMh : (1 < aB1.length) = True := eq_true (by omega); (try rw [show ((1 : Int)).toNat = 1 from rfl] at aMm); have aX9 : aV8.block ≠ yM := Kd.own_blk (Kd.R_ne zM.out zN.out (by decide)); have aYa : aV8.block ≠ yM := Kd.own_blk (Kd.R_ne zM.out zN.out (by decide)); replace aMm := (cell_far (p := ⟨yM, 0, none⟩) (by first | (rw [add_block]; exact aX9) | (show (Addr.add _ _).block ≠ _; rw [add_block]; exact aX9) | exact aX9) (.int .i64 bN7)).trans aMm; replace aMm := (cell_far (p := ⟨yM, 1, none⟩) (by first | (rw [add_block]; exact aYa) | (show (Addr.add _ _).block ≠ _; rw [add_block]; exact aYa) | exact aYa) (.int .i64 cQp)).trans aMm; clear aX9; clear aYa; replace dN2 := eq_true dN2; replace dN3 := eq_true dN3))
    go_ret
    exact ⟨xre, xq HB⟩
  rw [if_pos c7] at H
  have bTm : ((rd aB1 1) == 75) = true := beq_iff_eq.mpr c7
  have dYr : ((rd aB1 1) != 75) = false := bne_eq_false_iff_eq.mpr c7
  clear c7
  by_cases c8 : 2 < (aB1.length : Int)
  rotate_left
  · rw [if_neg c8] at H
    exact absurd H (by simp)
  rw [if_pos c8] at H
  have bTn : decide (2 < (aB1.length : Int)) = true := decide_eq_true c8
  have cWk : decide (2 < aB1.length) = true := decide_eq_true (by omega)
  clear c8
  obtain rfl := Option.some.inj H
  go_enter Try.func14, Try.ntmps14
  go_wp2_with (first | ((with_reducible refine gate_callee (f := 15) rfl ?_); refine goesL_ (some 5) rfl rfl Try.func15 (by kernel_rfl) rfl #[.agg #[.slice none 0 0]] rfl xmp ?_; (refine (pack_Build.calls k _ _ ([] : List (fB)) aB1 bN7 cQp _ ?side1 ?side2 A1.out).mono ?_); (case side1 => exact Kd.C_nil _ _); (case side2 => exact Nat.le_refl _); rintro e w9 ⟨eYk, rfl, gZ, hb⟩; refine ⟨_, rfl, ?_⟩; have zM := aZ (Kd.R_lower gZ (lZ (by repeat (first | (with_reducible first | exact HB.out | apply lA | apply lN | apply lD) | exact HB.out)))); replace HB := xhl HB hb; (try clear hb); (try clear iV); (try clear hk); (try clear hi); (try clear gZ)) | ((with_reducible refine gate_dst (N := 2) rfl ?_); (try (refine gate_guard (by rfl) ?_; dsimp only)); refine box_event ?hg (N := 2) ?hd (cs := #[.int .i64 0, .int .i64 0]) (t := 28) ?hr ?_; (case hd => rfl); (case hg => rfl); (case hr => first | (go_simp; done) | (go_simp; rfl)); intro yM hg w10 hbox hb; replace zM := xR zM hb; have zN := aZ (hbox); have dXa := xgh hg HB; have dXb := xgh hg HB; replace HB := xhl HB hb; clear hb hbox hg; have bO7 : w10.cell? ⟨yM, 0, none⟩ = some (.int .i64 0) := (blk_cell zN.out 0).trans rfl; have dO6 : w10.cell? ⟨yM, 1, none⟩ = some (.int .i64 0) := (blk_cell zN.out 1).trans rfl; have bO8 := blk_frozen zN.out 0; have dO7 := blk_frozen zN.out 1; obtain ⟨dEg, cRo, fGe⟩ := Kd.R_slice zM.out; subst fGe; have cQq : 0 ≤ (0 : Int) := (by omega); have cQr : 0 < (aB1.length : Int) := of_decide_eq_true xas; obtain ⟨aV8, eNd, aAk⟩ := Kd.at_int (Kd.R_reads' zM.out).2.2 0 cQq cQr; cases eNd; have fC3 : (0 < aB1.length) = True := eq_true (by omega); (try rw [show ((0 : Int)).toNat = 0 from rfl] at aAk); (try rw [Addr.add_zero'] at aAk); have aIk : aV8.block ≠ yM := Kd.own_blk (Kd.R_ne zM.out zN.out (by decide)); have aIl : aV8.block ≠ yM := Kd.own_blk (Kd.R_ne zM.out zN.out (by decide)); replace aAk := (cell_far (p := ⟨yM, 0, none⟩) (by first | (rw [add_block]; exact aIk) | (show (Addr.add _ _).block ≠ _; rw [add_block]; exact aIk) | exact aIk) (.int .i64 bN7)).trans aAk; replace aAk := (cell_far (p := ⟨yM, 1, none⟩) (by first | (rw [add_block]; exact aIl) | (show (Addr.add _ _).block ≠ _; rw [add_block]; exact aIl) | exact aIl) (.int .i64 cQp)).trans aAk; clear aIk; clear aIl; replace cQq := eq_true cQq; replace cQr := eq_true cQr; have dN2 : 0 ≤ (1 : Int) := (by omega); have dN3 : 1 < (aB1.length : Int) := of_decide_eq_true xas; obtain ⟨eNe, fSq, aMm⟩ := Kd.at_int (Kd.R_reads' zM.out).2.2 1 dN2 dN3; obtain rfl : aV8 = eNe := (by injection fSq); (try simp only [show (1 : Int).toNat = 1 from rfl, Nat.reduceMul, Nat.reduceEqDiff, Go.Addr.add, ↓reduceIte] at aMm); have gMh : (1 < aB1.length) = True := eq_true (by omega); (try rw [show ((1 : Int)).toNat = 1 from rfl] at aMm); have aX9 : aV8.block ≠ yM := Kd.own_blk (Kd.R_ne zM.out zN.out (by decide)); have aYa : aV8.block ≠ yM := Kd.own_blk (Kd.R_ne zM.out zN.out (by decide)); replace aMm := (cell_far (p := ⟨yM, 0, none⟩) (by first | (rw [add_block]; exact aX9) | (show (Addr.add _ _).block ≠ _; rw [add_block]; exact aX9) | exact aX9) (.int .i64 bN7)).trans aMm; replace aMm := (cell_far (p := ⟨yM, 1, none⟩) (by first | (rw [add_block]; exact aYa) | (show (Addr.add _ _).block ≠ _; rw [add_block]; exact aYa) | exact aYa) (.int .i64 cQp)).trans aMm; clear aX9; clear aYa; replace dN2 := eq_true dN2; replace dN3 := eq_true dN3; have fSr : 0 ≤ (2 : Int) := (by omega); have fSs : 2 < (aB1.length : Int) := of_decide_eq_true xas; obtain ⟨gMi, hXh, bRy⟩ := Kd.at_int (Kd.R_reads' zM.out).2.2 2 fSr fSs; obtain rfl : aV8 = gMi := (by injection hXh); (try simp only [show (2 : Int).toNat = 2 from rfl, Nat.reduceMul, Nat.reduceEqDiff, Go.Addr.add, ↓reduceIte] at bRy); have iEx : (2 < aB1.length) = True := eq_true (by omega); (try rw [show ((2 : Int)).toNat = 2 from rfl] at bRy); have cL6 : aV8.block ≠ yM := Kd.own_blk (Kd.R_ne zM.out zN.out (by decide)); have cL7 : aV8.block ≠ yM := Kd.own_blk (Kd.R_ne zM.out zN.out (by decide)); replace bRy := (cell_far (p := ⟨yM, 0, none⟩) (by first | (rw [add_block]; exact cL6) | (show (Addr.add _ _).block ≠ _; rw [add_block]; exact cL6) | exact cL6) (.int .i64 bN7)).trans bRy; replace bRy := (cell_far (p := ⟨yM, 1, none⟩) (by first | (rw [add_block]; exact cL7) | (show (Addr.add _ _).block ≠ _; rw [add_block]; exact cL7) | exact cL7) (.int .i64 cQp)).trans bRy; clear cL6; clear cL7; replace fSr := eq_true fSr; replace fSs := eq_true fSs))
  go_ret
  exact ⟨xre, xq HB⟩

end Go.Proofs.Ytnmkmamobhkcbaa.P
