/- Texts of the proofs of PackDetectsChange: what the printed functions come to, plain laws, rows (no condition beyond the statements' own). -/
import Derived.Test.YtnmkmamobhkcbaaGP0
import Derived.Test.YtnmkmamobhkcbaaGP12
import Derived.Test.YtnmkmamobhkcbaaGP10
import Derived.Test.YtnmkmamobhkcbaaGP31
import Derived.Test.YtnmkmamobhkcbaaRows
import Derived.Test.YtnmkmamobhkcbaaGP24
import Derived.WalkKit
import Derived.ProofKit
import Derived.OpenShut
import Derived.ShutString
import Derived.ChangeOld
import Derived.Below
import Derived.SizedLaws
import Derived.Carry
namespace Go.Proofs.Ytnmkmamobhkcbaa.P
open Go.RowKit Go.Proofs.YtnmkmamobhkcbaaW.PrintWords Go.Proofs.YtnmkmamobhkcbaaW.PrintLast Go.Proofs.YtnmkmamobhkcbaaW.PrintMore
attribute [local go_sem] max2_int min2_int max_two min_two max_three min_three max_four min_four   -- for this text's walks alone
set_option linter.unusedVariables false
set_option linter.unusedSimpArgs false
section
attribute [local go_sem high] bAt
def changeforgelaw3_PackDetectsChange.j0 : Nat → Int → Int → List Int → Bool → Int → Int → Option (Bool)
  | 0, _, _, _, _, _, _ => none
  | k + 1, x1, x2, x7, x34, eX9, hEb => if x34 = true then (if eX9 = 0 then (some true) else (some ((x7.length : Int) == 0))) else (if ([] : List Int).length + x7.length < 140737488355328 then ((some (([] : List Int) ++ x7 : List Int)).bind fun aFv => (if 0 ≤ x1 then (if x1 < (aFv.length : Int) then ((pack_Read.f k (aFv.set (x1 : Int).toNat ((Int.tmod (wrap64 ((wrap64 (rd aFv x1)) + x2)) 256) % 256))).bind fun bBf => ((aT.f 18 0).bind fun bDb => (if (bBf.2.1 == bDb.1 && (bBf.2.2 == bDb.2)) = true then (some ((bBf.1.length : Int) == 0)) else (some false)))) else (none)) else (none))) else (none))
def changeforgelaw3_PackDetectsChange.f (k : Nat) (aD : List (fB)) (a1 : Int) (a2 : Int) : Option (Bool) := (aY.f k).bind fun eAb => (if eAb = true then ((pack_Build.f k aD).bind fun uM => (if uM.2.1 = 0 then ((fE.f a1 0 (wrap64 ((uM.1.length : Int) - 1))).bind fun cI7 => (if cI7 = true then ((fE.f a2 1 255).bind fun bN3 => (changeforgelaw3_PackDetectsChange.j0 k a1 a2 uM.1 (!bN3) uM.2.1 uM.2.2)) else (changeforgelaw3_PackDetectsChange.j0 k a1 a2 uM.1 true uM.2.1 uM.2.2))) else (changeforgelaw3_PackDetectsChange.j0 k a1 a2 uM.1 true uM.2.1 uM.2.2))) else (some false))
theorem changeforgelaw3_PackDetectsChange.mono_l : ∀ k, (∀ y0 y1 y2 y3 y4 y5, LeO (changeforgelaw3_PackDetectsChange.j0 k y0 y1 y2 y3 y4 y5) (changeforgelaw3_PackDetectsChange.j0 (k + 1) y0 y1 y2 y3 y4 y5))
  | 0 => fun _ _ _ _ _ _ r h => by simp [changeforgelaw3_PackDetectsChange.j0] at h
  | k + 1 => by
    have mU := changeforgelaw3_PackDetectsChange.mono_l k
    · intro y0 y1 y2 y3 y4 y5
      unfold changeforgelaw3_PackDetectsChange.j0
      repeat' first | (with_reducible first | exact mU _ _ _ _ _ _ | exact aY.mono _ | exact pack_Build.mono _ _ | exact pack_Read.mono _ _ | exact LeO.refl _ | exact LeO.none _ | refine LeO.ite ?_ ?_ | refine LeO.bind ?_ (fun _ => ?_)) | exact mU _ _ _ _ _ _ | exact aY.mono _ | exact pack_Build.mono _ _ | exact pack_Read.mono _ _ | exact LeO.none _ | refine LeO.ite ?_ ?_ | refine LeO.bind ?_ (fun _ => ?_)
theorem changeforgelaw3_PackDetectsChange.mono : ∀ a0 a1 a2 k, LeO (changeforgelaw3_PackDetectsChange.f k a0 a1 a2) (changeforgelaw3_PackDetectsChange.f (k + 1) a0 a1 a2) := by
  intro a0 a1 a2 k
  have mU := changeforgelaw3_PackDetectsChange.mono_l k
  unfold changeforgelaw3_PackDetectsChange.f
  repeat' first | (with_reducible first | exact mU _ _ _ _ _ _ | exact aY.mono _ | exact pack_Build.mono _ _ | exact pack_Read.mono _ _ | exact LeO.refl _ | exact LeO.none _ | refine LeO.ite ?_ ?_ | refine LeO.bind ?_ (fun _ => ?_)) | exact mU _ _ _ _ _ _ | exact aY.mono _ | exact pack_Build.mono _ _ | exact pack_Read.mono _ _ | exact LeO.none _ | refine LeO.ite ?_ ?_ | refine LeO.bind ?_ (fun _ => ?_)
def changeforgelaw3_PackDetectsChange.T9 : Bool × List (List Nat × List Nat) := (true, [([], []), ([], []), ([0, 1], [0, 1]), ([2, 1], [2]), ([3], [3]), ([4, 3], [3, 4]), ([5, 3], [3, 5]), ([6, 3], [3, 6]), ([3, 7], [3, 7]), ([8, 3, 0, 1, 2, 3, 4, 5, 6, 7, 8], [8])])
def changeforgelaw3_PackDetectsChange.B9 : List Nat := [0, 0, 3, 7, 15, 31, 63, 127, 255, 511]
theorem changeforgelaw3_PackDetectsChange.tab9 : rtab .any (opsOf Try.f4 9) = changeforgelaw3_PackDetectsChange.T9 := by kernel_rfl
theorem changeforgelaw3_PackDetectsChange.bits9 : waitsOk changeforgelaw3_PackDetectsChange.T9.2 changeforgelaw3_PackDetectsChange.B9 = true := by kernel_rfl
abbrev changeforgelaw3_PackDetectsChange.Z1 : Array Bool := #[U,U,U,U,U,U,U,U,U,U]
abbrev changeforgelaw3_PackDetectsChange.Z2 : Array Bool := #[J,U,U,U,U,U,U,U,U,U]
abbrev changeforgelaw3_PackDetectsChange.Z3 : Array Bool := #[J,J,U,U,U,U,U,U,U,U]
abbrev changeforgelaw3_PackDetectsChange.Z4 : Array Bool := #[J,J,J,U,U,U,U,U,U,U]
abbrev changeforgelaw3_PackDetectsChange.Z5 : Array Bool := #[J,J,J,J,U,U,U,U,U,U]
abbrev changeforgelaw3_PackDetectsChange.Z6 : Array Bool := #[J,J,J,J,J,U,U,U,U,U]
abbrev changeforgelaw3_PackDetectsChange.Z7 : Array Bool := #[J,J,J,J,J,J,U,U,U,U]
abbrev changeforgelaw3_PackDetectsChange.Z8 : Array Bool := #[J,J,J,J,J,J,J,U,U,U]
abbrev changeforgelaw3_PackDetectsChange.Z9 : Array Bool := #[J,J,J,J,J,J,J,J,U,U]
abbrev changeforgelaw3_PackDetectsChange.Z10 : Array Bool := #[J,J,J,J,J,J,J,J,J,U]
abbrev changeforgelaw3_PackDetectsChange.Z11 : Array Bool := #[J,J,J,J,J,J,J,J,J,J]
set_option maxHeartbeats 8000000 in
set_option maxRecDepth 100000 in
theorem changeforgelaw3_PackDetectsChange.calls (k : Nat) (bP : Option Addr) (bK : Nat) (aD : List (fB)) (a1 : Int) (a2 : Int) (r : Bool) (w : World) (mZ : Kd.C qL w bP aD.length aD) (nA : aD.length ≤ bK) (h : changeforgelaw3_PackDetectsChange.f k aD a1 a2 = some r) :
  Calls Try.prog 4 #[.agg #[.slice bP aD.length bK], .int .i64 a1, .int .i64 a2] w fun e w' => e = .returned (.bool r) ∧ Below w.heap.size w w' := by
  have aP7 := Try.underlying24
  have aQg := Try.underlying28
  have fI := aZ mZ
  have lC := aZ nA
  clear mZ nA
  have HB := aZ (Below.refl w.heap.size w)
  have H : ((aY.f k).bind fun eAb => (if eAb = true then ((pack_Build.f k aD).bind fun uM => (if uM.2.1 = 0 then ((fE.f a1 0 (wrap64 ((uM.1.length : Int) - 1))).bind fun cI7 => (if cI7 = true then ((fE.f a2 1 255).bind fun bN3 => (changeforgelaw3_PackDetectsChange.j0 k a1 a2 uM.1 (!bN3) uM.2.1 uM.2.2)) else (changeforgelaw3_PackDetectsChange.j0 k a1 a2 uM.1 true uM.2.1 uM.2.2))) else (changeforgelaw3_PackDetectsChange.j0 k a1 a2 uM.1 true uM.2.1 uM.2.2))) else (some false))) = some r := h
  clear h
  replace H := Option.bind_eq_some_iff.mp H
  obtain ⟨eAb, A40, H⟩ := H
  replace H : (if eAb = true then ((pack_Build.f k aD).bind fun uM => (if uM.2.1 = 0 then ((fE.f a1 0 (wrap64 ((uM.1.length : Int) - 1))).bind fun cI7 => (if cI7 = true then ((fE.f a2 1 255).bind fun bN3 => (changeforgelaw3_PackDetectsChange.j0 k a1 a2 uM.1 (!bN3) uM.2.1 uM.2.2)) else (changeforgelaw3_PackDetectsChange.j0 k a1 a2 uM.1 true uM.2.1 uM.2.2))) else (changeforgelaw3_PackDetectsChange.j0 k a1 a2 uM.1 true uM.2.1 uM.2.2))) else (some false)) = some r := H
  have A4 := aZ A40
  clear A40
  by_cases c5 : eAb = true
  rotate_left
  · replace c5 := Bool.eq_false_iff.mpr c5
    subst c5
    have H1 : (some false) = some r := by rw [if_neg (show ¬ (false = true) by decide)] at H; exact H
    clear H
    have H := H1
    clear H1
    obtain rfl := Option.some.inj H
    go_enter Try.func4, Try.ntmps4
    go_wp2_with (first | ((with_reducible refine gate_dst (N := 3) rfl ?_); (try (refine gate_guard (by rfl) ?_; dsimp only)); refine box_event ?hg (N := 3) ?hd (cs := #[.slice bP aD.length bK]) (t := 24) ?hr ?_; (case hd => rfl); (case hg => rfl); (case hr => first | (go_simp; done) | (go_simp; rfl)); intro cAz hg w79 hbox hb; have oU := aZ (hbox); have gLo := xgh hg HB; have cH1 := xgh hg HB; replace HB := xhl HB hb; clear hb hbox hg) | ((with_reducible refine gate_callee (f := 14) rfl ?_); refine goesL_ (some 12) rfl rfl Try.func14 (by kernel_rfl) rfl #[] rfl xmp ?_; (with_reducible refine (aY.calls k  false _ A4.out).mono ?_); rintro e w80 ⟨rfl, hb⟩; refine ⟨_, rfl, ?_⟩; replace oU := xbb oU hb; replace HB := xhl HB hb; skip; (try clear hb); (try clear iV); (try clear hk); (try clear hi)))
    go_ret
    exact ⟨xre, xq HB⟩

  subst c5
  have H1 : ((pack_Build.f k aD).bind fun uM => (if uM.2.1 = 0 then ((fE.f a1 0 (wrap64 ((uM.1.length : Int) - 1))).bind fun cI7 => (if cI7 = true then ((fE.f a2 1 255).bind fun bN3 => (changeforgelaw3_PackDetectsChange.j0 k a1 a2 uM.1 (!bN3) uM.2.1 uM.2.2)) else (changeforgelaw3_PackDetectsChange.j0 k a1 a2 uM.1 true uM.2.1 uM.2.2))) else (changeforgelaw3_PackDetectsChange.j0 k a1 a2 uM.1 true uM.2.1 uM.2.2))) = some r := by rw [if_pos rfl] at H; exact H
  clear H
  have H := H1
  clear H1
  replace H := Option.bind_eq_some_iff.mp H
  obtain ⟨⟨aJh, aHd, bB0⟩, A60, H⟩ := H
  replace H : (if aHd = 0 then ((fE.f a1 0 (wrap64 ((aJh.length : Int) - 1))).bind fun cI7 => (if cI7 = true then ((fE.f a2 1 255).bind fun bN3 => (changeforgelaw3_PackDetectsChange.j0 k a1 a2 aJh (!bN3) aHd bB0)) else (changeforgelaw3_PackDetectsChange.j0 k a1 a2 aJh true aHd bB0))) else (changeforgelaw3_PackDetectsChange.j0 k a1 a2 aJh true aHd bB0)) = some r := H
  have A6 := aZ A60
  clear A60
  have HC7 := aZ H
  clear H
  go_enter Try.func4, Try.ntmps4
  go_upto_region 4 with (first | ((with_reducible refine gate_dst (N := 3) rfl ?_); (try (refine gate_guard (by rfl) ?_; dsimp only)); refine box_event ?hg (N := 3) ?hd (cs := #[.slice bP aD.length bK]) (t := 24) ?hr ?_; (case hd => rfl); (case hg => rfl); (case hr => first | (go_simp; done) | (go_simp; rfl)); intro cAz hg w8 hbox hb; have oU := aZ (hbox); have gLo := xgh hg HB; have cH1 := xgh hg HB; replace HB := xhl HB hb; clear hb hbox hg) | ((with_reducible refine gate_callee (f := 14) rfl ?_); refine goesL_ (some 12) rfl rfl Try.func14 (by kernel_rfl) rfl #[] rfl xmp ?_; (with_reducible refine (aY.calls k  true _ A4.out).mono ?_); rintro e w9 ⟨rfl, hb⟩; refine ⟨_, rfl, ?_⟩; replace oU := xbb oU hb; replace HB := xhl HB hb; skip; (try clear hb); (try clear iV); (try clear hk); (try clear hi); have aA3 : w9.cell? ⟨cAz, 0, none⟩ = some (.slice bP aD.length bK) := (blk_cell oU.out 0).trans rfl; have aA4 := blk_frozen oU.out 0) | ((with_reducible refine gate_callee (f := 15) rfl ?_); refine goesL_ (some 16) rfl rfl Try.func15 (by kernel_rfl) rfl #[.agg #[.slice bP aD.length bK]] rfl xmp ?_; (with_reducible refine (pack_Build.calls k _ _ aD aJh aHd bB0 _ ?side1 ?side2 A6.out).mono ?_); (case side1 => exact xcb fI HB); (case side2 => exact lC.out); rintro e w11 ⟨hWv, rfl, gZ, hb⟩; refine ⟨_, rfl, ?_⟩; have cQg := aZ (Kd.R_lower gZ (lZ (by repeat (first | (with_reducible first | exact HB.out | apply lA | apply lN | apply lD | refine lS ?_ cH1.out) | exact HB.out)))); replace oU := xbb oU hb; replace HB := xhl HB hb; (try clear hb); (try clear iV); (try clear hk); (try clear hi); (try clear gZ)) | ((with_reducible refine gate_dst (N := 8) rfl ?_); (try (refine gate_guard (by rfl) ?_; dsimp only)); refine box_event ?hg (N := 8) ?hd (cs := #[.int .i64 0, .int .i64 0]) (t := 28) ?hr ?_; (case hd => rfl); (case hg => rfl); (case hr => first | (go_simp; done) | (go_simp; rfl)); intro aGe hg w12 hbox hb; replace cQg := xR cQg hb; have mQ := aZ (hbox); have iEj := xgh hg HB; have cUo := xgh hg HB; replace HB := xhl HB hb; have bAj := xnl hg oU; have bAk := xng hg oU; replace oU := xbb oU hb; clear hb hbox hg; have bS1 := bAk.out; have bS2 := bAj.out; have aQl : w12.cell? ⟨aGe, 0, none⟩ = some (.int .i64 0) := (blk_cell mQ.out 0).trans rfl; have aVn : w12.cell? ⟨aGe, 1, none⟩ = some (.int .i64 0) := (blk_cell mQ.out 1).trans rfl; have aQm := blk_frozen mQ.out 0; have aVo := blk_frozen mQ.out 1))
  (try simp only [Act.put, List.setIfInBounds_toArray, List.set_cons_zero, List.set_cons_succ])
  go_cut [34] (fun v34 wc => ∃ (kq : Nat) (dW0 : Bool), v34 = .bool dW0 ∧ Aside0 (changeforgelaw3_PackDetectsChange.j0 kq a1 a2 aJh dW0 aHd bB0 = some r) ∧ Aside0 (kq ≤ k) ∧ Aside0 (Kd.R (Kd.int .u8) 5 wc w.heap.size (fun _ => True) hWv aJh) ∧ Aside0 (wc.heap[cAz]? = some (.cells #[(.slice bP aD.length bK)] 24 (0, 0))) ∧ Aside0 (wc.heap[aGe]? = some (.cells #[.int .i64 aHd, .int .i64 bB0] 28 (0, 0))) ∧ Aside0 (Below w.heap.size w wc))
  case first =>
   have H := HC7.out
   clear HC7
   by_cases c15 : aHd = 0
   rotate_left
   · rw [if_neg c15] at H
     have cHn : (aHd == 0) = false := beq_eq_false_iff_ne.mpr c15
     have eMx : (aHd != 0) = true := bne_iff_ne.mpr c15
     (first | rw [cHn] | (simp only [i64_w, i32_w]; rw [cHn]) | skip)
     have H' := aZ H
     clear H
     have bV7 := bAk.out
     have bV8 := bAj.out
     have aN4 : w12.cell? ⟨aGe, 0, none⟩ = some (.int .i64 0) := (blk_cell mQ.out 0).trans rfl
     have bCa : w12.cell? ⟨aGe, 1, none⟩ = some (.int .i64 0) := (blk_cell mQ.out 1).trans rfl
     have aN5 := blk_frozen mQ.out 0
     have bCb := blk_frozen mQ.out 1
     go_wp2
     go_meet
     case rel => exact ⟨_, (true), xrs, H', ⟨by first | omega | exact Nat.le_refl _⟩, ⟨by (with_reducible repeat (first | apply Kd.rA | apply Kd.rN | apply Kd.rD)); exact Kd.R_mono (Kd.R_far (p := ⟨aGe, 1, none⟩) (Kd.R_far (p := ⟨aGe, 0, none⟩) (Kd.R_types cQg.out mQ.out (by decide)) (fun _ hk => hk.2) (.int .i64 aHd)) (fun _ hk => hk.2) (.int .i64 bB0)) (fun _ hk => trivial)⟩, xk oU, ⟨by refine xpl ?_; refine blk_put (cs := #[.int .i64 aHd, .int .i64 0]) ?_ 1 _ rfl; refine xpl ?_; refine blk_put (cs := #[.int .i64 0, .int .i64 0]) ?_ 0 _ rfl; refine xpl ?_; exact mQ.out⟩, xb HB⟩
   rw [if_pos c15] at H
   have cHn : (aHd == 0) = true := beq_iff_eq.mpr c15
   have eMx : (aHd != 0) = false := bne_eq_false_iff_eq.mpr c15
   clear c15
   (first | rw [cHn] | (simp only [i64_w, i32_w]; rw [cHn]) | skip)
   replace H := Option.bind_eq_some_iff.mp H
   obtain ⟨cI7, eEl, H⟩ := H
   replace H : (if cI7 = true then ((fE.f a2 1 255).bind fun bN3 => (changeforgelaw3_PackDetectsChange.j0 k a1 a2 aJh (!bN3) aHd bB0)) else (changeforgelaw3_PackDetectsChange.j0 k a1 a2 aJh true aHd bB0)) = some r := H
   have A16 := aZ eEl
   clear eEl
   by_cases c17 : cI7 = true
   rotate_left
   · replace c17 := Bool.eq_false_iff.mpr c17
     subst c17
     have H1 : (changeforgelaw3_PackDetectsChange.j0 k a1 a2 aJh true aHd bB0) = some r := by rw [if_neg (show ¬ (false = true) by decide)] at H; exact H
     clear H
     have H := H1
     clear H1
     have H' := aZ H
     clear H
     have cHp := bAk.out
     have cHq := bAj.out
     have bPd : w12.cell? ⟨aGe, 0, none⟩ = some (.int .i64 0) := (blk_cell mQ.out 0).trans rfl
     have cVi : w12.cell? ⟨aGe, 1, none⟩ = some (.int .i64 0) := (blk_cell mQ.out 1).trans rfl
     have bPe := blk_frozen mQ.out 0
     have cVj := blk_frozen mQ.out 1
     obtain ⟨eSm, eSn, dY6⟩ := Kd.R_slice cQg.out
     subst dY6
     go_wp2_with (first | (go_at_call 19; (with_reducible refine (fE.calls a1 0 (wrap64 ((aJh.length : Int) - 1)) false _ A16.out).mono ?_); rintro e w' ⟨rfl, ⟨nd, rfl⟩⟩))
     go_meet
     case rel => exact ⟨_, (true), xrs, H', ⟨by first | omega | exact Nat.le_refl _⟩, ⟨by (with_reducible repeat (first | apply Kd.rA | apply Kd.rN | apply Kd.rD)); exact Kd.R_mono (Kd.R_far (p := ⟨aGe, 1, none⟩) (Kd.R_far (p := ⟨aGe, 0, none⟩) (Kd.R_types cQg.out mQ.out (by decide)) (fun _ hk => hk.2) (.int .i64 aHd)) (fun _ hk => hk.2) (.int .i64 bB0)) (fun _ hk => trivial)⟩, xk oU, ⟨by refine xpl ?_; refine blk_put (cs := #[.int .i64 aHd, .int .i64 0]) ?_ 1 _ rfl; refine xpl ?_; refine blk_put (cs := #[.int .i64 0, .int .i64 0]) ?_ 0 _ rfl; refine xpl ?_; exact mQ.out⟩, xb HB⟩
   subst c17
   have H1 : ((fE.f a2 1 255).bind fun bN3 => (changeforgelaw3_PackDetectsChange.j0 k a1 a2 aJh (!bN3) aHd bB0)) = some r := by rw [if_pos rfl] at H; exact H
   clear H
   have H := H1
   clear H1
   replace H := Option.bind_eq_some_iff.mp H
   obtain ⟨bN3, bW9, H⟩ := H
   replace H : (changeforgelaw3_PackDetectsChange.j0 k a1 a2 aJh (!bN3) aHd bB0) = some r := H
   have A18 := aZ bW9
   clear bW9
   have H' := aZ H
   clear H
   have bMh := bAk.out
   have bMi := bAj.out
   have aJw : w12.cell? ⟨aGe, 0, none⟩ = some (.int .i64 0) := (blk_cell mQ.out 0).trans rfl
   have aW4 : w12.cell? ⟨aGe, 1, none⟩ = some (.int .i64 0) := (blk_cell mQ.out 1).trans rfl
   have aJx := blk_frozen mQ.out 0
   have aW5 := blk_frozen mQ.out 1
   obtain ⟨aDw, aDx, fRl⟩ := Kd.R_slice cQg.out
   subst fRl
   go_wp2_with (first | (go_at_call 19; (with_reducible refine (fE.calls a1 0 (wrap64 ((aJh.length : Int) - 1)) true _ A16.out).mono ?_); rintro e w' ⟨rfl, ⟨nd, rfl⟩⟩) | (go_at_call 19; (with_reducible refine (fE.calls a2 1 255 bN3 _ A18.out).mono ?_); rintro e w' ⟨rfl, ⟨nd, rfl⟩⟩))
   go_meet
   case rel => exact ⟨_, (!bN3), xrs, H', ⟨by first | omega | exact Nat.le_refl _⟩, ⟨by (with_reducible repeat (first | apply Kd.rA | apply Kd.rN | apply Kd.rD)); exact Kd.R_mono (Kd.R_far (p := ⟨aGe, 1, none⟩) (Kd.R_far (p := ⟨aGe, 0, none⟩) (Kd.R_types cQg.out mQ.out (by decide)) (fun _ hk => hk.2) (.int .i64 aHd)) (fun _ hk => hk.2) (.int .i64 bB0)) (fun _ hk => trivial)⟩, xk oU, ⟨by refine xpl ?_; refine blk_put (cs := #[.int .i64 aHd, .int .i64 0]) ?_ 1 _ rfl; refine xpl ?_; refine blk_put (cs := #[.int .i64 0, .int .i64 0]) ?_ 0 _ rfl; refine xpl ?_; exact mQ.out⟩, xb HB⟩
  case rest =>
   clear HC7
   (try clear c5); (try clear aA3); (try clear aQl); (try clear aVn); (try clear aA4); (try clear aQm); (try clear aVo)
   obtain ⟨kq, dW0, rfl, HA, HJ6, pV, oU, mQ, HB⟩ := hcut
   cases kq with
   | zero => exact absurd HA.out (by simp [changeforgelaw3_PackDetectsChange.j0])
   | succ kj6 =>
    have H := HA.out
    clear HA
    simp only [changeforgelaw3_PackDetectsChange.j0] at H
    by_cases c27 : dW0 = true
    · subst c27
      have H1 : (if aHd = 0 then (some true) else (some ((aJh.length : Int) == 0))) = some r := by rw [if_pos rfl] at H; exact H
      clear H
      have H := H1
      clear H1
      by_cases c28 : aHd = 0
      · rw [if_pos c28] at H
        have eB5 : (aHd == 0) = true := beq_iff_eq.mpr c28
        have gLp : (aHd != 0) = false := bne_eq_false_iff_eq.mpr c28
        clear c28
        obtain rfl := Option.some.inj H
        have bVx := bAk.out
        have bVy := bAj.out
        have bI0 : wc.cell? ⟨aGe, 0, none⟩ = some (.int .i64 aHd) := (blk_cell mQ.out 0).trans rfl
        have cJ7 : wc.cell? ⟨aGe, 1, none⟩ = some (.int .i64 bB0) := (blk_cell mQ.out 1).trans rfl
        have bI1 := blk_frozen mQ.out 0
        have cJ8 := blk_frozen mQ.out 1
        go_wp2
        go_ret
        exact ⟨xre, xq HB⟩
      rw [if_neg c28] at H
      have eB5 : (aHd == 0) = false := beq_eq_false_iff_ne.mpr c28
      have gLp : (aHd != 0) = true := bne_iff_ne.mpr c28
      obtain rfl := Option.some.inj H
      have bVz := bAk.out
      have bV0 := bAj.out
      have aFo : wc.cell? ⟨aGe, 0, none⟩ = some (.int .i64 aHd) := (blk_cell mQ.out 0).trans rfl
      have aJu : wc.cell? ⟨aGe, 1, none⟩ = some (.int .i64 bB0) := (blk_cell mQ.out 1).trans rfl
      have aFp := blk_frozen mQ.out 0
      have aJv := blk_frozen mQ.out 1
      obtain ⟨bBg, bBh, fSc⟩ := Kd.R_slice pV.out
      subst fSc
      go_wp2
      go_ret
      exact ⟨xre, xq HB⟩
    replace c27 := Bool.eq_false_iff.mpr c27
    subst c27
    have H1 : (if ([] : List Int).length + aJh.length < 140737488355328 then ((some (([] : List Int) ++ aJh : List Int)).bind fun aFv => (if 0 ≤ a1 then (if a1 < (aFv.length : Int) then ((pack_Read.f kj6 (aFv.set (a1 : Int).toNat ((Int.tmod (wrap64 ((wrap64 (rd aFv a1)) + a2)) 256) % 256))).bind fun bBf => ((aT.f 18 0).bind fun bDb => (if (bBf.2.1 == bDb.1 && (bBf.2.2 == bDb.2)) = true then (some ((bBf.1.length : Int) == 0)) else (some false)))) else (none)) else (none))) else (none)) = some r := by rw [if_neg (show ¬ (false = true) by decide)] at H; exact H
    clear H
    have H := H1
    clear H1
    by_cases c34 : ([] : List Int).length + aJh.length < 140737488355328
    rotate_left
    · rw [if_neg c34] at H
      exact absurd H (by simp)
    rw [if_pos c34] at H
    have fCx := aZ c34
    clear c34
    obtain ⟨aFv, dHy⟩ : ∃ y_ : List Int, y_ = (([] : List Int) ++ aJh) := ⟨_, rfl⟩
    replace H : (if 0 ≤ a1 then (if a1 < (aFv.length : Int) then ((pack_Read.f kj6 (aFv.set (a1 : Int).toNat ((Int.tmod (wrap64 ((wrap64 (rd aFv a1)) + a2)) 256) % 256))).bind fun bBf => ((aT.f 18 0).bind fun bDb => (if (bBf.2.1 == bDb.1 && (bBf.2.2 == bDb.2)) = true then (some ((bBf.1.length : Int) == 0)) else (some false)))) else (none)) else (none)) = some r := by first | (rw [dHy]; with_reducible exact H) | (have qY := (Option.bind_some _ _).symm.trans H; rw [dHy]; with_reducible exact qY) | (have qY := (Option.bind_some _ _).symm.trans H; with_reducible exact qY) | with_reducible exact H | (rw [dHy]; exact H) | exact H
    have fCy := aZ dHy
    clear dHy
    by_cases c35 : 0 ≤ a1
    rotate_left
    · rw [if_neg c35] at H
      exact absurd H (by simp)
    rw [if_pos c35] at H
    have cSi : decide (0 ≤ a1) = true := decide_eq_true c35
    clear c35
    by_cases c36 : a1 < (aFv.length : Int)
    rotate_left
    · rw [if_neg c36] at H
      exact absurd H (by simp)
    rw [if_pos c36] at H
    have dDz : decide (a1 < (aFv.length : Int)) = true := decide_eq_true c36
    clear c36
    obtain ⟨cFy, dHz⟩ : ∃ y_ : List Int, y_ = (aFv.set (a1 : Int).toNat ((Int.tmod (wrap64 ((wrap64 (rd aFv a1)) + a2)) 256) % 256)) := ⟨_, rfl⟩
    replace H : ((pack_Read.f kj6 cFy).bind fun bBf => ((aT.f 18 0).bind fun bDb => (if (bBf.2.1 == bDb.1 && (bBf.2.2 == bDb.2)) = true then (some ((bBf.1.length : Int) == 0)) else (some false)))) = some r := by first | (rw [dHz]; with_reducible exact H) | (have qY := (Option.bind_some _ _).symm.trans H; rw [dHz]; with_reducible exact qY) | (have qY := (Option.bind_some _ _).symm.trans H; with_reducible exact qY) | with_reducible exact H | (rw [dHz]; exact H) | exact H
    have fCz := aZ dHz
    clear dHz
    replace H := Option.bind_eq_some_iff.mp H
    obtain ⟨⟨aJi, aEf, aFj⟩, eAa, H⟩ := H
    replace H : ((aT.f 18 0).bind fun bDb => (if (aEf == bDb.1 && (aFj == bDb.2)) = true then (some ((aJi.length : Int) == 0)) else (some false))) = some r := H
    have A38 := aZ eAa
    clear eAa
    replace H := Option.bind_eq_some_iff.mp H
    obtain ⟨⟨cQh, cQi⟩, dDh, H⟩ := H
    replace H : (if (aEf == cQh && (aFj == cQi)) = true then (some ((aJi.length : Int) == 0)) else (some false)) = some r := H
    have A39 := aZ dDh
    clear dDh
    by_cases c40 : (aEf == cQh && (aFj == cQi)) = true
    rotate_left
    · rw [if_neg c40] at H
      have cOq : (aEf == cQh && (aFj == cQi)) = false := by simpa using c40
      (try (have eEu : decide (aEf = cQh && (aFj == cQi)) = false := by simpa using c40))
      (try (have eEv : (aEf == cQh && (aFj == cQi)) = false := by simpa using c40))
      (try (have fZn : ¬ (aEf = cQh && (aFj == cQi)) := by simpa using c40))
      clear c40
      obtain rfl := Option.some.inj H
      obtain ⟨eAc, eAd, hWx⟩ := Kd.R_slice pV.out
      subst hWx
      try go_wp2_with (first | ((with_reducible refine gate_builtin (b := .append) (xs := #[.const (.slice none 0 0), .tmp 43]) rfl ?_); (try (refine gate_guard (by rfl) ?_; dsimp only)); at_builtin; refine Kd.R_append_rows (Kd.int .u8) (w0 := w) w.heap.size rfl (.const (.slice none 0 0)) (.tmp 43) 26 5 (.int .u8 0) 1 rfl Try.underlying26 aFk rfl (by decide) (by omega) (.slice none 0 0) ([] : List Int) aJh _ _ _ (fun k_ => some k_ ≠ (.slice eAc aJh.length eAd : Value).ownBlock) (fun _ => False) rfl rfl ?aO ?aR (fun _ _ h => h) (fun _ h => h.elim) ?aF ?aB ?aS ?aL ?_; (case aR => repeat (first | exact (Kd.R_reads' pV.out).2.2 | (with_reducible refine Kd.C_alloc ?_ _) | (with_reducible refine Kd.C_drewN ?_ _) | (with_reducible refine Kd.C_drew ?_))); (case aB => exact (by repeat (first | (with_reducible first | exact HB.out | apply lA | apply lN | apply lD | refine lS ?_ cH1.out | refine lS ?_ cUo.out) | exact HB.out))); (case aF => exact (fun k_ hk => Kd.fresh' (Kd.R_lt (by (with_reducible repeat (first | apply Kd.rA | apply Kd.rN | apply Kd.rD)); exact pV.out)) k_ hk)); (case aO => exact ((Kd.R_nil _ _ _ _ (fun k_ => some k_ ≠ (.slice eAc aJh.length eAd : Value).ownBlock)))); (case aS => exact (lZ (by repeat (first | (with_reducible first | exact HB.out | apply lA | apply lN | apply lD | refine lS ?_ cH1.out | refine lS ?_ cUo.out) | exact HB.out)))); (case aL => have := fCx.out; omega); intro hWy w60 ho hb hg hat; rw [← fCy.out] at ho; replace pV := aZ (Kd.R_after (Kd.R_apart_nil (by (with_reducible repeat (first | apply Kd.rA | apply Kd.rN | apply Kd.rD)); exact pV.out)) hg hat); replace oU := aZ (blk_grown (g := cAz) (o := .cells #[.slice bP aD.length bK] 24 (0, 0)) (xkq oU) hg (by simp [Value.ownBlock])); replace mQ := aZ (blk_grown (g := aGe) (o := .cells #[.int .i64 aHd, .int .i64 bB0] 28 (0, 0)) (xkq mQ) hg (by simp [Value.ownBlock])); replace HB := aZ (hb); have qX := aZ (ho); clear ho hb hg hat; obtain ⟨iKv, dNz, hWz⟩ := Kd.R_slice qX.out; subst hWz; have dN0 : 0 ≤ (a1 : Int) := of_decide_eq_true xas; have dN1 : a1 < (aFv.length : Int) := of_decide_eq_true xas; obtain ⟨gLq, fSd, dB5⟩ := Kd.at_int (Kd.R_reads' qX.out).2.2 a1 dN0 dN1; cases fSd; replace dN0 := eq_true dN0; replace dN1 := eq_true dN1; have p37 : 0 ≤ (a1 : Int) := of_decide_eq_true xas; have q37 : (a1 : Int) < ((aFv.length : Int) : Int) := of_decide_eq_true xas; obtain ⟨bLc, hW4, eMy, eMz, fSf, hW5, eM0⟩ := Kd.R_form qX.out (by omega); (first | cases eMy | (injection eMy with ea_ en_ ec_; (first | subst ea_ | (injection ea_ with ea_; subst ea_)); subst ec_; clear en_)); have fSg := aZ eMz; have hW6 := aZ eM0; clear eMz fSf eM0; (first | simp only [add_plain] at dB5 | skip); obtain ⟨fSh, fSi⟩ := Kd.R_celln 0 qX.out (a1 : Int) p37 q37; replace p37 := eq_true p37; replace q37 := eq_true q37; obtain ⟨iEk, iEl⟩ := Kd.R_celln 0 qX.out (a1 : Int) (of_decide_eq_true xas) (of_decide_eq_true xas); have fSj := Kd.R_putg qX.out (a1 : Int) ((Int.tmod (wrap64 ((wrap64 (rd aFv a1)) + a2)) 256) % 256)) | ((with_reducible refine gate_store (t := 5) (p := 56) rfl ?_); refine store_event (t := 5) (p := 56) (v := ?vo_w64) (w1 := (w60.setCell ⟨bLc, (a1 : Int).toNat, none⟩ (.int .u8 ((Int.tmod (wrap64 ((wrap64 (rd aFv a1)) + a2)) 256) % 256)))) ?hg ?ho ?hn ?hr ?_; (case ho => rfl); (case hg => rfl); (case hn => rfl); (case hr => first | (go_simp; done) | (go_simp; rfl)); intro w64 hw; have hg : w60.grownBy w64 (some bLc) := (by rw [hw]; exact fSj.2); have hp_ : Kd.R (Kd.int .u8) 5 w64 w.heap.size (fun k_ => some k_ ≠ (.slice eAc aJh.length eAd : Value).ownBlock) (.slice (some ⟨bLc, 0, none⟩) aFv.length dNz) cFy := (by rw [hw, fCz.out]; exact fSj.1); clear fSj; replace pV := aZ (Kd.R_after (v := (.slice (some ⟨bLc, 0, none⟩) aFv.length dNz)) (v1 := (.slice (some ⟨bLc, 0, none⟩) aFv.length dNz)) (ok := (fun _ => True)) (by (with_reducible repeat (first | apply Kd.rA | apply Kd.rN | apply Kd.rD)); exact pV.out) hg (.inl rfl)); replace oU := aZ (blk_grown (g := cAz) (o := .cells #[.slice bP aD.length bK] 24 (0, 0)) (xkq oU) hg (Kd.R_ne qX.out oU.out (by decide))); replace mQ := aZ (blk_grown (g := aGe) (o := .cells #[.int .i64 aHd, .int .i64 bB0] 28 (0, 0)) (xkq mQ) hg (Kd.R_ne qX.out mQ.out (by decide))); replace qX := aZ (hp_); replace HB := aZ ((by rw [hw]; exact lS (HB.out) fSg.out : Below w.heap.size w w64)); clear hg hw hp_) | ((with_reducible refine gate_callee (f := 20) rfl ?_); refine goesL_ (some 59) rfl rfl Try.func20 (by kernel_rfl) rfl #[.slice (some ⟨bLc, 0, none⟩) cFy.length dNz] rfl (by (try simp only [List.map_toArray, List.map_cons, List.map_nil]); first | done | (rw [show cFy.length = aFv.length from (Kd.R_reads' qX.out).1.symm] <;> rfl) | rfl | (simp only [List.length_drop, List.length_take]; rfl)) ?_; (with_reducible refine (pack_Read.calls kj6 _ _ cFy aJi aEf aFj _ ?side1 ?side2 A38.out).mono ?_); (case side1 => repeat (first | exact (Kd.R_reads' qX.out).2.2 | (with_reducible refine Kd.C_alloc ?_ _) | (with_reducible refine Kd.C_drewN ?_ _) | (with_reducible refine Kd.C_drew ?_))); (case side2 => rw [show cFy.length = aFv.length from (Kd.R_reads' qX.out).1.symm]; exact (Kd.R_reads' qX.out).2.1); rintro e w65 ⟨hW7, rfl, gZ, hb⟩; refine ⟨_, rfl, ?_⟩; have aE4 := aZ (Kd.S_lower (Kd.S_new' (Kd.S_new' gZ (Kd.R_lt (by (with_reducible repeat (first | apply Kd.rA | apply Kd.rN | apply Kd.rD)); exact pV.out))) (Kd.R_lt (by (with_reducible repeat (first | apply Kd.rA | apply Kd.rN | apply Kd.rD)); exact qX.out))) (lZ (by repeat (first | (with_reducible first | exact HB.out | apply lA | apply lN | apply lD | refine lS ?_ cH1.out | refine lS ?_ cUo.out) | exact HB.out)))); replace pV := xR pV hb; replace qX := xR qX hb; replace oU := xbb oU hb; replace mQ := xbb mQ hb; replace HB := xhl HB hb; (try clear hb); (try clear iV); (try clear hk); (try clear hi); (try clear gZ)) | ((with_reducible refine gate_dst (N := 10) rfl ?_); (try (refine gate_guard (by rfl) ?_; dsimp only)); refine box_event ?hg (N := 10) ?hd (cs := #[.slice none 0 0]) (t := 24) ?hr ?_; (case hd => rfl); (case hg => rfl); (case hr => first | (go_simp; done) | (go_simp; rfl)); intro aCn hg w66 hbox hb; replace pV := xR pV hb; replace qX := xR qX hb; replace aE4 := xS aE4 hb; have yY := aZ (hbox); have gLr := xgh hg HB; have gLs := xgh hg HB; replace HB := xhl HB hb; have cFz := xnl hg oU; have cF0 := xng hg oU; replace oU := xbb oU hb; have cF1 := xnl hg mQ; have cF2 := xng hg mQ; replace mQ := xbb mQ hb; clear hb hbox hg) | ((with_reducible refine gate_dst (N := 11) rfl ?_); (try (refine gate_guard (by rfl) ?_; dsimp only)); refine box_event ?hg (N := 11) ?hd (cs := #[.int .i64 0, .int .i64 0]) (t := 28) ?hr ?_; (case hd => rfl); (case hg => rfl); (case hr => first | (go_simp; done) | (go_simp; rfl)); intro qE hg w67 hbox hb; replace pV := xR pV hb; replace qX := xR qX hb; replace aE4 := xS aE4 hb; have yA := aZ (hbox); have gLt := xgh hg HB; have gLu := xgh hg HB; replace HB := xhl HB hb; have cF3 := xnl hg oU; have cF4 := xng hg oU; replace oU := xbb oU hb; have cF5 := xnl hg mQ; have cF6 := xng hg mQ; replace mQ := xbb mQ hb; have aU1 := xnl hg yY; have bHe := xng hg yY; replace yY := xbb yY hb; clear hb hbox hg; obtain ⟨bHf, bHg, eAe⟩ := Kd.S_slice aE4.out; subst eAe; have cS4 := cF0.out; have cS5 := cFz.out; have cHi := cF2.out; have cHj := cF1.out; have cSv := aU1.out; have cSw := bHe.out; have cK3 : w67.cell? ⟨aCn, 0, none⟩ = some (.slice none 0 0) := (blk_cell yY.out 0).trans rfl; have cK4 := blk_frozen yY.out 0; have bMy := cF4.out; have bMz := cF3.out; have bSx := cF6.out; have bSy := cF5.out; have cWv : w67.cell? ⟨qE, 0, none⟩ = some (.int .i64 0) := (blk_cell yA.out 0).trans rfl; have dQh : w67.cell? ⟨qE, 1, none⟩ = some (.int .i64 0) := (blk_cell yA.out 1).trans rfl; have cWw := blk_frozen yA.out 0; have dQi := blk_frozen yA.out 1))
      replace pV : Aside0 (Kd.R (Kd.int .u8) 5 (((w67.setCell ⟨aCn, 0, none⟩ (.slice bHf aJi.length bHg)).setCell ⟨qE, 0, none⟩ (.int .i64 aEf)).setCell ⟨qE, 1, none⟩ (.int .i64 aFj)) w.heap.size (fun k_ => some k_ ≠ (.slice (some ⟨bLc, 0, none⟩) aFv.length dNz : Value).ownBlock) (.slice eAc aJh.length eAd) aJh) := ⟨by (with_reducible repeat (first | apply Kd.rA | apply Kd.rN | apply Kd.rD)); exact Kd.R_mono (Kd.R_far (p := ⟨qE, 1, none⟩) (Kd.R_far (p := ⟨qE, 0, none⟩) (Kd.R_far (p := ⟨aCn, 0, none⟩) (Kd.R_types (Kd.R_types pV.out yY.out (by decide)) yA.out (by decide)) (fun _ hk => hk.1.2) (.slice bHf aJi.length bHg)) (fun _ hk => hk.2) (.int .i64 aEf)) (fun _ hk => hk.2) (.int .i64 aFj)) (fun _ hk => hk.1.1.2)⟩
      replace qX : Aside0 (Kd.R (Kd.int .u8) 5 (((w67.setCell ⟨aCn, 0, none⟩ (.slice bHf aJi.length bHg)).setCell ⟨qE, 0, none⟩ (.int .i64 aEf)).setCell ⟨qE, 1, none⟩ (.int .i64 aFj)) w.heap.size (fun k_ => some k_ ≠ (.slice eAc aJh.length eAd : Value).ownBlock) (.slice (some ⟨bLc, 0, none⟩) aFv.length dNz) cFy) := ⟨by (with_reducible repeat (first | apply Kd.rA | apply Kd.rN | apply Kd.rD)); exact Kd.R_mono (Kd.R_far (p := ⟨qE, 1, none⟩) (Kd.R_far (p := ⟨qE, 0, none⟩) (Kd.R_far (p := ⟨aCn, 0, none⟩) (Kd.R_types (Kd.R_types qX.out yY.out (by decide)) yA.out (by decide)) (fun _ hk => hk.1.2) (.slice bHf aJi.length bHg)) (fun _ hk => hk.2) (.int .i64 aEf)) (fun _ hk => hk.2) (.int .i64 aFj)) (fun _ hk => hk.1.1)⟩
      replace aE4 : Aside0 (Kd.S qL 46 (((w67.setCell ⟨aCn, 0, none⟩ (.slice bHf aJi.length bHg)).setCell ⟨qE, 0, none⟩ (.int .i64 aEf)).setCell ⟨qE, 1, none⟩ (.int .i64 aFj)) w.heap.size (fun k_ => some k_ ≠ (.slice eAc aJh.length eAd : Value).ownBlock ∧ some k_ ≠ (.slice (some ⟨bLc, 0, none⟩) aFv.length dNz : Value).ownBlock) (.slice bHf aJi.length bHg) aJi) := ⟨by (with_reducible repeat (first | apply Kd.S_alloc | apply Kd.S_drewN | apply Kd.S_drew)); exact Kd.S_mono (Kd.S_far (p := ⟨qE, 1, none⟩) (Kd.S_far (p := ⟨qE, 0, none⟩) (Kd.S_far (p := ⟨aCn, 0, none⟩) (Kd.S_types (Kd.S_types aE4.out yY.out (by decide)) yA.out (by decide)) (fun _ hk => hk.1.2) (.slice bHf aJi.length bHg)) (fun _ hk => hk.2) (.int .i64 aEf)) (fun _ hk => hk.2) (.int .i64 aFj)) (fun _ hk => ⟨hk.1.1.1.2, hk.1.1.2⟩)⟩
      replace oU : Aside0 ((((w67.setCell ⟨aCn, 0, none⟩ (.slice bHf aJi.length bHg)).setCell ⟨qE, 0, none⟩ (.int .i64 aEf)).setCell ⟨qE, 1, none⟩ (.int .i64 aFj)).heap[cAz]? = some (.cells #[.slice bP aD.length bK] 24 (0, 0))) := xk oU
      replace mQ : Aside0 ((((w67.setCell ⟨aCn, 0, none⟩ (.slice bHf aJi.length bHg)).setCell ⟨qE, 0, none⟩ (.int .i64 aEf)).setCell ⟨qE, 1, none⟩ (.int .i64 aFj)).heap[aGe]? = some (.cells #[.int .i64 aHd, .int .i64 bB0] 28 (0, 0))) := xk mQ
      replace yY : Aside0 ((((w67.setCell ⟨aCn, 0, none⟩ (.slice bHf aJi.length bHg)).setCell ⟨qE, 0, none⟩ (.int .i64 aEf)).setCell ⟨qE, 1, none⟩ (.int .i64 aFj)).heap[aCn]? = some (.cells #[.slice bHf aJi.length bHg] 24 (0, 0))) := ⟨by refine xpl ?_; refine blk_far ?_ aU1.out _; refine xpl ?_; refine blk_far ?_ aU1.out _; refine xpl ?_; refine blk_put (cs := #[.slice none 0 0]) ?_ 0 _ rfl; refine xpl ?_; exact yY.out⟩
      replace yA : Aside0 ((((w67.setCell ⟨aCn, 0, none⟩ (.slice bHf aJi.length bHg)).setCell ⟨qE, 0, none⟩ (.int .i64 aEf)).setCell ⟨qE, 1, none⟩ (.int .i64 aFj)).heap[qE]? = some (.cells #[.int .i64 aEf, .int .i64 aFj] 28 (0, 0))) := ⟨by refine xpl ?_; refine blk_put (cs := #[.int .i64 aEf, .int .i64 0]) ?_ 1 _ rfl; refine xpl ?_; refine blk_put (cs := #[.int .i64 0, .int .i64 0]) ?_ 0 _ rfl; refine xpl ?_; refine blk_far ?_ bHe.out _; refine xpl ?_; exact yA.out⟩
      replace HB : Aside0 (Below w.heap.size w (((w67.setCell ⟨aCn, 0, none⟩ (.slice bHf aJi.length bHg)).setCell ⟨qE, 0, none⟩ (.int .i64 aEf)).setCell ⟨qE, 1, none⟩ (.int .i64 aFj))) := xb HB
      generalize (((w67.setCell ⟨aCn, 0, none⟩ (.slice bHf aJi.length bHg)).setCell ⟨qE, 0, none⟩ (.int .i64 aEf)).setCell ⟨qE, 1, none⟩ (.int .i64 aFj)) = w76 at pV qX aE4 oU mQ yY yA HB ⊢
      replace pV := aZ (Kd.rD pV.out)
      replace qX := aZ (Kd.rD qX.out)
      replace aE4 := aZ (Kd.S_drew aE4.out)
      replace oU := aZ (bD oU.out)
      replace mQ := aZ (bD mQ.out)
      replace yY := aZ (bD yY.out)
      replace yA := aZ (bD yA.out)
      replace HB := aZ (lD HB.out)
      refine start_ (n := 10) (S := fun w' => w'.cell? ⟨qE, 0, none⟩ = some (.int .i64 aEf) ∧ w'.cell? ⟨qE, 1, none⟩ = some (.int .i64 aFj)) (ds := []) Z1 (by kernel_rfl) rfl rfl ⟨(blk_cell yA.out 0).trans rfl, (blk_cell yA.out 1).trans rfl⟩ (fun hHeld => ?_); refine with_tabW changeforgelaw3_PackDetectsChange.tab9 changeforgelaw3_PackDetectsChange.bits9 (fun HT_ HW_ => ?_)
      generalize w76.drew = w77 at pV qX aE4 oU mQ yY yA HB hHeld ⊢
      refine tk 0 62 Z2 HT_ HW_ rfl rfl hHeld (by rintro w' ⟨s0, s1⟩; go_simp; with_reducible rfl) (h := ?_)
      refine one_ (i := 1) (N := some 63) Z3 rfl rfl (one_of HT_.out (by kernel_rfl)) (by decide) (fun K hK => ?_)
      refine goes_ Try.func18 (by kernel_rfl) rfl #[.int .i64 18, .int .i64 0] (by rfl) rfl rfl xmp ?_
      with_reducible refine (aT.calls 18 0 cQh cQi _ A39.out).mono ?_
      rintro e w78 ⟨rfl, hb⟩
      refine ⟨_, rfl, ?_⟩
      replace pV := xR pV hb
      replace qX := xR qX hb
      replace aE4 := xS aE4 hb
      replace oU := xbb oU hb
      replace mQ := xbb mQ hb
      replace yY := xbb yY hb
      replace yA := xbb yA hb
      replace HB := xhl HB hb
      (try clear hb)
      (try clear iV)
      (try clear hk)
      (try clear hi)
      refine hK.out _ _ ⟨(blk_cell yA.out 0).trans rfl, (blk_cell yA.out 1).trans rfl⟩ (fun hHeld => ?_)
      clear hK K
      refine norm_ (a' := ?_) ?_ ?_
      rotate_left
      · show Act.put _ (some 63) _ = _
        simp only [Act.put, List.setIfInBounds_toArray, List.set_cons_zero, List.set_cons_succ, i64_w, i32_w]
        rfl
      refine pu 2 64 Z4 HT_ rfl rfl (h := ?_)
      refine pu 3 65 Z5 HT_ rfl rfl (h := ?_)
      refine pv 4 66 Z6 HT_ rfl rfl (h := ?_)
      refine pv 5 67 Z7 HT_ rfl rfl (h := ?_)
      refine pv 6 68 Z8 HT_ rfl rfl (h := ?_)
      refine pv 7 69 Z9 HT_ rfl rfl (h := ?_)
      refine pu 8 70 Z10 HT_ rfl rfl (h := ?_)
      refine pu 9 6 Z11 HT_ rfl rfl (h := ?_)
      refine done_ (done_of HT_.out (by kernel_rfl)) ?_
      try go_wp2
      go_ret
      exact ⟨xre, xq HB⟩
    rw [if_pos c40] at H
    have cOq : (aEf == cQh && (aFj == cQi)) = true := c40
    (try (have eEu : decide (aEf = cQh && (aFj == cQi)) = true := by simpa using c40))
    (try (have eEv : (aEf == cQh && (aFj == cQi)) = true := by simpa using c40))
    clear c40
    obtain rfl := Option.some.inj H
    obtain ⟨aHe, aFw, eM1⟩ := Kd.R_slice pV.out
    subst eM1
    try go_wp2_with (first | ((with_reducible refine gate_builtin (b := .append) (xs := #[.const (.slice none 0 0), .tmp 43]) rfl ?_); (try (refine gate_guard (by rfl) ?_; dsimp only)); at_builtin; refine Kd.R_append_rows (Kd.int .u8) (w0 := w) w.heap.size rfl (.const (.slice none 0 0)) (.tmp 43) 26 5 (.int .u8 0) 1 rfl Try.underlying26 aFk rfl (by decide) (by omega) (.slice none 0 0) ([] : List Int) aJh _ _ _ (fun k_ => some k_ ≠ (.slice aHe aJh.length aFw : Value).ownBlock) (fun _ => False) rfl rfl ?aO ?aR (fun _ _ h => h) (fun _ h => h.elim) ?aF ?aB ?aS ?aL ?_; (case aR => repeat (first | exact (Kd.R_reads' pV.out).2.2 | (with_reducible refine Kd.C_alloc ?_ _) | (with_reducible refine Kd.C_drewN ?_ _) | (with_reducible refine Kd.C_drew ?_))); (case aB => exact (by repeat (first | (with_reducible first | exact HB.out | apply lA | apply lN | apply lD | refine lS ?_ cH1.out | refine lS ?_ cUo.out) | exact HB.out))); (case aF => exact (fun k_ hk => Kd.fresh' (Kd.R_lt (by (with_reducible repeat (first | apply Kd.rA | apply Kd.rN | apply Kd.rD)); exact pV.out)) k_ hk)); (case aO => exact ((Kd.R_nil _ _ _ _ (fun k_ => some k_ ≠ (.slice aHe aJh.length aFw : Value).ownBlock)))); (case aS => exact (lZ (by repeat (first | (with_reducible first | exact HB.out | apply lA | apply lN | apply lD | refine lS ?_ cH1.out | refine lS ?_ cUo.out) | exact HB.out)))); (case aL => have := fCx.out; omega); intro hWy w41 ho hb hg hat; rw [← fCy.out] at ho; replace pV := aZ (Kd.R_after (Kd.R_apart_nil (by (with_reducible repeat (first | apply Kd.rA | apply Kd.rN | apply Kd.rD)); exact pV.out)) hg hat); replace oU := aZ (blk_grown (g := cAz) (o := .cells #[.slice bP aD.length bK] 24 (0, 0)) (xkq oU) hg (by simp [Value.ownBlock])); replace mQ := aZ (blk_grown (g := aGe) (o := .cells #[.int .i64 aHd, .int .i64 bB0] 28 (0, 0)) (xkq mQ) hg (by simp [Value.ownBlock])); replace HB := aZ (hb); have qX := aZ (ho); clear ho hb hg hat; obtain ⟨eYa, cQj, fSk⟩ := Kd.R_slice qX.out; subst fSk; have dN0 : 0 ≤ (a1 : Int) := of_decide_eq_true xas; have dN1 : a1 < (aFv.length : Int) := of_decide_eq_true xas; obtain ⟨gLq, fSd, dB5⟩ := Kd.at_int (Kd.R_reads' qX.out).2.2 a1 dN0 dN1; cases fSd; replace dN0 := eq_true dN0; replace dN1 := eq_true dN1; have p37 : 0 ≤ (a1 : Int) := of_decide_eq_true xas; have q37 : (a1 : Int) < ((aFv.length : Int) : Int) := of_decide_eq_true xas; obtain ⟨bLc, hW4, eMy, eMz, fSf, hW5, eM0⟩ := Kd.R_form qX.out (by omega); (first | cases eMy | (injection eMy with ea_ en_ ec_; (first | subst ea_ | (injection ea_ with ea_; subst ea_)); subst ec_; clear en_)); have fSg := aZ eMz; have hW6 := aZ eM0; clear eMz fSf eM0; (first | simp only [add_plain] at dB5 | skip); obtain ⟨fSh, fSi⟩ := Kd.R_celln 0 qX.out (a1 : Int) p37 q37; replace p37 := eq_true p37; replace q37 := eq_true q37; obtain ⟨iEm, iEn⟩ := Kd.R_celln 0 qX.out (a1 : Int) (of_decide_eq_true xas) (of_decide_eq_true xas); have fSl := Kd.R_putg qX.out (a1 : Int) ((Int.tmod (wrap64 ((wrap64 (rd aFv a1)) + a2)) 256) % 256)) | ((with_reducible refine gate_store (t := 5) (p := 56) rfl ?_); refine store_event (t := 5) (p := 56) (v := ?vo_w45) (w1 := (w41.setCell ⟨bLc, (a1 : Int).toNat, none⟩ (.int .u8 ((Int.tmod (wrap64 ((wrap64 (rd aFv a1)) + a2)) 256) % 256)))) ?hg ?ho ?hn ?hr ?_; (case ho => rfl); (case hg => rfl); (case hn => rfl); (case hr => first | (go_simp; done) | (go_simp; rfl)); intro w45 hw; have hg : w41.grownBy w45 (some bLc) := (by rw [hw]; exact fSl.2); have hp_ : Kd.R (Kd.int .u8) 5 w45 w.heap.size (fun k_ => some k_ ≠ (.slice aHe aJh.length aFw : Value).ownBlock) (.slice (some ⟨bLc, 0, none⟩) aFv.length cQj) cFy := (by rw [hw, fCz.out]; exact fSl.1); clear fSl; replace pV := aZ (Kd.R_after (v := (.slice (some ⟨bLc, 0, none⟩) aFv.length cQj)) (v1 := (.slice (some ⟨bLc, 0, none⟩) aFv.length cQj)) (ok := (fun _ => True)) (by (with_reducible repeat (first | apply Kd.rA | apply Kd.rN | apply Kd.rD)); exact pV.out) hg (.inl rfl)); replace oU := aZ (blk_grown (g := cAz) (o := .cells #[.slice bP aD.length bK] 24 (0, 0)) (xkq oU) hg (Kd.R_ne qX.out oU.out (by decide))); replace mQ := aZ (blk_grown (g := aGe) (o := .cells #[.int .i64 aHd, .int .i64 bB0] 28 (0, 0)) (xkq mQ) hg (Kd.R_ne qX.out mQ.out (by decide))); replace qX := aZ (hp_); replace HB := aZ ((by rw [hw]; exact lS (HB.out) fSg.out : Below w.heap.size w w45)); clear hg hw hp_) | ((with_reducible refine gate_callee (f := 20) rfl ?_); refine goesL_ (some 59) rfl rfl Try.func20 (by kernel_rfl) rfl #[.slice (some ⟨bLc, 0, none⟩) cFy.length cQj] rfl (by (try simp only [List.map_toArray, List.map_cons, List.map_nil]); first | done | (rw [show cFy.length = aFv.length from (Kd.R_reads' qX.out).1.symm] <;> rfl) | rfl | (simp only [List.length_drop, List.length_take]; rfl)) ?_; (with_reducible refine (pack_Read.calls kj6 _ _ cFy aJi aEf aFj _ ?side1 ?side2 A38.out).mono ?_); (case side1 => repeat (first | exact (Kd.R_reads' qX.out).2.2 | (with_reducible refine Kd.C_alloc ?_ _) | (with_reducible refine Kd.C_drewN ?_ _) | (with_reducible refine Kd.C_drew ?_))); (case side2 => rw [show cFy.length = aFv.length from (Kd.R_reads' qX.out).1.symm]; exact (Kd.R_reads' qX.out).2.1); rintro e w46 ⟨hW7, rfl, gZ, hb⟩; refine ⟨_, rfl, ?_⟩; have aE4 := aZ (Kd.S_lower (Kd.S_new' (Kd.S_new' gZ (Kd.R_lt (by (with_reducible repeat (first | apply Kd.rA | apply Kd.rN | apply Kd.rD)); exact pV.out))) (Kd.R_lt (by (with_reducible repeat (first | apply Kd.rA | apply Kd.rN | apply Kd.rD)); exact qX.out))) (lZ (by repeat (first | (with_reducible first | exact HB.out | apply lA | apply lN | apply lD | refine lS ?_ cH1.out | refine lS ?_ cUo.out) | exact HB.out)))); replace pV := xR pV hb; replace qX := xR qX hb; replace oU := xbb oU hb; replace mQ := xbb mQ hb; replace HB := xhl HB hb; (try clear hb); (try clear iV); (try clear hk); (try clear hi); (try clear gZ)) | ((with_reducible refine gate_dst (N := 10) rfl ?_); (try (refine gate_guard (by rfl) ?_; dsimp only)); refine box_event ?hg (N := 10) ?hd (cs := #[.slice none 0 0]) (t := 24) ?hr ?_; (case hd => rfl); (case hg => rfl); (case hr => first | (go_simp; done) | (go_simp; rfl)); intro aCn hg w47 hbox hb; replace pV := xR pV hb; replace qX := xR qX hb; replace aE4 := xS aE4 hb; have yY := aZ (hbox); have gLr := xgh hg HB; have gLs := xgh hg HB; replace HB := xhl HB hb; have cFz := xnl hg oU; have cF0 := xng hg oU; replace oU := xbb oU hb; have cF1 := xnl hg mQ; have cF2 := xng hg mQ; replace mQ := xbb mQ hb; clear hb hbox hg) | ((with_reducible refine gate_dst (N := 11) rfl ?_); (try (refine gate_guard (by rfl) ?_; dsimp only)); refine box_event ?hg (N := 11) ?hd (cs := #[.int .i64 0, .int .i64 0]) (t := 28) ?hr ?_; (case hd => rfl); (case hg => rfl); (case hr => first | (go_simp; done) | (go_simp; rfl)); intro qE hg w48 hbox hb; replace pV := xR pV hb; replace qX := xR qX hb; replace aE4 := xS aE4 hb; have yA := aZ (hbox); have gLt := xgh hg HB; have gLu := xgh hg HB; replace HB := xhl HB hb; have cF3 := xnl hg oU; have cF4 := xng hg oU; replace oU := xbb oU hb; have cF5 := xnl hg mQ; have cF6 := xng hg mQ; replace mQ := xbb mQ hb; have aU1 := xnl hg yY; have bHe := xng hg yY; replace yY := xbb yY hb; clear hb hbox hg; obtain ⟨bU1, bU2, hW8⟩ := Kd.S_slice aE4.out; subst hW8; have bSm := cF0.out; have bSn := cFz.out; have bVi := cF2.out; have bVj := cF1.out; have cTi := aU1.out; have cTj := bHe.out; have cVe : w48.cell? ⟨aCn, 0, none⟩ = some (.slice none 0 0) := (blk_cell yY.out 0).trans rfl; have cVf := blk_frozen yY.out 0; have bCg := cF4.out; have bCh := cF3.out; have bNa := cF6.out; have bNb := cF5.out; have bOt : w48.cell? ⟨qE, 0, none⟩ = some (.int .i64 0) := (blk_cell yA.out 0).trans rfl; have bOu : w48.cell? ⟨qE, 1, none⟩ = some (.int .i64 0) := (blk_cell yA.out 1).trans rfl; have bOv := blk_frozen yA.out 0; have bOw := blk_frozen yA.out 1))
    replace pV : Aside0 (Kd.R (Kd.int .u8) 5 (((w48.setCell ⟨aCn, 0, none⟩ (.slice bU1 aJi.length bU2)).setCell ⟨qE, 0, none⟩ (.int .i64 aEf)).setCell ⟨qE, 1, none⟩ (.int .i64 aFj)) w.heap.size (fun k_ => some k_ ≠ (.slice (some ⟨bLc, 0, none⟩) aFv.length cQj : Value).ownBlock) (.slice aHe aJh.length aFw) aJh) := ⟨by (with_reducible repeat (first | apply Kd.rA | apply Kd.rN | apply Kd.rD)); exact Kd.R_mono (Kd.R_far (p := ⟨qE, 1, none⟩) (Kd.R_far (p := ⟨qE, 0, none⟩) (Kd.R_far (p := ⟨aCn, 0, none⟩) (Kd.R_types (Kd.R_types pV.out yY.out (by decide)) yA.out (by decide)) (fun _ hk => hk.1.2) (.slice bU1 aJi.length bU2)) (fun _ hk => hk.2) (.int .i64 aEf)) (fun _ hk => hk.2) (.int .i64 aFj)) (fun _ hk => hk.1.1.2)⟩
    replace qX : Aside0 (Kd.R (Kd.int .u8) 5 (((w48.setCell ⟨aCn, 0, none⟩ (.slice bU1 aJi.length bU2)).setCell ⟨qE, 0, none⟩ (.int .i64 aEf)).setCell ⟨qE, 1, none⟩ (.int .i64 aFj)) w.heap.size (fun k_ => some k_ ≠ (.slice aHe aJh.length aFw : Value).ownBlock) (.slice (some ⟨bLc, 0, none⟩) aFv.length cQj) cFy) := ⟨by (with_reducible repeat (first | apply Kd.rA | apply Kd.rN | apply Kd.rD)); exact Kd.R_mono (Kd.R_far (p := ⟨qE, 1, none⟩) (Kd.R_far (p := ⟨qE, 0, none⟩) (Kd.R_far (p := ⟨aCn, 0, none⟩) (Kd.R_types (Kd.R_types qX.out yY.out (by decide)) yA.out (by decide)) (fun _ hk => hk.1.2) (.slice bU1 aJi.length bU2)) (fun _ hk => hk.2) (.int .i64 aEf)) (fun _ hk => hk.2) (.int .i64 aFj)) (fun _ hk => hk.1.1)⟩
    replace aE4 : Aside0 (Kd.S qL 46 (((w48.setCell ⟨aCn, 0, none⟩ (.slice bU1 aJi.length bU2)).setCell ⟨qE, 0, none⟩ (.int .i64 aEf)).setCell ⟨qE, 1, none⟩ (.int .i64 aFj)) w.heap.size (fun k_ => some k_ ≠ (.slice aHe aJh.length aFw : Value).ownBlock ∧ some k_ ≠ (.slice (some ⟨bLc, 0, none⟩) aFv.length cQj : Value).ownBlock) (.slice bU1 aJi.length bU2) aJi) := ⟨by (with_reducible repeat (first | apply Kd.S_alloc | apply Kd.S_drewN | apply Kd.S_drew)); exact Kd.S_mono (Kd.S_far (p := ⟨qE, 1, none⟩) (Kd.S_far (p := ⟨qE, 0, none⟩) (Kd.S_far (p := ⟨aCn, 0, none⟩) (Kd.S_types (Kd.S_types aE4.out yY.out (by decide)) yA.out (by decide)) (fun _ hk => hk.1.2) (.slice bU1 aJi.length bU2)) (fun _ hk => hk.2) (.int .i64 aEf)) (fun _ hk => hk.2) (.int .i64 aFj)) (fun _ hk => ⟨hk.1.1.1.2, hk.1.1.2⟩)⟩
    replace oU : Aside0 ((((w48.setCell ⟨aCn, 0, none⟩ (.slice bU1 aJi.length bU2)).setCell ⟨qE, 0, none⟩ (.int .i64 aEf)).setCell ⟨qE, 1, none⟩ (.int .i64 aFj)).heap[cAz]? = some (.cells #[.slice bP aD.length bK] 24 (0, 0))) := xk oU
    replace mQ : Aside0 ((((w48.setCell ⟨aCn, 0, none⟩ (.slice bU1 aJi.length bU2)).setCell ⟨qE, 0, none⟩ (.int .i64 aEf)).setCell ⟨qE, 1, none⟩ (.int .i64 aFj)).heap[aGe]? = some (.cells #[.int .i64 aHd, .int .i64 bB0] 28 (0, 0))) := xk mQ
    replace yY : Aside0 ((((w48.setCell ⟨aCn, 0, none⟩ (.slice bU1 aJi.length bU2)).setCell ⟨qE, 0, none⟩ (.int .i64 aEf)).setCell ⟨qE, 1, none⟩ (.int .i64 aFj)).heap[aCn]? = some (.cells #[.slice bU1 aJi.length bU2] 24 (0, 0))) := ⟨by refine xpl ?_; refine blk_far ?_ aU1.out _; refine xpl ?_; refine blk_far ?_ aU1.out _; refine xpl ?_; refine blk_put (cs := #[.slice none 0 0]) ?_ 0 _ rfl; refine xpl ?_; exact yY.out⟩
    replace yA : Aside0 ((((w48.setCell ⟨aCn, 0, none⟩ (.slice bU1 aJi.length bU2)).setCell ⟨qE, 0, none⟩ (.int .i64 aEf)).setCell ⟨qE, 1, none⟩ (.int .i64 aFj)).heap[qE]? = some (.cells #[.int .i64 aEf, .int .i64 aFj] 28 (0, 0))) := ⟨by refine xpl ?_; refine blk_put (cs := #[.int .i64 aEf, .int .i64 0]) ?_ 1 _ rfl; refine xpl ?_; refine blk_put (cs := #[.int .i64 0, .int .i64 0]) ?_ 0 _ rfl; refine xpl ?_; refine blk_far ?_ bHe.out _; refine xpl ?_; exact yA.out⟩
    replace HB : Aside0 (Below w.heap.size w (((w48.setCell ⟨aCn, 0, none⟩ (.slice bU1 aJi.length bU2)).setCell ⟨qE, 0, none⟩ (.int .i64 aEf)).setCell ⟨qE, 1, none⟩ (.int .i64 aFj))) := xb HB
    generalize (((w48.setCell ⟨aCn, 0, none⟩ (.slice bU1 aJi.length bU2)).setCell ⟨qE, 0, none⟩ (.int .i64 aEf)).setCell ⟨qE, 1, none⟩ (.int .i64 aFj)) = w57 at pV qX aE4 oU mQ yY yA HB ⊢
    replace pV := aZ (Kd.rD pV.out)
    replace qX := aZ (Kd.rD qX.out)
    replace aE4 := aZ (Kd.S_drew aE4.out)
    replace oU := aZ (bD oU.out)
    replace mQ := aZ (bD mQ.out)
    replace yY := aZ (bD yY.out)
    replace yA := aZ (bD yA.out)
    replace HB := aZ (lD HB.out)
    refine start_ (n := 10) (S := fun w' => w'.cell? ⟨qE, 0, none⟩ = some (.int .i64 aEf) ∧ w'.cell? ⟨qE, 1, none⟩ = some (.int .i64 aFj) ∧ w'.cell? ⟨aCn, 0, none⟩ = some (.slice bU1 aJi.length bU2)) (ds := []) Z1 (by kernel_rfl) rfl rfl ⟨(blk_cell yA.out 0).trans rfl, (blk_cell yA.out 1).trans rfl, (blk_cell yY.out 0).trans rfl⟩ (fun hHeld => ?_); refine with_tabW changeforgelaw3_PackDetectsChange.tab9 changeforgelaw3_PackDetectsChange.bits9 (fun HT_ HW_ => ?_)
    generalize w57.drew = w58 at pV qX aE4 oU mQ yY yA HB hHeld ⊢
    refine tk 0 62 Z2 HT_ HW_ rfl rfl hHeld (by rintro w' ⟨s0, s1, s2⟩; go_simp; with_reducible rfl) (h := ?_)
    refine one_ (i := 1) (N := some 63) Z3 rfl rfl (one_of HT_.out (by kernel_rfl)) (by decide) (fun K hK => ?_)
    refine goes_ Try.func18 (by kernel_rfl) rfl #[.int .i64 18, .int .i64 0] (by rfl) rfl rfl xmp ?_
    with_reducible refine (aT.calls 18 0 cQh cQi _ A39.out).mono ?_
    rintro e w59 ⟨rfl, hb⟩
    refine ⟨_, rfl, ?_⟩
    replace pV := xR pV hb
    replace qX := xR qX hb
    replace aE4 := xS aE4 hb
    replace oU := xbb oU hb
    replace mQ := xbb mQ hb
    replace yY := xbb yY hb
    replace yA := xbb yA hb
    replace HB := xhl HB hb
    (try clear hb)
    (try clear iV)
    (try clear hk)
    (try clear hi)
    refine hK.out _ _ ⟨(blk_cell yA.out 0).trans rfl, (blk_cell yA.out 1).trans rfl, (blk_cell yY.out 0).trans rfl⟩ (fun hHeld => ?_)
    clear hK K
    refine norm_ (a' := ?_) ?_ ?_
    rotate_left
    · show Act.put _ (some 63) _ = _
      simp only [Act.put, List.setIfInBounds_toArray, List.set_cons_zero, List.set_cons_succ, i64_w, i32_w]
      rfl
    refine pu 2 64 Z4 HT_ rfl rfl (h := ?_)
    refine pu 3 65 Z5 HT_ rfl rfl (h := ?_)
    refine pu 4 66 Z6 HT_ rfl rfl (h := ?_)
    refine tk 5 67 Z7 HT_ HW_ rfl rfl hHeld (by rintro w' ⟨s0, s1, s2⟩; go_simp; with_reducible rfl) (h := ?_)
    refine pu 6 68 Z8 HT_ rfl rfl (h := ?_)
    refine pu 7 69 Z9 HT_ rfl rfl (h := ?_)
    refine pu 8 70 Z10 HT_ rfl rfl (h := ?_)
    refine pu 9 6 Z11 HT_ rfl rfl (h := ?_)
    refine done_ (done_of HT_.out (by kernel_rfl)) ?_
    try go_wp2
    go_ret
    exact ⟨xre, xq HB⟩
/-- THE PURE STATEMENT of changeforgelaw3_PackDetectsChange. -/
def changeforgelaw3_PackDetectsChange.Pure : Prop := ∀ (x0 : S24) (a1 : Int) (a2 : Int), S24.ok x0 → (Lit.int .i64 a1).wf = true → (Lit.int .i64 a2).wf = true → ∃ k, changeforgelaw3_PackDetectsChange.f k x0.f0 a1 a2 = some true
end

end Go.Proofs.Ytnmkmamobhkcbaa.P

/- The pure statement of PackDetectsChange. -/
namespace Go.Proofs.Ytnmkmamobhkcbaa.Pure
open Go.RowKit Go.Proofs.YtnmkmamobhkcbaaW.PrintWords Go.Proofs.YtnmkmamobhkcbaaW.PrintEv Go.Proofs.Ytnmkmamobhkcbaa.P Go.Proofs.Ytnmkmamobhkcbaa.Dig Go.Proofs.Ytnmkmamobhkcbaa.Obj
set_option linter.unusedVariables false
theorem rejected {l : List SO} (hp : ∀ x ∈ l, fB.ok x) {n : Nat} {v : Int} (hn : n < (pkb l).length) (hv : 0 ≤ v ∧ v ≤ 255) (hne : v ≠ rd (pkb l) (n : Int)) (hL : ((pkl l).length : Int) ≤ 4088) : Ev (fun k => pack_read.f k ((pkb l).set n v)) ([], [], 18, 0) := by
  have hd := dgf_lt (h := 1) (bs := pkl l) (by decide)
  have hB := pkl_bytes hp
  have hl : (pkb l).length = (pkl l).length + 8 := by unfold pkb; rw [List.length_append, wide_len]
  have h3 : 3 ≤ (pkl l).length := by
    show 3 ≤ ((([80, 75, (l.length : Int) % 256] : List Int) ++ l.flatMap pk1).length)
    rw [List.length_append]
    simp only [List.length_cons, List.length_nil]
    omega
  have hb : Bytes (pkb l) := Bytes.append hB (wide_bytes _)
  have hby : Bytes ((pkb l).set n v) := fun b h => by
    rcases List.mem_or_eq_of_mem_set h with h | h
    · exact hb b h
    · rw [h]; exact hv
  have hlen : ((pkb l).set n v).length = (pkl l).length + 8 := by rw [List.length_set, hl]
  refine read_corrupt hby (by omega) (by omega) ?_
  rw [show ((pkb l).set n v).length - 8 = (pkl l).length by omega]
  by_cases c : n < (pkl l).length
  · have e : (pkb l).set n v = (pkl l).set n v ++ wide (dgf 1 (pkl l)) := by unfold pkb; rw [List.set_append_left _ _ c]
    have hlc : (pkl l).length = ((pkl l).set n v).length := by rw [List.length_set]
    rw [e, hlc, List.take_left, List.drop_left]
    intro h
    have h2 := dgf_set hB c hv (wide_inj (dgf_lt (by decide)) hd h)
    apply hne
    rw [h2]
    unfold pkb
    rw [rd_append_left (by omega) (by omega)]
  · have e : (pkb l).set n v = pkl l ++ (wide (dgf 1 (pkl l))).set (n - (pkl l).length) v := by unfold pkb; rw [List.set_append_right _ _ (by omega)]
    rw [e, List.take_left, List.drop_left]
    intro h
    have hk : n - (pkl l).length < (wide (dgf 1 (pkl l))).length := by rw [wide_len]; omega
    have h1 : (wide (dgf 1 (pkl l)))[n - (pkl l).length]? = some v := by
      rw [h, List.getElem?_set_self hk]
    apply hne
    have h2 : rd (pkb l) (n : Int) = (pkb l)[n] := rd_nat _ hn
    rw [h2]
    have h4 : (pkb l)[n]? = some v := by
      unfold pkb
      rw [List.getElem?_append_right (by omega)]
      exact h1
    rw [List.getElem?_eq_getElem hn] at h4
    exact (Option.some.inj h4).symm
theorem PackDetectsChange : changeforgelaw3_PackDetectsChange.Pure := by
  intro s at_ by_ hs ha hb
  refine ev_ex ?_
  have hp := hs.2
  obtain ⟨l⟩ := s
  have hp : ∀ x ∈ l, fB.ok x := hp
  show Ev (fun k => changeforgelaw3_PackDetectsChange.f k l at_ by_) true
  unfold changeforgelaw3_PackDetectsChange.f
  refine ev_bind pexample_ev (ev_pos rfl (ev_bind (build_ev hp) ?_))
  unfold pbR
  by_cases h : (sf l).1 ≠ 0
  · rw [if_pos h]
    refine ev_neg h ?_
    refine Ev.step (fun k_ => by rw [changeforgelaw3_PackDetectsChange.j0]) ?_
    exact ev_pos rfl (ev_neg h (ev_now _))
  rw [if_neg h]
  by_cases c : ((pkl l).length : Int) > 4088
  · rw [if_pos c]
    refine ev_neg (by decide) ?_
    refine Ev.step (fun k_ => by rw [changeforgelaw3_PackDetectsChange.j0]) ?_
    exact ev_pos rfl (ev_neg (by decide) (ev_now _))
  rw [if_neg c]
  have hl : (pkb l).length = (pkl l).length + 8 := by unfold pkb; rw [List.length_append, wide_len]
  refine ev_pos rfl (ev_const (In_eq _ _ _) ?_)
  rw [w64 (x := ((pkb l).length : Int) - 1) (by omega)]
  by_cases c1 : 0 ≤ at_ ∧ at_ ≤ ((pkb l).length : Int) - 1
  · refine ev_pos (decide_eq_true c1) (ev_const (In_eq _ _ _) ?_)
    by_cases c2 : 1 ≤ by_ ∧ by_ ≤ 255
    · rw [decide_eq_true c2]
      refine Ev.step (fun k_ => by rw [changeforgelaw3_PackDetectsChange.j0]) ?_
      obtain ⟨n, rfl⟩ := Int.eq_ofNat_of_zero_le c1.1
      have hby : Bytes (pkb l) := Bytes.append (pkl_bytes hp) (wide_bytes _)
      have hold := hby _ (rd_mem (xs := pkb l) (i := (n : Int)) (by omega) (by omega))
      have hv : (Int.tmod (wrap64 ((wrap64 (rd (pkb l) (n : Int))) + by_)) 256) % 256 = (rd (pkb l) (n : Int) + by_) % 256 := by
        rw [w64 (x := rd (pkb l) (n : Int)) (by omega), w64 (x := rd (pkb l) (n : Int) + by_) (by omega), Int.tmod_eq_emod_of_nonneg (by omega)]
        omega
      have hr := rejected hp (n := n) (v := (rd (pkb l) (n : Int) + by_) % 256) (by omega) (by omega) (by omega) (by omega)
      rw [← hv] at hr
      have hR : Ev (fun k => pack_Read.f k ((pkb l).set n ((Int.tmod (wrap64 ((wrap64 (rd (pkb l) (n : Int))) + by_)) 256) % 256))) ([], 18, 0) := by
        unfold pack_Read.f
        exact ev_bind hr (ev_now _)
      refine ev_neg (by decide) (ev_pos (by simp; omega) (ev_some (ev_pos (by omega) (ev_pos (by show (n : Int) < ((pkb l).length : Int); omega) (ev_bind hR (ev_const (Fault_eq _ _) (ev_pos rfl (ev_now _))))))))
    · rw [decide_eq_false c2]
      refine Ev.step (fun k_ => by rw [changeforgelaw3_PackDetectsChange.j0]) ?_
      exact ev_pos rfl (ev_pos rfl (ev_now _))
  · refine ev_neg (fun h => c1 (of_decide_eq_true h)) ?_
    refine Ev.step (fun k_ => by rw [changeforgelaw3_PackDetectsChange.j0]) ?_
    exact ev_pos rfl (ev_pos rfl (ev_now _))
end Go.Proofs.Ytnmkmamobhkcbaa.Pure

/- The statement PackDetectsChange holds: for every input the law returns true and its arguments read as before. The row, out of the pure statement (PurePackDetectsChange) and the printed contract. -/
namespace Go.Proofs.Ytnmkmamobhkcbaa.packDetectsChange
open Go.ChangeShapes Go.WideShapes Go.ChangeAt Go.RowKit
open Go.ChangeMaps (open_string shut_string)
open Go.Proofs.YtnmkmamobhkcbaaW.PrintWords Go.Proofs.YtnmkmamobhkcbaaW.PrintOpen Go.Proofs.Ytnmkmamobhkcbaa.P
set_option linter.unusedVariables false
theorem own : ownKnob Try.prog.godebug = none := by kernel_rfl
theorem laidOut : laidOutB Try.prog = true := by kernel_rfl
set_option maxRecDepth 100000 in
theorem lifted (os : Os) (started : os.Started) (H : Type) (enc : TypeId × Value → H) :
    ReturnsInHanded {} Try.checked os 4 .any (Rows.packDetectsChangeSpec.pre6 enc Try.prog Try.f4 Rows.packDetectsChangeRow.domain false) (Rows.packDetectsChangeSpec.post enc Try.prog Try.f4 false true false false) := by
  refine returnsInHanded_of_change_sized (C := Try.checked) own started (by kernel_rfl) Try.func4
    (ChangeSpec.witness6 (enc := enc) (C := Try.checked) false ⟨#[], #[.agg #[.slice none 0 0], .int .i64 0, .int .i64 0], []⟩ 8 (by kernel_rfl) (by kernel_rfl) (by kernel_rfl) (by kernel_rfl)) ?_
  intro W base args ds gs before aDj hW hcnd aQc _
  have hsz : (DataW.weightsEach Try.prog (Try.f4.params.toList ++ Rows.packDetectsChangeSpec.plain.varTypes Try.prog) (ds ++ gs)).all (· ≤ reachBytes) = true := aQc
  have hval : ∀ (j : Nat) t v, Try.f4.params[j]? = some t → args[j]? = some v → Value.okWide Try.prog W .any base t v := aDj
  have hW' := hW
  obtain ⟨p, q, hA0, hV, rfl, hfz, hnd⟩ := hW
  have hA : DataW.TrodAll enc Try.prog W 0 (fun _ => true) true Try.f4.params.toList args.toList ds p := hA0
  rw [Try.params4] at hA hval hsz
  obtain ⟨v0, vs0, d0, ds0, p0, q0, hargs, rfl, rfl, h0, r0⟩ := trodAll_cons hA
  obtain ⟨v1, vs1, d1, ds1, p1, q1, rfl, rfl, rfl, h1, r1⟩ := trodAll_cons r0
  obtain ⟨v2, vs2, d2, ds2, p2, q2, rfl, rfl, rfl, h2, r2⟩ := trodAll_cons r1
  obtain ⟨rfl, rfl, rfl⟩ := trodAll_nil r2
  obtain rfl : args = #[v0, v1, v2] := by cases args; simp_all
  obtain ⟨rfl, rfl⟩ := trodVars_none hV
  obtain ⟨cs0, rfl, _⟩ := okWide_struct Try.underlying24 (hval 0 24 v0 rfl rfl)
  have k0 := h0
  have lt0 : ∀ x ∈ p0, x.block < W.heap.size := by obtain ⟨m, hm⟩ := k0; exact DataW.trod_lt m _ _ _ hm
  obtain ⟨x0, hk0, y0⟩ := open_arg_struct aEm h0 (fits_arg hsz (j := 0) rfl rfl)
  obtain ⟨bUg, bUh, z0, nA, mZ⟩ := aDk hk0
  have z0_ := Array.toList_inj.1 (z0.trans (show _ = Array.toList #[.slice bUg x0.f0.length bUh] from rfl))
  subst z0_
  obtain ⟨a1, rfl, rfl, rfl, w1⟩ := open_int Try.underlying3 (hval 1 3 v1 rfl rfl) h1
  obtain ⟨a2, rfl, rfl, rfl, w2⟩ := open_int Try.underlying3 (hval 2 3 v2 rfl rfl) h2
  clear hA0 aDj aQc hsz
  obtain ⟨k, hp⟩ := Pure.PackDetectsChange x0 a1 a2 y0 w1 w2
  refine (P.changeforgelaw3_PackDetectsChange.calls k _ _ x0.f0 a1 a2 true W mZ nA hp).mono fun e W' ⟨he, bel⟩ => ?_
  subst he
  exact ⟨_, rfl, _, _, _, [], _, [], hW', trodAll_mk1 (shut_bool Try.underlying4 _), (trodAll_cons_mk (Below.trod laidOut (by kernel_rfl) (of_decide_eq_true (by kernel_rfl)) k0 bel lt0) (trodAll_cons_mk (shut_int Try.underlying3 w1) (trodAll_cons_mk (shut_int Try.underlying3 w2) trodAll_mk0))), rfl, bel.frame _, fun h => by cases h⟩
theorem over : Rows.packDetectsChangeRow.holds Try.pinned (OpenSpec.ofChange Rows.packDetectsChangeSpec) :=
  OpenClaim.holds_of_wide 4 Try.f4 rfl rfl rfl rfl rfl rfl rfl ⟨rfl, rfl, rfl, rfl, rfl⟩ rfl rfl rfl rfl rfl (by kernel_rfl) Try.func4 (by kernel_rfl)
    (of_decide_eq_true (by kernel_rfl)) (by unfold Func.isWrapper; first | (rw [if_pos (by decide +kernel)]; kernel_rfl) | (rw [if_neg (by decide +kernel)]; exact ⟨rfl, rfl⟩))
    (fun os started H enc _ => lifted os started H enc)
theorem proved : Rows.PackDetectsChangeSaid := over
#print axioms proved
end Go.Proofs.Ytnmkmamobhkcbaa.packDetectsChange
namespace Go.Proofs.Ytnmkmamobhkcbaa
/-- The row, under a short name, for the claim. -/
theorem packDetectsChange_holds : Rows.PackDetectsChangeSaid := packDetectsChange.proved
end Go.Proofs.Ytnmkmamobhkcbaa
