/- Texts of the proofs of ObjectsMergeMatchesSpec: what the printed functions come to, plain laws, rows (no condition beyond the statements' own). -/
import Derived.Test.YtnmkmamobhkcbaaGP0
import Derived.Test.YtnmkmamobhkcbaaGP24
import Derived.Test.YtnmkmamobhkcbaaGP35
import Derived.Test.YtnmkmamobhkcbaaGP62
import Derived.Test.YtnmkmamobhkcbaaGP68
import Derived.Test.YtnmkmamobhkcbaaGP69
import Derived.Test.YtnmkmamobhkcbaaGObj8
import Derived.Test.YtnmkmamobhkcbaaRows
import Derived.WalkKit
import Derived.ProofKit
import Derived.OpenShut
import Derived.ShutString
import Derived.ChangeOld
import Derived.Below
import Derived.SizedLaws
import Derived.Carry
namespace Go.Proofs.Ytnmkmamobhkcbaa.P
open Go.RowKit Go.Proofs.YtnmkmamobhkcbaaW.PrintWords Go.Proofs.YtnmkmamobhkcbaaW.PrintLast Go.Proofs.YtnmkmamobhkcbaaW.PrintMore
attribute [local go_sem] max2_int min2_int max_two min_two max_three min_three max_four min_four   -- for this text's walks alone
set_option linter.unusedVariables false
set_option linter.unusedSimpArgs false
section
attribute [local go_sem high] bAt
def changeforgelaw3_ObjectsMergeMatchesSpec.j0 : Nat → List (fB) → List (fB) → List (fB) → Int → Int → Int → Int → Option (Bool)
  | 0, _, _, _, _, _, _, _ => none
  | k + 1, eV3, eV4, dU3, dU4, dU5, dU6, eV5 => if dU6 = 0 then ((aC.f k eV3 eV4).bind fun eK7 => (if (dU4 == eK7.2.1 && (dU5 == eK7.2.2)) = true then ((aI.f k dU3 eK7.1).bind fun dZo => (some dZo)) else (some false))) else (if (dU4 == dU6 && (dU5 == eV5)) = true then ((aI.f k dU3 ([] : List (fB))).bind fun eV6 => (some eV6)) else (some false))
def changeforgelaw3_ObjectsMergeMatchesSpec.f (k : Nat) (aD : List (fB)) (bR : List (fB)) : Option (Bool) := (aW.f k).bind fun dZp => (if dZp = true then ((objects_Merge.f k aD bR).bind fun aE2 => ((aH.f k aD).bind fun aRl => (if aRl.1 = 0 then ((aH.f k bR).bind fun aVy => (changeforgelaw3_ObjectsMergeMatchesSpec.j0 k aD bR aE2.1 aE2.2.1 aE2.2.2 aVy.1 aVy.2)) else (changeforgelaw3_ObjectsMergeMatchesSpec.j0 k aD bR aE2.1 aE2.2.1 aE2.2.2 aRl.1 aRl.2)))) else (some false))
theorem changeforgelaw3_ObjectsMergeMatchesSpec.mono_l : ∀ k, (∀ y0 y1 y2 y3 y4 y5 y6, LeO (changeforgelaw3_ObjectsMergeMatchesSpec.j0 k y0 y1 y2 y3 y4 y5 y6) (changeforgelaw3_ObjectsMergeMatchesSpec.j0 (k + 1) y0 y1 y2 y3 y4 y5 y6))
  | 0 => fun _ _ _ _ _ _ _ r h => by simp [changeforgelaw3_ObjectsMergeMatchesSpec.j0] at h
  | k + 1 => by
    have mU := changeforgelaw3_ObjectsMergeMatchesSpec.mono_l k
    · intro y0 y1 y2 y3 y4 y5 y6
      unfold changeforgelaw3_ObjectsMergeMatchesSpec.j0
      repeat' first | (with_reducible first | exact mU _ _ _ _ _ _ _ | exact aW.mono _ | exact aC.mono _ _ _ | exact aH.mono _ _ | exact aI.mono _ _ _ | exact objects_Merge.mono _ _ _ | exact LeO.refl _ | exact LeO.none _ | refine LeO.ite ?_ ?_ | refine LeO.bind ?_ (fun _ => ?_)) | exact mU _ _ _ _ _ _ _ | exact aW.mono _ | exact aC.mono _ _ _ | exact aH.mono _ _ | exact aI.mono _ _ _ | exact objects_Merge.mono _ _ _ | exact LeO.none _ | refine LeO.ite ?_ ?_ | refine LeO.bind ?_ (fun _ => ?_)
theorem changeforgelaw3_ObjectsMergeMatchesSpec.mono : ∀ a0 a1 k, LeO (changeforgelaw3_ObjectsMergeMatchesSpec.f k a0 a1) (changeforgelaw3_ObjectsMergeMatchesSpec.f (k + 1) a0 a1) := by
  intro a0 a1 k
  have mU := changeforgelaw3_ObjectsMergeMatchesSpec.mono_l k
  unfold changeforgelaw3_ObjectsMergeMatchesSpec.f
  repeat' first | (with_reducible first | exact mU _ _ _ _ _ _ _ | exact aW.mono _ | exact aC.mono _ _ _ | exact aH.mono _ _ | exact aI.mono _ _ _ | exact objects_Merge.mono _ _ _ | exact LeO.refl _ | exact LeO.none _ | refine LeO.ite ?_ ?_ | refine LeO.bind ?_ (fun _ => ?_)) | exact mU _ _ _ _ _ _ _ | exact aW.mono _ | exact aC.mono _ _ _ | exact aH.mono _ _ | exact aI.mono _ _ _ | exact objects_Merge.mono _ _ _ | exact LeO.none _ | refine LeO.ite ?_ ?_ | refine LeO.bind ?_ (fun _ => ?_)
set_option maxHeartbeats 8000000 in
set_option maxRecDepth 100000 in
theorem changeforgelaw3_ObjectsMergeMatchesSpec.calls (k : Nat) (bP : Option Addr) (bK : Nat) (aD : List (fB)) (tT : Option Addr) (qD : Nat) (bR : List (fB)) (r : Bool) (w : World) (mZ : Kd.C qL w bP aD.length aD) (nA : aD.length ≤ bK) (bLw : Kd.C qL w tT bR.length bR) (bLx : bR.length ≤ qD) (h : changeforgelaw3_ObjectsMergeMatchesSpec.f k aD bR = some r) :
  Calls Try.prog 12 #[.agg #[.slice bP aD.length bK], .agg #[.slice tT bR.length qD]] w fun e w' => e = .returned (.bool r) ∧ Below w.heap.size w w' := by
  have aP7 := Try.underlying24
  have aQg := Try.underlying28
  have fI := aZ mZ
  have lC := aZ nA
  clear mZ nA
  have bCm := aZ bLw
  have bXm := aZ bLx
  clear bLw bLx
  have HB := aZ (Below.refl w.heap.size w)
  have H : ((aW.f k).bind fun dZp => (if dZp = true then ((objects_Merge.f k aD bR).bind fun aE2 => ((aH.f k aD).bind fun aRl => (if aRl.1 = 0 then ((aH.f k bR).bind fun aVy => (changeforgelaw3_ObjectsMergeMatchesSpec.j0 k aD bR aE2.1 aE2.2.1 aE2.2.2 aVy.1 aVy.2)) else (changeforgelaw3_ObjectsMergeMatchesSpec.j0 k aD bR aE2.1 aE2.2.1 aE2.2.2 aRl.1 aRl.2)))) else (some false))) = some r := h
  clear h
  replace H := Option.bind_eq_some_iff.mp H
  obtain ⟨dZp, A30, H⟩ := H
  replace H : (if dZp = true then ((objects_Merge.f k aD bR).bind fun aE2 => ((aH.f k aD).bind fun aRl => (if aRl.1 = 0 then ((aH.f k bR).bind fun aVy => (changeforgelaw3_ObjectsMergeMatchesSpec.j0 k aD bR aE2.1 aE2.2.1 aE2.2.2 aVy.1 aVy.2)) else (changeforgelaw3_ObjectsMergeMatchesSpec.j0 k aD bR aE2.1 aE2.2.1 aE2.2.2 aRl.1 aRl.2)))) else (some false)) = some r := H
  have A3 := aZ A30
  clear A30
  by_cases c4 : dZp = true
  rotate_left
  · replace c4 := Bool.eq_false_iff.mpr c4
    subst c4
    have H1 : (some false) = some r := by rw [if_neg (show ¬ (false = true) by decide)] at H; exact H
    clear H
    have H := H1
    clear H1
    obtain rfl := Option.some.inj H
    go_enter Try.func12, Try.ntmps12
    go_wp2_with (first | ((with_reducible refine gate_dst (N := 2) rfl ?_); refine box_event ?hg (N := 2) ?hd (cs := #[.slice bP aD.length bK]) (t := 24) ?hr ?_; (case hd => rfl); (case hg => rfl); (case hr => first | (go_simp; done) | (go_simp; rfl)); intro bA8 hg bUj hbox hb; have nN := aZ (hbox); have dU7 := xgh hg HB; have bC2 := xgh hg HB; replace HB := xhl HB hb; clear hb hbox hg) | ((with_reducible refine gate_dst (N := 3) rfl ?_); refine box_event ?hg (N := 3) ?hd (cs := #[.slice tT bR.length qD]) (t := 24) ?hr ?_; (case hd => rfl); (case hg => rfl); (case hr => first | (go_simp; done) | (go_simp; rfl)); intro bA9 hg eTs hbox hb; have oL := aZ (hbox); have dU8 := xgh hg HB; have bC3 := xgh hg HB; replace HB := xhl HB hb; have bFl := xnl hg nN; have bFm := xng hg nN; replace nN := xbb nN hb; clear hb hbox hg) | ((with_reducible refine gate_callee (f := 28) rfl ?_); refine goesL_ (some 9) rfl rfl Try.func28 (by kernel_rfl) rfl #[] rfl xmp ?_; (with_reducible refine (aW.calls k  false _ A3.out).mono ?_); rintro e eUr ⟨rfl, hb⟩; refine ⟨_, rfl, ?_⟩; replace nN := xbb nN hb; replace oL := xbb oL hb; replace HB := xhl HB hb; skip; (try clear hb); (try clear iV); (try clear hk); (try clear hi)))
    go_ret
    exact ⟨xre, xq HB⟩

  subst c4
  have H1 : ((objects_Merge.f k aD bR).bind fun aE2 => ((aH.f k aD).bind fun aRl => (if aRl.1 = 0 then ((aH.f k bR).bind fun aVy => (changeforgelaw3_ObjectsMergeMatchesSpec.j0 k aD bR aE2.1 aE2.2.1 aE2.2.2 aVy.1 aVy.2)) else (changeforgelaw3_ObjectsMergeMatchesSpec.j0 k aD bR aE2.1 aE2.2.1 aE2.2.2 aRl.1 aRl.2)))) = some r := by rw [if_pos rfl] at H; exact H
  clear H
  have H := H1
  clear H1
  replace H := Option.bind_eq_some_iff.mp H
  obtain ⟨⟨aVz, aNv, aOe⟩, A50, H⟩ := H
  replace H : ((aH.f k aD).bind fun aRl => (if aRl.1 = 0 then ((aH.f k bR).bind fun aVy => (changeforgelaw3_ObjectsMergeMatchesSpec.j0 k aD bR aVz aNv aOe aVy.1 aVy.2)) else (changeforgelaw3_ObjectsMergeMatchesSpec.j0 k aD bR aVz aNv aOe aRl.1 aRl.2))) = some r := H
  have A5 := aZ A50
  clear A50
  replace H := Option.bind_eq_some_iff.mp H
  obtain ⟨⟨bSg, cZ9⟩, A60, H⟩ := H
  replace H : (if bSg = 0 then ((aH.f k bR).bind fun aVy => (changeforgelaw3_ObjectsMergeMatchesSpec.j0 k aD bR aVz aNv aOe aVy.1 aVy.2)) else (changeforgelaw3_ObjectsMergeMatchesSpec.j0 k aD bR aVz aNv aOe bSg cZ9)) = some r := H
  have A6 := aZ A60
  clear A60
  have HC7 := aZ H
  clear H
  go_enter Try.func12, Try.ntmps12
  go_upto_if 21 with (first | ((with_reducible refine gate_dst (N := 2) rfl ?_); refine box_event ?hg (N := 2) ?hd (cs := #[.slice bP aD.length bK]) (t := 24) ?hr ?_; (case hd => rfl); (case hg => rfl); (case hr => first | (go_simp; done) | (go_simp; rfl)); intro bA8 hg w8 hbox hb; have nN := aZ (hbox); have dU7 := xgh hg HB; have bC2 := xgh hg HB; replace HB := xhl HB hb; clear hb hbox hg) | ((with_reducible refine gate_dst (N := 3) rfl ?_); refine box_event ?hg (N := 3) ?hd (cs := #[.slice tT bR.length qD]) (t := 24) ?hr ?_; (case hd => rfl); (case hg => rfl); (case hr => first | (go_simp; done) | (go_simp; rfl)); intro bA9 hg w9 hbox hb; have oL := aZ (hbox); have dU8 := xgh hg HB; have bC3 := xgh hg HB; replace HB := xhl HB hb; have bFl := xnl hg nN; have bFm := xng hg nN; replace nN := xbb nN hb; clear hb hbox hg) | ((with_reducible refine gate_callee (f := 28) rfl ?_); refine goesL_ (some 9) rfl rfl Try.func28 (by kernel_rfl) rfl #[] rfl xmp ?_; (with_reducible refine (aW.calls k  true _ A3.out).mono ?_); rintro e w10 ⟨rfl, hb⟩; refine ⟨_, rfl, ?_⟩; replace nN := xbb nN hb; replace oL := xbb oL hb; replace HB := xhl HB hb; skip; (try clear hb); (try clear iV); (try clear hk); (try clear hi); have bMj := bFl.out; have bMk := bFm.out; have aHh : w10.cell? ⟨bA8, 0, none⟩ = some (.slice bP aD.length bK) := (blk_cell nN.out 0).trans rfl; have aHi := blk_frozen nN.out 0; have bCd : w10.cell? ⟨bA9, 0, none⟩ = some (.slice tT bR.length qD) := (blk_cell oL.out 0).trans rfl; have bCe := blk_frozen oL.out 0) | ((with_reducible refine gate_callee (f := 37) rfl ?_); refine goesL_ (some 14) rfl rfl Try.func37 (by kernel_rfl) rfl #[.agg #[.slice bP aD.length bK], .agg #[.slice tT bR.length qD]] rfl xmp ?_; (with_reducible refine (objects_Merge.calls k (fun k_ => k_ < w.heap.size) _ _ aD (fun k_ => k_ < w.heap.size) _ _ bR aVz aNv aOe _ ?side1 ?side2 A5.out).mono ?_); (case side1 => exact Kd.V_mk lC.out (Kd.F_below (Kd.C_F uK fI.out) (by repeat (first | (with_reducible first | exact HB.out | apply lA | apply lN | apply lD | refine lS ?_ bC2.out | refine lS ?_ bC3.out) | exact HB.out)))); (case side2 => exact Kd.V_mk bXm.out (Kd.F_below (Kd.C_F uK bCm.out) (by repeat (first | (with_reducible first | exact HB.out | apply lA | apply lN | apply lD | refine lS ?_ bC2.out | refine lS ?_ bC3.out) | exact HB.out)))); rintro e w14 ⟨iJi, rfl, gZ, hb⟩; refine ⟨_, rfl, ?_⟩; have bFn := aZ (Kd.N_lower (Kd.N_mono (ok' := fun k_ => k_ ≠ bA8 ∧ k_ ≠ bA9) gZ (fun k_ hk_ => ⟨xfB hk_ dU7 nN, xfB hk_ dU8 oL⟩)) (lZ (by repeat (first | (with_reducible first | exact HB.out | apply lA | apply lN | apply lD | refine lS ?_ bC2.out | refine lS ?_ bC3.out) | exact HB.out)))); replace nN := xbb nN hb; replace oL := xbb oL hb; replace HB := xhl HB hb; (try clear hb); (try clear iV); (try clear hk); (try clear hi); (try clear gZ)) | ((with_reducible refine gate_dst (N := 5) rfl ?_); refine box_event ?hg (N := 5) ?hd (cs := #[.slice none 0 0]) (t := 24) ?hr ?_; (case hd => rfl); (case hg => rfl); (case hr => first | (go_simp; done) | (go_simp; rfl)); intro bBa hg w15 hbox hb; replace bFn := xeB bFn hg hb; have tJ := aZ (hbox); have fB7 := xgh hg HB; have bS8 := xgh hg HB; replace HB := xhl HB hb; have bQa := xnl hg nN; have bQb := xng hg nN; replace nN := xbb nN hb; have bFo := xnl hg oL; have bFp := xng hg oL; replace oL := xbb oL hb; clear hb hbox hg) | ((with_reducible refine gate_dst (N := 6) rfl ?_); refine box_event ?hg (N := 6) ?hd (cs := #[.int .i64 0, .int .i64 0]) (t := 28) ?hr ?_; (case hd => rfl); (case hg => rfl); (case hr => first | (go_simp; done) | (go_simp; rfl)); intro aJb hg w16 hbox hb; replace bFn := xeB bFn hg hb; have pM := aZ (hbox); have fB8 := xgh hg HB; have bS9 := xgh hg HB; replace HB := xhl HB hb; have bFq := xnl hg nN; have bFr := xng hg nN; replace nN := xbb nN hb; have aY8 := xnl hg oL; have aY9 := xng hg oL; replace oL := xbb oL hb; have aT2 := xnl hg tJ; have aZa := xng hg tJ; replace tJ := xbb tJ hb; clear hb hbox hg; obtain ⟨cPp, cEe, hNh⟩ := Kd.N_slice bFn.out; subst hNh; have cNa := bQb.out; have cNb := bQa.out; have bMh := bFp.out; have bMi := bFo.out; have dO8 := aT2.out; have dO9 := aZa.out; have bPb : w16.cell? ⟨bBa, 0, none⟩ = some (.slice none 0 0) := (blk_cell tJ.out 0).trans rfl; have bPc := blk_frozen tJ.out 0; have cHp := bFr.out; have cHq := bFq.out; have bMl := aY9.out; have bMm := aY8.out; have bCn : w16.cell? ⟨aJb, 0, none⟩ = some (.int .i64 0) := (blk_cell pM.out 0).trans rfl; have bP5 : w16.cell? ⟨aJb, 1, none⟩ = some (.int .i64 0) := (blk_cell pM.out 1).trans rfl; have bCo := blk_frozen pM.out 0; have bP6 := blk_frozen pM.out 1; have bPi : w16.cell? ⟨bA8, 0, none⟩ = some (.slice bP aD.length bK) := (blk_cell nN.out 0).trans rfl; have bPj := blk_frozen nN.out 0) | ((with_reducible refine gate_callee (f := 16) rfl ?_); refine goesL_ (some 18) rfl rfl Try.func16 (by kernel_rfl) rfl #[.agg #[.slice bP aD.length bK]] rfl xmp ?_; (with_reducible refine (aH.calls k _ _ aD bSg cZ9 _ ?side1 ?side2 A6.out).mono ?_); (case side1 => exact Kd.C_below fI.out (by repeat (first | (with_reducible first | exact HB.out | apply lA | apply lN | apply lD | refine lS ?_ bC2.out | refine lS ?_ bC3.out | refine lS ?_ bS8.out | refine lS ?_ bS9.out) | exact HB.out))); (case side2 => exact lC.out); rintro e w26 ⟨rfl, hb⟩; refine ⟨_, rfl, ?_⟩; replace bFn := aZ (Kd.N_below (by (with_reducible repeat (first | apply Kd.N_alloc | apply Kd.N_drewN | apply Kd.N_drew)); exact (Kd.N_mono (Kd.N_mono (Kd.N_far (p := ⟨aJb, 1, none⟩) (Kd.N_far (p := ⟨aJb, 0, none⟩) (Kd.N_far (p := ⟨bBa, 0, none⟩) (Kd.N_mono (Kd.N_mono bFn.out (fun k_ hk => (⟨hk, hk.1.2⟩ : _ ∧ k_ ≠ bBa))) (fun k_ hk => (⟨hk, hk.1.2⟩ : _ ∧ k_ ≠ aJb))) (fun _ hk => hk.1.2) (.slice cPp aVz.length cEe)) (fun _ hk => hk.2) (.int .i64 aNv)) (fun _ hk => hk.2) (.int .i64 aOe)) (fun _ h_ => h_.1)) (fun _ h_ => h_.1))) hb); replace nN := xbb nN hb; replace oL := xbb oL hb; replace tJ := aZ (blk_below (g := bBa) (o := .cells #[.slice cPp aVz.length cEe] 24 (0, 0)) (by (with_reducible repeat (first | refine bN ?_ _ | refine bD ?_ | refine bA ?_ _)); refine blk_far ?_ aT2.out _; (with_reducible repeat (first | refine bN ?_ _ | refine bD ?_ | refine bA ?_ _)); refine blk_far ?_ aT2.out _; (with_reducible repeat (first | refine bN ?_ _ | refine bD ?_ | refine bA ?_ _)); refine blk_put (cs := #[.slice none 0 0]) ?_ 0 _ rfl; (with_reducible repeat (first | refine bN ?_ _ | refine bD ?_ | refine bA ?_ _)); exact tJ.out) hb); replace pM := aZ (blk_below (g := aJb) (o := .cells #[.int .i64 aNv, .int .i64 aOe] 28 (0, 0)) (by (with_reducible repeat (first | refine bN ?_ _ | refine bD ?_ | refine bA ?_ _)); refine blk_put (cs := #[.int .i64 aNv, .int .i64 0]) ?_ 1 _ rfl; (with_reducible repeat (first | refine bN ?_ _ | refine bD ?_ | refine bA ?_ _)); refine blk_put (cs := #[.int .i64 0, .int .i64 0]) ?_ 0 _ rfl; (with_reducible repeat (first | refine bN ?_ _ | refine bD ?_ | refine bA ?_ _)); refine blk_far ?_ aZa.out _; (with_reducible repeat (first | refine bN ?_ _ | refine bD ?_ | refine bA ?_ _)); exact pM.out) hb); replace HB := xhl HB hb; (try clear hb); (try clear iV); (try clear hk); (try clear hi)) | ((with_reducible refine gate_dst (N := 7) rfl ?_); refine box_event ?hg (N := 7) ?hd (cs := #[.int .i64 0, .int .i64 0]) (t := 28) ?hr ?_; (case hd => rfl); (case hg => rfl); (case hr => first | (go_simp; done) | (go_simp; rfl)); intro uG hg w27 hbox hb; replace bFn := xeB bFn hg hb; have oI := aZ (hbox); have fB9 := xgh hg HB; have bZq := xgh hg HB; replace HB := xhl HB hb; have aZb := xnl hg nN; have aZc := xng hg nN; replace nN := xbb nN hb; have aZd := xnl hg oL; have aZe := xng hg oL; replace oL := xbb oL hb; have aZf := xnl hg tJ; have aZg := xng hg tJ; replace tJ := xbb tJ hb; have aZh := xnl hg pM; have aZi := xng hg pM; replace pM := xbb pM hb; clear hb hbox hg; have bV9 := aZc.out; have bWa := aZb.out; have bVx := aZe.out; have bVy := aZd.out; have bSo := aZg.out; have bSp := aZf.out; have bVz := aZi.out; have bV0 := aZh.out; have aFo : w27.cell? ⟨uG, 0, none⟩ = some (.int .i64 0) := (blk_cell oI.out 0).trans rfl; have aJu : w27.cell? ⟨uG, 1, none⟩ = some (.int .i64 0) := (blk_cell oI.out 1).trans rfl; have aFp := blk_frozen oI.out 0; have aJv := blk_frozen oI.out 1))
  (try simp only [Act.put, List.setIfInBounds_toArray, List.set_cons_zero, List.set_cons_succ])
  go_cut [] (fun wc => ∃ (kq : Nat) (rP : Int) (uV : Int), Aside0 (changeforgelaw3_ObjectsMergeMatchesSpec.j0 kq aD bR aVz aNv aOe rP uV = some r) ∧ Aside0 (kq ≤ k) ∧ Aside0 (Kd.N qL 46 wc w.heap.size (fun k_ => k_ ≠ bA8 ∧ k_ ≠ bA9 ∧ k_ ≠ bBa ∧ k_ ≠ aJb ∧ k_ ≠ uG) (.slice cPp aVz.length cEe) aVz) ∧ Aside0 (wc.heap[bA8]? = some (.cells #[(.slice bP aD.length bK)] 24 (0, 0))) ∧ Aside0 (wc.heap[bA9]? = some (.cells #[(.slice tT bR.length qD)] 24 (0, 0))) ∧ Aside0 (wc.heap[bBa]? = some (.cells #[(.slice cPp aVz.length cEe)] 24 (0, 0))) ∧ Aside0 (wc.heap[aJb]? = some (.cells #[.int .i64 aNv, .int .i64 aOe] 28 (0, 0))) ∧ Aside0 (wc.heap[uG]? = some (.cells #[.int .i64 rP, .int .i64 uV] 28 (0, 0))) ∧ Aside0 (Below w.heap.size w wc))
  case first =>
   have H := HC7.out
   clear HC7
   by_cases c33 : bSg = 0
   rotate_left
   · rw [if_neg c33] at H
     have bEb : (bSg == 0) = false := beq_eq_false_iff_ne.mpr c33
     have gHv : (bSg != 0) = true := bne_iff_ne.mpr c33
     (first | rw [bEb] | (simp only [i64_w, i32_w]; rw [bEb]) | skip)
     have H' := aZ H
     clear H
     go_wp2
     go_meet
     case rel => exact ⟨_, (bSg), (cZ9), H', ⟨by first | omega | exact Nat.le_refl _⟩, ⟨by (with_reducible repeat (first | apply Kd.N_alloc | apply Kd.N_drewN | apply Kd.N_drew)); exact Kd.N_mono (Kd.N_far (p := ⟨uG, 1, none⟩) (Kd.N_far (p := ⟨uG, 0, none⟩) (Kd.N_mono bFn.out (fun k_ hk => (⟨hk, hk.2⟩ : _ ∧ k_ ≠ uG))) (fun _ hk => hk.2) (.int .i64 bSg)) (fun _ hk => hk.2) (.int .i64 cZ9)) (fun _ hk => ⟨hk.1.1.1.1.1, ⟨hk.1.1.1.1.2, ⟨hk.1.1.1.2, ⟨hk.1.1.2, hk.1.2⟩⟩⟩⟩)⟩, xk nN, xk oL, xk tJ, xk pM, ⟨by (with_reducible repeat (first | refine bN ?_ _ | refine bD ?_ | refine bA ?_ _)); refine blk_put (cs := #[.int .i64 bSg, .int .i64 0]) ?_ 1 _ rfl; (with_reducible repeat (first | refine bN ?_ _ | refine bD ?_ | refine bA ?_ _)); refine blk_put (cs := #[.int .i64 0, .int .i64 0]) ?_ 0 _ rfl; (with_reducible repeat (first | refine bN ?_ _ | refine bD ?_ | refine bA ?_ _)); exact oI.out⟩, xb HB⟩
   rw [if_pos c33] at H
   have bEb : (bSg == 0) = true := beq_iff_eq.mpr c33
   have gHv : (bSg != 0) = false := bne_eq_false_iff_eq.mpr c33
   clear c33
   (first | rw [bEb] | (simp only [i64_w, i32_w]; rw [bEb]) | skip)
   replace H := Option.bind_eq_some_iff.mp H
   obtain ⟨⟨eK8, eV7⟩, gHw, H⟩ := H
   replace H : (changeforgelaw3_ObjectsMergeMatchesSpec.j0 k aD bR aVz aNv aOe eK8 eV7) = some r := H
   have A34 := aZ gHw
   clear gHw
   have H' := aZ H
   clear H
   have cR9 := bFm.out
   have cSa := bFl.out
   have cG0 := bFo.out
   have cG1 := bFp.out
   have bV1 := aY8.out
   have bV2 := aY9.out
   have dQf := aZd.out
   have dQg := aZe.out
   have cWm : w27.cell? ⟨bA9, 0, none⟩ = some (.slice tT bR.length qD) := (blk_cell oL.out 0).trans rfl
   have cWn := blk_frozen oL.out 0
   go_wp2_with (first | ((with_reducible refine gate_callee (f := 16) rfl ?_); refine goesL_ (some 23) rfl rfl Try.func16 (by kernel_rfl) rfl #[.agg #[.slice tT bR.length qD]] rfl xmp ?_; (with_reducible refine (aH.calls k _ _ bR eK8 eV7 _ ?side1 ?side2 A34.out).mono ?_); (case side1 => exact Kd.C_below bCm.out (by repeat (first | (with_reducible first | exact HB.out | apply lA | apply lN | apply lD | refine lS ?_ bC2.out | refine lS ?_ bC3.out | refine lS ?_ bS8.out | refine lS ?_ bS9.out | refine lS ?_ bZq.out) | exact HB.out))); (case side2 => exact bXm.out); rintro e w40 ⟨rfl, hb⟩; refine ⟨_, rfl, ?_⟩; replace bFn := aZ (Kd.N_below (by (with_reducible repeat (first | apply Kd.N_alloc | apply Kd.N_drewN | apply Kd.N_drew)); exact (Kd.N_mono (Kd.N_far (p := ⟨uG, 1, none⟩) (Kd.N_far (p := ⟨uG, 0, none⟩) (Kd.N_mono bFn.out (fun k_ hk => (⟨hk, hk.2⟩ : _ ∧ k_ ≠ uG))) (fun _ hk => hk.2) (.int .i64 bSg)) (fun _ hk => hk.2) (.int .i64 cZ9)) (fun _ h_ => h_.1))) hb); replace nN := xbb nN hb; replace oL := xbb oL hb; replace tJ := xbb tJ hb; replace pM := xbb pM hb; replace oI := aZ (blk_below (g := uG) (o := .cells #[.int .i64 bSg, .int .i64 cZ9] 28 (0, 0)) (by (with_reducible repeat (first | refine bN ?_ _ | refine bD ?_ | refine bA ?_ _)); refine blk_put (cs := #[.int .i64 bSg, .int .i64 0]) ?_ 1 _ rfl; (with_reducible repeat (first | refine bN ?_ _ | refine bD ?_ | refine bA ?_ _)); refine blk_put (cs := #[.int .i64 0, .int .i64 0]) ?_ 0 _ rfl; (with_reducible repeat (first | refine bN ?_ _ | refine bD ?_ | refine bA ?_ _)); exact oI.out) hb); replace HB := xhl HB hb; (try clear hb); (try clear iV); (try clear hk); (try clear hi); have cMj := aZc.out; have cMk := aZb.out; have bSu := aZg.out; have bSv := aZf.out; have bLs := aZi.out; have bLt := aZh.out; have cWq : w40.cell? ⟨uG, 0, none⟩ = some (.int .i64 bSg) := (blk_cell oI.out 0).trans rfl; have cWs : w40.cell? ⟨uG, 1, none⟩ = some (.int .i64 cZ9) := (blk_cell oI.out 1).trans rfl; have cWt := blk_frozen oI.out 0; have cWu := blk_frozen oI.out 1))
   go_meet
   case rel => exact ⟨_, (eK8), (eV7), H', ⟨by first | omega | exact Nat.le_refl _⟩, ⟨by (with_reducible repeat (first | apply Kd.N_alloc | apply Kd.N_drewN | apply Kd.N_drew)); exact Kd.N_mono (Kd.N_far (p := ⟨uG, 1, none⟩) (Kd.N_far (p := ⟨uG, 0, none⟩) (Kd.N_mono bFn.out (fun k_ hk => (⟨hk, hk.2⟩ : _ ∧ k_ ≠ uG))) (fun _ hk => hk.2) (.int .i64 eK8)) (fun _ hk => hk.2) (.int .i64 eV7)) (fun _ hk => ⟨hk.1.1.1.1.1, ⟨hk.1.1.1.1.2, ⟨hk.1.1.1.2, ⟨hk.1.1.2, hk.1.2⟩⟩⟩⟩)⟩, xk nN, xk oL, xk tJ, xk pM, ⟨by (with_reducible repeat (first | refine bN ?_ _ | refine bD ?_ | refine bA ?_ _)); refine blk_put (cs := #[.int .i64 eK8, .int .i64 cZ9]) ?_ 1 _ rfl; (with_reducible repeat (first | refine bN ?_ _ | refine bD ?_ | refine bA ?_ _)); refine blk_put (cs := #[.int .i64 bSg, .int .i64 cZ9]) ?_ 0 _ rfl; (with_reducible repeat (first | refine bN ?_ _ | refine bD ?_ | refine bA ?_ _)); exact oI.out⟩, xb HB⟩
  case rest =>
   clear HC7
   (try clear c4); (try clear aHh); (try clear bCd); (try clear bPb); (try clear bCn); (try clear bP5); (try clear bPi); (try clear aFo); (try clear aJu); (try clear aHi); (try clear bCe); (try clear bPc); (try clear bCo); (try clear bP6); (try clear bPj); (try clear aFp); (try clear aJv)
   obtain ⟨kq, rP, uV, HA, HJ6, oZ, nN, oL, tJ, pM, oI, HB⟩ := hcut
   cases kq with
   | zero => exact absurd HA.out (by simp [changeforgelaw3_ObjectsMergeMatchesSpec.j0])
   | succ kj6 =>
    have H := HA.out
    clear HA
    simp only [changeforgelaw3_ObjectsMergeMatchesSpec.j0] at H
    by_cases c45 : rP = 0
    rotate_left
    · rw [if_neg c45] at H
      have fCa : (rP == 0) = false := beq_eq_false_iff_ne.mpr c45
      have gHx : (rP != 0) = true := bne_iff_ne.mpr c45
      by_cases bA5 : (aNv == rP && (aOe == uV)) = true
      rotate_left
      · rw [if_neg bA5] at H
        have dL2 : (aNv == rP && (aOe == uV)) = false := by simpa using bA5
        (try (have dL3 : decide (aNv = rP && (aOe == uV)) = false := by simpa using bA5))
        (try (have dL4 : (aNv == rP && (aOe == uV)) = false := by simpa using bA5))
        (try (have fIg : ¬ (aNv = rP && (aOe == uV)) := by simpa using bA5))
        clear bA5
        obtain rfl := Option.some.inj H
        go_wp2_with (first | ((with_reducible refine gate_dst (N := 8) rfl ?_); refine box_event ?hg (N := 8) ?hd (cs := #[.slice none 0 0]) (t := 24) ?hr ?_; (case hd => rfl); (case hg => rfl); (case hr => first | (go_simp; done) | (go_simp; rfl)); intro yL hg cI0 hbox hb; replace oZ := xeB oZ hg hb; have aDu := aZ (hbox); have dHa := xgh hg HB; have bNv := xgh hg HB; replace HB := xhl HB hb; have aT3 := xnl hg nN; have aT4 := xng hg nN; replace nN := xbb nN hb; have aT5 := xnl hg oL; have aT6 := xng hg oL; replace oL := xbb oL hb; have aT7 := xnl hg tJ; have aT8 := xng hg tJ; replace tJ := xbb tJ hb; have aT9 := xnl hg pM; have aUa := xng hg pM; replace pM := xbb pM hb; have aO8 := xnl hg oI; have aMg := xng hg oI; replace oI := xbb oI hb; clear hb hbox hg; have bTz := aT4.out; have bT0 := aT3.out; have bJa := aT6.out; have bJb := aT5.out; have dL7 := aT8.out; have dL8 := aT7.out; have cW6 := aUa.out; have cW7 := aT9.out; have cDf := aMg.out; have cDg := aO8.out; have dGz : cI0.cell? ⟨yL, 0, none⟩ = some (.slice none 0 0) := (blk_cell aDu.out 0).trans rfl; have dG0 := blk_frozen aDu.out 0; have bT1 := aZc.out; have bT2 := aZb.out; have cXa := aZe.out; have cXb := aZd.out; have cYx := aZg.out; have cYy := aZf.out; have cDh := aZi.out; have cDi := aZh.out; have bNl : cI0.cell? ⟨uG, 0, none⟩ = some (.int .i64 rP) := (blk_cell oI.out 0).trans rfl; have dGj : cI0.cell? ⟨uG, 1, none⟩ = some (.int .i64 uV) := (blk_cell oI.out 1).trans rfl; have bNm := blk_frozen oI.out 0; have dGk := blk_frozen oI.out 1; have dJ4 := bFr.out; have dJ5 := bFq.out; have eDh := aY9.out; have eDi := aY8.out; have hNi := aZa.out; have hNj := aT2.out; have eK9 : cI0.cell? ⟨aJb, 0, none⟩ = some (.int .i64 aNv) := (blk_cell pM.out 0).trans rfl; have gHy : cI0.cell? ⟨aJb, 1, none⟩ = some (.int .i64 aOe) := (blk_cell pM.out 1).trans rfl; have eLa := blk_frozen pM.out 0; have gHz := blk_frozen pM.out 1))
        go_ret
        exact ⟨xre, xq HB⟩
      rw [if_pos bA5] at H
      have dL2 : (aNv == rP && (aOe == uV)) = true := bA5
      (try (have dL3 : decide (aNv = rP && (aOe == uV)) = true := by simpa using bA5))
      (try (have dL4 : (aNv == rP && (aOe == uV)) = true := by simpa using bA5))
      clear bA5
      replace H := Option.bind_eq_some_iff.mp H
      obtain ⟨eV6, dF4, H⟩ := H
      replace H : (some eV6) = some r := H
      have eTt := aZ dF4
      clear dF4
      obtain rfl := Option.some.inj H
      go_wp2_with (first | ((with_reducible refine gate_dst (N := 8) rfl ?_); refine box_event ?hg (N := 8) ?hd (cs := #[.slice none 0 0]) (t := 24) ?hr ?_; (case hd => rfl); (case hg => rfl); (case hr => first | (go_simp; done) | (go_simp; rfl)); intro yL hg bWl hbox hb; replace oZ := xeB oZ hg hb; have aDu := aZ (hbox); have dHa := xgh hg HB; have bNv := xgh hg HB; replace HB := xhl HB hb; have aT3 := xnl hg nN; have aT4 := xng hg nN; replace nN := xbb nN hb; have aT5 := xnl hg oL; have aT6 := xng hg oL; replace oL := xbb oL hb; have aT7 := xnl hg tJ; have aT8 := xng hg tJ; replace tJ := xbb tJ hb; have aT9 := xnl hg pM; have aUa := xng hg pM; replace pM := xbb pM hb; have aO8 := xnl hg oI; have aMg := xng hg oI; replace oI := xbb oI hb; clear hb hbox hg; have cDy := aT4.out; have cDz := aT3.out; have cD0 := aT6.out; have cD1 := aT5.out; have cNh := aT8.out; have cNi := aT7.out; have cC5 := aUa.out; have cC6 := aT9.out; have bTp := aMg.out; have bTq := aO8.out; have dGp : bWl.cell? ⟨yL, 0, none⟩ = some (.slice none 0 0) := (blk_cell aDu.out 0).trans rfl; have dGq := blk_frozen aDu.out 0; have bTt := aZc.out; have bTu := aZb.out; have cC7 := aZe.out; have cC8 := aZd.out; have bUk := aZg.out; have bUl := aZf.out; have cNj := aZi.out; have cNk := aZh.out; have eLb : bWl.cell? ⟨uG, 0, none⟩ = some (.int .i64 rP) := (blk_cell oI.out 0).trans rfl; have eLc : bWl.cell? ⟨uG, 1, none⟩ = some (.int .i64 uV) := (blk_cell oI.out 1).trans rfl; have eLd := blk_frozen oI.out 0; have eLe := blk_frozen oI.out 1; have bTv := bFr.out; have bTw := bFq.out; have cC9 := aY9.out; have cDa := aY8.out; have bTx := aZa.out; have bTy := aT2.out; have eDb : bWl.cell? ⟨aJb, 0, none⟩ = some (.int .i64 aNv) := (blk_cell pM.out 0).trans rfl; have eDc : bWl.cell? ⟨aJb, 1, none⟩ = some (.int .i64 aOe) := (blk_cell pM.out 1).trans rfl; have eDd := blk_frozen pM.out 0; have eDe := blk_frozen pM.out 1; have cO6 := bQb.out; have cO7 := bQa.out; have bM2 := bFp.out; have bM3 := bFo.out; have dGf : bWl.cell? ⟨bBa, 0, none⟩ = some (.slice cPp aVz.length cEe) := (blk_cell tJ.out 0).trans rfl; have dGg := blk_frozen tJ.out 0) | (go_at_call 22; (refine (aI.calls kj6 _ _ aVz _ _ ([] : List (fB)) eV6 _ ?side1 ?side2 ?side3 ?side4 eTt.out).mono ?_); (case side1 => refine (Kd.N_reads' (e := 46) (base := w.heap.size) (ok := fun k_ => ((k_ ≠ bA8 ∧ (k_ ≠ bA9 ∧ (k_ ≠ bBa ∧ (k_ ≠ aJb ∧ k_ ≠ uG)))) ∧ k_ ≠ yL)) (n := aVz.length) (c := cEe) ?_).2.2; exact (by (with_reducible repeat (first | apply Kd.N_alloc | apply Kd.N_drewN | apply Kd.N_drew)); exact (Kd.N_mono (Kd.N_far (p := ⟨yL, 0, none⟩) (Kd.N_mono oZ.out (fun k_ hk => (⟨hk, hk.2⟩ : _ ∧ k_ ≠ yL))) (fun _ hk => hk.2) (.slice none 0 0)) (fun _ h_ => h_.1)))); (case side2 => exact (Kd.N_reads' oZ.out).2.1); (case side3 => exact Kd.C_nil _ _); (case side4 => exact Nat.le_refl _); rintro e cRv ⟨rfl, hb⟩; replace oZ := aZ (Kd.N_below (by (with_reducible repeat (first | apply Kd.N_alloc | apply Kd.N_drewN | apply Kd.N_drew)); exact (Kd.N_mono (Kd.N_far (p := ⟨yL, 0, none⟩) (Kd.N_mono oZ.out (fun k_ hk => (⟨hk, hk.2⟩ : _ ∧ k_ ≠ yL))) (fun _ hk => hk.2) (.slice none 0 0)) (fun _ h_ => h_.1))) hb); replace nN := xbb nN hb; replace oL := xbb oL hb; replace tJ := xbb tJ hb; replace pM := xbb pM hb; replace oI := xbb oI hb; replace aDu := aZ (blk_below (g := yL) (o := .cells #[.slice none 0 0] 24 (0, 0)) (by (with_reducible repeat (first | refine bN ?_ _ | refine bD ?_ | refine bA ?_ _)); refine blk_put (cs := #[.slice none 0 0]) ?_ 0 _ rfl; (with_reducible repeat (first | refine bN ?_ _ | refine bD ?_ | refine bA ?_ _)); exact aDu.out) hb); replace HB := xhl HB hb; (try clear hb); (try clear iV); (try clear hk); (try clear hi)))
      go_ret
      exact ⟨xre, xq HB⟩
    rw [if_pos c45] at H
    have fCa : (rP == 0) = true := beq_iff_eq.mpr c45
    have gHx : (rP != 0) = false := bne_eq_false_iff_eq.mpr c45
    clear c45
    replace H := Option.bind_eq_some_iff.mp H
    obtain ⟨⟨cPq, bNw, bSh⟩, eLf, H⟩ := H
    replace H : (if (aNv == bNw && (aOe == bSh)) = true then ((aI.f kj6 aVz cPq).bind fun dZo => (some dZo)) else (some false)) = some r := H
    have A46 := aZ eLf
    clear eLf
    by_cases c47 : (aNv == bNw && (aOe == bSh)) = true
    rotate_left
    · rw [if_neg c47] at H
      have cTu : (aNv == bNw && (aOe == bSh)) = false := by simpa using c47
      (try (have eLg : decide (aNv = bNw && (aOe == bSh)) = false := by simpa using c47))
      (try (have gH0 : (aNv == bNw && (aOe == bSh)) = false := by simpa using c47))
      (try (have iDj : ¬ (aNv = bNw && (aOe == bSh)) := by simpa using c47))
      clear c47
      obtain rfl := Option.some.inj H
      go_wp2_with (first | ((with_reducible refine gate_dst (N := 8) rfl ?_); refine box_event ?hg (N := 8) ?hd (cs := #[.slice none 0 0]) (t := 24) ?hr ?_; (case hd => rfl); (case hg => rfl); (case hr => first | (go_simp; done) | (go_simp; rfl)); intro yL hg w77 hbox hb; replace oZ := xeB oZ hg hb; have aDu := aZ (hbox); have dHa := xgh hg HB; have bNv := xgh hg HB; replace HB := xhl HB hb; have aT3 := xnl hg nN; have aT4 := xng hg nN; replace nN := xbb nN hb; have aT5 := xnl hg oL; have aT6 := xng hg oL; replace oL := xbb oL hb; have aT7 := xnl hg tJ; have aT8 := xng hg tJ; replace tJ := xbb tJ hb; have aT9 := xnl hg pM; have aUa := xng hg pM; replace pM := xbb pM hb; have aO8 := xnl hg oI; have aMg := xng hg oI; replace oI := xbb oI hb; clear hb hbox hg; have dG6 := aT4.out; have dG7 := aT3.out; have cHg := aT6.out; have cHh := aT5.out; have bWn := aT8.out; have bWo := aT7.out; have cNd := aUa.out; have cNe := aT9.out; have cNf := aMg.out; have cNg := aO8.out; have cXq : w77.cell? ⟨yL, 0, none⟩ = some (.slice none 0 0) := (blk_cell aDu.out 0).trans rfl; have cXr := blk_frozen aDu.out 0) | ((with_reducible refine gate_store (t := 24) (p := 8) rfl ?_); refine store_event (t := 24) (p := 8) (v := ?vo_w84) (w1 := (w77.setCell ⟨yL, 0, none⟩ (.slice none 0 0))) ?hg ?ho ?hn ?hr ?_; (case ho => rfl); (case hg => rfl); (case hn => rfl); (case hr => first | (go_simp; done) | (go_simp; rfl)); intro w84 hw; replace oZ : Aside0 (Kd.N qL 46 w84 w.heap.size (fun k_ => k_ ≠ bA8 ∧ k_ ≠ bA9 ∧ k_ ≠ bBa ∧ k_ ≠ aJb ∧ k_ ≠ uG ∧ k_ ≠ yL) (.slice cPp aVz.length cEe) aVz) := ⟨(by rw [hw]; exact (by (with_reducible repeat (first | apply Kd.N_alloc | apply Kd.N_drewN | apply Kd.N_drew)); exact Kd.N_mono (Kd.N_far (p := ⟨yL, 0, none⟩) (Kd.N_mono oZ.out (fun k_ hk => (⟨hk, hk.2⟩ : _ ∧ k_ ≠ yL))) (fun _ hk => hk.2) (.slice none 0 0)) (fun _ hk => ⟨hk.1.1.1, ⟨hk.1.1.2.1, ⟨hk.1.1.2.2.1, ⟨hk.1.1.2.2.2.1, ⟨hk.1.1.2.2.2.2, hk.1.2⟩⟩⟩⟩⟩)))⟩; replace nN := xsB nN hw; replace oL := xsB oL hw; replace tJ := xsB tJ hw; replace pM := xsB pM hw; replace oI := xsB oI hw; replace aDu : Aside0 (w84.heap[yL]? = some (.cells #[.slice none 0 0] 24 (0, 0))) := ⟨(by rw [hw]; exact (by (with_reducible repeat (first | refine bN ?_ _ | refine bD ?_ | refine bA ?_ _)); refine blk_put (cs := #[.slice none 0 0]) ?_ 0 _ rfl; (with_reducible repeat (first | refine bN ?_ _ | refine bD ?_ | refine bA ?_ _)); exact aDu.out))⟩; replace HB : Aside0 (Below w.heap.size w w84) := ⟨(by rw [hw]; exact (by repeat (first | (with_reducible first | exact HB.out | apply lA | apply lN | apply lD | refine lS ?_ bC2.out | refine lS ?_ bC3.out | refine lS ?_ bS8.out | refine lS ?_ bS9.out | refine lS ?_ bZq.out | refine lS ?_ bNv.out) | exact HB.out)))⟩; clear hw; have dEy := aZc.out; have dEz := aZb.out; have dFb := aZe.out; have dFc := aZd.out; have cOk := aZg.out; have cOl := aZf.out; have cOm := aZi.out; have cOn := aZh.out; have eV8 : w84.cell? ⟨uG, 0, none⟩ = some (.int .i64 rP) := (blk_cell oI.out 0).trans rfl; have eV9 : w84.cell? ⟨uG, 1, none⟩ = some (.int .i64 uV) := (blk_cell oI.out 1).trans rfl; have eWa := blk_frozen oI.out 0; have eWb := blk_frozen oI.out 1; have bYr := bFl.out; have bYs := bFm.out; have bWj := bQa.out; have bWk := bQb.out; have cSz := bFq.out; have cS0 := bFr.out; have dUe : w84.cell? ⟨bA8, 0, none⟩ = some (.slice bP aD.length bK) := (blk_cell nN.out 0).trans rfl; have dUf := blk_frozen nN.out 0; have eC2 := bFo.out; have eC3 := bFp.out; have dQn := aY8.out; have dQo := aY9.out; have gZv : w84.cell? ⟨bA9, 0, none⟩ = some (.slice tT bR.length qD) := (blk_cell oL.out 0).trans rfl; have gZw := blk_frozen oL.out 0) | ((with_reducible refine gate_callee (f := 38) rfl ?_); refine goesL_ (some 31) rfl rfl Try.func38 (by kernel_rfl) rfl #[.agg #[.slice bP aD.length bK], .agg #[.slice tT bR.length qD]] rfl xmp ?_; (with_reducible refine (aC.calls kj6 (fun k_ => k_ < w.heap.size) _ _ aD (fun k_ => k_ < w.heap.size) _ _ bR cPq bNw bSh _ ?side1 ?side2 A46.out).mono ?_); (case side1 => exact Kd.V_mk lC.out (Kd.F_below (Kd.C_F uK fI.out) (by repeat (first | (with_reducible first | exact HB.out | apply lA | apply lN | apply lD | refine lS ?_ bC2.out | refine lS ?_ bC3.out | refine lS ?_ bS8.out | refine lS ?_ bS9.out | refine lS ?_ bZq.out | refine lS ?_ bNv.out) | exact HB.out)))); (case side2 => exact Kd.V_mk bXm.out (Kd.F_below (Kd.C_F uK bCm.out) (by repeat (first | (with_reducible first | exact HB.out | apply lA | apply lN | apply lD | refine lS ?_ bC2.out | refine lS ?_ bC3.out | refine lS ?_ bS8.out | refine lS ?_ bS9.out | refine lS ?_ bZq.out | refine lS ?_ bNv.out) | exact HB.out)))); rintro e w97 ⟨hNk, rfl, gZ, hb⟩; refine ⟨_, rfl, ?_⟩; have cPr := aZ (Kd.N_lower (Kd.N_mono (ok' := fun k_ => some k_ ≠ (.slice cPp aVz.length cEe : Value).ownBlock ∧ k_ ≠ bA8 ∧ k_ ≠ bA9 ∧ k_ ≠ bBa ∧ k_ ≠ aJb ∧ k_ ≠ uG ∧ k_ ≠ yL) gZ (fun k_ hk_ => ⟨xfN hk_ oZ, xfB hk_ dU7 nN, xfB hk_ dU8 oL, xfB hk_ fB7 tJ, xfB hk_ fB8 pM, xfB hk_ fB9 oI, xfB hk_ dHa aDu⟩)) (lZ (by repeat (first | (with_reducible first | exact HB.out | apply lA | apply lN | apply lD | refine lS ?_ bC2.out | refine lS ?_ bC3.out | refine lS ?_ bS8.out | refine lS ?_ bS9.out | refine lS ?_ bZq.out | refine lS ?_ bNv.out) | exact HB.out)))); replace oZ := aZ (Kd.N_elder' (by (with_reducible repeat (first | apply Kd.N_alloc | apply Kd.N_drewN | apply Kd.N_drew)); exact oZ.out) (Kd.N_base gZ) hb); replace nN := xbb nN hb; replace oL := xbb oL hb; replace tJ := xbb tJ hb; replace pM := xbb pM hb; replace oI := xbb oI hb; replace aDu := xbb aDu hb; replace HB := xhl HB hb; (try clear hb); (try clear iV); (try clear hk); (try clear hi); (try clear gZ); obtain ⟨iJk, iJl, hNl⟩ := Kd.N_slice cPr.out; subst hNl; have cYq : w97.cell? ⟨yL, 0, none⟩ = some (.slice none 0 0) := (blk_cell aDu.out 0).trans rfl; have cYr := blk_frozen aDu.out 0; have eLh : w97.cell? ⟨uG, 0, none⟩ = some (.int .i64 rP) := (blk_cell oI.out 0).trans rfl; have gH1 : w97.cell? ⟨uG, 1, none⟩ = some (.int .i64 uV) := (blk_cell oI.out 1).trans rfl; have eLi := blk_frozen oI.out 0; have gH2 := blk_frozen oI.out 1; have bUr := aZa.out; have bUs := aT2.out; have gH3 : w97.cell? ⟨aJb, 0, none⟩ = some (.int .i64 aNv) := (blk_cell pM.out 0).trans rfl; have gH4 : w97.cell? ⟨aJb, 1, none⟩ = some (.int .i64 aOe) := (blk_cell pM.out 1).trans rfl; have gH5 := blk_frozen pM.out 0; have gH6 := blk_frozen pM.out 1))
      go_ret
      exact ⟨xre, xq HB⟩
    rw [if_pos c47] at H
    have cTu : (aNv == bNw && (aOe == bSh)) = true := c47
    (try (have eLg : decide (aNv = bNw && (aOe == bSh)) = true := by simpa using c47))
    (try (have gH0 : (aNv == bNw && (aOe == bSh)) = true := by simpa using c47))
    clear c47
    replace H := Option.bind_eq_some_iff.mp H
    obtain ⟨dZo, cPs, H⟩ := H
    replace H : (some dZo) = some r := H
    have A48 := aZ cPs
    clear cPs
    obtain rfl := Option.some.inj H
    go_wp2_with (first | ((with_reducible refine gate_dst (N := 8) rfl ?_); refine box_event ?hg (N := 8) ?hd (cs := #[.slice none 0 0]) (t := 24) ?hr ?_; (case hd => rfl); (case hg => rfl); (case hr => first | (go_simp; done) | (go_simp; rfl)); intro yL hg w49 hbox hb; replace oZ := xeB oZ hg hb; have aDu := aZ (hbox); have dHa := xgh hg HB; have bNv := xgh hg HB; replace HB := xhl HB hb; have aT3 := xnl hg nN; have aT4 := xng hg nN; replace nN := xbb nN hb; have aT5 := xnl hg oL; have aT6 := xng hg oL; replace oL := xbb oL hb; have aT7 := xnl hg tJ; have aT8 := xng hg tJ; replace tJ := xbb tJ hb; have aT9 := xnl hg pM; have aUa := xng hg pM; replace pM := xbb pM hb; have aO8 := xnl hg oI; have aMg := xng hg oI; replace oI := xbb oI hb; clear hb hbox hg; have bSm := aT4.out; have bSn := aT3.out; have bVi := aT6.out; have bVj := aT5.out; have cTi := aT8.out; have cTj := aT7.out; have bNj := aUa.out; have bNk := aT9.out; have bCg := aMg.out; have bCh := aO8.out; have bPn : w49.cell? ⟨yL, 0, none⟩ = some (.slice none 0 0) := (blk_cell aDu.out 0).trans rfl; have bPo := blk_frozen aDu.out 0) | ((with_reducible refine gate_store (t := 24) (p := 8) rfl ?_); refine store_event (t := 24) (p := 8) (v := ?vo_w56) (w1 := (w49.setCell ⟨yL, 0, none⟩ (.slice none 0 0))) ?hg ?ho ?hn ?hr ?_; (case ho => rfl); (case hg => rfl); (case hn => rfl); (case hr => first | (go_simp; done) | (go_simp; rfl)); intro w56 hw; replace oZ : Aside0 (Kd.N qL 46 w56 w.heap.size (fun k_ => k_ ≠ bA8 ∧ k_ ≠ bA9 ∧ k_ ≠ bBa ∧ k_ ≠ aJb ∧ k_ ≠ uG ∧ k_ ≠ yL) (.slice cPp aVz.length cEe) aVz) := ⟨(by rw [hw]; exact (by (with_reducible repeat (first | apply Kd.N_alloc | apply Kd.N_drewN | apply Kd.N_drew)); exact Kd.N_mono (Kd.N_far (p := ⟨yL, 0, none⟩) (Kd.N_mono oZ.out (fun k_ hk => (⟨hk, hk.2⟩ : _ ∧ k_ ≠ yL))) (fun _ hk => hk.2) (.slice none 0 0)) (fun _ hk => ⟨hk.1.1.1, ⟨hk.1.1.2.1, ⟨hk.1.1.2.2.1, ⟨hk.1.1.2.2.2.1, ⟨hk.1.1.2.2.2.2, hk.1.2⟩⟩⟩⟩⟩)))⟩; replace nN := xsB nN hw; replace oL := xsB oL hw; replace tJ := xsB tJ hw; replace pM := xsB pM hw; replace oI := xsB oI hw; replace aDu : Aside0 (w56.heap[yL]? = some (.cells #[.slice none 0 0] 24 (0, 0))) := ⟨(by rw [hw]; exact (by (with_reducible repeat (first | refine bN ?_ _ | refine bD ?_ | refine bA ?_ _)); refine blk_put (cs := #[.slice none 0 0]) ?_ 0 _ rfl; (with_reducible repeat (first | refine bN ?_ _ | refine bD ?_ | refine bA ?_ _)); exact aDu.out))⟩; replace HB : Aside0 (Below w.heap.size w w56) := ⟨(by rw [hw]; exact (by repeat (first | (with_reducible first | exact HB.out | apply lA | apply lN | apply lD | refine lS ?_ bC2.out | refine lS ?_ bC3.out | refine lS ?_ bS8.out | refine lS ?_ bS9.out | refine lS ?_ bZq.out | refine lS ?_ bNv.out) | exact HB.out)))⟩; clear hw; have cN6 := aZc.out; have cN7 := aZb.out; have cHr := aZe.out; have cHs := aZd.out; have cGy := aZg.out; have cGz := aZf.out; have bWt := aZi.out; have bWu := aZh.out; have bOx : w56.cell? ⟨uG, 0, none⟩ = some (.int .i64 rP) := (blk_cell oI.out 0).trans rfl; have cJk : w56.cell? ⟨uG, 1, none⟩ = some (.int .i64 uV) := (blk_cell oI.out 1).trans rfl; have bOy := blk_frozen oI.out 0; have cJl := blk_frozen oI.out 1; have cTc := bFl.out; have cTd := bFm.out; have bWp := bQa.out; have bWq := bQb.out; have bAu := bFq.out; have bAv := bFr.out; have bWr : w56.cell? ⟨bA8, 0, none⟩ = some (.slice bP aD.length bK) := (blk_cell nN.out 0).trans rfl; have bWs := blk_frozen nN.out 0; have bWg := bFo.out; have bWh := bFp.out; have cG8 := aY8.out; have cG9 := aY9.out; have bI7 : w56.cell? ⟨bA9, 0, none⟩ = some (.slice tT bR.length qD) := (blk_cell oL.out 0).trans rfl; have bI8 := blk_frozen oL.out 0) | ((with_reducible refine gate_callee (f := 38) rfl ?_); refine goesL_ (some 31) rfl rfl Try.func38 (by kernel_rfl) rfl #[.agg #[.slice bP aD.length bK], .agg #[.slice tT bR.length qD]] rfl xmp ?_; (with_reducible refine (aC.calls kj6 (fun k_ => k_ < w.heap.size) _ _ aD (fun k_ => k_ < w.heap.size) _ _ bR cPq bNw bSh _ ?side1 ?side2 A46.out).mono ?_); (case side1 => exact Kd.V_mk lC.out (Kd.F_below (Kd.C_F uK fI.out) (by repeat (first | (with_reducible first | exact HB.out | apply lA | apply lN | apply lD | refine lS ?_ bC2.out | refine lS ?_ bC3.out | refine lS ?_ bS8.out | refine lS ?_ bS9.out | refine lS ?_ bZq.out | refine lS ?_ bNv.out) | exact HB.out)))); (case side2 => exact Kd.V_mk bXm.out (Kd.F_below (Kd.C_F uK bCm.out) (by repeat (first | (with_reducible first | exact HB.out | apply lA | apply lN | apply lD | refine lS ?_ bC2.out | refine lS ?_ bC3.out | refine lS ?_ bS8.out | refine lS ?_ bS9.out | refine lS ?_ bZq.out | refine lS ?_ bNv.out) | exact HB.out)))); rintro e w69 ⟨hNk, rfl, gZ, hb⟩; refine ⟨_, rfl, ?_⟩; have cPr := aZ (Kd.N_lower (Kd.N_mono (ok' := fun k_ => some k_ ≠ (.slice cPp aVz.length cEe : Value).ownBlock ∧ k_ ≠ bA8 ∧ k_ ≠ bA9 ∧ k_ ≠ bBa ∧ k_ ≠ aJb ∧ k_ ≠ uG ∧ k_ ≠ yL) gZ (fun k_ hk_ => ⟨xfN hk_ oZ, xfB hk_ dU7 nN, xfB hk_ dU8 oL, xfB hk_ fB7 tJ, xfB hk_ fB8 pM, xfB hk_ fB9 oI, xfB hk_ dHa aDu⟩)) (lZ (by repeat (first | (with_reducible first | exact HB.out | apply lA | apply lN | apply lD | refine lS ?_ bC2.out | refine lS ?_ bC3.out | refine lS ?_ bS8.out | refine lS ?_ bS9.out | refine lS ?_ bZq.out | refine lS ?_ bNv.out) | exact HB.out)))); replace oZ := aZ (Kd.N_elder' (by (with_reducible repeat (first | apply Kd.N_alloc | apply Kd.N_drewN | apply Kd.N_drew)); exact oZ.out) (Kd.N_base gZ) hb); replace nN := xbb nN hb; replace oL := xbb oL hb; replace tJ := xbb tJ hb; replace pM := xbb pM hb; replace oI := xbb oI hb; replace aDu := xbb aDu hb; replace HB := xhl HB hb; (try clear hb); (try clear iV); (try clear hk); (try clear hi); (try clear gZ); obtain ⟨dZq, dNa, hNm⟩ := Kd.N_slice cPr.out; subst hNm; have cK1 : w69.cell? ⟨yL, 0, none⟩ = some (.slice none 0 0) := (blk_cell aDu.out 0).trans rfl; have cK2 := blk_frozen aDu.out 0; have cK3 : w69.cell? ⟨uG, 0, none⟩ = some (.int .i64 rP) := (blk_cell oI.out 0).trans rfl; have dRh : w69.cell? ⟨uG, 1, none⟩ = some (.int .i64 uV) := (blk_cell oI.out 1).trans rfl; have cK4 := blk_frozen oI.out 0; have dRi := blk_frozen oI.out 1; have bMy := aZa.out; have bMz := aT2.out; have dS6 : w69.cell? ⟨aJb, 0, none⟩ = some (.int .i64 aNv) := (blk_cell pM.out 0).trans rfl; have dS7 : w69.cell? ⟨aJb, 1, none⟩ = some (.int .i64 aOe) := (blk_cell pM.out 1).trans rfl; have dS8 := blk_frozen pM.out 0; have dS9 := blk_frozen pM.out 1; have cWv : w69.cell? ⟨bBa, 0, none⟩ = some (.slice cPp aVz.length cEe) := (blk_cell tJ.out 0).trans rfl; have cWw := blk_frozen tJ.out 0) | (go_at_call 22; (with_reducible refine (aI.calls kj6 _ _ aVz _ _ cPq dZo _ ?side1 ?side2 ?side3 ?side4 A48.out).mono ?_); (case side1 => refine (Kd.N_reads' (e := 46) (base := w.heap.size) (ok := fun k_ => ((k_ ≠ bA8 ∧ (k_ ≠ bA9 ∧ (k_ ≠ bBa ∧ (k_ ≠ aJb ∧ (k_ ≠ uG ∧ k_ ≠ yL))))) ∧ some k_ ≠ (.slice dZq cPq.length dNa : Value).ownBlock)) (n := aVz.length) (c := cEe) ?_).2.2; exact (by (with_reducible repeat (first | apply Kd.N_alloc | apply Kd.N_drewN | apply Kd.N_drew)); exact (Kd.N_mono (Kd.N_mono (Kd.N_far (p := ⟨uG, 1, none⟩) (Kd.N_far (p := ⟨uG, 0, none⟩) (Kd.N_far (p := ⟨yL, 0, none⟩) (Kd.N_mono (Kd.N_mono oZ.out (fun k_ hk => (⟨hk, hk.1.2.2.2.2.2⟩ : _ ∧ k_ ≠ yL))) (fun k_ hk => (⟨hk, hk.1.1.2.2.2.2.1⟩ : _ ∧ k_ ≠ uG))) (fun _ hk => hk.1.2) (.slice dZq cPq.length dNa)) (fun _ hk => hk.2) (.int .i64 bNw)) (fun _ hk => hk.2) (.int .i64 bSh)) (fun _ h_ => h_.1)) (fun _ h_ => h_.1)))); (case side2 => exact (Kd.N_reads' oZ.out).2.1); (case side3 => refine (Kd.N_reads' (e := 46) (base := w.heap.size) (ok := fun k_ => (some k_ ≠ (.slice cPp aVz.length cEe : Value).ownBlock ∧ (k_ ≠ bA8 ∧ (k_ ≠ bA9 ∧ (k_ ≠ bBa ∧ (k_ ≠ aJb ∧ (k_ ≠ uG ∧ k_ ≠ yL))))))) (n := cPq.length) (c := dNa) ?_).2.2; exact (by (with_reducible repeat (first | apply Kd.N_alloc | apply Kd.N_drewN | apply Kd.N_drew)); exact (Kd.N_mono (Kd.N_mono (Kd.N_far (p := ⟨uG, 1, none⟩) (Kd.N_far (p := ⟨uG, 0, none⟩) (Kd.N_far (p := ⟨yL, 0, none⟩) (Kd.N_mono (Kd.N_mono cPr.out (fun k_ hk => (⟨hk, hk.2.2.2.2.2.2⟩ : _ ∧ k_ ≠ yL))) (fun k_ hk => (⟨hk, hk.1.2.2.2.2.2.1⟩ : _ ∧ k_ ≠ uG))) (fun _ hk => hk.1.2) (.slice dZq cPq.length dNa)) (fun _ hk => hk.2) (.int .i64 bNw)) (fun _ hk => hk.2) (.int .i64 bSh)) (fun _ h_ => h_.1)) (fun _ h_ => h_.1)))); (case side4 => exact (Kd.N_reads' cPr.out).2.1); rintro e w76 ⟨rfl, hb⟩; replace oZ := aZ (Kd.N_below (by (with_reducible repeat (first | apply Kd.N_alloc | apply Kd.N_drewN | apply Kd.N_drew)); exact (Kd.N_mono (Kd.N_mono (Kd.N_far (p := ⟨uG, 1, none⟩) (Kd.N_far (p := ⟨uG, 0, none⟩) (Kd.N_far (p := ⟨yL, 0, none⟩) (Kd.N_mono (Kd.N_mono oZ.out (fun k_ hk => (⟨hk, hk.1.2.2.2.2.2⟩ : _ ∧ k_ ≠ yL))) (fun k_ hk => (⟨hk, hk.1.1.2.2.2.2.1⟩ : _ ∧ k_ ≠ uG))) (fun _ hk => hk.1.2) (.slice dZq cPq.length dNa)) (fun _ hk => hk.2) (.int .i64 bNw)) (fun _ hk => hk.2) (.int .i64 bSh)) (fun _ h_ => h_.1)) (fun _ h_ => h_.1))) hb); replace cPr := aZ (Kd.N_below (by (with_reducible repeat (first | apply Kd.N_alloc | apply Kd.N_drewN | apply Kd.N_drew)); exact (Kd.N_mono (Kd.N_mono (Kd.N_far (p := ⟨uG, 1, none⟩) (Kd.N_far (p := ⟨uG, 0, none⟩) (Kd.N_far (p := ⟨yL, 0, none⟩) (Kd.N_mono (Kd.N_mono cPr.out (fun k_ hk => (⟨hk, hk.2.2.2.2.2.2⟩ : _ ∧ k_ ≠ yL))) (fun k_ hk => (⟨hk, hk.1.2.2.2.2.2.1⟩ : _ ∧ k_ ≠ uG))) (fun _ hk => hk.1.2) (.slice dZq cPq.length dNa)) (fun _ hk => hk.2) (.int .i64 bNw)) (fun _ hk => hk.2) (.int .i64 bSh)) (fun _ h_ => h_.1)) (fun _ h_ => h_.1))) hb); replace nN := xbb nN hb; replace oL := xbb oL hb; replace tJ := xbb tJ hb; replace pM := xbb pM hb; replace oI := aZ (blk_below (g := uG) (o := .cells #[.int .i64 bNw, .int .i64 bSh] 28 (0, 0)) (by (with_reducible repeat (first | refine bN ?_ _ | refine bD ?_ | refine bA ?_ _)); refine blk_put (cs := #[.int .i64 bNw, .int .i64 uV]) ?_ 1 _ rfl; (with_reducible repeat (first | refine bN ?_ _ | refine bD ?_ | refine bA ?_ _)); refine blk_put (cs := #[.int .i64 rP, .int .i64 uV]) ?_ 0 _ rfl; (with_reducible repeat (first | refine bN ?_ _ | refine bD ?_ | refine bA ?_ _)); refine blk_far ?_ aO8.out _; (with_reducible repeat (first | refine bN ?_ _ | refine bD ?_ | refine bA ?_ _)); exact oI.out) hb); replace aDu := aZ (blk_below (g := yL) (o := .cells #[.slice dZq cPq.length dNa] 24 (0, 0)) (by (with_reducible repeat (first | refine bN ?_ _ | refine bD ?_ | refine bA ?_ _)); refine blk_far ?_ aMg.out _; (with_reducible repeat (first | refine bN ?_ _ | refine bD ?_ | refine bA ?_ _)); refine blk_far ?_ aMg.out _; (with_reducible repeat (first | refine bN ?_ _ | refine bD ?_ | refine bA ?_ _)); refine blk_put (cs := #[.slice none 0 0]) ?_ 0 _ rfl; (with_reducible repeat (first | refine bN ?_ _ | refine bD ?_ | refine bA ?_ _)); exact aDu.out) hb); replace HB := xhl HB hb; (try clear hb); (try clear iV); (try clear hk); (try clear hi)))
    go_ret
    exact ⟨xre, xq HB⟩
/-- THE PURE STATEMENT of changeforgelaw3_ObjectsMergeMatchesSpec. -/
def changeforgelaw3_ObjectsMergeMatchesSpec.Pure : Prop := ∀ (x0 : S24) (x1 : S24), S24.ok x0 → S24.ok x1 → ∃ k, changeforgelaw3_ObjectsMergeMatchesSpec.f k x0.f0 x1.f0 = some true
end

end Go.Proofs.Ytnmkmamobhkcbaa.P

/- Stores merged: what the reference's MergeStores comes to. -/
namespace Go.Proofs.Ytnmkmamobhkcbaa.Obj
open Go.RowKit Go.Proofs.YtnmkmamobhkcbaaW.PrintWords Go.Proofs.YtnmkmamobhkcbaaW.PrintEv Go.Proofs.Ytnmkmamobhkcbaa.P Go.Proofs.Ytnmkmamobhkcbaa.Dig
open Go.Proofs.YtnmkmamobhkcbaaW.PrintMore
set_option linter.unusedVariables false
section
variable {a b : List SO}
theorem rmrg (ha : Store a) (hb : Store b) (oa : ∀ x ∈ a, fB.ok x) (ob : ∀ x ∈ b, fB.ok x) : ∀ (m i q : Nat) (out : List SO), a.length + b.length ≤ i + q + m → i ≤ a.length → q ≤ b.length → out.length ≤ i + q →
    out.Pairwise (fun x y => x.f0 < y.f0) → (∀ x, x ∈ out ↔ Upto a i x ∨ Upto b q x) → (∀ x ∈ out, i < a.length → x.f0 < (at_ a (i : Int)).f0) → (∀ x ∈ out, q < b.length → x.f0 < (at_ b (q : Int)).f0) → (∀ j : Int, 0 ≤ j → j < q → ¬ Bad a (at_ b j)) →
    ∃ R, Res a b R ∧ Ev (fun k => aC.l0 k (i : Int) (q : Int) a b out) R := by
  have hla := ha.len
  have hlb := hb.len
  intro m
  induction m with
  | zero =>
    intro i q out hm hi hq hlen hpw hmem hoa hob hno
    have e1 : (i : Int) = a.length := by omega
    have e2 : (q : Int) = b.length := by omega
    refine ⟨if (out.length : Int) > 40 then ([], 14, -1) else (out, 0, 0), .inr ⟨fun j j0 j1 => hno j j0 (by omega), out, ⟨hpw, fun x => by rw [hmem, e1, e2, upto_all, upto_all]⟩, rfl⟩, ?_⟩
    refine Ev.step (fun k_ => by rw [aC.l0]) ?_
    refine ev_neg (by omega) ?_
    refine Ev.step (fun k_ => by rw [aC.j1]) ?_
    exact ev_neg (by rw [decide_eq_false (by omega)]; exact Bool.false_ne_true) (ev_ite (fun _ => ev_const (Fault_eq _ _) (ev_now _)) (fun _ => ev_now _))
  | succ m ih =>
    intro i q out hm hi hq hlen hpw hmem hoa hob hno
    have appd : ∀ y : SO, (∀ x ∈ out, x.f0 < y.f0) → (out ++ [y]).Pairwise (fun x y => x.f0 < y.f0) := fun y h =>
      List.pairwise_append.2 ⟨hpw, List.pairwise_singleton _ _, fun x hx z hz => by rw [List.mem_singleton.1 hz]; exact h x hx⟩
    have memd : ∀ x y : SO, x ∈ out ++ [y] ↔ x ∈ out ∨ x = y := fun x y => by rw [List.mem_append, List.mem_singleton]
    have lend : ∀ y : SO, (out ++ [y]).length = out.length + 1 := fun y => by simp
    have nextA : i < a.length → (q < b.length → (at_ a (i : Int)).f0 < (at_ b (q : Int)).f0) → ∃ R, Res a b R ∧ Ev (fun k => aC.l0 k ((i : Int) + 1) (q : Int) a b (out ++ [at_ a (i : Int)])) R := fun h1 h2 => by
      have := ih (i + 1) q (out ++ [at_ a (i : Int)]) (by omega) (by omega) hq (by rw [lend]; omega) (appd _ (fun x hx => hoa x hx h1)) (fun x => by
        rw [memd, hmem, show ((i + 1 : Nat) : Int) = (i : Int) + 1 by omega, upto_next (by omega) (by omega)]
        constructor
        · rintro ((h | h) | h)
          · exact .inl (.inl h)
          · exact .inr h
          · exact .inl (.inr h)
        · rintro ((h | h) | h)
          · exact .inl (.inl h)
          · exact .inr h
          · exact .inl (.inr h)) (fun x hx hn => by
        have ha1 := asc_all ha (i := (i : Int)) (j := ((i + 1 : Nat) : Int)) (by omega) (by omega) (by omega)
        rcases (memd x _).1 hx with h | h
        · have := hoa x h h1; omega
        · rw [h]; exact ha1) (fun x hx hn => by
        rcases (memd x _).1 hx with h | h
        · exact hob x h hn
        · rw [h]; exact h2 hn) hno
      rwa [show ((i + 1 : Nat) : Int) = (i : Int) + 1 by omega] at this
    have nextB : q < b.length → (i < a.length → (at_ b (q : Int)).f0 < (at_ a (i : Int)).f0) → ∃ R, Res a b R ∧ Ev (fun k => aC.l0 k (i : Int) ((q : Int) + 1) a b (out ++ [at_ b (q : Int)])) R := fun h1 h2 => by
      have := ih i (q + 1) (out ++ [at_ b (q : Int)]) (by omega) hi (by omega) (by rw [lend]; omega) (appd _ (fun x hx => hob x hx h1)) (fun x => by
        rw [memd, hmem, show ((q + 1 : Nat) : Int) = (q : Int) + 1 by omega, upto_next (by omega) (by omega), or_assoc]) (fun x hx hn => by
        rcases (memd x _).1 hx with h | h
        · exact hoa x h hn
        · rw [h]; exact h2 hn) (fun x hx hn => by
        have hb1 := asc_all hb (i := (q : Int)) (j := ((q + 1 : Nat) : Int)) (by omega) (by omega) (by omega)
        rcases (memd x _).1 hx with h | h
        · have := hob x h h1; omega
        · rw [h]; exact hb1) (fun j j0 j1 => by
        by_cases e : j = (q : Int)
        · rintro ⟨x, hx, e1, e2⟩
          rw [e] at e1 e2
          obtain ⟨p, p0, p1, rfl⟩ := mem_at hx
          by_cases c : p < (i : Int)
          · have := hob _ ((hmem (at_ a p)).2 (.inl ⟨p, p0, c, p1, rfl⟩)) h1
            omega
          · have h3 := h2 (by omega)
            by_cases c2 : p = (i : Int)
            · rw [c2] at e1; omega
            · have := asc_all ha (i := (i : Int)) (j := p) (by omega) (by omega) p1
              omega
        · exact hno j j0 (by omega))
      rwa [show ((q + 1 : Nat) : Int) = (q : Int) + 1 by omega] at this
    have nextC : i < a.length → q < b.length → at_ a (i : Int) = at_ b (q : Int) → ∃ R, Res a b R ∧ Ev (fun k => aC.l0 k ((i : Int) + 1) ((q : Int) + 1) a b (out ++ [at_ b (q : Int)])) R := fun h1 h2 he => by
      have := ih (i + 1) (q + 1) (out ++ [at_ b (q : Int)]) (by omega) (by omega) (by omega) (by rw [lend]; omega) (appd _ (fun x hx => hob x hx h2)) (fun x => by
        rw [memd, hmem, show ((i + 1 : Nat) : Int) = (i : Int) + 1 by omega, show ((q + 1 : Nat) : Int) = (q : Int) + 1 by omega, upto_next (by omega) (by omega), upto_next (by omega) (by omega), he]
        constructor
        · rintro ((h | h) | h)
          · exact .inl (.inl h)
          · exact .inr (.inl h)
          · exact .inr (.inr h)
        · rintro ((h | h) | (h | h))
          · exact .inl (.inl h)
          · exact .inr h
          · exact .inl (.inr h)
          · exact .inr h) (fun x hx hn => by
        have ha1 := asc_all ha (i := (i : Int)) (j := ((i + 1 : Nat) : Int)) (by omega) (by omega) (by omega)
        rcases (memd x _).1 hx with h | h
        · have := hoa x h h1; omega
        · rw [h, ← he]; exact ha1) (fun x hx hn => by
        have hb1 := asc_all hb (i := (q : Int)) (j := ((q + 1 : Nat) : Int)) (by omega) (by omega) (by omega)
        rcases (memd x _).1 hx with h | h
        · have := hob x h h2; omega
        · rw [h]; exact hb1) (fun j j0 j1 => by
        by_cases e : j = (q : Int)
        · rintro ⟨x, hx, e1, e2⟩
          rw [e] at e1 e2
          exact e2 ((dig_inj ha hx (at_mem (by omega) (by omega)) (by rw [e1, he])).trans he)
        · exact hno j j0 (by omega))
      rwa [show ((i + 1 : Nat) : Int) = (i : Int) + 1 by omega, show ((q + 1 : Nat) : Int) = (q : Int) + 1 by omega] at this
    by_cases hia : i < a.length
    · by_cases hqb : q < b.length
      · by_cases hlt : (at_ a (i : Int)).f0 < (at_ b (q : Int)).f0
        · obtain ⟨R, hR, he⟩ := nextA hia (fun _ => hlt)
          refine ⟨R, hR, ?_⟩
          refine Ev.step (fun k_ => by rw [aC.l0]) ?_
          refine ev_pos (by omega) ?_
          refine Ev.step (fun k_ => by rw [aC.j1]) ?_
          refine ev_pos rfl (ev_neg (by omega) (ev_pos (by omega) (ev_pos (by omega) (ev_pos (by omega) (ev_pos (by omega) ?_)))))
          refine Ev.step (fun k_ => by rw [aC.j2]) ?_
          rw [w64 (x := (i : Int) + 1) (by omega)]
          exact ev_pos (decide_eq_true hlt) (ev_pos (by omega) (ev_pos (by omega) (ev_pos (by omega) he)))
        · by_cases heq : (at_ a (i : Int)).f0 = (at_ b (q : Int)).f0
          · have hxa : at_ a (i : Int) ∈ a := at_mem (by omega) (by omega)
            have hyb : at_ b (q : Int) ∈ b := at_mem (by omega) (by omega)
            have hse := robjects_ev (k1 := (at_ a (i : Int)).f1.f0) (l1 := (at_ a (i : Int)).f1.f1) (d1 := (at_ a (i : Int)).f1.f2) (k2 := (at_ b (q : Int)).f1.f0) (l2 := (at_ b (q : Int)).f1.f1) (d2 := (at_ b (q : Int)).f1.f2) (by
              have := (good_mem ha hxa).1.nl
              omega)
            by_cases hsm : sameO (at_ a (i : Int)).f1 (at_ b (q : Int)).f1 = true
            · have e1 := same_eq (ok_bytes (oa _ hxa)) (ok_bytes (ob _ hyb)) hsm
              have e : at_ a (i : Int) = at_ b (q : Int) := by
                cases h1 : at_ a (i : Int)
                cases h2 : at_ b (q : Int)
                rw [h1, h2] at heq e1
                simp only at heq e1
                rw [heq, e1]
              obtain ⟨R, hR, he⟩ := nextC hia hqb e
              refine ⟨R, hR, ?_⟩
              refine Ev.step (fun k_ => by rw [aC.l0]) ?_
              refine ev_pos (by omega) ?_
              refine Ev.step (fun k_ => by rw [aC.j1]) ?_
              refine ev_pos rfl (ev_neg (by omega) (ev_pos (by omega) (ev_pos (by omega) (ev_pos (by omega) (ev_pos (by omega) ?_)))))
              refine Ev.step (fun k_ => by rw [aC.j2]) ?_
              refine ev_neg (by rw [decide_eq_false hlt]; exact Bool.false_ne_true) (ev_pos (by omega) (ev_pos (by omega) (ev_pos (by omega) (ev_pos (by omega) ?_))))
              refine Ev.step (fun k_ => by rw [aC.j3]) ?_
              rw [w64 (x := (i : Int) + 1) (by omega), w64 (x := (q : Int) + 1) (by omega)]
              exact ev_pos (beq_iff_eq.2 heq) (ev_pos (by omega) (ev_pos (by omega) (ev_pos (by omega) (ev_pos (by omega) (ev_bind hse (ev_pos hsm (ev_pos (by omega) he)))))))
            · refine ⟨([], 19, (q : Int)), .inl ⟨q, ⟨by omega, by omega, ⟨_, hxa, heq, fun e => hsm (by rw [e]; exact same_refl _ _ _)⟩, hno⟩, rfl⟩, ?_⟩
              refine Ev.step (fun k_ => by rw [aC.l0]) ?_
              refine ev_pos (by omega) ?_
              refine Ev.step (fun k_ => by rw [aC.j1]) ?_
              refine ev_pos rfl (ev_neg (by omega) (ev_pos (by omega) (ev_pos (by omega) (ev_pos (by omega) (ev_pos (by omega) ?_)))))
              refine Ev.step (fun k_ => by rw [aC.j2]) ?_
              refine ev_neg (by rw [decide_eq_false hlt]; exact Bool.false_ne_true) (ev_pos (by omega) (ev_pos (by omega) (ev_pos (by omega) (ev_pos (by omega) ?_))))
              refine Ev.step (fun k_ => by rw [aC.j3]) ?_
              exact ev_pos (beq_iff_eq.2 heq) (ev_pos (by omega) (ev_pos (by omega) (ev_pos (by omega) (ev_pos (by omega) (ev_bind hse (ev_neg hsm (ev_const (Fault_eq _ _) (ev_now _))))))))
          · obtain ⟨R, hR, he⟩ := nextB hqb (fun _ => by omega)
            refine ⟨R, hR, ?_⟩
            refine Ev.step (fun k_ => by rw [aC.l0]) ?_
            refine ev_pos (by omega) ?_
            refine Ev.step (fun k_ => by rw [aC.j1]) ?_
            refine ev_pos rfl (ev_neg (by omega) (ev_pos (by omega) (ev_pos (by omega) (ev_pos (by omega) (ev_pos (by omega) ?_)))))
            refine Ev.step (fun k_ => by rw [aC.j2]) ?_
            refine ev_neg (by rw [decide_eq_false hlt]; exact Bool.false_ne_true) (ev_pos (by omega) (ev_pos (by omega) (ev_pos (by omega) (ev_pos (by omega) ?_))))
            refine Ev.step (fun k_ => by rw [aC.j3]) ?_
            rw [w64 (x := (q : Int) + 1) (by omega)]
            exact ev_neg (fun h => heq (beq_iff_eq.1 h)) (ev_pos (by omega) (ev_pos (by omega) (ev_pos (by omega) he)))
      · obtain ⟨R, hR, he⟩ := nextA hia (fun h => absurd h hqb)
        refine ⟨R, hR, ?_⟩
        refine Ev.step (fun k_ => by rw [aC.l0]) ?_
        refine ev_pos (by omega) ?_
        refine Ev.step (fun k_ => by rw [aC.j1]) ?_
        refine ev_pos rfl (ev_pos (by omega) ?_)
        refine Ev.step (fun k_ => by rw [aC.j2]) ?_
        rw [w64 (x := (i : Int) + 1) (by omega)]
        exact ev_pos rfl (ev_pos (by omega) (ev_pos (by omega) (ev_pos (by omega) he)))
    · by_cases hqb : q < b.length
      · obtain ⟨R, hR, he⟩ := nextB hqb (fun h => absurd h hia)
        refine ⟨R, hR, ?_⟩
        refine Ev.step (fun k_ => by rw [aC.l0]) ?_
        refine ev_neg (by omega) ?_
        refine Ev.step (fun k_ => by rw [aC.j1]) ?_
        refine ev_pos (decide_eq_true (by omega)) (ev_neg (by omega) (ev_neg (by omega) ?_))
        refine Ev.step (fun k_ => by rw [aC.j2]) ?_
        refine ev_neg Bool.false_ne_true (ev_neg (by omega) ?_)
        refine Ev.step (fun k_ => by rw [aC.j3]) ?_
        rw [w64 (x := (q : Int) + 1) (by omega)]
        exact ev_neg Bool.false_ne_true (ev_pos (by omega) (ev_pos (by omega) (ev_pos (by omega) he)))
      · have e1 : (i : Int) = a.length := by omega
        have e2 : (q : Int) = b.length := by omega
        refine ⟨if (out.length : Int) > 40 then ([], 14, -1) else (out, 0, 0), .inr ⟨fun j j0 j1 => hno j j0 (by omega), out, ⟨hpw, fun x => by rw [hmem, e1, e2, upto_all, upto_all]⟩, rfl⟩, ?_⟩
        refine Ev.step (fun k_ => by rw [aC.l0]) ?_
        refine ev_neg (by omega) ?_
        refine Ev.step (fun k_ => by rw [aC.j1]) ?_
        exact ev_neg (by rw [decide_eq_false (by omega)]; exact Bool.false_ne_true) (ev_ite (fun _ => ev_const (Fault_eq _ _) (ev_now _)) (fun _ => ev_now _))
theorem rmerge_ev (ha : Store a) (hb : Store b) (oa : ∀ x ∈ a, fB.ok x) (ob : ∀ x ∈ b, fB.ok x) : ∃ R, Res a b R ∧ Ev (fun k => aC.f k a b) R := by
  obtain ⟨R, h, he⟩ := rmrg ha hb oa ob (a.length + b.length) 0 0 [] (by omega) (by omega) (by omega) (by simp) List.Pairwise.nil (fun x => ⟨fun h => (by cases h), fun h => h.elim (fun h => absurd h (upto_none x)) (fun h => absurd h (upto_none x))⟩) (fun x hx => by cases hx) (fun x hx => by cases hx) (fun j j0 j1 => by omega)
  exact ⟨R, h, he⟩
end
end Go.Proofs.Ytnmkmamobhkcbaa.Obj

/- The pure statement of ObjectsMergeMatchesSpec. -/
namespace Go.Proofs.Ytnmkmamobhkcbaa.Pure
open Go.RowKit Go.Proofs.YtnmkmamobhkcbaaW.PrintWords Go.Proofs.YtnmkmamobhkcbaaW.PrintEv Go.Proofs.Ytnmkmamobhkcbaa.P Go.Proofs.Ytnmkmamobhkcbaa.Dig Go.Proofs.Ytnmkmamobhkcbaa.Obj
set_option linter.unusedVariables false
theorem ObjectsMergeMatchesSpec : changeforgelaw3_ObjectsMergeMatchesSpec.Pure := by
  intro s t hs ht
  refine ev_ex ?_
  have oa := hs.2
  have ob := ht.2
  obtain ⟨a⟩ := s
  obtain ⟨b⟩ := t
  have oa : ∀ x ∈ a, fB.ok x := oa
  have ob : ∀ x ∈ b, fB.ok x := ob
  have nil_same : Ev (fun k => aI.f k ([] : List SO) []) true := stores_ev (by simp) (fun x hx => by cases hx)
  show Ev (fun k => changeforgelaw3_ObjectsMergeMatchesSpec.f k a b) true
  unfold changeforgelaw3_ObjectsMergeMatchesSpec.f
  refine ev_bind oexample_ev (ev_pos rfl ?_)
  have va := sflt_ev oa
  have vb := sflt_ev ob
  rcases merge_ev oa ob with ⟨h, he⟩ | ⟨e, sa, h, he⟩ | ⟨e, sa, e2, sb, R, hR, he⟩
  · refine ev_bind he (ev_bind va (ev_neg h ?_))
    refine Ev.step (fun k_ => by rw [changeforgelaw3_ObjectsMergeMatchesSpec.j0]) ?_
    exact ev_neg h (ev_pos (by simp) (ev_bind nil_same (ev_now _)))
  · rw [e] at va
    refine ev_bind he (ev_bind va (ev_pos rfl (ev_bind vb ?_)))
    refine Ev.step (fun k_ => by rw [changeforgelaw3_ObjectsMergeMatchesSpec.j0]) ?_
    exact ev_neg h (ev_pos (by simp) (ev_bind nil_same (ev_now _)))
  · rw [e] at va
    rw [e2] at vb
    obtain ⟨R', hR', he'⟩ := rmerge_ev sa sb oa ob
    obtain rfl := res_eq hR hR'
    refine ev_bind he (ev_bind va (ev_pos rfl (ev_bind vb ?_)))
    refine Ev.step (fun k_ => by rw [changeforgelaw3_ObjectsMergeMatchesSpec.j0]) ?_
    have hst : Ev (fun k => aI.f k R.1 R.1) true := by
      rcases hR with ⟨q, hq, rfl⟩ | ⟨hc, r, hr, rfl⟩
      · exact nil_same
      · by_cases c : (r.length : Int) > 40
        · rw [if_pos c]; exact nil_same
        · rw [if_neg c]
          refine stores_ev (by show (r.length : Int) ≤ _; omega) (fun x hx => ?_)
          have hx : x ∈ r := hx
          rcases (hr.mem x).1 hx with h | h
          · have := (good_mem sa h).1.nl; omega
          · have := (good_mem sb h).1.nl; omega
    exact ev_pos rfl (ev_bind he' (ev_pos (by simp) (ev_bind hst (ev_now _))))
end Go.Proofs.Ytnmkmamobhkcbaa.Pure

/- The statement ObjectsMergeMatchesSpec holds: for every input the law returns true and its arguments read as before. The row, out of the pure statement (PureObjectsMergeMatchesSpec) and the printed contract. -/
namespace Go.Proofs.Ytnmkmamobhkcbaa.objectsMergeMatchesSpec
open Go.ChangeShapes Go.WideShapes Go.ChangeAt Go.RowKit
open Go.ChangeMaps (open_string shut_string)
open Go.Proofs.YtnmkmamobhkcbaaW.PrintWords Go.Proofs.YtnmkmamobhkcbaaW.PrintOpen Go.Proofs.Ytnmkmamobhkcbaa.P
set_option linter.unusedVariables false
theorem own : ownKnob Try.prog.godebug = none := by kernel_rfl
theorem laidOut : laidOutB Try.prog = true := by kernel_rfl
set_option maxRecDepth 100000 in
theorem lifted (os : Os) (started : os.Started) (H : Type) (enc : TypeId × Value → H) :
    ReturnsInHanded {} Try.checked os 12 .any (Rows.objectsMergeMatchesSpecSpec.pre6 enc Try.prog Try.f12 Rows.objectsMergeMatchesSpecRow.domain false) (Rows.objectsMergeMatchesSpecSpec.post enc Try.prog Try.f12 false true false false) := by
  refine returnsInHanded_of_change_sized (C := Try.checked) own started (by kernel_rfl) Try.func12
    (ChangeSpec.witness6 (enc := enc) (C := Try.checked) false ⟨#[], #[.agg #[.slice none 0 0], .agg #[.slice none 0 0]], []⟩ 8 (by kernel_rfl) (by kernel_rfl) (by kernel_rfl) (by kernel_rfl)) ?_
  intro W base args ds gs before aDj hW hcnd aQc _
  have hsz : (DataW.weightsEach Try.prog (Try.f12.params.toList ++ Rows.objectsMergeMatchesSpecSpec.plain.varTypes Try.prog) (ds ++ gs)).all (· ≤ reachBytes) = true := aQc
  have hval : ∀ (j : Nat) t v, Try.f12.params[j]? = some t → args[j]? = some v → Value.okWide Try.prog W .any base t v := aDj
  have hW' := hW
  obtain ⟨p, q, hA0, hV, rfl, hfz, hnd⟩ := hW
  have hA : DataW.TrodAll enc Try.prog W 0 (fun _ => true) true Try.f12.params.toList args.toList ds p := hA0
  rw [Try.params12] at hA hval hsz
  obtain ⟨v0, vs0, d0, ds0, p0, q0, hargs, rfl, rfl, h0, r0⟩ := trodAll_cons hA
  obtain ⟨v1, vs1, d1, ds1, p1, q1, rfl, rfl, rfl, h1, r1⟩ := trodAll_cons r0
  obtain ⟨rfl, rfl, rfl⟩ := trodAll_nil r1
  obtain rfl : args = #[v0, v1] := by cases args; simp_all
  obtain ⟨rfl, rfl⟩ := trodVars_none hV
  obtain ⟨cs0, rfl, _⟩ := okWide_struct Try.underlying24 (hval 0 24 v0 rfl rfl)
  have k0 := h0
  have lt0 : ∀ x ∈ p0, x.block < W.heap.size := by obtain ⟨m, hm⟩ := k0; exact DataW.trod_lt m _ _ _ hm
  obtain ⟨x0, hk0, y0⟩ := open_arg_struct aEm h0 (fits_arg hsz (j := 0) rfl rfl)
  obtain ⟨bUg, bUh, z0, nA, mZ⟩ := aDk hk0
  have z0_ := Array.toList_inj.1 (z0.trans (show _ = Array.toList #[.slice bUg x0.f0.length bUh] from rfl))
  subst z0_
  obtain ⟨cs1, rfl, _⟩ := okWide_struct Try.underlying24 (hval 1 24 v1 rfl rfl)
  have k1 := h1
  have lt1 : ∀ x ∈ p1, x.block < W.heap.size := by obtain ⟨m, hm⟩ := k1; exact DataW.trod_lt m _ _ _ hm
  obtain ⟨x1, hk1, y1⟩ := open_arg_struct aEm h1 (fits_arg hsz (j := 1) rfl rfl)
  obtain ⟨fP7, fP8, z1, bLx, bLw⟩ := aDk hk1
  have z1_ := Array.toList_inj.1 (z1.trans (show _ = Array.toList #[.slice fP7 x1.f0.length fP8] from rfl))
  subst z1_
  clear hA0 aDj aQc hsz
  obtain ⟨k, hp⟩ := Pure.ObjectsMergeMatchesSpec x0 x1 y0 y1
  refine (P.changeforgelaw3_ObjectsMergeMatchesSpec.calls k _ _ x0.f0 _ _ x1.f0 true W mZ nA bLw bLx hp).mono fun e W' ⟨he, bel⟩ => ?_
  subst he
  exact ⟨_, rfl, _, _, _, [], _, [], hW', trodAll_mk1 (shut_bool Try.underlying4 _), (trodAll_cons_mk (Below.trod laidOut (by kernel_rfl) (of_decide_eq_true (by kernel_rfl)) k0 bel lt0) (trodAll_cons_mk (Below.trod laidOut (by kernel_rfl) (of_decide_eq_true (by kernel_rfl)) k1 bel lt1) trodAll_mk0)), rfl, bel.frame _, fun h => by cases h⟩
theorem over : Rows.objectsMergeMatchesSpecRow.holds Try.pinned (OpenSpec.ofChange Rows.objectsMergeMatchesSpecSpec) :=
  OpenClaim.holds_of_wide 12 Try.f12 rfl rfl rfl rfl rfl rfl rfl ⟨rfl, rfl, rfl, rfl, rfl⟩ rfl rfl rfl rfl rfl (by kernel_rfl) Try.func12 (by kernel_rfl)
    (of_decide_eq_true (by kernel_rfl)) (by unfold Func.isWrapper; first | (rw [if_pos (by decide +kernel)]; kernel_rfl) | (rw [if_neg (by decide +kernel)]; exact ⟨rfl, rfl⟩))
    (fun os started H enc _ => lifted os started H enc)
theorem proved : Rows.ObjectsMergeMatchesSpecSaid := over
#print axioms proved
end Go.Proofs.Ytnmkmamobhkcbaa.objectsMergeMatchesSpec
namespace Go.Proofs.Ytnmkmamobhkcbaa
/-- The row, under a short name, for the claim. -/
theorem objectsMergeMatchesSpec_holds : Rows.ObjectsMergeMatchesSpecSaid := objectsMergeMatchesSpec.proved
end Go.Proofs.Ytnmkmamobhkcbaa
