/- Texts of the proofs of 3 statements: what the printed functions come to, plain laws, rows (no condition beyond the statements' own). -/
import Derived.Test.YtnmkmamobhkcbaaGP0
import Derived.Test.YtnmkmamobhkcbaaGP10
import Derived.Test.YtnmkmamobhkcbaaGP35
import Derived.Test.YtnmkmamobhkcbaaGObj4
import Derived.Test.YtnmkmamobhkcbaaGP60
namespace Go.Proofs.Ytnmkmamobhkcbaa.P
open Go.RowKit Go.Proofs.YtnmkmamobhkcbaaW.PrintWords Go.Proofs.YtnmkmamobhkcbaaW.PrintLast Go.Proofs.YtnmkmamobhkcbaaW.PrintMore
attribute [local go_sem] max2_int min2_int max_two min_two max_three min_three max_four min_four   -- for this text's walks alone
set_option linter.unusedVariables false
set_option linter.unusedSimpArgs false
section
attribute [local go_sem high] bAt
def objects_Get.f (k : Nat) (aD : List (fB)) (a1 : Int) : Option (Int × List Int × List Int × Int × Int) := (objects_Validate.f k aD).bind fun bYk => (if (!(bYk.1 == 0) || (!(bYk.2 == 0))) = true then (some (0, ([] : List Int), ([] : List Int), bYk.1, bYk.2)) else ((objects_find.f k aD a1).bind fun aOr => (if aOr.2 = true then (if 0 ≤ aOr.1 then (if aOr.1 < (aD.length : Int) then ((objects_Clone.f ((aA aD aOr.1).f1.f0) ((aA aD aOr.1).f1.f1) ((aA aD aOr.1).f1.f2)).bind fun aRf => (some (aRf.1, aRf.2.1, aRf.2.2, 0, 0))) else (none)) else (none)) else (some (0, ([] : List Int), ([] : List Int), 6, (-1))))))
theorem objects_Get.mono : ∀ a0 a1 k, LeO (objects_Get.f k a0 a1) (objects_Get.f (k + 1) a0 a1) := by
  intro a0 a1 k
  unfold objects_Get.f
  repeat' first | (with_reducible first | exact objects_Validate.mono _ _ | exact objects_find.mono _ _ _ | exact LeO.refl _ | exact LeO.none _ | refine LeO.ite ?_ ?_ | refine LeO.bind ?_ (fun _ => ?_)) | exact objects_Validate.mono _ _ | exact objects_find.mono _ _ _ | exact LeO.none _ | refine LeO.ite ?_ ?_ | refine LeO.bind ?_ (fun _ => ?_)
set_option maxHeartbeats 8000000 in
set_option maxRecDepth 100000 in
theorem objects_Get.calls (k : Nat) (bP : Option Addr) (bK : Nat) (aD : List (fB)) (a1 : Int) (r1 : Int) (r2 : List Int) (r3 : List Int) (r4 : Int) (r5 : Int) (w : World) (mZ : Kd.C qL w bP aD.length aD) (nA : aD.length ≤ bK) (h : objects_Get.f k aD a1 = some (r1, r2, r3, r4, r5)) :
  Calls Try.prog 36 #[.agg #[.slice bP aD.length bK], .int .i64 a1] w fun e w' => ∃ v1_ v2_ : Value, e = .returned (.tuple #[.agg #[.int .i64 r1, v1_, v2_], .agg #[.int .i64 r4, .int .i64 r5]]) ∧ Kd.R (Kd.int .i64) 3 w' w.heap.size (fun _ => True) v1_ r2 ∧ Kd.R (Kd.int .u8) 5 w' w.heap.size (fun _ => True) v2_ r3 ∧ Below w.heap.size w w' := by
  have aP7 := Try.underlying24
  have aQf := Try.underlying44
  have aQg := Try.underlying28
  have fI := aZ mZ
  have lC := aZ nA
  clear mZ nA
  have HB := aZ (Below.refl w.heap.size w)
  have H : ((objects_Validate.f k aD).bind fun bYk => (if (!(bYk.1 == 0) || (!(bYk.2 == 0))) = true then (some (0, ([] : List Int), ([] : List Int), bYk.1, bYk.2)) else ((objects_find.f k aD a1).bind fun aOr => (if aOr.2 = true then (if 0 ≤ aOr.1 then (if aOr.1 < (aD.length : Int) then ((objects_Clone.f ((aA aD aOr.1).f1.f0) ((aA aD aOr.1).f1.f1) ((aA aD aOr.1).f1.f2)).bind fun aRf => (some (aRf.1, aRf.2.1, aRf.2.2, 0, 0))) else (none)) else (none)) else (some (0, ([] : List Int), ([] : List Int), 6, (-1))))))) = some (r1, r2, r3, r4, r5) := h
  clear h
  replace H := Option.bind_eq_some_iff.mp H
  obtain ⟨⟨bA6, bJ8⟩, A30, H⟩ := H
  replace H : (if (!(bA6 == 0) || (!(bJ8 == 0))) = true then (some (0, ([] : List Int), ([] : List Int), bA6, bJ8)) else ((objects_find.f k aD a1).bind fun aOr => (if aOr.2 = true then (if 0 ≤ aOr.1 then (if aOr.1 < (aD.length : Int) then ((objects_Clone.f ((aA aD aOr.1).f1.f0) ((aA aD aOr.1).f1.f1) ((aA aD aOr.1).f1.f2)).bind fun aRf => (some (aRf.1, aRf.2.1, aRf.2.2, 0, 0))) else (none)) else (none)) else (some (0, ([] : List Int), ([] : List Int), 6, (-1)))))) = some (r1, r2, r3, r4, r5) := H
  have A3 := aZ A30
  clear A30
  by_cases c4 : (!(bA6 == 0) || (!(bJ8 == 0))) = true
  · rw [if_pos c4] at H
    have aJy : (!(bA6 == 0) || (!(bJ8 == 0))) = true := c4
    clear c4
    simp only [Option.some.injEq, Prod.mk.injEq] at H
    obtain ⟨rfl, rfl, rfl, rfl, rfl⟩ := H
    go_enter Try.func36, Try.ntmps36
    try go_wp2_with (first | ((with_reducible refine gate_dst (N := 2) rfl ?_); refine box_event ?hg (N := 2) ?hd (cs := #[.slice bP aD.length bK]) (t := 24) ?hr ?_; (case hd => rfl); (case hg => rfl); (case hr => first | (go_simp; done) | (go_simp; rfl)); intro bYl hg w5 hbox hb; have oD := aZ (hbox); have fBi := xgh hg HB; have cTk := xgh hg HB; replace HB := xhl HB hb; clear hb hbox hg) | ((with_reducible refine gate_dst (N := 4) rfl ?_); refine box_event ?hg (N := 4) ?hd (cs := #[.int .i64 0, .slice none 0 0, .slice none 0 0]) (t := 44) ?hr ?_; (case hd => rfl); (case hg => rfl); (case hr => first | (go_simp; done) | (go_simp; rfl)); intro aEw hg w6 hbox hb; have oH := aZ (hbox); have fBj := xgh hg HB; have cTl := xgh hg HB; replace HB := xhl HB hb; have aOs := xnl hg oD; have aOt := xng hg oD; replace oD := xbb oD hb; clear hb hbox hg) | ((with_reducible refine gate_dst (N := 5) rfl ?_); refine box_event ?hg (N := 5) ?hd (cs := #[.int .i64 0, .int .i64 0]) (t := 28) ?hr ?_; (case hd => rfl); (case hg => rfl); (case hr => first | (go_simp; done) | (go_simp; rfl)); intro aOu hg w7 hbox hb; have tX := aZ (hbox); have fBk := xgh hg HB; have cTm := xgh hg HB; replace HB := xhl HB hb; have aTh := xnl hg oD; have aTi := xng hg oD; replace oD := xbb oD hb; have zA := xnl hg oH; have vV := xng hg oH; replace oH := xbb oH hb; clear hb hbox hg; have dYw := aOs.out; have dYx := aOt.out; have dJq := aTh.out; have dJr := aTi.out; have aA3 : w7.cell? ⟨bYl, 0, none⟩ = some (.slice bP aD.length bK) := (blk_cell oD.out 0).trans rfl; have aA4 := blk_frozen oD.out 0) | ((with_reducible refine gate_callee (f := 32) rfl ?_); refine goesL_ (some 10) rfl rfl Try.func32 (by kernel_rfl) rfl #[.agg #[.slice bP aD.length bK]] rfl xmp ?_; (with_reducible refine (objects_Validate.calls k _ _ aD bA6 bJ8 _ ?side1 ?side2 A3.out).mono ?_); (case side1 => exact xcb fI HB); (case side2 => exact lC.out); rintro e w11 ⟨rfl, hb⟩; refine ⟨_, rfl, ?_⟩; replace oD := xbb oD hb; replace oH := xbb oH hb; replace tX := xbb tX hb; replace HB := xhl HB hb; skip; (try clear hb); (try clear iV); (try clear hk); (try clear hi)) | ((with_reducible refine gate_dst (N := 6) rfl ?_); refine box_event ?hg (N := 6) ?hd (cs := #[.int .i64 0, .int .i64 0]) (t := 28) ?hr ?_; (case hd => rfl); (case hg => rfl); (case hr => first | (go_simp; done) | (go_simp; rfl)); intro aF5 hg w12 hbox hb; have aEc := aZ (hbox); have fBl := xgh hg HB; have cTn := xgh hg HB; replace HB := xhl HB hb; have bFa := xnl hg oD; have bFb := xng hg oD; replace oD := xbb oD hb; have aOv := xnl hg oH; have aAd := xng hg oH; replace oH := xbb oH hb; have aTj := xnl hg tX; have aEx := xng hg tX; replace tX := xbb tX hb; clear hb hbox hg; have bS1 := bFb.out; have bS2 := bFa.out; have cSb := aAd.out; have cSc := aOv.out; have bVv := aEx.out; have bVw := aTj.out; have aQj : w12.cell? ⟨aF5, 0, none⟩ = some (.int .i64 0) := (blk_cell aEc.out 0).trans rfl; have bIp : w12.cell? ⟨aF5, 1, none⟩ = some (.int .i64 0) := (blk_cell aEc.out 1).trans rfl; have aQk := blk_frozen aEc.out 0; have bIq := blk_frozen aEc.out 1))
    replace oD : Aside0 (((w12.setCell ⟨aF5, 0, none⟩ (.int .i64 bA6)).setCell ⟨aF5, 1, none⟩ (.int .i64 bJ8)).heap[bYl]? = some (.cells #[.slice bP aD.length bK] 24 (0, 0))) := xk oD
    replace oH : Aside0 (((w12.setCell ⟨aF5, 0, none⟩ (.int .i64 bA6)).setCell ⟨aF5, 1, none⟩ (.int .i64 bJ8)).heap[aEw]? = some (.cells #[.int .i64 0, .slice none 0 0, .slice none 0 0] 44 (0, 0))) := xk oH
    replace tX : Aside0 (((w12.setCell ⟨aF5, 0, none⟩ (.int .i64 bA6)).setCell ⟨aF5, 1, none⟩ (.int .i64 bJ8)).heap[aOu]? = some (.cells #[.int .i64 0, .int .i64 0] 28 (0, 0))) := xk tX
    replace aEc : Aside0 (((w12.setCell ⟨aF5, 0, none⟩ (.int .i64 bA6)).setCell ⟨aF5, 1, none⟩ (.int .i64 bJ8)).heap[aF5]? = some (.cells #[.int .i64 bA6, .int .i64 bJ8] 28 (0, 0))) := ⟨by (with_reducible repeat (first | refine bN ?_ _ | refine bD ?_ | refine bA ?_ _)); refine blk_put (cs := #[.int .i64 bA6, .int .i64 0]) ?_ 1 _ rfl; (with_reducible repeat (first | refine bN ?_ _ | refine bD ?_ | refine bA ?_ _)); refine blk_put (cs := #[.int .i64 0, .int .i64 0]) ?_ 0 _ rfl; (with_reducible repeat (first | refine bN ?_ _ | refine bD ?_ | refine bA ?_ _)); exact aEc.out⟩
    replace HB : Aside0 (Below w.heap.size w ((w12.setCell ⟨aF5, 0, none⟩ (.int .i64 bA6)).setCell ⟨aF5, 1, none⟩ (.int .i64 bJ8))) := xb HB
    generalize ((w12.setCell ⟨aF5, 0, none⟩ (.int .i64 bA6)).setCell ⟨aF5, 1, none⟩ (.int .i64 bJ8)) = w17 at oD oH tX aEc HB ⊢
    replace oD := aZ (bD oD.out)
    replace oH := aZ (bD oH.out)
    replace tX := aZ (bD tX.out)
    replace aEc := aZ (bD aEc.out)
    replace HB := aZ (lD HB.out)
    refine start_ (n := 4) (S := fun w' => w'.cell? ⟨aF5, 0, none⟩ = some (.int .i64 bA6) ∧ w'.cell? ⟨aF5, 1, none⟩ = some (.int .i64 bJ8)) (ds := []) #[false, false, false, false] (by kernel_rfl) rfl rfl ⟨(blk_cell aEc.out 0).trans rfl, (blk_cell aEc.out 1).trans rfl⟩ (fun hHeld => ?_)
    generalize w17.drew = w18 at oD oH tX aEc HB hHeld ⊢
    refine pure_ (i := 0) (N := some 14) (v := ?_) (a' := ?_) #[true, false, false, false] rfl rfl (by kernel_rfl) (fun _ _ _ h => h) (Or.inl ⟨by rfl, ?_⟩) ?_ ?_
    rotate_left
    · intro w'
      go_simp
      with_reducible rfl
    rotate_left
    · simp only [Act.put, List.setIfInBounds_toArray, List.set_cons_zero, List.set_cons_succ, i64_w, i32_w]
      rfl
    refine take_ (i := 1) (N := some 15) (v := ?_) (a' := ?_) #[true, true, false, false] rfl rfl (by kernel_rfl) (fun _ _ _ h => h) (Or.inl ⟨by rfl, ?_⟩) hHeld ?_ ?_
    rotate_left
    · rintro w' ⟨s0, s1⟩
      go_simp
      with_reducible rfl
    rotate_left
    · simp only [Act.put, List.setIfInBounds_toArray, List.set_cons_zero, List.set_cons_succ, i64_w, i32_w]
      rfl
    refine one_ (i := 2) (N := none) #[true, true, true, false] rfl rfl (by kernel_rfl) (by decide) (fun K hK => ?_)
    have hKl : w18.cell? ⟨aEw, 0, none⟩ = some (.int .i64 0) := (blk_cell oH.out 0).trans rfl
    have fZ4 := blk_frozen oH.out 0
    have eTv := aOs.out
    have eTw := vV.out
    have eTx := aAd.out
    have eTy := aOt.out
    have eTz := zA.out
    have eT0 := aOv.out
    have fZ5 : w18.cell? ⟨aEw, 1, none⟩ = some (.slice none 0 0) := (blk_cell oH.out 1).trans rfl
    have fBm := blk_frozen oH.out 1
    have eT1 := aOs.out
    have dTo := vV.out
    have dTp := aAd.out
    have eT2 := aOt.out
    have dTq := zA.out
    have dTr := aOv.out
    have hKm : w18.cell? ⟨aEw, 2, none⟩ = some (.slice none 0 0) := (blk_cell oH.out 2).trans rfl
    have fZ6 := blk_frozen oH.out 2
    have gYq := aOs.out
    have eT3 := vV.out
    have eT4 := aAd.out
    have gYr := aOt.out
    have eT5 := zA.out
    have eT6 := aOv.out
    refine skip_ (w1 := ?_) (by rfl) rfl ?_ ?_
    rotate_left
    · go_simp
      rfl
    refine hK.out _ _ ⟨((cell_far (p := ⟨aEw, _, none⟩) aAd.out _).trans (((cell_far (p := ⟨aEw, _, none⟩) aAd.out _).trans (((cell_far (p := ⟨aEw, _, none⟩) aAd.out _).trans (hHeld.1)))))), ((cell_far (p := ⟨aEw, _, none⟩) aAd.out _).trans (((cell_far (p := ⟨aEw, _, none⟩) aAd.out _).trans (((cell_far (p := ⟨aEw, _, none⟩) aAd.out _).trans (hHeld.2))))))⟩ (fun hHeld => ?_)
    clear hK K
    refine one_ (i := 3) (N := none) #[true, true, true, true] rfl rfl (by kernel_rfl) (by decide) (fun K hK => ?_)
    have fXm : w18.cell? ⟨aOu, 0, none⟩ = some (.int .i64 0) := (blk_cell tX.out 0).trans rfl
    have fAk := blk_frozen tX.out 0
    have eQ4 := aTh.out
    have dP9 := zA.out
    have dQa := aEx.out
    have eQ5 := aTi.out
    have dQb := vV.out
    have dQc := aTj.out
    have fXn : w18.cell? ⟨aOu, 1, none⟩ = some (.int .i64 0) := (blk_cell tX.out 1).trans rfl
    have fAl := blk_frozen tX.out 1
    have dQd := aTh.out
    have eQ6 := zA.out
    have eT7 := aEx.out
    have dQe := aTi.out
    have eQ8 := vV.out
    have eT8 := aTj.out
    refine skip_ (w1 := ?_) (by rfl) rfl ?_ ?_
    rotate_left
    · go_simp
      rfl
    refine hK.out _ _ ⟨((cell_far (p := ⟨aOu, _, none⟩) aEx.out _).trans (((cell_far (p := ⟨aOu, _, none⟩) aEx.out _).trans (hHeld.1)))), ((cell_far (p := ⟨aOu, _, none⟩) aEx.out _).trans (((cell_far (p := ⟨aOu, _, none⟩) aEx.out _).trans (hHeld.2))))⟩ (fun hHeld => ?_)
    clear hK K
    refine done_ (by kernel_rfl) ?_
    try go_wp2
    refine bodyPost_ret (results_cc rfl _ _ aEw aOu 44 28 #[.int .i64 0, .slice none 0 0, .slice none 0 0] #[.int .i64 bA6, .int .i64 bJ8] (0, 0) (0, 0) _ _ rfl (by (with_reducible repeat (first | refine bN ?_ _ | refine bD ?_ | refine bA ?_ _)); refine blk_far ?_ zA.out _; (with_reducible repeat (first | refine bN ?_ _ | refine bD ?_ | refine bA ?_ _)); refine blk_far ?_ zA.out _; (with_reducible repeat (first | refine bN ?_ _ | refine bD ?_ | refine bA ?_ _)); refine blk_put (cs := #[.int .i64 0, .slice none 0 0, .slice none 0 0]) ?_ 2 _ rfl; (with_reducible repeat (first | refine bN ?_ _ | refine bD ?_ | refine bA ?_ _)); refine blk_put (cs := #[.int .i64 0, .slice none 0 0, .slice none 0 0]) ?_ 1 _ rfl; (with_reducible repeat (first | refine bN ?_ _ | refine bD ?_ | refine bA ?_ _)); refine blk_put (cs := #[.int .i64 0, .slice none 0 0, .slice none 0 0]) ?_ 0 _ rfl; (with_reducible repeat (first | refine bN ?_ _ | refine bD ?_ | refine bA ?_ _)); exact oH.out) Try.underlying44 rfl (by kernel_rfl) rfl (by (with_reducible repeat (first | refine bN ?_ _ | refine bD ?_ | refine bA ?_ _)); refine blk_put (cs := #[.int .i64 bA6, .int .i64 0]) ?_ 1 _ rfl; (with_reducible repeat (first | refine bN ?_ _ | refine bD ?_ | refine bA ?_ _)); refine blk_put (cs := #[.int .i64 0, .int .i64 0]) ?_ 0 _ rfl; (with_reducible repeat (first | refine bN ?_ _ | refine bD ?_ | refine bA ?_ _)); refine blk_far ?_ vV.out _; (with_reducible repeat (first | refine bN ?_ _ | refine bD ?_ | refine bA ?_ _)); refine blk_far ?_ vV.out _; (with_reducible repeat (first | refine bN ?_ _ | refine bD ?_ | refine bA ?_ _)); refine blk_far ?_ vV.out _; (with_reducible repeat (first | refine bN ?_ _ | refine bD ?_ | refine bA ?_ _)); exact tX.out) Try.underlying28 rfl (by kernel_rfl)) rfl ?_
    exact ⟨_, _, xre, by first | exact Kd.R_nil _ _ _ _ _ | exact Kd.N_nil _ _ _ _ _ | exact Kd.V_nil _ _ _ _ _ | exact Kd.Q_nil _ _ _ _ _ | exact Kd.S_nil _ _ _ _ _, by first | exact Kd.R_nil _ _ _ _ _ | exact Kd.N_nil _ _ _ _ _ | exact Kd.V_nil _ _ _ _ _ | exact Kd.Q_nil _ _ _ _ _ | exact Kd.S_nil _ _ _ _ _, xq HB⟩
  rw [if_neg c4] at H
  have aJy : (!(bA6 == 0) || (!(bJ8 == 0))) = false := by simpa using c4
  clear c4
  replace H := Option.bind_eq_some_iff.mp H
  obtain ⟨⟨aWm, fZ7⟩, fZ8, H⟩ := H
  replace H : (if fZ7 = true then (if 0 ≤ aWm then (if aWm < (aD.length : Int) then ((objects_Clone.f ((aA aD aWm).f1.f0) ((aA aD aWm).f1.f1) ((aA aD aWm).f1.f2)).bind fun aRf => (some (aRf.1, aRf.2.1, aRf.2.2, 0, 0))) else (none)) else (none)) else (some (0, ([] : List Int), ([] : List Int), 6, (-1)))) = some (r1, r2, r3, r4, r5) := H
  have A24 := aZ fZ8
  clear fZ8
  by_cases c25 : fZ7 = true
  rotate_left
  · replace c25 := Bool.eq_false_iff.mpr c25
    subst c25
    have H1 : (some (0, ([] : List Int), ([] : List Int), 6, (-1))) = some (r1, r2, r3, r4, r5) := by rw [if_neg (show ¬ (false = true) by decide)] at H; exact H
    clear H
    have H := H1
    clear H1
    simp only [Option.some.injEq, Prod.mk.injEq] at H
    obtain ⟨rfl, rfl, rfl, rfl, rfl⟩ := H
    go_enter Try.func36, Try.ntmps36
    go_wp2_with (first | ((with_reducible refine gate_dst (N := 2) rfl ?_); refine box_event ?hg (N := 2) ?hd (cs := #[.slice bP aD.length bK]) (t := 24) ?hr ?_; (case hd => rfl); (case hg => rfl); (case hr => first | (go_simp; done) | (go_simp; rfl)); intro bYl hg w50 hbox hb; have oD := aZ (hbox); have fBi := xgh hg HB; have cTk := xgh hg HB; replace HB := xhl HB hb; clear hb hbox hg) | ((with_reducible refine gate_dst (N := 4) rfl ?_); refine box_event ?hg (N := 4) ?hd (cs := #[.int .i64 0, .slice none 0 0, .slice none 0 0]) (t := 44) ?hr ?_; (case hd => rfl); (case hg => rfl); (case hr => first | (go_simp; done) | (go_simp; rfl)); intro aEw hg w51 hbox hb; have oH := aZ (hbox); have fBj := xgh hg HB; have cTl := xgh hg HB; replace HB := xhl HB hb; have aOs := xnl hg oD; have aOt := xng hg oD; replace oD := xbb oD hb; clear hb hbox hg) | ((with_reducible refine gate_dst (N := 5) rfl ?_); refine box_event ?hg (N := 5) ?hd (cs := #[.int .i64 0, .int .i64 0]) (t := 28) ?hr ?_; (case hd => rfl); (case hg => rfl); (case hr => first | (go_simp; done) | (go_simp; rfl)); intro aOu hg w52 hbox hb; have tX := aZ (hbox); have fBk := xgh hg HB; have cTm := xgh hg HB; replace HB := xhl HB hb; have aTh := xnl hg oD; have aTi := xng hg oD; replace oD := xbb oD hb; have zA := xnl hg oH; have vV := xng hg oH; replace oH := xbb oH hb; clear hb hbox hg; have bNj := aOs.out; have bNk := aOt.out; have bCg := aTh.out; have bCh := aTi.out; have bPn : w52.cell? ⟨bYl, 0, none⟩ = some (.slice bP aD.length bK) := (blk_cell oD.out 0).trans rfl; have bPo := blk_frozen oD.out 0) | ((with_reducible refine gate_callee (f := 32) rfl ?_); refine goesL_ (some 10) rfl rfl Try.func32 (by kernel_rfl) rfl #[.agg #[.slice bP aD.length bK]] rfl xmp ?_; (with_reducible refine (objects_Validate.calls k _ _ aD bA6 bJ8 _ ?side1 ?side2 A3.out).mono ?_); (case side1 => exact xcb fI HB); (case side2 => exact lC.out); rintro e w56 ⟨rfl, hb⟩; refine ⟨_, rfl, ?_⟩; replace oD := xbb oD hb; replace oH := xbb oH hb; replace tX := xbb tX hb; replace HB := xhl HB hb; skip; (try clear hb); (try clear iV); (try clear hk); (try clear hi)) | ((with_reducible refine gate_dst (N := 6) rfl ?_); refine box_event ?hg (N := 6) ?hd (cs := #[.int .i64 0, .int .i64 0]) (t := 28) ?hr ?_; (case hd => rfl); (case hg => rfl); (case hr => first | (go_simp; done) | (go_simp; rfl)); intro aF5 hg w57 hbox hb; have aEc := aZ (hbox); have fBl := xgh hg HB; have cTn := xgh hg HB; replace HB := xhl HB hb; have bFa := xnl hg oD; have bFb := xng hg oD; replace oD := xbb oD hb; have aOv := xnl hg oH; have aAd := xng hg oH; replace oH := xbb oH hb; have aTj := xnl hg tX; have aEx := xng hg tX; replace tX := xbb tX hb; clear hb hbox hg; have cHr := bFb.out; have cHs := bFa.out; have cGy := aAd.out; have cGz := aOv.out; have bWt := aEx.out; have bWu := aTj.out; have bOx : w57.cell? ⟨aF5, 0, none⟩ = some (.int .i64 0) := (blk_cell aEc.out 0).trans rfl; have cJk : w57.cell? ⟨aF5, 1, none⟩ = some (.int .i64 0) := (blk_cell aEc.out 1).trans rfl; have bOy := blk_frozen aEc.out 0; have cJl := blk_frozen aEc.out 1; have eT9 : w57.cell? ⟨bYl, 0, none⟩ = some (.slice bP aD.length bK) := (blk_cell oD.out 0).trans rfl; have eUa := blk_frozen oD.out 0) | ((with_reducible refine gate_callee (f := 48) rfl ?_); refine goesL_ (some 19) rfl rfl Try.func48 (by kernel_rfl) rfl #[.agg #[.slice bP aD.length bK], .int .i64 a1] rfl xmp ?_; (with_reducible refine (objects_find.calls k _ _ aD a1 aWm false _ ?side1 ?side2 A24.out).mono ?_); (case side1 => exact Kd.C_below fI.out (by repeat (first | (with_reducible first | exact HB.out | apply lA | apply lN | apply lD | refine lS ?_ cTk.out | refine lS ?_ cTl.out | refine lS ?_ cTm.out | refine lS ?_ cTn.out) | exact HB.out))); (case side2 => exact lC.out); rintro e w63 ⟨rfl, hb⟩; refine ⟨_, rfl, ?_⟩; replace oD := xbb oD hb; replace oH := xbb oH hb; replace tX := xbb tX hb; replace aEc := aZ (blk_below (g := aF5) (o := .cells #[.int .i64 bA6, .int .i64 bJ8] 28 (0, 0)) (by (with_reducible repeat (first | refine bN ?_ _ | refine bD ?_ | refine bA ?_ _)); refine blk_put (cs := #[.int .i64 bA6, .int .i64 0]) ?_ 1 _ rfl; (with_reducible repeat (first | refine bN ?_ _ | refine bD ?_ | refine bA ?_ _)); refine blk_put (cs := #[.int .i64 0, .int .i64 0]) ?_ 0 _ rfl; (with_reducible repeat (first | refine bN ?_ _ | refine bD ?_ | refine bA ?_ _)); exact aEc.out) hb); replace HB := xhl HB hb; (try clear hb); (try clear iV); (try clear hk); (try clear hi); have bAu := zA.out; have bAv := vV.out; have bWr : w63.cell? ⟨aEw, 0, none⟩ = some (.int .i64 0) := (blk_cell oH.out 0).trans rfl; have dRd : w63.cell? ⟨aEw, 1, none⟩ = some (.slice none 0 0) := (blk_cell oH.out 1).trans rfl; have eRx : w63.cell? ⟨aEw, 2, none⟩ = some (.slice none 0 0) := (blk_cell oH.out 2).trans rfl; have bWs := blk_frozen oH.out 0; have dRe := blk_frozen oH.out 1; have eRy := blk_frozen oH.out 2; have bOz : w63.cell? ⟨aOu, 0, none⟩ = some (.int .i64 0) := (blk_cell tX.out 0).trans rfl; have bO0 : w63.cell? ⟨aOu, 1, none⟩ = some (.int .i64 0) := (blk_cell tX.out 1).trans rfl; have bO1 := blk_frozen tX.out 0; have bO2 := blk_frozen tX.out 1))
    refine bodyPost_ret (results_cc rfl _ _ aEw aOu 44 28 #[.int .i64 0, .slice none 0 0, .slice none 0 0] #[.int .i64 6, .int .i64 (-1)] (0, 0) (0, 0) _ _ rfl (by (with_reducible repeat (first | refine bN ?_ _ | refine bD ?_ | refine bA ?_ _)); refine blk_far ?_ zA.out _; (with_reducible repeat (first | refine bN ?_ _ | refine bD ?_ | refine bA ?_ _)); refine blk_far ?_ zA.out _; (with_reducible repeat (first | refine bN ?_ _ | refine bD ?_ | refine bA ?_ _)); refine blk_put (cs := #[.int .i64 0, .slice none 0 0, .slice none 0 0]) ?_ 2 _ rfl; (with_reducible repeat (first | refine bN ?_ _ | refine bD ?_ | refine bA ?_ _)); refine blk_put (cs := #[.int .i64 0, .slice none 0 0, .slice none 0 0]) ?_ 1 _ rfl; (with_reducible repeat (first | refine bN ?_ _ | refine bD ?_ | refine bA ?_ _)); refine blk_put (cs := #[.int .i64 0, .slice none 0 0, .slice none 0 0]) ?_ 0 _ rfl; (with_reducible repeat (first | refine bN ?_ _ | refine bD ?_ | refine bA ?_ _)); exact oH.out) Try.underlying44 rfl (by kernel_rfl) rfl (by (with_reducible repeat (first | refine bN ?_ _ | refine bD ?_ | refine bA ?_ _)); refine blk_put (cs := #[.int .i64 6, .int .i64 0]) ?_ 1 _ rfl; (with_reducible repeat (first | refine bN ?_ _ | refine bD ?_ | refine bA ?_ _)); refine blk_put (cs := #[.int .i64 0, .int .i64 0]) ?_ 0 _ rfl; (with_reducible repeat (first | refine bN ?_ _ | refine bD ?_ | refine bA ?_ _)); refine blk_far ?_ vV.out _; (with_reducible repeat (first | refine bN ?_ _ | refine bD ?_ | refine bA ?_ _)); refine blk_far ?_ vV.out _; (with_reducible repeat (first | refine bN ?_ _ | refine bD ?_ | refine bA ?_ _)); refine blk_far ?_ vV.out _; (with_reducible repeat (first | refine bN ?_ _ | refine bD ?_ | refine bA ?_ _)); exact tX.out) Try.underlying28 rfl (by kernel_rfl)) rfl ?_
    exact ⟨_, _, xre, by first | exact Kd.R_nil _ _ _ _ _ | exact Kd.N_nil _ _ _ _ _ | exact Kd.V_nil _ _ _ _ _ | exact Kd.Q_nil _ _ _ _ _ | exact Kd.S_nil _ _ _ _ _, by first | exact Kd.R_nil _ _ _ _ _ | exact Kd.N_nil _ _ _ _ _ | exact Kd.V_nil _ _ _ _ _ | exact Kd.Q_nil _ _ _ _ _ | exact Kd.S_nil _ _ _ _ _, xq HB⟩

  subst c25
  have H1 : (if 0 ≤ aWm then (if aWm < (aD.length : Int) then ((objects_Clone.f ((aA aD aWm).f1.f0) ((aA aD aWm).f1.f1) ((aA aD aWm).f1.f2)).bind fun aRf => (some (aRf.1, aRf.2.1, aRf.2.2, 0, 0))) else (none)) else (none)) = some (r1, r2, r3, r4, r5) := by rw [if_pos rfl] at H; exact H
  clear H
  have H := H1
  clear H1
  by_cases c26 : 0 ≤ aWm
  rotate_left
  · rw [if_neg c26] at H
    exact absurd H (by simp)
  rw [if_pos c26] at H
  have bSt : decide (0 ≤ aWm) = true := decide_eq_true c26
  clear c26
  by_cases c27 : aWm < (aD.length : Int)
  rotate_left
  · rw [if_neg c27] at H
    exact absurd H (by simp)
  rw [if_pos c27] at H
  have bCi : decide (aWm < (aD.length : Int)) = true := decide_eq_true c27
  clear c27
  replace H := Option.bind_eq_some_iff.mp H
  obtain ⟨⟨dL5, dZa, eE5⟩, eE6, H⟩ := H
  replace H : (some (dL5, dZa, eE5, 0, 0)) = some (r1, r2, r3, r4, r5) := H
  have A28 := aZ eE6
  clear eE6
  simp only [Option.some.injEq, Prod.mk.injEq] at H
  obtain ⟨rfl, rfl, rfl, rfl, rfl⟩ := H
  go_enter Try.func36, Try.ntmps36
  go_wp2_with (first | ((with_reducible refine gate_dst (N := 2) rfl ?_); refine box_event ?hg (N := 2) ?hd (cs := #[.slice bP aD.length bK]) (t := 24) ?hr ?_; (case hd => rfl); (case hg => rfl); (case hr => first | (go_simp; done) | (go_simp; rfl)); intro bYl hg w29 hbox hb; have oD := aZ (hbox); have fBi := xgh hg HB; have cTk := xgh hg HB; replace HB := xhl HB hb; clear hb hbox hg) | ((with_reducible refine gate_dst (N := 4) rfl ?_); refine box_event ?hg (N := 4) ?hd (cs := #[.int .i64 0, .slice none 0 0, .slice none 0 0]) (t := 44) ?hr ?_; (case hd => rfl); (case hg => rfl); (case hr => first | (go_simp; done) | (go_simp; rfl)); intro aEw hg w30 hbox hb; have oH := aZ (hbox); have fBj := xgh hg HB; have cTl := xgh hg HB; replace HB := xhl HB hb; have aOs := xnl hg oD; have aOt := xng hg oD; replace oD := xbb oD hb; clear hb hbox hg) | ((with_reducible refine gate_dst (N := 5) rfl ?_); refine box_event ?hg (N := 5) ?hd (cs := #[.int .i64 0, .int .i64 0]) (t := 28) ?hr ?_; (case hd => rfl); (case hg => rfl); (case hr => first | (go_simp; done) | (go_simp; rfl)); intro aOu hg w31 hbox hb; have tX := aZ (hbox); have fBk := xgh hg HB; have cTm := xgh hg HB; replace HB := xhl HB hb; have aTh := xnl hg oD; have aTi := xng hg oD; replace oD := xbb oD hb; have zA := xnl hg oH; have vV := xng hg oH; replace oH := xbb oH hb; clear hb hbox hg; have dEl := aOs.out; have dEm := aOt.out; have cM8 := aTh.out; have cM9 := aTi.out; have cKk : w31.cell? ⟨bYl, 0, none⟩ = some (.slice bP aD.length bK) := (blk_cell oD.out 0).trans rfl; have cKl := blk_frozen oD.out 0) | ((with_reducible refine gate_callee (f := 32) rfl ?_); refine goesL_ (some 10) rfl rfl Try.func32 (by kernel_rfl) rfl #[.agg #[.slice bP aD.length bK]] rfl xmp ?_; (with_reducible refine (objects_Validate.calls k _ _ aD bA6 bJ8 _ ?side1 ?side2 A3.out).mono ?_); (case side1 => exact xcb fI HB); (case side2 => exact lC.out); rintro e w35 ⟨rfl, hb⟩; refine ⟨_, rfl, ?_⟩; replace oD := xbb oD hb; replace oH := xbb oH hb; replace tX := xbb tX hb; replace HB := xhl HB hb; skip; (try clear hb); (try clear iV); (try clear hk); (try clear hi)) | ((with_reducible refine gate_dst (N := 6) rfl ?_); refine box_event ?hg (N := 6) ?hd (cs := #[.int .i64 0, .int .i64 0]) (t := 28) ?hr ?_; (case hd => rfl); (case hg => rfl); (case hr => first | (go_simp; done) | (go_simp; rfl)); intro aF5 hg w36 hbox hb; have aEc := aZ (hbox); have fBl := xgh hg HB; have cTn := xgh hg HB; replace HB := xhl HB hb; have bFa := xnl hg oD; have bFb := xng hg oD; replace oD := xbb oD hb; have aOv := xnl hg oH; have aAd := xng hg oH; replace oH := xbb oH hb; have aTj := xnl hg tX; have aEx := xng hg tX; replace tX := xbb tX hb; clear hb hbox hg; have bV1 := bFb.out; have bV2 := bFa.out; have dQf := aAd.out; have dQg := aOv.out; have cSr := aEx.out; have cSs := aTj.out; have cWo : w36.cell? ⟨aF5, 0, none⟩ = some (.int .i64 0) := (blk_cell aEc.out 0).trans rfl; have eUb : w36.cell? ⟨aF5, 1, none⟩ = some (.int .i64 0) := (blk_cell aEc.out 1).trans rfl; have cWp := blk_frozen aEc.out 0; have eUc := blk_frozen aEc.out 1; have cKd : w36.cell? ⟨bYl, 0, none⟩ = some (.slice bP aD.length bK) := (blk_cell oD.out 0).trans rfl; have cKe := blk_frozen oD.out 0) | ((with_reducible refine gate_callee (f := 48) rfl ?_); refine goesL_ (some 19) rfl rfl Try.func48 (by kernel_rfl) rfl #[.agg #[.slice bP aD.length bK], .int .i64 a1] rfl xmp ?_; (with_reducible refine (objects_find.calls k _ _ aD a1 aWm true _ ?side1 ?side2 A24.out).mono ?_); (case side1 => exact Kd.C_below fI.out (by repeat (first | (with_reducible first | exact HB.out | apply lA | apply lN | apply lD | refine lS ?_ cTk.out | refine lS ?_ cTl.out | refine lS ?_ cTm.out | refine lS ?_ cTn.out) | exact HB.out))); (case side2 => exact lC.out); rintro e w42 ⟨rfl, hb⟩; refine ⟨_, rfl, ?_⟩; replace oD := xbb oD hb; replace oH := xbb oH hb; replace tX := xbb tX hb; replace aEc := aZ (blk_below (g := aF5) (o := .cells #[.int .i64 bA6, .int .i64 bJ8] 28 (0, 0)) (by (with_reducible repeat (first | refine bN ?_ _ | refine bD ?_ | refine bA ?_ _)); refine blk_put (cs := #[.int .i64 bA6, .int .i64 0]) ?_ 1 _ rfl; (with_reducible repeat (first | refine bN ?_ _ | refine bD ?_ | refine bA ?_ _)); refine blk_put (cs := #[.int .i64 0, .int .i64 0]) ?_ 0 _ rfl; (with_reducible repeat (first | refine bN ?_ _ | refine bD ?_ | refine bA ?_ _)); exact aEc.out) hb); replace HB := xhl HB hb; (try clear hb); (try clear iV); (try clear hk); (try clear hi); have cKb : w42.cell? ⟨bYl, 0, none⟩ = some (.slice bP aD.length bK) := (blk_cell oD.out 0).trans rfl; have cKc := blk_frozen oD.out 0; have fIh : 0 ≤ (aWm : Int) := of_decide_eq_true xas; have fIi : aWm < (aD.length : Int) := of_decide_eq_true xas; obtain ⟨iCm, fIj, fIk, fIl, fIm, hKq, dTs, dTt, dTu, dTv, dTw, dTx, dTy, dTz⟩ := gY fI.out aWm fIh fIi; cases hKq; replace dTs := xcl HB dTs; replace dTt := xcl HB dTt; replace dTu := xcl HB dTu; replace dTv := xcl HB dTv; have eUd := aZ dTx; have eUe := aZ dTw; clear dTx dTw; have eUf := aZ dTz; have eUg := aZ dTy; clear dTz dTy; replace fIh := eq_true fIh; replace fIi := eq_true fIi) | ((with_reducible refine gate_callee (f := 51) rfl ?_); refine goesL_ (some 32) rfl rfl Try.func51 (by kernel_rfl) rfl #[.agg #[.int .i64 ((aA aD aWm).f1.f0), .slice fIj ((aA aD aWm).f1.f1).length fIk, .slice fIl ((aA aD aWm).f1.f2).length fIm]] rfl xmp ?_; (with_reducible refine (objects_Clone.calls ((aA aD aWm).f1.f0) _ _ ((aA aD aWm).f1.f1) _ _ ((aA aD aWm).f1.f2) dL5 dZa eE5 _ ?side1 ?side2 ?side3 ?side4 A28.out).mono ?_); (case side1 => exact xcb eUd HB); (case side2 => exact eUe.out); (case side3 => exact xcb eUf HB); (case side4 => exact eUg.out); rintro e w44 ⟨iIj, iIk, rfl, gZ, ho1, hb⟩; refine ⟨_, rfl, ?_⟩; have fBn := aZ (Kd.R_lower gZ (lZ (by repeat (first | (with_reducible first | exact HB.out | apply lA | apply lN | apply lD | refine lS ?_ cTk.out | refine lS ?_ cTl.out | refine lS ?_ cTm.out | refine lS ?_ cTn.out) | exact HB.out)))); have fBo := aZ (Kd.R_lower ho1 (lZ (by repeat (first | (with_reducible first | exact HB.out | apply lA | apply lN | apply lD | refine lS ?_ cTk.out | refine lS ?_ cTl.out | refine lS ?_ cTm.out | refine lS ?_ cTn.out) | exact HB.out)))); replace oD := xbb oD hb; replace oH := xbb oH hb; replace tX := xbb tX hb; replace aEc := xbb aEc hb; replace HB := xhl HB hb; (try clear hb); (try clear iV); (try clear hk); (try clear hi); (try clear gZ); (try clear ho1); have bLh := zA.out; have bLi := vV.out; have aVl : w44.cell? ⟨aEw, 0, none⟩ = some (.int .i64 0) := (blk_cell oH.out 0).trans rfl; have bVg : w44.cell? ⟨aEw, 1, none⟩ = some (.slice none 0 0) := (blk_cell oH.out 1).trans rfl; have cYs : w44.cell? ⟨aEw, 2, none⟩ = some (.slice none 0 0) := (blk_cell oH.out 2).trans rfl; have aVm := blk_frozen oH.out 0; have bVh := blk_frozen oH.out 1; have cYt := blk_frozen oH.out 2; obtain ⟨eUh, eUi, hKu⟩ := Kd.R_slice fBn.out; subst hKu; obtain ⟨eUj, eUk, fIn⟩ := Kd.R_slice fBo.out; subst fIn; have bPr : w44.cell? ⟨aOu, 0, none⟩ = some (.int .i64 0) := (blk_cell tX.out 0).trans rfl; have cV6 : w44.cell? ⟨aOu, 1, none⟩ = some (.int .i64 0) := (blk_cell tX.out 1).trans rfl; have bPs := blk_frozen tX.out 0; have cV7 := blk_frozen tX.out 1))
  refine bodyPost_ret (results_cc rfl _ _ aEw aOu 44 28 #[.int .i64 dL5, .slice eUh dZa.length eUi, .slice eUj eE5.length eUk] #[.int .i64 0, .int .i64 0] (0, 0) (0, 0) _ _ rfl (by (with_reducible repeat (first | refine bN ?_ _ | refine bD ?_ | refine bA ?_ _)); refine blk_far ?_ zA.out _; (with_reducible repeat (first | refine bN ?_ _ | refine bD ?_ | refine bA ?_ _)); refine blk_far ?_ zA.out _; (with_reducible repeat (first | refine bN ?_ _ | refine bD ?_ | refine bA ?_ _)); refine blk_put (cs := #[.int .i64 dL5, .slice eUh dZa.length eUi, .slice none 0 0]) ?_ 2 _ rfl; (with_reducible repeat (first | refine bN ?_ _ | refine bD ?_ | refine bA ?_ _)); refine blk_put (cs := #[.int .i64 dL5, .slice none 0 0, .slice none 0 0]) ?_ 1 _ rfl; (with_reducible repeat (first | refine bN ?_ _ | refine bD ?_ | refine bA ?_ _)); refine blk_put (cs := #[.int .i64 0, .slice none 0 0, .slice none 0 0]) ?_ 0 _ rfl; (with_reducible repeat (first | refine bN ?_ _ | refine bD ?_ | refine bA ?_ _)); exact oH.out) Try.underlying44 rfl (by kernel_rfl) rfl (by (with_reducible repeat (first | refine bN ?_ _ | refine bD ?_ | refine bA ?_ _)); refine blk_put (cs := #[.int .i64 0, .int .i64 0]) ?_ 1 _ rfl; (with_reducible repeat (first | refine bN ?_ _ | refine bD ?_ | refine bA ?_ _)); refine blk_put (cs := #[.int .i64 0, .int .i64 0]) ?_ 0 _ rfl; (with_reducible repeat (first | refine bN ?_ _ | refine bD ?_ | refine bA ?_ _)); refine blk_far ?_ vV.out _; (with_reducible repeat (first | refine bN ?_ _ | refine bD ?_ | refine bA ?_ _)); refine blk_far ?_ vV.out _; (with_reducible repeat (first | refine bN ?_ _ | refine bD ?_ | refine bA ?_ _)); refine blk_far ?_ vV.out _; (with_reducible repeat (first | refine bN ?_ _ | refine bD ?_ | refine bA ?_ _)); exact tX.out) Try.underlying28 rfl (by kernel_rfl)) rfl ?_
  exact ⟨_, _, xre, by (with_reducible repeat (first | apply Kd.rA | apply Kd.rN | apply Kd.rD)); exact Kd.R_mono (Kd.R_far (p := ⟨aOu, 1, none⟩) (Kd.R_far (p := ⟨aOu, 0, none⟩) (Kd.R_far (p := ⟨aEw, 2, none⟩) (Kd.R_far (p := ⟨aEw, 1, none⟩) (Kd.R_far (p := ⟨aEw, 0, none⟩) (Kd.R_types (Kd.R_types fBn.out oH.out (by decide)) tX.out (by decide)) (fun _ hk => hk.1.2) (.int .i64 dL5)) (fun _ hk => hk.1.2) (.slice eUh dZa.length eUi)) (fun _ hk => hk.1.2) (.slice eUj eE5.length eUk)) (fun _ hk => hk.2) (.int .i64 0)) (fun _ hk => hk.2) (.int .i64 0)) (fun _ hk => trivial), by (with_reducible repeat (first | apply Kd.rA | apply Kd.rN | apply Kd.rD)); exact Kd.R_mono (Kd.R_far (p := ⟨aOu, 1, none⟩) (Kd.R_far (p := ⟨aOu, 0, none⟩) (Kd.R_far (p := ⟨aEw, 2, none⟩) (Kd.R_far (p := ⟨aEw, 1, none⟩) (Kd.R_far (p := ⟨aEw, 0, none⟩) (Kd.R_types (Kd.R_types fBo.out oH.out (by decide)) tX.out (by decide)) (fun _ hk => hk.1.2) (.int .i64 dL5)) (fun _ hk => hk.1.2) (.slice eUh dZa.length eUi)) (fun _ hk => hk.1.2) (.slice eUj eE5.length eUk)) (fun _ hk => hk.2) (.int .i64 0)) (fun _ hk => hk.2) (.int .i64 0)) (fun _ hk => trivial), xq HB⟩
end

end Go.Proofs.Ytnmkmamobhkcbaa.P

/- Has and Get: what the program's functions come to. -/
namespace Go.Proofs.Ytnmkmamobhkcbaa.Obj
open Go.RowKit Go.Proofs.YtnmkmamobhkcbaaW.PrintWords Go.Proofs.YtnmkmamobhkcbaaW.PrintEv Go.Proofs.Ytnmkmamobhkcbaa.P Go.Proofs.Ytnmkmamobhkcbaa.Dig
open Go.Proofs.YtnmkmamobhkcbaaW.PrintMore
set_option linter.unusedVariables false
section
variable {l : List SO} {o : O}
theorem has_ev (hp : ∀ x ∈ l, fB.ok x) {d : Int} (hd : -9223372036854775808 ≤ d ∧ d ≤ 9223372036854775807) :
    ((sf l).1 ≠ 0 ∧ Ev (fun k => objects_Has.f k l d) (false, sf l) ∧ Ev (fun k => objects_Get.f k l d) (0, [], [], sf l)) ∨
    (sf l = (0, 0) ∧ Store l ∧ ∃ i b, Found l d i b ∧ Ev (fun k => objects_Has.f k l d) (b, 0, 0) ∧ Ev (fun k => objects_Get.f k l d) (if b = true then ((at_ l (i : Int)).f1.f0, (at_ l (i : Int)).f1.f1, (at_ l (i : Int)).f1.f2, 0, 0) else (0, [], [], 6, -1))) := by
  by_cases h : (sf l).1 ≠ 0
  · have : ((sf l).1 == 0) = false := beq_eq_false_iff_ne.2 h
    refine .inl ⟨h, ?_, ?_⟩
    · unfold objects_Has.f
      exact ev_bind (val_ev hp) (ev_pos (by simp [this]) (ev_now _))
    · unfold objects_Get.f
      exact ev_bind (val_ev hp) (ev_pos (by simp [this]) (ev_now _))
  · obtain ⟨e, hs⟩ := sf_zero (Decidable.not_not.1 h)
    obtain ⟨i, b, hfe, hf⟩ := find_ev hs hd
    have hl := hs.len
    have hv := val_ev hp
    rw [e] at hv
    refine .inr ⟨e, hs, i, b, hf, ?_, ?_⟩
    · unfold objects_Has.f
      exact ev_bind hv (ev_neg (by decide) (ev_bind hfe (ev_now _)))
    · unfold objects_Get.f
      refine ev_bind hv (ev_neg (by decide) (ev_bind hfe ?_))
      cases b with
      | true =>
        have hy := (hf.yes rfl).1
        have g := (hs.good (i : Int) (by omega) (by omega)).1
        have g1 := g.nl
        have g2 := g.nd
        show Ev _ ((at_ l (i : Int)).f1.f0, (at_ l (i : Int)).f1.f1, (at_ l (i : Int)).f1.f2, 0, 0)
        refine ev_pos rfl (ev_pos (by omega) (ev_pos (by omega) (ev_const (clone_eq (by show (at_ l (i : Int)).f1.f1.length ≤ _; omega) (by show (at_ l (i : Int)).f1.f2.length ≤ _; omega)) ?_)))
        exact ev_now _
      | false =>
        exact ev_neg Bool.false_ne_true (ev_now _)
end
end Go.Proofs.Ytnmkmamobhkcbaa.Obj
