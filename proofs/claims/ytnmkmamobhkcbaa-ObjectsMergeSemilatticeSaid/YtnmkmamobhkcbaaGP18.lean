/- Texts of the proofs of 10 statements: what the printed functions come to, plain laws, rows (no condition beyond the statements' own). -/
import Derived.Test.YtnmkmamobhkcbaaGP0
import Derived.Test.YtnmkmamobhkcbaaGP10
namespace Go.Proofs.Ytnmkmamobhkcbaa.P
open Go.RowKit Go.Proofs.YtnmkmamobhkcbaaW.PrintWords Go.Proofs.YtnmkmamobhkcbaaW.PrintLast Go.Proofs.YtnmkmamobhkcbaaW.PrintMore
attribute [local go_sem] max2_int min2_int max_two min_two max_three min_three max_four min_four   -- for this text's walks alone
set_option linter.unusedVariables false
set_option linter.unusedSimpArgs false
mutual
def aK.j0 : Nat → Bool → Int → List Int → List Int → Option (Int × Int)
  | 0, _, _, _, _ => none
  | k + 1, x27, cVz, bV3, cV0 => if x27 = true then ((aT.f 5 0).bind fun dD0 => (some (dD0.1, dD0.2))) else (aK.l0 k 0 cVz bV3 cV0)
def aK.l0 : Nat → Int → Int → List Int → List Int → Option (Int × Int)
  | 0, _, _, _, _ => none
  | k + 1, x3, cVz, bV3, cV0 => if x3 < (bV3.length : Int) then (if 0 ≤ x3 then ((fE.f (rd bV3 x3) 0 2305843009213693950).bind fun eQi => (if eQi = true then (aK.l0 k (wrap64 (x3 + 1)) cVz bV3 cV0) else ((aT.f 3 x3).bind fun cG7 => (some (cG7.1, cG7.2))))) else (none)) else (some (0, 0))
end
def aK.f (k : Nat) (dP : Int) (dA : List Int) (dZ : List Int) : Option (Int × Int) := (fE.f dP 1 3).bind fun dYv => (if dYv = true then (if (dA.length : Int) > 30 then ((aT.f 2 0).bind fun bMr => (some (bMr.1, bMr.2))) else (if (dZ.length : Int) > 1000 then ((aT.f 10 0).bind fun bMs => (some (bMs.1, bMs.2))) else (if dP = 1 then (aK.j0 k ((dA.length : Int) != 0) dP dA dZ) else (aK.j0 k false dP dA dZ)))) else ((aT.f 4 0).bind fun bMt => (some (bMt.1, bMt.2))))
theorem aK.mono_l : ∀ k, (∀ y0 y1 y2 y3, LeO (aK.j0 k y0 y1 y2 y3) (aK.j0 (k + 1) y0 y1 y2 y3)) ∧ (∀ y0 y1 y2 y3, LeO (aK.l0 k y0 y1 y2 y3) (aK.l0 (k + 1) y0 y1 y2 y3))
  | 0 => ⟨fun _ _ _ _ r h => by simp [aK.j0] at h, fun _ _ _ _ r h => by simp [aK.l0] at h⟩
  | k + 1 => by
    obtain ⟨mU, ih1⟩ := aK.mono_l k
    refine ⟨?_, ?_⟩
    all_goals intros; first | unfold aK.j0 | unfold aK.l0
    all_goals repeat' first | (with_reducible first | exact mU _ _ _ _ | exact ih1 _ _ _ _ | exact LeO.refl _ | exact LeO.none _ | refine LeO.ite ?_ ?_ | refine LeO.bind ?_ (fun _ => ?_)) | exact mU _ _ _ _ | exact ih1 _ _ _ _ | exact LeO.none _ | refine LeO.ite ?_ ?_ | refine LeO.bind ?_ (fun _ => ?_)
theorem aK.mono : ∀ a0 a1 a2 k, LeO (aK.f k a0 a1 a2) (aK.f (k + 1) a0 a1 a2) := by
  intro a0 a1 a2 k
  obtain ⟨mU, ih1⟩ := aK.mono_l k
  unfold aK.f
  repeat' first | (with_reducible first | exact mU _ _ _ _ | exact ih1 _ _ _ _ | exact LeO.refl _ | exact LeO.none _ | refine LeO.ite ?_ ?_ | refine LeO.bind ?_ (fun _ => ?_)) | exact mU _ _ _ _ | exact ih1 _ _ _ _ | exact LeO.none _ | refine LeO.ite ?_ ?_ | refine LeO.bind ?_ (fun _ => ?_)
set_option maxHeartbeats 8000000 in
set_option maxRecDepth 100000 in
theorem aK.calls (k : Nat) (dP : Int) (nK : Option Addr) (mY : Nat) (dA : List Int) (mE : Option Addr) (mF : Nat) (dZ : List Int) (r1 : Int) (r2 : Int) (w : World) (aFz : Kd.C (Kd.int .i64) w nK dA.length dA) (aFy : dA.length ≤ mY) (aD6 : Kd.C (Kd.int .u8) w mE dZ.length dZ) (aD5 : dZ.length ≤ mF) (h : aK.f k dP dA dZ = some (r1, r2)) :
  Calls Try.prog 30 #[.agg #[.int .i64 dP, .slice nK dA.length mY, .slice mE dZ.length mF]] w fun e w' => e = .returned (.agg #[.int .i64 r1, .int .i64 r2]) ∧ Below w.heap.size w w' := by
  have aQf := Try.underlying44
  have aQg := Try.underlying28
  have aCl := aZ aFz
  have aIz := aZ aFy
  clear aFz aFy
  have aF0 := aZ aD6
  have aNm := aZ aD5
  clear aD6 aD5
  have HB := aZ (Below.refl w.heap.size w)
  have H : ((fE.f dP 1 3).bind fun dYv => (if dYv = true then (if (dA.length : Int) > 30 then ((aT.f 2 0).bind fun bMr => (some (bMr.1, bMr.2))) else (if (dZ.length : Int) > 1000 then ((aT.f 10 0).bind fun bMs => (some (bMs.1, bMs.2))) else (if dP = 1 then (aK.j0 k ((dA.length : Int) != 0) dP dA dZ) else (aK.j0 k false dP dA dZ)))) else ((aT.f 4 0).bind fun bMt => (some (bMt.1, bMt.2))))) = some (r1, r2) := h
  clear h
  replace H := Option.bind_eq_some_iff.mp H
  obtain ⟨dYv, A20, H⟩ := H
  replace H : (if dYv = true then (if (dA.length : Int) > 30 then ((aT.f 2 0).bind fun bMr => (some (bMr.1, bMr.2))) else (if (dZ.length : Int) > 1000 then ((aT.f 10 0).bind fun bMs => (some (bMs.1, bMs.2))) else (if dP = 1 then (aK.j0 k ((dA.length : Int) != 0) dP dA dZ) else (aK.j0 k false dP dA dZ)))) else ((aT.f 4 0).bind fun bMt => (some (bMt.1, bMt.2)))) = some (r1, r2) := H
  have A2 := aZ A20
  clear A20
  by_cases c3 : dYv = true
  rotate_left
  · replace c3 := Bool.eq_false_iff.mpr c3
    subst c3
    have H1 : ((aT.f 4 0).bind fun bMt => (some (bMt.1, bMt.2))) = some (r1, r2) := by rw [if_neg (show ¬ (false = true) by decide)] at H; exact H
    clear H
    have H := H1
    clear H1
    replace H := Option.bind_eq_some_iff.mp H
    obtain ⟨⟨eQj, fFu⟩, fWo, H⟩ := H
    replace H : (some (eQj, fFu)) = some (r1, r2) := H
    have A51 := aZ fWo
    clear fWo
    simp only [Option.some.injEq, Prod.mk.injEq] at H
    obtain ⟨rfl, rfl⟩ := H
    go_enter Try.func30, Try.ntmps30
    go_wp2_with (first | ((with_reducible refine gate_dst (N := 1) rfl ?_); (try (refine gate_guard (by rfl) ?_; dsimp only)); refine box_event ?hg (N := 1) ?hd (cs := #[.int .i64 dP, .slice nK dA.length mY, .slice mE dZ.length mF]) (t := 44) ?hr ?_; (case hd => rfl); (case hg => rfl); (case hr => first | (go_simp; done) | (go_simp; rfl)); intro wF hg w52 hbox hb; have iX := aZ (hbox); have eB9 := xgh hg HB; have cMu := xgh hg HB; replace HB := xhl HB hb; clear hb hbox hg) | ((with_reducible refine gate_dst (N := 2) rfl ?_); (try (refine gate_guard (by rfl) ?_; dsimp only)); refine box_event ?hg (N := 2) ?hd (cs := #[.int .i64 0, .int .i64 0]) (t := 28) ?hr ?_; (case hd => rfl); (case hg => rfl); (case hr => first | (go_simp; done) | (go_simp; rfl)); intro aEp hg w53 hbox hb; have qR := aZ (hbox); have eCa := xgh hg HB; have cMv := xgh hg HB; replace HB := xhl HB hb; have aBl := xnl hg iX; have aBm := xng hg iX; replace iX := xbb iX hb; clear hb hbox hg; have bCg := aBl.out; have bCh := aBm.out; have bPn : w53.cell? ⟨wF, 0, none⟩ = some (.int .i64 dP) := (blk_cell iX.out 0).trans rfl; have cKf : w53.cell? ⟨wF, 1, none⟩ = some (.slice nK dA.length mY) := (blk_cell iX.out 1).trans rfl; have dPs : w53.cell? ⟨wF, 2, none⟩ = some (.slice mE dZ.length mF) := (blk_cell iX.out 2).trans rfl; have bPo := blk_frozen iX.out 0; have cKg := blk_frozen iX.out 1; have dPt := blk_frozen iX.out 2) | ((with_reducible refine gate_callee (f := 19) rfl ?_); refine goesL_ (some 6) rfl rfl Try.func19 (by kernel_rfl) rfl #[.int .i64 dP, .int .i64 1, .int .i64 3] rfl xmp ?_; (with_reducible refine (fE.calls dP 1 3 false _ A2.out).mono ?_); rintro e w' ⟨rfl, ⟨nd, rfl⟩⟩; refine ⟨_, rfl, ?_⟩; (try (rw [drewN_self w53]; generalize hq_ : World.drewN w53 _ = w53; replace iX : Aside0 (w53.heap[wF]? = some (.cells #[.int .i64 dP, .slice nK dA.length mY, .slice mE dZ.length mF] 44 (0, 0))) := ⟨by rw [← hq_]; exact (xkq iX)⟩; replace qR : Aside0 (w53.heap[aEp]? = some (.cells #[.int .i64 0, .int .i64 0] 28 (0, 0))) := ⟨by rw [← hq_]; exact (xkq qR)⟩; replace HB : Aside0 (Below w.heap.size w w53) := ⟨by rw [← hq_]; exact (by repeat (first | (with_reducible first | exact HB.out | apply lA | apply lN | apply lD | refine lS ?_ cMu.out | refine lS ?_ cMv.out) | exact HB.out))⟩; clear hq_))) | ((with_reducible refine gate_callee (f := 18) rfl ?_); refine goesL_ (some 8) rfl rfl Try.func18 (by kernel_rfl) rfl #[.int .i64 4, .int .i64 0] rfl xmp ?_; (with_reducible refine (aT.calls 4 0 eQj fFu _ A51.out).mono ?_); rintro e w56 ⟨rfl, hb⟩; refine ⟨_, rfl, ?_⟩; replace iX := xbb iX hb; replace qR := xbb qR hb; replace HB := xhl HB hb; skip; (try clear hb); (try clear iV); (try clear hk); (try clear hi); have bV4 : w56.cell? ⟨aEp, 0, none⟩ = some (.int .i64 0) := (blk_cell qR.out 0).trans rfl; have dPu : w56.cell? ⟨aEp, 1, none⟩ = some (.int .i64 0) := (blk_cell qR.out 1).trans rfl; have bV5 := blk_frozen qR.out 0; have dPv := blk_frozen qR.out 1))
    refine bodyPost_ret (results_cell_row rfl _ _ aEp 28 #[.int .i64 eQj, .int .i64 fFu] (0, 0) _ rfl (by (with_reducible repeat (first | refine bN ?_ _ | refine bD ?_ | refine bA ?_ _)); refine blk_put (cs := #[.int .i64 eQj, .int .i64 0]) ?_ 1 _ rfl; (with_reducible repeat (first | refine bN ?_ _ | refine bD ?_ | refine bA ?_ _)); refine blk_put (cs := #[.int .i64 0, .int .i64 0]) ?_ 0 _ rfl; (with_reducible repeat (first | refine bN ?_ _ | refine bD ?_ | refine bA ?_ _)); exact qR.out) Try.underlying28 rfl (by kernel_rfl)) rfl ?_
    exact ⟨xre, xq HB⟩

  subst c3
  have H1 : (if (dA.length : Int) > 30 then ((aT.f 2 0).bind fun bMr => (some (bMr.1, bMr.2))) else (if (dZ.length : Int) > 1000 then ((aT.f 10 0).bind fun bMs => (some (bMs.1, bMs.2))) else (if dP = 1 then (aK.j0 k ((dA.length : Int) != 0) dP dA dZ) else (aK.j0 k false dP dA dZ)))) = some (r1, r2) := by rw [if_pos rfl] at H; exact H
  clear H
  have H := H1
  clear H1
  by_cases c4 : (dA.length : Int) > 30
  · rw [if_pos c4] at H
    have aJy : decide (30 < (dA.length : Int)) = true := decide_eq_true c4
    have cMl : decide (30 < dA.length) = true := decide_eq_true (by omega)
    clear c4
    replace H := Option.bind_eq_some_iff.mp H
    obtain ⟨⟨eQk, fFv⟩, A50, H⟩ := H
    replace H : (some (eQk, fFv)) = some (r1, r2) := H
    have A5 := aZ A50
    clear A50
    simp only [Option.some.injEq, Prod.mk.injEq] at H
    obtain ⟨rfl, rfl⟩ := H
    go_enter Try.func30, Try.ntmps30
    go_wp2_with (first | ((with_reducible refine gate_dst (N := 1) rfl ?_); (try (refine gate_guard (by rfl) ?_; dsimp only)); refine box_event ?hg (N := 1) ?hd (cs := #[.int .i64 dP, .slice nK dA.length mY, .slice mE dZ.length mF]) (t := 44) ?hr ?_; (case hd => rfl); (case hg => rfl); (case hr => first | (go_simp; done) | (go_simp; rfl)); intro wF hg w6 hbox hb; have iX := aZ (hbox); have eB9 := xgh hg HB; have cMu := xgh hg HB; replace HB := xhl HB hb; clear hb hbox hg) | ((with_reducible refine gate_dst (N := 2) rfl ?_); (try (refine gate_guard (by rfl) ?_; dsimp only)); refine box_event ?hg (N := 2) ?hd (cs := #[.int .i64 0, .int .i64 0]) (t := 28) ?hr ?_; (case hd => rfl); (case hg => rfl); (case hr => first | (go_simp; done) | (go_simp; rfl)); intro aEp hg w7 hbox hb; have qR := aZ (hbox); have eCa := xgh hg HB; have cMv := xgh hg HB; replace HB := xhl HB hb; have aBl := xnl hg iX; have aBm := xng hg iX; replace iX := xbb iX hb; clear hb hbox hg; have dYw := aBl.out; have dYx := aBm.out; have cCg : w7.cell? ⟨wF, 0, none⟩ = some (.int .i64 dP) := (blk_cell iX.out 0).trans rfl; have dJs : w7.cell? ⟨wF, 1, none⟩ = some (.slice nK dA.length mY) := (blk_cell iX.out 1).trans rfl; have fFw : w7.cell? ⟨wF, 2, none⟩ = some (.slice mE dZ.length mF) := (blk_cell iX.out 2).trans rfl; have cCh := blk_frozen iX.out 0; have dJt := blk_frozen iX.out 1; have fFx := blk_frozen iX.out 2) | ((with_reducible refine gate_callee (f := 19) rfl ?_); refine goesL_ (some 6) rfl rfl Try.func19 (by kernel_rfl) rfl #[.int .i64 dP, .int .i64 1, .int .i64 3] rfl xmp ?_; (with_reducible refine (fE.calls dP 1 3 true _ A2.out).mono ?_); rintro e w' ⟨rfl, ⟨nd, rfl⟩⟩; refine ⟨_, rfl, ?_⟩; (try (rw [drewN_self w7]; generalize hq_ : World.drewN w7 _ = w7; replace iX : Aside0 (w7.heap[wF]? = some (.cells #[.int .i64 dP, .slice nK dA.length mY, .slice mE dZ.length mF] 44 (0, 0))) := ⟨by rw [← hq_]; exact (xkq iX)⟩; replace qR : Aside0 (w7.heap[aEp]? = some (.cells #[.int .i64 0, .int .i64 0] 28 (0, 0))) := ⟨by rw [← hq_]; exact (xkq qR)⟩; replace HB : Aside0 (Below w.heap.size w w7) := ⟨by rw [← hq_]; exact (by repeat (first | (with_reducible first | exact HB.out | apply lA | apply lN | apply lD | refine lS ?_ cMu.out | refine lS ?_ cMv.out) | exact HB.out))⟩; clear hq_)); have aA3 : w7.cell? ⟨wF, 0, none⟩ = some (.int .i64 dP) := (blk_cell iX.out 0).trans rfl; have bIv : w7.cell? ⟨wF, 1, none⟩ = some (.slice nK dA.length mY) := (blk_cell iX.out 1).trans rfl; have bPl : w7.cell? ⟨wF, 2, none⟩ = some (.slice mE dZ.length mF) := (blk_cell iX.out 2).trans rfl; have aA4 := blk_frozen iX.out 0; have bIw := blk_frozen iX.out 1; have bPm := blk_frozen iX.out 2) | ((with_reducible refine gate_callee (f := 18) rfl ?_); refine goesL_ (some 13) rfl rfl Try.func18 (by kernel_rfl) rfl #[.int .i64 2, .int .i64 0] rfl xmp ?_; (with_reducible refine (aT.calls 2 0 eQk fFv _ A5.out).mono ?_); rintro e w11 ⟨rfl, hb⟩; refine ⟨_, rfl, ?_⟩; replace iX := xbb iX hb; replace qR := xbb qR hb; replace HB := xhl HB hb; skip; (try clear hb); (try clear iV); (try clear hk); (try clear hi); have aHh : w11.cell? ⟨aEp, 0, none⟩ = some (.int .i64 0) := (blk_cell qR.out 0).trans rfl; have cVk : w11.cell? ⟨aEp, 1, none⟩ = some (.int .i64 0) := (blk_cell qR.out 1).trans rfl; have aHi := blk_frozen qR.out 0; have cVl := blk_frozen qR.out 1))
    refine bodyPost_ret (results_cell_row rfl _ _ aEp 28 #[.int .i64 eQk, .int .i64 fFv] (0, 0) _ rfl (by (with_reducible repeat (first | refine bN ?_ _ | refine bD ?_ | refine bA ?_ _)); refine blk_put (cs := #[.int .i64 eQk, .int .i64 0]) ?_ 1 _ rfl; (with_reducible repeat (first | refine bN ?_ _ | refine bD ?_ | refine bA ?_ _)); refine blk_put (cs := #[.int .i64 0, .int .i64 0]) ?_ 0 _ rfl; (with_reducible repeat (first | refine bN ?_ _ | refine bD ?_ | refine bA ?_ _)); exact qR.out) Try.underlying28 rfl (by kernel_rfl)) rfl ?_
    exact ⟨xre, xq HB⟩
  rw [if_neg c4] at H
  have aJy : decide (30 < (dA.length : Int)) = false := decide_eq_false c4
  have cMl : decide (30 < dA.length) = false := decide_eq_false (by omega)
  clear c4
  by_cases c13 : (dZ.length : Int) > 1000
  · rw [if_pos c13] at H
    have bMu : decide (1000 < (dZ.length : Int)) = true := decide_eq_true c13
    have dPx : decide (1000 < dZ.length) = true := decide_eq_true (by omega)
    clear c13
    replace H := Option.bind_eq_some_iff.mp H
    obtain ⟨⟨eQl, fFy⟩, cCi, H⟩ := H
    replace H : (some (eQl, fFy)) = some (r1, r2) := H
    have A14 := aZ cCi
    clear cCi
    simp only [Option.some.injEq, Prod.mk.injEq] at H
    obtain ⟨rfl, rfl⟩ := H
    go_enter Try.func30, Try.ntmps30
    go_wp2_with (first | ((with_reducible refine gate_dst (N := 1) rfl ?_); (try (refine gate_guard (by rfl) ?_; dsimp only)); refine box_event ?hg (N := 1) ?hd (cs := #[.int .i64 dP, .slice nK dA.length mY, .slice mE dZ.length mF]) (t := 44) ?hr ?_; (case hd => rfl); (case hg => rfl); (case hr => first | (go_simp; done) | (go_simp; rfl)); intro wF hg w15 hbox hb; have iX := aZ (hbox); have eB9 := xgh hg HB; have cMu := xgh hg HB; replace HB := xhl HB hb; clear hb hbox hg) | ((with_reducible refine gate_dst (N := 2) rfl ?_); (try (refine gate_guard (by rfl) ?_; dsimp only)); refine box_event ?hg (N := 2) ?hd (cs := #[.int .i64 0, .int .i64 0]) (t := 28) ?hr ?_; (case hd => rfl); (case hg => rfl); (case hr => first | (go_simp; done) | (go_simp; rfl)); intro aEp hg w16 hbox hb; have qR := aZ (hbox); have eCa := xgh hg HB; have cMv := xgh hg HB; replace HB := xhl HB hb; have aBl := xnl hg iX; have aBm := xng hg iX; replace iX := xbb iX hb; clear hb hbox hg; have cMx := aBl.out; have cMy := aBm.out; have bI2 : w16.cell? ⟨wF, 0, none⟩ = some (.int .i64 dP) := (blk_cell iX.out 0).trans rfl; have cKh : w16.cell? ⟨wF, 1, none⟩ = some (.slice nK dA.length mY) := (blk_cell iX.out 1).trans rfl; have cV1 : w16.cell? ⟨wF, 2, none⟩ = some (.slice mE dZ.length mF) := (blk_cell iX.out 2).trans rfl; have bI3 := blk_frozen iX.out 0; have cKi := blk_frozen iX.out 1; have cV2 := blk_frozen iX.out 2) | ((with_reducible refine gate_callee (f := 19) rfl ?_); refine goesL_ (some 6) rfl rfl Try.func19 (by kernel_rfl) rfl #[.int .i64 dP, .int .i64 1, .int .i64 3] rfl xmp ?_; (with_reducible refine (fE.calls dP 1 3 true _ A2.out).mono ?_); rintro e w' ⟨rfl, ⟨nd, rfl⟩⟩; refine ⟨_, rfl, ?_⟩; (try (rw [drewN_self w16]; generalize hq_ : World.drewN w16 _ = w16; replace iX : Aside0 (w16.heap[wF]? = some (.cells #[.int .i64 dP, .slice nK dA.length mY, .slice mE dZ.length mF] 44 (0, 0))) := ⟨by rw [← hq_]; exact (xkq iX)⟩; replace qR : Aside0 (w16.heap[aEp]? = some (.cells #[.int .i64 0, .int .i64 0] 28 (0, 0))) := ⟨by rw [← hq_]; exact (xkq qR)⟩; replace HB : Aside0 (Below w.heap.size w w16) := ⟨by rw [← hq_]; exact (by repeat (first | (with_reducible first | exact HB.out | apply lA | apply lN | apply lD | refine lS ?_ cMu.out | refine lS ?_ cMv.out) | exact HB.out))⟩; clear hq_)); have bI4 : w16.cell? ⟨wF, 0, none⟩ = some (.int .i64 dP) := (blk_cell iX.out 0).trans rfl; have bPp : w16.cell? ⟨wF, 1, none⟩ = some (.slice nK dA.length mY) := (blk_cell iX.out 1).trans rfl; have dPy : w16.cell? ⟨wF, 2, none⟩ = some (.slice mE dZ.length mF) := (blk_cell iX.out 2).trans rfl; have bI5 := blk_frozen iX.out 0; have bPq := blk_frozen iX.out 1; have dPz := blk_frozen iX.out 2) | ((with_reducible refine gate_callee (f := 18) rfl ?_); refine goesL_ (some 18) rfl rfl Try.func18 (by kernel_rfl) rfl #[.int .i64 10, .int .i64 0] rfl xmp ?_; (with_reducible refine (aT.calls 10 0 eQl fFy _ A14.out).mono ?_); rintro e w20 ⟨rfl, hb⟩; refine ⟨_, rfl, ?_⟩; replace iX := xbb iX hb; replace qR := xbb qR hb; replace HB := xhl HB hb; skip; (try clear hb); (try clear iV); (try clear hk); (try clear hi); have bPb : w20.cell? ⟨aEp, 0, none⟩ = some (.int .i64 0) := (blk_cell qR.out 0).trans rfl; have cJq : w20.cell? ⟨aEp, 1, none⟩ = some (.int .i64 0) := (blk_cell qR.out 1).trans rfl; have bPc := blk_frozen qR.out 0; have cJr := blk_frozen qR.out 1))
    refine bodyPost_ret (results_cell_row rfl _ _ aEp 28 #[.int .i64 eQl, .int .i64 fFy] (0, 0) _ rfl (by (with_reducible repeat (first | refine bN ?_ _ | refine bD ?_ | refine bA ?_ _)); refine blk_put (cs := #[.int .i64 eQl, .int .i64 0]) ?_ 1 _ rfl; (with_reducible repeat (first | refine bN ?_ _ | refine bD ?_ | refine bA ?_ _)); refine blk_put (cs := #[.int .i64 0, .int .i64 0]) ?_ 0 _ rfl; (with_reducible repeat (first | refine bN ?_ _ | refine bD ?_ | refine bA ?_ _)); exact qR.out) Try.underlying28 rfl (by kernel_rfl)) rfl ?_
    exact ⟨xre, xq HB⟩
  rw [if_neg c13] at H
  have bMu : decide (1000 < (dZ.length : Int)) = false := decide_eq_false c13
  have dPx : decide (1000 < dZ.length) = false := decide_eq_false (by omega)
  clear c13
  have dJu := aZ H
  clear H
  go_enter Try.func30, Try.ntmps30
  go_upto_region 7 with (first | ((with_reducible refine gate_dst (N := 1) rfl ?_); (try (refine gate_guard (by rfl) ?_; dsimp only)); refine box_event ?hg (N := 1) ?hd (cs := #[.int .i64 dP, .slice nK dA.length mY, .slice mE dZ.length mF]) (t := 44) ?hr ?_; (case hd => rfl); (case hg => rfl); (case hr => first | (go_simp; done) | (go_simp; rfl)); intro wF hg w23 hbox hb; have iX := aZ (hbox); have eB9 := xgh hg HB; have cMu := xgh hg HB; replace HB := xhl HB hb; clear hb hbox hg) | ((with_reducible refine gate_dst (N := 2) rfl ?_); (try (refine gate_guard (by rfl) ?_; dsimp only)); refine box_event ?hg (N := 2) ?hd (cs := #[.int .i64 0, .int .i64 0]) (t := 28) ?hr ?_; (case hd => rfl); (case hg => rfl); (case hr => first | (go_simp; done) | (go_simp; rfl)); intro aEp hg w24 hbox hb; have qR := aZ (hbox); have eCa := xgh hg HB; have cMv := xgh hg HB; replace HB := xhl HB hb; have aBl := xnl hg iX; have aBm := xng hg iX; replace iX := xbb iX hb; clear hb hbox hg; have bV7 := aBl.out; have bV8 := aBm.out; have aN4 : w24.cell? ⟨wF, 0, none⟩ = some (.int .i64 dP) := (blk_cell iX.out 0).trans rfl; have bCa : w24.cell? ⟨wF, 1, none⟩ = some (.slice nK dA.length mY) := (blk_cell iX.out 1).trans rfl; have cVo : w24.cell? ⟨wF, 2, none⟩ = some (.slice mE dZ.length mF) := (blk_cell iX.out 2).trans rfl; have aN5 := blk_frozen iX.out 0; have bCb := blk_frozen iX.out 1; have cVp := blk_frozen iX.out 2) | ((with_reducible refine gate_callee (f := 19) rfl ?_); refine goesL_ (some 6) rfl rfl Try.func19 (by kernel_rfl) rfl #[.int .i64 dP, .int .i64 1, .int .i64 3] rfl xmp ?_; (with_reducible refine (fE.calls dP 1 3 true _ A2.out).mono ?_); rintro e w' ⟨rfl, ⟨nd, rfl⟩⟩; refine ⟨_, rfl, ?_⟩))
  (try simp only [Act.put, List.setIfInBounds_toArray, List.set_cons_zero, List.set_cons_succ])
  go_cut [27] (fun v27 wc => ∃ (kq : Nat) (cV3 : Bool), v27 = .bool cV3 ∧ Aside0 (aK.j0 kq cV3 dP dA dZ = some (r1, r2)) ∧ Aside0 (kq ≤ k) ∧ Aside0 (wc.heap[wF]? = some (.cells #[.int .i64 dP, (.slice nK dA.length mY), (.slice mE dZ.length mF)] 44 (0, 0))) ∧ Aside0 (wc.heap[aEp]? = some (.cells #[.int .i64 0, .int .i64 0] 28 (0, 0))) ∧ Aside0 (Below w.heap.size w wc))
  case first =>
   have H := dJu.out
   clear dJu
   by_cases c27 : dP = 1
   rotate_left
   · rw [if_neg c27] at H
     have bCi : (dP == 1) = false := beq_eq_false_iff_ne.mpr c27
     have cSj : (dP != 1) = true := bne_iff_ne.mpr c27
     (first | rw [bCi] | (simp only [i64_w, i32_w]; rw [bCi]) | skip)
     have H' := aZ H
     clear H
     have bSo := aBl.out
     have bSp := aBm.out
     have bIn : w24.cell? ⟨wF, 0, none⟩ = some (.int .i64 dP) := (blk_cell iX.out 0).trans rfl
     have bVm : w24.cell? ⟨wF, 1, none⟩ = some (.slice nK dA.length mY) := (blk_cell iX.out 1).trans rfl
     have gVr : w24.cell? ⟨wF, 2, none⟩ = some (.slice mE dZ.length mF) := (blk_cell iX.out 2).trans rfl
     have bIo := blk_frozen iX.out 0
     have bVn := blk_frozen iX.out 1
     have gVs := blk_frozen iX.out 2
     go_wp2
     go_meet
     case rel => exact ⟨_, (false), xrs, H', ⟨by first | omega | exact Nat.le_refl _⟩, xk iX, xk qR, xb HB⟩
   rw [if_pos c27] at H
   have bCi : (dP == 1) = true := beq_iff_eq.mpr c27
   have cSj : (dP != 1) = false := bne_eq_false_iff_eq.mpr c27
   clear c27
   (first | rw [bCi] | (simp only [i64_w, i32_w]; rw [bCi]) | skip)
   have H' := aZ H
   clear H
   have bV9 := aBl.out
   have bWa := aBm.out
   have bIs : w24.cell? ⟨wF, 0, none⟩ = some (.int .i64 dP) := (blk_cell iX.out 0).trans rfl
   have bVr : w24.cell? ⟨wF, 1, none⟩ = some (.slice nK dA.length mY) := (blk_cell iX.out 1).trans rfl
   have cVq : w24.cell? ⟨wF, 2, none⟩ = some (.slice mE dZ.length mF) := (blk_cell iX.out 2).trans rfl
   have bIt := blk_frozen iX.out 0
   have bVs := blk_frozen iX.out 1
   have cVr := blk_frozen iX.out 2
   go_wp2
   go_meet
   case rel => exact ⟨_, (((dA.length : Int) != 0)), xrs, H', ⟨by first | omega | exact Nat.le_refl _⟩, xk iX, xk qR, xb HB⟩
  case rest =>
   clear dJu
   (try clear c3); (try clear c4); (try clear aJy); (try clear cMl); (try clear c13); (try clear bMu); (try clear dPx); (try clear aN4); (try clear bCa); (try clear cVo); (try clear aN5); (try clear bCb); (try clear cVp)
   obtain ⟨kq, cV3, rfl, HA, eCb, iX, qR, HB⟩ := hcut
   cases kq with
   | zero => exact absurd HA.out (by simp [aK.j0])
   | succ cM0 =>
    have H := HA.out
    clear HA
    simp only [aK.j0] at H
    by_cases c32 : cV3 = true
    · subst c32
      have H1 : ((aT.f 5 0).bind fun dD0 => (some (dD0.1, dD0.2))) = some (r1, r2) := by rw [if_pos rfl] at H; exact H
      clear H
      have H := H1
      clear H1
      replace H := Option.bind_eq_some_iff.mp H
      obtain ⟨⟨eQm, fFz⟩, eCc, H⟩ := H
      replace H : (some (eQm, fFz)) = some (r1, r2) := H
      have A33 := aZ eCc
      clear eCc
      simp only [Option.some.injEq, Prod.mk.injEq] at H
      obtain ⟨rfl, rfl⟩ := H
      go_wp2_with (first | ((with_reducible refine gate_callee (f := 18) rfl ?_); refine goesL_ (some 28) rfl rfl Try.func18 (by kernel_rfl) rfl #[.int .i64 5, .int .i64 0] rfl xmp ?_; (with_reducible refine (aT.calls 5 0 eQm fFz _ A33.out).mono ?_); rintro e w34 ⟨rfl, hb⟩; refine ⟨_, rfl, ?_⟩; replace iX := xbb iX hb; replace qR := xbb qR hb; replace HB := xhl HB hb; skip; (try clear hb); (try clear iV); (try clear hk); (try clear hi); have cR9 := aBm.out; have cSa := aBl.out; have cV4 : w34.cell? ⟨aEp, 0, none⟩ = some (.int .i64 0) := (blk_cell qR.out 0).trans rfl; have gVt : w34.cell? ⟨aEp, 1, none⟩ = some (.int .i64 0) := (blk_cell qR.out 1).trans rfl; have cV5 := blk_frozen qR.out 0; have gVu := blk_frozen qR.out 1))
      refine bodyPost_ret (results_cell_row rfl _ _ aEp 28 #[.int .i64 eQm, .int .i64 fFz] (0, 0) _ rfl (by (with_reducible repeat (first | refine bN ?_ _ | refine bD ?_ | refine bA ?_ _)); refine blk_put (cs := #[.int .i64 eQm, .int .i64 0]) ?_ 1 _ rfl; (with_reducible repeat (first | refine bN ?_ _ | refine bD ?_ | refine bA ?_ _)); refine blk_put (cs := #[.int .i64 0, .int .i64 0]) ?_ 0 _ rfl; (with_reducible repeat (first | refine bN ?_ _ | refine bD ?_ | refine bA ?_ _)); exact qR.out) Try.underlying28 rfl (by kernel_rfl)) rfl ?_
      exact ⟨xre, xq HB⟩
    replace c32 := Bool.eq_false_iff.mpr c32
    subst c32
    have H1 : (aK.l0 cM0 0 dP dA dZ) = some (r1, r2) := by rw [if_neg (show ¬ (false = true) by decide)] at H; exact H
    clear H
    have H := H1
    clear H1
    have H' := aZ H
    clear H
    go_wp2
    go_loopg [3] cM0 (fun kq v3 w' => ∃ (aFq : Int) (aOh : Int) (aGk : Int), v3 = .int .i64 aFq ∧ Aside0 (aK.l0 kq aFq dP dA dZ = some (r1, r2)) ∧ Aside0 (kq ≤ cM0) ∧ Aside0 (w'.heap[wF]? = some (.cells #[.int .i64 dP, (.slice nK dA.length mY), (.slice mE dZ.length mF)] 44 (0, 0))) ∧ Aside0 (w'.heap[aEp]? = some (.cells #[.int .i64 aOh, .int .i64 aGk] 28 (0, 0))) ∧ Aside0 (Below w.heap.size w w'))
    case atStart => exact ⟨(0), (0), (0), xrs, H', ⟨Nat.le_refl _⟩, xk iX, xk qR, xb HB⟩
    case round =>
     clear H'
     (try clear c32)
     obtain ⟨aFq, aOh, aGk, rfl, HA, HK2, iX, qR, HB⟩ := hrel
     cases gk with
     | zero => exact absurd HA.out (by simp [aK.l0])
     | succ k2 =>
      have H := HA.out
      clear HA
      simp only [aK.l0] at H
      by_cases c37 : aFq < (dA.length : Int)
      rotate_left
      · rw [if_neg c37] at H
        have cSk : decide (aFq < (dA.length : Int)) = false := decide_eq_false c37
        clear c37
        simp only [Option.some.injEq, Prod.mk.injEq] at H
        obtain ⟨rfl, rfl⟩ := H
        have cSl := aBl.out
        have cSm := aBm.out
        have bPr : wr.cell? ⟨wF, 0, none⟩ = some (.int .i64 dP) := (blk_cell iX.out 0).trans rfl
        have cV6 : wr.cell? ⟨wF, 1, none⟩ = some (.slice nK dA.length mY) := (blk_cell iX.out 1).trans rfl
        have gVv : wr.cell? ⟨wF, 2, none⟩ = some (.slice mE dZ.length mF) := (blk_cell iX.out 2).trans rfl
        have bPs := blk_frozen iX.out 0
        have cV7 := blk_frozen iX.out 1
        have gVw := blk_frozen iX.out 2
        have cV8 : wr.cell? ⟨aEp, 0, none⟩ = some (.int .i64 aOh) := (blk_cell qR.out 0).trans rfl
        have cV9 : wr.cell? ⟨aEp, 1, none⟩ = some (.int .i64 aGk) := (blk_cell qR.out 1).trans rfl
        have cWa := blk_frozen qR.out 0
        have cWb := blk_frozen qR.out 1
        go_wp2
        refine bodyPost_ret (results_cell_row rfl _ _ aEp 28 #[.int .i64 0, .int .i64 0] (0, 0) _ rfl (by (with_reducible repeat (first | refine bN ?_ _ | refine bD ?_ | refine bA ?_ _)); refine blk_put (cs := #[.int .i64 0, .int .i64 aGk]) ?_ 1 _ rfl; (with_reducible repeat (first | refine bN ?_ _ | refine bD ?_ | refine bA ?_ _)); refine blk_put (cs := #[.int .i64 aOh, .int .i64 aGk]) ?_ 0 _ rfl; (with_reducible repeat (first | refine bN ?_ _ | refine bD ?_ | refine bA ?_ _)); exact qR.out) Try.underlying28 rfl (by kernel_rfl)) rfl ?_
        exact ⟨xre, xq HB⟩
      rw [if_pos c37] at H
      have cSk : decide (aFq < (dA.length : Int)) = true := decide_eq_true c37
      clear c37
      by_cases c38 : 0 ≤ aFq
      rotate_left
      · rw [if_neg c38] at H
        exact absurd H (by simp)
      rw [if_pos c38] at H
      have cSn : decide (0 ≤ aFq) = true := decide_eq_true c38
      clear c38
      replace H := Option.bind_eq_some_iff.mp H
      obtain ⟨eQi, dDh, H⟩ := H
      replace H : (if eQi = true then (aK.l0 k2 (wrap64 (aFq + 1)) dP dA dZ) else ((aT.f 3 aFq).bind fun cG7 => (some (cG7.1, cG7.2)))) = some (r1, r2) := H
      have A39 := aZ dDh
      clear dDh
      by_cases c40 : eQi = true
      · subst c40
        have H1 : (aK.l0 k2 (wrap64 (aFq + 1)) dP dA dZ) = some (r1, r2) := by rw [if_pos rfl] at H; exact H
        clear H
        have H := H1
        clear H1
        have H' := aZ H
        clear H
        have cMj := aBl.out
        have cMk := aBm.out
        have cU8 : wr.cell? ⟨wF, 0, none⟩ = some (.int .i64 dP) := (blk_cell iX.out 0).trans rfl
        have cU9 : wr.cell? ⟨wF, 1, none⟩ = some (.slice nK dA.length mY) := (blk_cell iX.out 1).trans rfl
        have dOv : wr.cell? ⟨wF, 2, none⟩ = some (.slice mE dZ.length mF) := (blk_cell iX.out 2).trans rfl
        have cVa := blk_frozen iX.out 0
        have cVb := blk_frozen iX.out 1
        have dOw := blk_frozen iX.out 2
        have dJv : 0 ≤ (aFq : Int) := of_decide_eq_true xas
        have dJw : aFq < (dA.length : Int) := of_decide_eq_true xas
        obtain ⟨eZ9, fF0, bWb⟩ := Kd.at_int aCl.out aFq dJv dJw
        cases fF0
        replace bWb := xcl HB bWb
        replace dJv := eq_true dJv
        replace dJw := eq_true dJw
        go_wp2_with (first | ((with_reducible refine gate_callee (f := 19) rfl ?_); refine goesL_ (some 41) rfl rfl Try.func19 (by kernel_rfl) rfl #[.int .i64 (rd dA aFq), .int .i64 0, .int .i64 2305843009213693950] rfl xmp ?_; (with_reducible refine (fE.calls (rd dA aFq) 0 2305843009213693950 true _ A39.out).mono ?_); rintro e w' ⟨rfl, ⟨nd, rfl⟩⟩; refine ⟨_, rfl, ?_⟩))
        go_roundg k2
        case measure => have := eCb.out; have := HK2.out; omega
        case rel => exact ⟨(wrap64 (aFq + 1)), (aOh), (aGk), xrs, H', ⟨by have := eCb.out; have := HK2.out; omega⟩, xk iX, xk qR, xb HB⟩
      replace c40 := Bool.eq_false_iff.mpr c40
      subst c40
      have H1 : ((aT.f 3 aFq).bind fun cG7 => (some (cG7.1, cG7.2))) = some (r1, r2) := by rw [if_neg (show ¬ (false = true) by decide)] at H; exact H
      clear H
      have H := H1
      clear H1
      replace H := Option.bind_eq_some_iff.mp H
      obtain ⟨⟨eQn, fF1⟩, fWq, H⟩ := H
      replace H : (some (eQn, fF1)) = some (r1, r2) := H
      have A43 := aZ fWq
      clear fWq
      simp only [Option.some.injEq, Prod.mk.injEq] at H
      obtain ⟨rfl, rfl⟩ := H
      have bLo := aBl.out
      have bLp := aBm.out
      have bPt : wr.cell? ⟨wF, 0, none⟩ = some (.int .i64 dP) := (blk_cell iX.out 0).trans rfl
      have dP0 : wr.cell? ⟨wF, 1, none⟩ = some (.slice nK dA.length mY) := (blk_cell iX.out 1).trans rfl
      have eQo : wr.cell? ⟨wF, 2, none⟩ = some (.slice mE dZ.length mF) := (blk_cell iX.out 2).trans rfl
      have bPu := blk_frozen iX.out 0
      have dP1 := blk_frozen iX.out 1
      have eQp := blk_frozen iX.out 2
      have dJv : 0 ≤ (aFq : Int) := of_decide_eq_true xas
      have dJw : aFq < (dA.length : Int) := of_decide_eq_true xas
      obtain ⟨eZ9, fF0, bWb⟩ := Kd.at_int aCl.out aFq dJv dJw
      cases fF0
      replace bWb := xcl HB bWb
      replace dJv := eq_true dJv
      replace dJw := eq_true dJw
      go_wp2_with (first | ((with_reducible refine gate_callee (f := 19) rfl ?_); refine goesL_ (some 41) rfl rfl Try.func19 (by kernel_rfl) rfl #[.int .i64 (rd dA aFq), .int .i64 0, .int .i64 2305843009213693950] rfl xmp ?_; (with_reducible refine (fE.calls (rd dA aFq) 0 2305843009213693950 false _ A39.out).mono ?_); rintro e w' ⟨rfl, ⟨nd, rfl⟩⟩; refine ⟨_, rfl, ?_⟩; (try (rw [drewN_self wr]; generalize hq_ : World.drewN wr _ = wr; replace iX : Aside0 (wr.heap[wF]? = some (.cells #[.int .i64 dP, .slice (some eZ9) dA.length mY, .slice mE dZ.length mF] 44 (0, 0))) := ⟨by rw [← hq_]; exact (xkq iX)⟩; replace qR : Aside0 (wr.heap[aEp]? = some (.cells #[.int .i64 aOh, .int .i64 aGk] 28 (0, 0))) := ⟨by rw [← hq_]; exact (xkq qR)⟩; replace HB : Aside0 (Below w.heap.size w wr) := ⟨by rw [← hq_]; exact (by repeat (first | (with_reducible first | exact HB.out | apply lA | apply lN | apply lD | refine lS ?_ cMu.out | refine lS ?_ cMv.out) | exact HB.out))⟩; clear hq_))) | ((with_reducible refine gate_callee (f := 18) rfl ?_); refine goesL_ (some 44) rfl rfl Try.func18 (by kernel_rfl) rfl #[.int .i64 3, .int .i64 aFq] rfl xmp ?_; (with_reducible refine (aT.calls 3 aFq eQn fF1 _ A43.out).mono ?_); rintro e w46 ⟨rfl, hb⟩; refine ⟨_, rfl, ?_⟩; replace iX := xbb iX hb; replace qR := xbb qR hb; replace HB := xhl HB hb; skip; (try clear hb); (try clear iV); (try clear hk); (try clear hi); have bIl : w46.cell? ⟨aEp, 0, none⟩ = some (.int .i64 aOh) := (blk_cell qR.out 0).trans rfl; have cVc : w46.cell? ⟨aEp, 1, none⟩ = some (.int .i64 aGk) := (blk_cell qR.out 1).trans rfl; have bIm := blk_frozen qR.out 0; have cVd := blk_frozen qR.out 1))
      refine bodyPost_ret (results_cell_row rfl _ _ aEp 28 #[.int .i64 eQn, .int .i64 fF1] (0, 0) _ rfl (by (with_reducible repeat (first | refine bN ?_ _ | refine bD ?_ | refine bA ?_ _)); refine blk_put (cs := #[.int .i64 eQn, .int .i64 aGk]) ?_ 1 _ rfl; (with_reducible repeat (first | refine bN ?_ _ | refine bD ?_ | refine bA ?_ _)); refine blk_put (cs := #[.int .i64 aOh, .int .i64 aGk]) ?_ 0 _ rfl; (with_reducible repeat (first | refine bN ?_ _ | refine bD ?_ | refine bA ?_ _)); exact qR.out) Try.underlying28 rfl (by kernel_rfl)) rfl ?_
      exact ⟨xre, xq HB⟩
def bI.l0 : Nat → Int → List Int → Int → Option (List Int)
  | 0, _, _, _ => none
  | k + 1, x0, x3, x4 => if x4 ≥ 0 then (if 0 ≤ x4 then (if x4 < (x3.length : Int) then (bI.l0 k (wrap64 (Int.tdiv x0 256)) (x3.set (x4 : Int).toNat ((Int.tmod x0 256) % 256)) (wrap64 (x4 - 1))) else (none)) else (none)) else (some x3)
def bI.f (k : Nat) (a0 : Int) : Option (List Int) := if 8 ≤ 281474976710656 then (bI.l0 k a0 (List.replicate 8 0) 7) else (none)
theorem bI.mono_l : ∀ k, (∀ y0 y1 y2, LeO (bI.l0 k y0 y1 y2) (bI.l0 (k + 1) y0 y1 y2))
  | 0 => fun _ _ _ r h => by simp [bI.l0] at h
  | k + 1 => by
    have mU := bI.mono_l k
    · intro y0 y1 y2
      unfold bI.l0
      repeat' first | (with_reducible first | exact mU _ _ _ | exact LeO.refl _ | exact LeO.none _ | refine LeO.ite ?_ ?_ | refine LeO.bind ?_ (fun _ => ?_)) | exact mU _ _ _ | exact LeO.none _ | refine LeO.ite ?_ ?_ | refine LeO.bind ?_ (fun _ => ?_)
theorem bI.mono : ∀ a0 k, LeO (bI.f k a0) (bI.f (k + 1) a0) := by
  intro a0 k
  have mU := bI.mono_l k
  unfold bI.f
  repeat' first | (with_reducible first | exact mU _ _ _ | exact LeO.refl _ | exact LeO.none _ | refine LeO.ite ?_ ?_ | refine LeO.bind ?_ (fun _ => ?_)) | exact mU _ _ _ | exact LeO.none _ | refine LeO.ite ?_ ?_ | refine LeO.bind ?_ (fun _ => ?_)
set_option maxHeartbeats 8000000 in
set_option maxRecDepth 100000 in
theorem bI.calls (k : Nat) (a0 : Int) (r : List Int) (w : World) (h : bI.f k a0 = some r) :
  Calls Try.prog 42 #[.int .i64 a0] w fun e w' => ∃ v0_ : Value, e = .returned (v0_) ∧ Kd.R (Kd.int .u8) 5 w' w.heap.size (fun _ => True) v0_ r ∧ Below w.heap.size w w' := by
  have HB := aZ (Below.refl w.heap.size w)
  have H : (if 8 ≤ 281474976710656 then (bI.l0 k a0 (List.replicate 8 0) 7) else (none)) = some r := h
  clear h
  by_cases c2 : 8 ≤ 281474976710656
  rotate_left
  · rw [if_neg c2] at H
    exact absurd H (by simp)

  rw [if_pos c2] at H
  have aW6 := eq_true c2
  have bEc : decide (8 ≤ 281474976710656) = true := decide_eq_true c2
  clear c2
  obtain ⟨fWz, dD6⟩ : ∃ y_ : List Int, y_ = (List.replicate 8 0) := ⟨_, rfl⟩
  replace H : (bI.l0 k a0 fWz 7) = some r := by first | (rw [dD6]; with_reducible exact H) | (have qY := (Option.bind_some _ _).symm.trans H; rw [dD6]; with_reducible exact qY) | (have qY := (Option.bind_some _ _).symm.trans H; with_reducible exact qY) | with_reducible exact H | (rw [dD6]; exact H) | exact H
  have fAc := aZ dD6
  clear dD6
  have H' := aZ H
  clear H
  go_enter Try.func42, Try.ntmps42
  go_wp2_with (first | ((with_reducible refine gate_dst (N := 5) rfl ?_); refine Kd.R_make (Kd.int .u8) _ 5 rfl (N := 5) rfl 26 _ _ rfl 8 rfl rfl Try.underlying26 (.int .u8 0) 1 aFk rfl (by decide) (by omega) 0 (ok := fun _ => True) (okp := fun _ => True) rfl (fun _ hk => hk) trivial (by omega) (by omega) (Below.refl _ _) (Nat.le_refl _) ?_; intro hIm w3 ho4 hb hg_ hnew_; clear hg_ hnew_; (first | rw [← fAc.out] at ho4 | (simp only [Int.reduceToNat] at ho4; rw [← fAc.out] at ho4)); have fW0 := aZ (Kd.R_lower ho4 (lZ (by repeat (first | (with_reducible first | exact HB.out | apply lA | apply lN | apply lD) | exact HB.out)))); replace HB := xhl HB hb; clear hb ho4))
  go_loopg [0, 4] k (fun kq v0 v4 w' => ∃ (aF1 : Int) (cK : List Int) (iL : Int), v0 = .int .i64 aF1 ∧ v4 = .int .i64 iL ∧ Aside0 (bI.l0 kq aF1 cK iL = some r) ∧ Aside0 (kq ≤ k) ∧ Aside0 (Kd.R (Kd.int .u8) 5 w' w.heap.size (fun _ => True) hIm cK) ∧ Aside0 (Below w.heap.size w w'))
  case atStart => exact ⟨(a0), (fWz), (7), xrs, xrs, H', ⟨Nat.le_refl _⟩, ⟨by (with_reducible repeat (first | apply Kd.rA | apply Kd.rN | apply Kd.rD)); exact fW0.out⟩, xb HB⟩
  case round =>
   clear H'
   (try clear c2); (try clear aW6); (try clear bEc)
   obtain ⟨aF1, cK, iL, rfl, rfl, HA, yS, nT, HB⟩ := hrel
   cases gk with
   | zero => exact absurd HA.out (by simp [bI.l0])
   | succ k1 =>
    have H := HA.out
    clear HA
    simp only [bI.l0] at H
    by_cases c5 : iL ≥ 0
    rotate_left
    · rw [if_neg c5] at H
      have bAy : decide (0 ≤ iL) = false := decide_eq_false c5
      clear c5
      obtain rfl := Option.some.inj H
      go_wp2
      go_ret
      exact ⟨_, xre, by (with_reducible repeat (first | apply Kd.rA | apply Kd.rN | apply Kd.rD)); exact nT.out, xq HB⟩
    rw [if_pos c5] at H
    have bAy : decide (0 ≤ iL) = true := decide_eq_true c5
    clear c5
    by_cases c6 : 0 ≤ iL
    rotate_left
    · rw [if_neg c6] at H
      exact absurd H (by simp)
    rw [if_pos c6] at H
    have aWf : decide (0 ≤ iL) = true := decide_eq_true c6
    clear c6
    by_cases c7 : iL < (cK.length : Int)
    rotate_left
    · rw [if_neg c7] at H
      exact absurd H (by simp)
    rw [if_pos c7] at H
    have bTm : decide (iL < (cK.length : Int)) = true := decide_eq_true c7
    clear c7
    obtain ⟨fGb, dD8⟩ : ∃ y_ : List Int, y_ = (cK.set (iL : Int).toNat ((Int.tmod aF1 256) % 256)) := ⟨_, rfl⟩
    replace H : (bI.l0 k1 (wrap64 (Int.tdiv aF1 256)) fGb (wrap64 (iL - 1))) = some r := by first | (rw [dD8]; with_reducible exact H) | (have qY := (Option.bind_some _ _).symm.trans H; rw [dD8]; with_reducible exact qY) | (have qY := (Option.bind_some _ _).symm.trans H; with_reducible exact qY) | with_reducible exact H | (rw [dD8]; exact H) | exact H
    have fW1 := aZ dD8
    clear dD8
    have H' := aZ H
    clear H
    have p8 : 0 ≤ (iL : Int) := of_decide_eq_true xas
    have q8 : (iL : Int) < ((cK.length : Int) : Int) := of_decide_eq_true xas
    obtain ⟨go8, co8, eo8, gb8, gl8, cl8, HG8⟩ := Kd.R_form nT.out (by omega)
    (first | cases eo8 | (injection eo8 with ea_ en_ ec_; (first | subst ea_ | (injection ea_ with ea_; subst ea_)); subst ec_; clear en_))
    have GB8 := aZ gb8
    have GG8 := aZ HG8
    clear gb8 gl8 HG8
    obtain ⟨iBc, iBd⟩ := Kd.R_celln 0 nT.out (iL : Int) p8 q8
    replace p8 := eq_true p8
    replace q8 := eq_true q8
    have HP9 := Kd.R_putg nT.out (iL : Int) ((Int.tmod aF1 256) % 256)
    go_wp2_with (first | ((with_reducible refine gate_store (t := 5) (p := 15) rfl ?_); refine store_event (t := 5) (p := 15) (v := ?vo_w10) (w1 := (wr.setCell ⟨go8, (iL : Int).toNat, none⟩ (.int .u8 ((Int.tmod aF1 256) % 256)))) ?hg ?ho ?hn ?hr ?_; (case ho => rfl); (case hg => rfl); (case hn => rfl); (case hr => first | (go_simp; done) | (go_simp; rfl)); intro w10 hw; have hg : wr.grownBy w10 (some go8) := (by rw [hw]; exact HP9.2); have hp_ : Kd.R (Kd.int .u8) 5 w10 w.heap.size (fun _ => True) (.slice (some ⟨go8, 0, none⟩) cK.length co8) fGb := (by rw [hw, fW1.out]; exact HP9.1); clear HP9; replace nT := aZ (hp_); replace HB := aZ ((by rw [hw]; exact lS (HB.out) GB8.out : Below w.heap.size w w10)); clear hg hw hp_))
    go_roundg k1
    case measure => have := yS.out; omega
    case rel => exact ⟨(wrap64 (Int.tdiv aF1 256)), (fGb), (wrap64 (iL - 1)), xrs, xrs, H', ⟨by have := yS.out; omega⟩, ⟨by (with_reducible repeat (first | apply Kd.rA | apply Kd.rN | apply Kd.rD)); exact nT.out⟩, xb HB⟩
def qB.f (a0 : Int) : Option (Int) := if (wrap64 (a0 + a0)) ≥ 2305843009213693951 then (some (wrap64 ((wrap64 (a0 + a0)) - 2305843009213693951))) else (some (wrap64 (a0 + a0)))
set_option maxHeartbeats 8000000 in
set_option maxRecDepth 100000 in
theorem qB.calls (a0 : Int) (r : Int) (w : World) (h : qB.f a0 = some r) :
    Calls Try.prog 67 #[.int .i64 a0] w fun e w' => e = .returned (.int .i64 r) ∧ Drawn0 w w' := by
  have H : (if (wrap64 (a0 + a0)) ≥ 2305843009213693951 then (some (wrap64 ((wrap64 (a0 + a0)) - 2305843009213693951))) else (some (wrap64 (a0 + a0)))) = some r := h
  clear h
  by_cases c2 : (wrap64 (a0 + a0)) ≥ 2305843009213693951
  · rw [if_pos c2] at H
    have aW6 : decide (2305843009213693951 ≤ (wrap64 (a0 + a0))) = true := decide_eq_true c2
    clear c2
    obtain rfl := Option.some.inj H
    go_enter Try.func67, Try.ntmps67
    go_wp2
    go_ret
    exact ⟨by first | rfl | (simp; done) | (simp [*]; done), by repeat (first | exact Drawn0.refl _ | apply Drawn0.step)⟩
  · rw [if_neg c2] at H
    have aW6 : decide (2305843009213693951 ≤ (wrap64 (a0 + a0))) = false := decide_eq_false c2
    clear c2
    obtain rfl := Option.some.inj H
    go_enter Try.func67, Try.ntmps67
    go_wp2
    go_ret
    exact ⟨by first | rfl | (simp; done) | (simp [*]; done), by repeat (first | exact Drawn0.refl _ | apply Drawn0.step)⟩
def bV.l0 : Nat → Int → Int → Int → Option (Int)
  | 0, _, _, _ => none
  | k + 1, x0, x1, x5 => if x1 > 0 then (if (Int.tmod x1 2) = 1 then ((qB.f x0).bind fun eCi => (bV.l0 k eCi (wrap64 (Int.tdiv x1 2)) (Int.tmod (wrap64 (x5 + x0)) 2305843009213693951))) else ((qB.f x0).bind fun eCj => (bV.l0 k eCj (wrap64 (Int.tdiv x1 2)) x5))) else (some x5)
def bV.f (k : Nat) (a0 : Int) (a1 : Int) : Option (Int) := bV.l0 k a0 a1 0
theorem bV.mono_l : ∀ k, (∀ y0 y1 y2, LeO (bV.l0 k y0 y1 y2) (bV.l0 (k + 1) y0 y1 y2))
  | 0 => fun _ _ _ r h => by simp [bV.l0] at h
  | k + 1 => by
    have mU := bV.mono_l k
    · intro y0 y1 y2
      unfold bV.l0
      repeat' first | (with_reducible first | exact mU _ _ _ | exact LeO.refl _ | exact LeO.none _ | refine LeO.ite ?_ ?_ | refine LeO.bind ?_ (fun _ => ?_)) | exact mU _ _ _ | exact LeO.none _ | refine LeO.ite ?_ ?_ | refine LeO.bind ?_ (fun _ => ?_)
theorem bV.mono : ∀ a0 a1 k, LeO (bV.f k a0 a1) (bV.f (k + 1) a0 a1) := by
  intro a0 a1 k
  have mU := bV.mono_l k
  unfold bV.f
  repeat' first | (with_reducible first | exact mU _ _ _ | exact LeO.refl _ | exact LeO.none _ | refine LeO.ite ?_ ?_ | refine LeO.bind ?_ (fun _ => ?_)) | exact mU _ _ _ | exact LeO.none _ | refine LeO.ite ?_ ?_ | refine LeO.bind ?_ (fun _ => ?_)
set_option maxHeartbeats 8000000 in
set_option maxRecDepth 100000 in
theorem bV.calls (k : Nat) (a0 : Int) (a1 : Int) (r : Int) (w : World) (h : bV.f k a0 a1 = some r) :
  Calls Try.prog 53 #[.int .i64 a0, .int .i64 a1] w fun e w' => e = .returned (.int .i64 r) ∧ Drawn0 w w' := by
  have H : (bV.l0 k a0 a1 0) = some r := h
  clear h
  have H' := aZ H
  clear H
  go_enter Try.func53, Try.ntmps53
  go_wp2
  go_loopg [0, 1, 5] k (fun kq v0 v1 v5 w' => ∃ (aF1 : Int) (bTo : Int) (dC : Int), v0 = .int .i64 aF1 ∧ v1 = .int .i64 bTo ∧ v5 = .int .i64 dC ∧ Aside0 (bV.l0 kq aF1 bTo dC = some r) ∧ Aside0 (kq ≤ k) ∧ Drawn0 w w')
  case atStart => exact ⟨(a0), (a1), (0), xrs, xrs, xrs, H', ⟨Nat.le_refl _⟩, by repeat (first | exact Drawn0.refl _ | apply Drawn0.step)⟩
  case round =>
   clear H'
   obtain ⟨aF1, bTo, dC, rfl, rfl, rfl, HA, yS, ⟨m1, rfl⟩⟩ := hrel
   cases gk with
   | zero => exact absurd HA.out (by simp [bV.l0])
   | succ k1 =>
    have H := HA.out
    clear HA
    simp only [bV.l0] at H
    by_cases c3 : bTo > 0
    rotate_left
    · rw [if_neg c3] at H
      have aNk : decide (0 < bTo) = false := decide_eq_false c3
      clear c3
      obtain rfl := Option.some.inj H
      go_wp2
      go_ret
      exact ⟨by first | rfl | (simp; done) | (simp [*]; done), by repeat (first | exact Drawn0.refl _ | apply Drawn0.step)⟩

    rw [if_pos c3] at H
    have aNk : decide (0 < bTo) = true := decide_eq_true c3
    clear c3
    by_cases c4 : (Int.tmod bTo 2) = 1
    rotate_left
    · rw [if_neg c4] at H
      have aJy : ((Int.tmod bTo 2) == 1) = false := beq_eq_false_iff_ne.mpr c4
      have cMl : ((Int.tmod bTo 2) != 1) = true := bne_iff_ne.mpr c4
      replace H := Option.bind_eq_some_iff.mp H
      obtain ⟨eCj, A60, H⟩ := H
      replace H : (bV.l0 k1 eCj (wrap64 (Int.tdiv bTo 2)) dC) = some r := H
      have A6 := aZ A60
      clear A60
      have H' := aZ H
      clear H
      go_wp2_with (first | ((with_reducible refine gate_callee (f := 67) rfl ?_); refine goesL_ (some 16) rfl rfl Try.func67 (by kernel_rfl) rfl #[.int .i64 aF1] rfl xmp ?_; (with_reducible refine (qB.calls aF1 eCj _ A6.out).mono ?_); rintro e w' ⟨rfl, ⟨nd, rfl⟩⟩; refine ⟨_, rfl, ?_⟩))
      go_roundg k1
      case measure => have := yS.out; omega
      case rel => exact ⟨(eCj), (wrap64 (Int.tdiv bTo 2)), (dC), xrs, xrs, xrs, H', ⟨by have := yS.out; omega⟩, by repeat (first | exact Drawn0.refl _ | apply Drawn0.step)⟩
    rw [if_pos c4] at H
    have aJy : ((Int.tmod bTo 2) == 1) = true := beq_iff_eq.mpr c4
    have cMl : ((Int.tmod bTo 2) != 1) = false := bne_eq_false_iff_eq.mpr c4
    clear c4
    replace H := Option.bind_eq_some_iff.mp H
    obtain ⟨eCi, A50, H⟩ := H
    replace H : (bV.l0 k1 eCi (wrap64 (Int.tdiv bTo 2)) (Int.tmod (wrap64 (dC + aF1)) 2305843009213693951)) = some r := H
    have A5 := aZ A50
    clear A50
    have H' := aZ H
    clear H
    go_wp2_with (first | ((with_reducible refine gate_callee (f := 67) rfl ?_); refine goesL_ (some 16) rfl rfl Try.func67 (by kernel_rfl) rfl #[.int .i64 aF1] rfl xmp ?_; (with_reducible refine (qB.calls aF1 eCi _ A5.out).mono ?_); rintro e w' ⟨rfl, ⟨nd, rfl⟩⟩; refine ⟨_, rfl, ?_⟩))
    go_roundg k1
    case measure => have := yS.out; omega
    case rel => exact ⟨(eCi), (wrap64 (Int.tdiv bTo 2)), (Int.tmod (wrap64 (dC + aF1)) 2305843009213693951), xrs, xrs, xrs, H', ⟨by have := yS.out; omega⟩, by repeat (first | exact Drawn0.refl _ | apply Drawn0.step)⟩
def bG.l0 : Nat → List Int → Int → Int → Option (Int)
  | 0, _, _, _ => none
  | k + 1, x0, x3, x4 => if x4 < (x0.length : Int) then ((bV.f k x3 257).bind fun dJx => (if 0 ≤ x4 then (bG.l0 k x0 (Int.tmod (wrap64 ((wrap64 (dJx + (wrap64 (rd x0 x4)))) + 1)) 2305843009213693951) (wrap64 (x4 + 1))) else (none))) else (some x3)
def bG.f (k : Nat) (l0 : List Int) : Option (Int) := bG.l0 k l0 1 0
theorem bG.mono_l : ∀ k, (∀ y0 y1 y2, LeO (bG.l0 k y0 y1 y2) (bG.l0 (k + 1) y0 y1 y2))
  | 0 => fun _ _ _ r h => by simp [bG.l0] at h
  | k + 1 => by
    have mU := bG.mono_l k
    · intro y0 y1 y2
      unfold bG.l0
      repeat' first | (with_reducible first | exact mU _ _ _ | exact bV.mono _ _ _ | exact LeO.refl _ | exact LeO.none _ | refine LeO.ite ?_ ?_ | refine LeO.bind ?_ (fun _ => ?_)) | exact mU _ _ _ | exact bV.mono _ _ _ | exact LeO.none _ | refine LeO.ite ?_ ?_ | refine LeO.bind ?_ (fun _ => ?_)
theorem bG.mono : ∀ a0 k, LeO (bG.f k a0) (bG.f (k + 1) a0) := by
  intro a0 k
  have mU := bG.mono_l k
  unfold bG.f
  repeat' first | (with_reducible first | exact mU _ _ _ | exact bV.mono _ _ _ | exact LeO.refl _ | exact LeO.none _ | refine LeO.ite ?_ ?_ | refine LeO.bind ?_ (fun _ => ?_)) | exact mU _ _ _ | exact bV.mono _ _ _ | exact LeO.none _ | refine LeO.ite ?_ ?_ | refine LeO.bind ?_ (fun _ => ?_)
set_option maxHeartbeats 8000000 in
set_option maxRecDepth 100000 in
theorem bG.calls (k : Nat) (A0 : Option Addr) (c0 : Nat) (l0 : List Int) (r : Int) (w : World) (hr0 : Kd.C (Kd.int .u8) w A0 l0.length l0) (hc0 : l0.length ≤ c0) (h : bG.f k l0 = some r) :
  Calls Try.prog 43 #[.slice A0 l0.length c0] w fun e w' => e = .returned (.int .i64 r) ∧ Drawn0 w w' := by
  have HR0 := aZ hr0
  have HC0 := aZ hc0
  clear hr0 hc0
  have H : (bG.l0 k l0 1 0) = some r := h
  clear h
  have H' := aZ H
  clear H
  go_enter Try.func43, Try.ntmps43
  go_wp2
  repeat (go_quiet (fail); try go_wp2)
  go_loopg [3, 4] k (fun kq v3 v4 w' => ∃ (cK : Int) (iL : Int), v3 = .int .i64 cK ∧ v4 = .int .i64 iL ∧ Aside0 (bG.l0 kq l0 cK iL = some r) ∧ Aside0 (kq ≤ k) ∧ Drawn0 w w')
  case atStart => exact ⟨(1), (0), xrs, xrs, H', ⟨Nat.le_refl _⟩, by repeat (first | exact Drawn0.refl _ | apply Drawn0.step)⟩
  case round =>
   clear H'
   obtain ⟨cK, iL, rfl, rfl, HA, yS, ⟨m1, rfl⟩⟩ := hrel
   cases gk with
   | zero => exact absurd HA.out (by simp [bG.l0])
   | succ k1 =>
    have H := HA.out
    clear HA
    simp only [bG.l0] at H
    by_cases c2 : iL < (l0.length : Int)
    rotate_left
    · rw [if_neg c2] at H
      have aW6 : decide (iL < (l0.length : Int)) = false := decide_eq_false c2
      clear c2
      obtain rfl := Option.some.inj H
      go_wp2
      repeat (go_quiet (fail); try go_wp2)
      go_ret
      exact ⟨by first | rfl | (simp; done) | (simp [*]; done), by repeat (first | exact Drawn0.refl _ | apply Drawn0.step)⟩

    rw [if_pos c2] at H
    have aW6 : decide (iL < (l0.length : Int)) = true := decide_eq_true c2
    clear c2
    replace H := Option.bind_eq_some_iff.mp H
    obtain ⟨dJx, A30, H⟩ := H
    replace H : (if 0 ≤ iL then (bG.l0 k1 l0 (Int.tmod (wrap64 ((wrap64 (dJx + (wrap64 (rd l0 iL)))) + 1)) 2305843009213693951) (wrap64 (iL + 1))) else (none)) = some r := H
    have A3 := aZ A30
    clear A30
    by_cases c4 : 0 ≤ iL
    rotate_left
    · rw [if_neg c4] at H
      exact absurd H (by simp)
    rw [if_pos c4] at H
    have aJy : decide (0 ≤ iL) = true := decide_eq_true c4
    clear c4
    have H' := aZ H
    clear H
    go_wp2_with (first | (go_at_call 53; (with_reducible refine (bV.calls k1 cK 257 dJx _ A3.out).mono ?_); rintro e w' ⟨rfl, ⟨nd, rfl⟩⟩; (try first | exact ⟨rfl, _, World.drewN_drewN _ _ _⟩ | exact ⟨rfl, _, Eq.trans (World.drewN_drewN _ _ _) (congrArg (World.drewN _) (Nat.add_assoc _ _ _))⟩); have cM1 : 0 ≤ (iL : Int) := of_decide_eq_true xas; have cM2 : iL < (l0.length : Int) := of_decide_eq_true xas; obtain ⟨fAd, eCh, dP3⟩ := Kd.at_int HR0.out iL cM1 cM2; cases eCh; replace cM1 := eq_true cM1; replace cM2 := eq_true cM2))
    repeat (go_quiet (first | (go_at_call 53; (with_reducible refine (bV.calls k1 cK 257 dJx _ A3.out).mono ?_); rintro e w' ⟨rfl, ⟨nd, rfl⟩⟩; (try first | exact ⟨rfl, _, World.drewN_drewN _ _ _⟩ | exact ⟨rfl, _, Eq.trans (World.drewN_drewN _ _ _) (congrArg (World.drewN _) (Nat.add_assoc _ _ _))⟩); have cM1 : 0 ≤ (iL : Int) := of_decide_eq_true xas; have cM2 : iL < (l0.length : Int) := of_decide_eq_true xas; obtain ⟨fAd, eCh, dP3⟩ := Kd.at_int HR0.out iL cM1 cM2; cases eCh; replace cM1 := eq_true cM1; replace cM2 := eq_true cM2)); try go_wp2_with (first | (go_at_call 53; (with_reducible refine (bV.calls k1 cK 257 dJx _ A3.out).mono ?_); rintro e w' ⟨rfl, ⟨nd, rfl⟩⟩; (try first | exact ⟨rfl, _, World.drewN_drewN _ _ _⟩ | exact ⟨rfl, _, Eq.trans (World.drewN_drewN _ _ _) (congrArg (World.drewN _) (Nat.add_assoc _ _ _))⟩); have cM1 : 0 ≤ (iL : Int) := of_decide_eq_true xas; have cM2 : iL < (l0.length : Int) := of_decide_eq_true xas; obtain ⟨fAd, eCh, dP3⟩ := Kd.at_int HR0.out iL cM1 cM2; cases eCh; replace cM1 := eq_true cM1; replace cM2 := eq_true cM2)))
    go_roundg k1
    case measure => have := yS.out; omega
    case rel => exact ⟨(Int.tmod (wrap64 ((wrap64 (dJx + (wrap64 (rd l0 iL)))) + 1)) 2305843009213693951), (wrap64 (iL + 1)), xrs, xrs, H', ⟨by have := yS.out; omega⟩, by repeat (first | exact Drawn0.refl _ | apply Drawn0.step)⟩
def aV.l0 : Nat → List Int → Int → Int → List Int → List Int → Option (Int)
  | 0, _, _, _, _, _ => none
  | k + 1, x3, x4, eQq, cWc, cWd => if x4 < (cWc.length : Int) then (if 0 ≤ x4 then ((bI.f k (rd cWc x4)).bind fun cRn => (if x3.length + cRn.length < 140737488355328 then (aV.l0 k (x3 ++ cRn) (wrap64 (x4 + 1)) eQq cWc cWd) else (none))) else (none)) else (if x3.length + cWd.length < 140737488355328 then ((bG.f k (x3 ++ cWd)).bind fun dYy => (some dYy)) else (none))
def aV.f (k : Nat) (dP : Int) (dA : List Int) (dZ : List Int) : Option (Int) := aV.l0 k (([(dP) % 256, ((dA.length : Int)) % 256] : List Int)) 0 dP dA dZ
theorem aV.mono_l : ∀ k, (∀ y0 y1 y2 y3 y4, LeO (aV.l0 k y0 y1 y2 y3 y4) (aV.l0 (k + 1) y0 y1 y2 y3 y4))
  | 0 => fun _ _ _ _ _ r h => by simp [aV.l0] at h
  | k + 1 => by
    have mU := aV.mono_l k
    · intro y0 y1 y2 y3 y4
      unfold aV.l0
      repeat' first | (with_reducible first | exact mU _ _ _ _ _ | exact bG.mono _ _ | exact bI.mono _ _ | exact LeO.refl _ | exact LeO.none _ | refine LeO.ite ?_ ?_ | refine LeO.bind ?_ (fun _ => ?_)) | exact mU _ _ _ _ _ | exact bG.mono _ _ | exact bI.mono _ _ | exact LeO.none _ | refine LeO.ite ?_ ?_ | refine LeO.bind ?_ (fun _ => ?_)
theorem aV.mono : ∀ a0 a1 a2 k, LeO (aV.f k a0 a1 a2) (aV.f (k + 1) a0 a1 a2) := by
  intro a0 a1 a2 k
  have mU := aV.mono_l k
  unfold aV.f
  repeat' first | (with_reducible first | exact mU _ _ _ _ _ | exact bG.mono _ _ | exact bI.mono _ _ | exact LeO.refl _ | exact LeO.none _ | refine LeO.ite ?_ ?_ | refine LeO.bind ?_ (fun _ => ?_)) | exact mU _ _ _ _ _ | exact bG.mono _ _ | exact bI.mono _ _ | exact LeO.none _ | refine LeO.ite ?_ ?_ | refine LeO.bind ?_ (fun _ => ?_)
set_option maxHeartbeats 8000000 in
set_option maxRecDepth 100000 in
theorem aV.calls (k : Nat) (dP : Int) (nK : Option Addr) (mY : Nat) (dA : List Int) (mE : Option Addr) (mF : Nat) (dZ : List Int) (r : Int) (w : World) (aFz : Kd.C (Kd.int .i64) w nK dA.length dA) (aFy : dA.length ≤ mY) (aD6 : Kd.C (Kd.int .u8) w mE dZ.length dZ) (aD5 : dZ.length ≤ mF) (h : aV.f k dP dA dZ = some r) :
  Calls Try.prog 31 #[.agg #[.int .i64 dP, .slice nK dA.length mY, .slice mE dZ.length mF]] w fun e w' => e = .returned (.int .i64 r) ∧ Below w.heap.size w w' := by
  have aQf := Try.underlying44
  have aCl := aZ aFz
  have aIz := aZ aFy
  clear aFz aFy
  have aF0 := aZ aD6
  have aNm := aZ aD5
  clear aD6 aD5
  have HB := aZ (Below.refl w.heap.size w)
  have H : (aV.l0 k (([(dP) % 256, ((dA.length : Int)) % 256] : List Int)) 0 dP dA dZ) = some r := h
  clear h
  obtain ⟨fWr, dD2⟩ : ∃ y_ : List Int, y_ = (([(dP) % 256, ((dA.length : Int)) % 256] : List Int)) := ⟨_, rfl⟩
  replace H : (aV.l0 k fWr 0 dP dA dZ) = some r := by first | (rw [dD2]; with_reducible exact H) | (have qY := (Option.bind_some _ _).symm.trans H; rw [dD2]; with_reducible exact qY) | (have qY := (Option.bind_some _ _).symm.trans H; with_reducible exact qY) | with_reducible exact H | (rw [dD2]; exact H) | exact H
  have fAa := aZ dD2
  clear dD2
  have H' := aZ H
  clear H
  go_enter Try.func31, Try.ntmps31
  go_wp2_with (first | ((with_reducible refine gate_dst (N := 1) rfl ?_); refine box_event ?hg (N := 1) ?hd (cs := #[.int .i64 dP, .slice nK dA.length mY, .slice mE dZ.length mF]) (t := 44) ?hr ?_; (case hd => rfl); (case hg => rfl); (case hr => first | (go_simp; done) | (go_simp; rfl)); intro bLq hg w2 hbox hb; have aB6 := aZ (hbox); have iA9 := xgh hg HB; have cSp := xgh hg HB; replace HB := xhl HB hb; clear hb hbox hg; have fF2 : w2.cell? ⟨bLq, 0, none⟩ = some (.int .i64 dP) := (blk_cell aB6.out 0).trans rfl; have fF3 : w2.cell? ⟨bLq, 1, none⟩ = some (.slice nK dA.length mY) := (blk_cell aB6.out 1).trans rfl; have fF4 : w2.cell? ⟨bLq, 2, none⟩ = some (.slice mE dZ.length mF) := (blk_cell aB6.out 2).trans rfl; have fF5 := blk_frozen aB6.out 0; have fF6 := blk_frozen aB6.out 1; have fF7 := blk_frozen aB6.out 2) | ((with_reducible refine gate_dst (N := 12) rfl ?_); refine Kd.R_lit (Kd.int .u8) _ 5 ?hg (N := 12) ?hd (xs := ([(dP) % 256, ((dA.length : Int)) % 256] : List Int)) (inner := [.int .u8 ((dP) % 256), .int .u8 (((dA.length : Int)) % 256)]) (ok := fun _ => True) (okp := fun _ => True) ?hr ?hp (fun _ hk => hk) trivial (Below.refl _ _) (Nat.le_refl _) (by simp) ?_; (case hd => rfl); (case hg => rfl); (case hr => first | (go_simp; done) | (go_simp; rfl)); (case hp => exact (Reps.one (show Kd.M (Kd.int .u8) _ _ _ ((dP) % 256) [.int .u8 ((dP) % 256)] from rfl) (Reps.one (show Kd.M (Kd.int .u8) _ _ _ (((dA.length : Int)) % 256) [.int .u8 (((dA.length : Int)) % 256)] from rfl) (Reps.none _ _)))); intro iG1 w4 ho5 hb hg_ hnew_; clear hg_ hnew_; (first | rw [← fAa.out] at ho5 | (simp only [Int.reduceToNat] at ho5; rw [← fAa.out] at ho5)); have fWt := aZ (Kd.R_lower ho5 (lZ (by repeat (first | (with_reducible first | exact HB.out | apply lA | apply lN | apply lD | refine lS ?_ cSp.out) | exact HB.out)))); replace aB6 := xbb aB6 hb; replace HB := xhl HB hb; clear hb ho5))
  go_loopg [3, 4] k (fun kq v3 v4 w' => ∃ (cK : List Int) (iL : Int), v4 = .int .i64 iL ∧ Aside0 (aV.l0 kq cK iL dP dA dZ = some r) ∧ Aside0 (kq ≤ k) ∧ Aside0 (Kd.R (Kd.int .u8) 5 w' w.heap.size (fun _ => True) v3 cK) ∧ Aside0 (w'.heap[bLq]? = some (.cells #[.int .i64 dP, (.slice nK dA.length mY), (.slice mE dZ.length mF)] 44 (0, 0))) ∧ Aside0 (Below w.heap.size w w'))
  case atStart => exact ⟨(fWr), (0), xrs, H', ⟨Nat.le_refl _⟩, ⟨by (with_reducible repeat (first | apply Kd.rA | apply Kd.rN | apply Kd.rD)); exact fWt.out⟩, xk aB6, xb HB⟩
  case round =>
   clear H'
   (try clear fF2); (try clear fF3); (try clear fF4); (try clear fF5); (try clear fF6); (try clear fF7)
   obtain ⟨cK, iL, rfl, HA, yS, nT, aB6, HB⟩ := hrel
   cases gk with
   | zero => exact absurd HA.out (by simp [aV.l0])
   | succ k1 =>
    have H := HA.out
    clear HA
    simp only [aV.l0] at H
    by_cases c6 : iL < (dA.length : Int)
    rotate_left
    · rw [if_neg c6] at H
      have aWf : decide (iL < (dA.length : Int)) = false := decide_eq_false c6
      clear c6
      by_cases c14 : cK.length + dZ.length < 140737488355328
      rotate_left
      · rw [if_neg c14] at H
        exact absurd H (by simp)

      rw [if_pos c14] at H
      have eCe := aZ c14
      clear c14
      obtain ⟨fF8, dD3⟩ : ∃ y_ : List Int, y_ = (cK ++ dZ) := ⟨_, rfl⟩
      replace H : ((bG.f k1 fF8).bind fun dYy => (some dYy)) = some r := by first | (rw [dD3]; with_reducible exact H) | (have qY := (Option.bind_some _ _).symm.trans H; rw [dD3]; with_reducible exact qY) | (have qY := (Option.bind_some _ _).symm.trans H; with_reducible exact qY) | with_reducible exact H | (rw [dD3]; exact H) | exact H
      have fWu := aZ dD3
      clear dD3
      replace H := Option.bind_eq_some_iff.mp H
      obtain ⟨dYy, eCf, H⟩ := H
      replace H : (some dYy) = some r := H
      have A15 := aZ eCf
      clear eCf
      obtain rfl := Option.some.inj H
      have aQj : wr.cell? ⟨bLq, 0, none⟩ = some (.int .i64 dP) := (blk_cell aB6.out 0).trans rfl
      have bIp : wr.cell? ⟨bLq, 1, none⟩ = some (.slice nK dA.length mY) := (blk_cell aB6.out 1).trans rfl
      have cJo : wr.cell? ⟨bLq, 2, none⟩ = some (.slice mE dZ.length mF) := (blk_cell aB6.out 2).trans rfl
      have aQk := blk_frozen aB6.out 0
      have bIq := blk_frozen aB6.out 1
      have cJp := blk_frozen aB6.out 2
      go_wp2_with (first | ((with_reducible refine gate_builtin (b := .append) (xs := #[.tmp 28, .tmp 30]) rfl ?_); at_builtin; refine Kd.R_append_rows (Kd.int .u8) (w0 := w) w.heap.size rfl (.tmp 28) (.tmp 30) 26 5 (.int .u8 0) 1 rfl Try.underlying26 aFk rfl (by decide) (by omega) u3 cK dZ _ _ _ (fun _ => True) (fun _ => False) rfl rfl ?aO ?aR (fun _ _ h => h) (fun _ h => h.elim) ?aF ?aB ?aS ?aL ?_; (case aR => exact xcb aF0 HB); (case aB => exact (by repeat (first | (with_reducible first | exact HB.out | apply lA | apply lN | apply lD | refine lS ?_ cSp.out) | exact HB.out))); (case aF => exact (fun _ _ => trivial)); (case aO => exact (by (with_reducible repeat (first | apply Kd.rA | apply Kd.rN | apply Kd.rD)); exact nT.out)); (case aS => exact (lZ (by repeat (first | (with_reducible first | exact HB.out | apply lA | apply lN | apply lD | refine lS ?_ cSp.out) | exact HB.out)))); (case aL => have := eCe.out; omega); intro iG2 w17 ho hb hg hat; rw [← fWu.out] at ho; replace aB6 := aZ (blk_grown (g := bLq) (o := .cells #[.int .i64 dP, .slice nK dA.length mY, .slice mE dZ.length mF] 44 (0, 0)) (xkq aB6) hg (Kd.R_ne nT.out aB6.out (by decide))); replace HB := aZ (hb); have eCg := aZ (ho); clear nT; clear ho hb hg hat; obtain ⟨hIb, hIc, hId⟩ := Kd.R_slice eCg.out; subst hId) | ((with_reducible refine gate_callee (f := 43) rfl ?_); refine goesL_ (some 32) rfl rfl Try.func43 (by kernel_rfl) rfl #[.slice hIb fF8.length hIc] rfl xmp ?_; (with_reducible refine (bG.calls k1 _ _ fF8 dYy _ ?side1 ?side2 A15.out).mono ?_); (case side1 => repeat (first | exact (Kd.R_reads' eCg.out).2.2 | (with_reducible refine Kd.C_alloc ?_ _) | (with_reducible refine Kd.C_drewN ?_ _) | (with_reducible refine Kd.C_drew ?_))); (case side2 => exact (Kd.R_reads' eCg.out).2.1); rintro e w' ⟨rfl, ⟨nd, rfl⟩⟩; refine ⟨_, rfl, ?_⟩))
      go_ret
      exact ⟨xre, xq HB⟩
    rw [if_pos c6] at H
    have aWf : decide (iL < (dA.length : Int)) = true := decide_eq_true c6
    clear c6
    by_cases c7 : 0 ≤ iL
    rotate_left
    · rw [if_neg c7] at H
      exact absurd H (by simp)
    rw [if_pos c7] at H
    have bTm : decide (0 ≤ iL) = true := decide_eq_true c7
    clear c7
    replace H := Option.bind_eq_some_iff.mp H
    obtain ⟨cRn, A80, H⟩ := H
    replace H : (if cK.length + cRn.length < 140737488355328 then (aV.l0 k1 (cK ++ cRn) (wrap64 (iL + 1)) dP dA dZ) else (none)) = some r := H
    have A8 := aZ A80
    clear A80
    by_cases c9 : cK.length + cRn.length < 140737488355328
    rotate_left
    · rw [if_neg c9] at H
      exact absurd H (by simp)
    rw [if_pos c9] at H
    have hIf := aZ c9
    clear c9
    obtain ⟨fWv, dD4⟩ : ∃ y_ : List Int, y_ = (cK ++ cRn) := ⟨_, rfl⟩
    replace H : (aV.l0 k1 fWv (wrap64 (iL + 1)) dP dA dZ) = some r := by first | (rw [dD4]; with_reducible exact H) | (have qY := (Option.bind_some _ _).symm.trans H; rw [dD4]; with_reducible exact qY) | (have qY := (Option.bind_some _ _).symm.trans H; with_reducible exact qY) | with_reducible exact H | (rw [dD4]; exact H) | exact H
    have fWw := aZ dD4
    clear dD4
    have H' := aZ H
    clear H
    have aA3 : wr.cell? ⟨bLq, 0, none⟩ = some (.int .i64 dP) := (blk_cell aB6.out 0).trans rfl
    have bIv : wr.cell? ⟨bLq, 1, none⟩ = some (.slice nK dA.length mY) := (blk_cell aB6.out 1).trans rfl
    have bPl : wr.cell? ⟨bLq, 2, none⟩ = some (.slice mE dZ.length mF) := (blk_cell aB6.out 2).trans rfl
    have aA4 := blk_frozen aB6.out 0
    have bIw := blk_frozen aB6.out 1
    have bPm := blk_frozen aB6.out 2
    have fF9 : 0 ≤ (iL : Int) := of_decide_eq_true xas
    have fGa : iL < (dA.length : Int) := of_decide_eq_true xas
    obtain ⟨fWx, hIg, dP2⟩ := Kd.at_int aCl.out iL fF9 fGa
    cases hIg
    replace dP2 := xcl HB dP2
    replace fF9 := eq_true fF9
    replace fGa := eq_true fGa
    go_wp2_with (first | ((with_reducible refine gate_callee (f := 42) rfl ?_); refine goesL_ (some 26) rfl rfl Try.func42 (by kernel_rfl) rfl #[.int .i64 (rd dA iL)] rfl xmp ?_; (with_reducible refine (bI.calls k1 (rd dA iL) cRn _ A8.out).mono ?_); rintro e w11 ⟨iG3, rfl, gZ, hb⟩; refine ⟨_, rfl, ?_⟩; have dD5 := aZ (Kd.R_lower (Kd.R_new' gZ (Kd.R_lt (by (with_reducible repeat (first | apply Kd.rA | apply Kd.rN | apply Kd.rD)); exact nT.out))) (lZ (by repeat (first | (with_reducible first | exact HB.out | apply lA | apply lN | apply lD | refine lS ?_ cSp.out) | exact HB.out)))); replace nT := aZ (Kd.R_elder' (by (with_reducible repeat (first | apply Kd.rA | apply Kd.rN | apply Kd.rD)); exact nT.out) (Kd.R_base gZ) hb); replace aB6 := xbb aB6 hb; replace HB := xhl HB hb; (try clear hb); (try clear iV); (try clear hk); (try clear hi); (try clear gZ); obtain ⟨hIi, hIk, hIl⟩ := Kd.R_slice dD5.out; subst hIl) | ((with_reducible refine gate_builtin (b := .append) (xs := #[.tmp 20, .tmp 26]) rfl ?_); at_builtin; refine Kd.R_append_rows (Kd.int .u8) (w0 := w) w.heap.size rfl (.tmp 20) (.tmp 26) 26 5 (.int .u8 0) 1 rfl Try.underlying26 aFk rfl (by decide) (by omega) u3 cK cRn _ _ _ (fun k_ => some k_ ≠ (.slice hIi cRn.length hIk : Value).ownBlock) (fun _ => False) rfl rfl ?aO ?aR (fun _ _ h => h) (fun _ h => h.elim) ?aF ?aB ?aS ?aL ?_; (case aR => repeat (first | exact (Kd.R_reads' dD5.out).2.2 | (with_reducible refine Kd.C_alloc ?_ _) | (with_reducible refine Kd.C_drewN ?_ _) | (with_reducible refine Kd.C_drew ?_))); (case aB => exact (by repeat (first | (with_reducible first | exact HB.out | apply lA | apply lN | apply lD | refine lS ?_ cSp.out) | exact HB.out))); (case aF => exact (fun k_ hk => Kd.fresh' (Kd.R_lt (by (with_reducible repeat (first | apply Kd.rA | apply Kd.rN | apply Kd.rD)); exact dD5.out)) k_ hk)); (case aO => exact (by (with_reducible repeat (first | apply Kd.rA | apply Kd.rN | apply Kd.rD)); exact Kd.R_mono nT.out (fun _ hk => hk.2))); (case aS => exact (lZ (by repeat (first | (with_reducible first | exact HB.out | apply lA | apply lN | apply lD | refine lS ?_ cSp.out) | exact HB.out)))); (case aL => have := hIf.out; omega); intro iG4 w12 ho hb hg hat; rw [← fWw.out] at ho; replace aB6 := aZ (blk_grown (g := bLq) (o := .cells #[.int .i64 dP, .slice (some fWx) dA.length mY, .slice mE dZ.length mF] 44 (0, 0)) (xkq aB6) hg (Kd.R_ne nT.out aB6.out (by decide))); replace dD5 := aZ (Kd.R_after (ok := (fun _ => True)) (by (with_reducible repeat (first | apply Kd.rA | apply Kd.rN | apply Kd.rD)); exact dD5.out) hg hat); replace HB := aZ (hb); have fWy := aZ (ho); clear nT; clear ho hb hg hat))
    go_roundg k1
    case measure => have := yS.out; omega
    case rel => exact ⟨(fWv), (wrap64 (iL + 1)), xrs, H', ⟨by have := yS.out; omega⟩, ⟨by (with_reducible repeat (first | apply Kd.rA | apply Kd.rN | apply Kd.rD)); exact Kd.R_mono fWy.out (fun _ hk => trivial)⟩, xk aB6, xb HB⟩

end Go.Proofs.Ytnmkmamobhkcbaa.P
