/- Texts of the proofs of 10 statements: what the printed functions come to, plain laws, rows (no condition beyond the statements' own). -/
import Derived.Test.YtnmkmamobhkcbaaGP0
namespace Go.Proofs.Ytnmkmamobhkcbaa.P
open Go.RowKit Go.Proofs.YtnmkmamobhkcbaaW.PrintWords Go.Proofs.YtnmkmamobhkcbaaW.PrintLast Go.Proofs.YtnmkmamobhkcbaaW.PrintMore
attribute [local go_sem] max2_int min2_int max_two min_two max_three min_three max_four min_four   -- for this text's walks alone
set_option linter.unusedVariables false
set_option linter.unusedSimpArgs false
section
attribute [local go_sem high] bAt
mutual
def objects_Digest.l0 : Nat → List Int → List Int → Int → Int → Int → List Int → List Int → Option (Int × Int × Int)
  | 0, _, _, _, _, _, _, _ => none
  | k + 1, x5, x24, x25, x26, cJu, cJv, bPf => if x26 < x25 then (if 0 ≤ x26 then (if x26 < (x24.length : Int) then (objects_Digest.l1 k x5 (rd x24 x26) 56 x24 x25 x26 cJu cJv bPf) else (none)) else (none)) else (if x5.length + bPf.length < 140737488355328 then ((digest_Of.f k (x5 ++ bPf)).bind fun cMf => (some (cMf.1, cMf.2.1, cMf.2.2))) else (none))
def objects_Digest.l1 : Nat → List Int → Int → Int → List Int → Int → Int → Int → List Int → List Int → Option (Int × Int × Int)
  | 0, _, _, _, _, _, _, _, _, _ => none
  | k + 1, x5, x7, x8, x24, x25, x26, cJu, cJv, bPf => if x8 ≥ 0 then (if 0 ≤ x8 then (if x5.length < 140737488355328 then (objects_Digest.l1 k (x5 ++ [(shr .i64 x7 x8) % 256]) x7 (wrap64 (x8 - 8)) x24 x25 x26 cJu cJv bPf) else (none)) else (none)) else (objects_Digest.l0 k x5 x24 x25 (wrap64 (x26 + 1)) cJu cJv bPf)
end
def objects_Digest.f (k : Nat) (dP : Int) (dA : List Int) (dZ : List Int) : Option (Int × Int × Int) := (objects_check.f k dP dA dZ).bind fun bVq => (if (!(bVq.1 == 0) || (!(bVq.2 == 0))) = true then (some (0, bVq.1, bVq.2)) else (objects_Digest.l0 k (([(dP) % 256, ((dA.length : Int)) % 256] : List Int)) dA (dA.length : Int) 0 dP dA dZ))
theorem objects_Digest.mono_l : ∀ k, (∀ y0 y1 y2 y3 y4 y5 y6, LeO (objects_Digest.l0 k y0 y1 y2 y3 y4 y5 y6) (objects_Digest.l0 (k + 1) y0 y1 y2 y3 y4 y5 y6)) ∧ (∀ y0 y1 y2 y3 y4 y5 y6 y7 y8, LeO (objects_Digest.l1 k y0 y1 y2 y3 y4 y5 y6 y7 y8) (objects_Digest.l1 (k + 1) y0 y1 y2 y3 y4 y5 y6 y7 y8))
  | 0 => ⟨fun _ _ _ _ _ _ _ r h => by simp [objects_Digest.l0] at h, fun _ _ _ _ _ _ _ _ _ r h => by simp [objects_Digest.l1] at h⟩
  | k + 1 => by
    obtain ⟨mU, ih1⟩ := objects_Digest.mono_l k
    refine ⟨?_, ?_⟩
    all_goals intros; first | unfold objects_Digest.l0 | unfold objects_Digest.l1
    all_goals repeat' first | (with_reducible first | exact mU _ _ _ _ _ _ _ | exact ih1 _ _ _ _ _ _ _ _ _ | exact digest_Of.mono _ _ | exact objects_check.mono _ _ _ _ | exact LeO.refl _ | exact LeO.none _ | refine LeO.ite ?_ ?_ | refine LeO.bind ?_ (fun _ => ?_)) | exact mU _ _ _ _ _ _ _ | exact ih1 _ _ _ _ _ _ _ _ _ | exact digest_Of.mono _ _ | exact objects_check.mono _ _ _ _ | exact LeO.none _ | refine LeO.ite ?_ ?_ | refine LeO.bind ?_ (fun _ => ?_)
theorem objects_Digest.mono : ∀ a0 a1 a2 k, LeO (objects_Digest.f k a0 a1 a2) (objects_Digest.f (k + 1) a0 a1 a2) := by
  intro a0 a1 a2 k
  obtain ⟨mU, ih1⟩ := objects_Digest.mono_l k
  unfold objects_Digest.f
  repeat' first | (with_reducible first | exact mU _ _ _ _ _ _ _ | exact ih1 _ _ _ _ _ _ _ _ _ | exact digest_Of.mono _ _ | exact objects_check.mono _ _ _ _ | exact LeO.refl _ | exact LeO.none _ | refine LeO.ite ?_ ?_ | refine LeO.bind ?_ (fun _ => ?_)) | exact mU _ _ _ _ _ _ _ | exact ih1 _ _ _ _ _ _ _ _ _ | exact digest_Of.mono _ _ | exact objects_check.mono _ _ _ _ | exact LeO.none _ | refine LeO.ite ?_ ?_ | refine LeO.bind ?_ (fun _ => ?_)
set_option maxHeartbeats 8000000 in
set_option maxRecDepth 100000 in
theorem objects_Digest.calls (k : Nat) (dP : Int) (nK : Option Addr) (mY : Nat) (dA : List Int) (mE : Option Addr) (mF : Nat) (dZ : List Int) (r1 : Int) (r2 : Int) (r3 : Int) (w : World) (aFz : Kd.C (Kd.int .i64) w nK dA.length dA) (aFy : dA.length ≤ mY) (aD6 : Kd.C (Kd.int .u8) w mE dZ.length dZ) (aD5 : dZ.length ≤ mF) (h : objects_Digest.f k dP dA dZ = some (r1, r2, r3)) :
  Calls Try.prog 29 #[.agg #[.int .i64 dP, .slice nK dA.length mY, .slice mE dZ.length mF]] w fun e w' => e = .returned (.tuple #[.int .i64 r1, .agg #[.int .i64 r2, .int .i64 r3]]) ∧ Below w.heap.size w w' := by
  have aQf := Try.underlying44
  have aQg := Try.underlying28
  have aCl := aZ aFz
  have aIz := aZ aFy
  clear aFz aFy
  have aF0 := aZ aD6
  have aNm := aZ aD5
  clear aD6 aD5
  have HB := aZ (Below.refl w.heap.size w)
  have H : ((objects_check.f k dP dA dZ).bind fun bVq => (if (!(bVq.1 == 0) || (!(bVq.2 == 0))) = true then (some (0, bVq.1, bVq.2)) else (objects_Digest.l0 k (([(dP) % 256, ((dA.length : Int)) % 256] : List Int)) dA (dA.length : Int) 0 dP dA dZ))) = some (r1, r2, r3) := h
  clear h
  replace H := Option.bind_eq_some_iff.mp H
  obtain ⟨⟨bAx, bEa⟩, A20, H⟩ := H
  replace H : (if (!(bAx == 0) || (!(bEa == 0))) = true then (some (0, bAx, bEa)) else (objects_Digest.l0 k (([(dP) % 256, ((dA.length : Int)) % 256] : List Int)) dA (dA.length : Int) 0 dP dA dZ)) = some (r1, r2, r3) := H
  have A2 := aZ A20
  clear A20
  by_cases c3 : (!(bAx == 0) || (!(bEa == 0))) = true
  · rw [if_pos c3] at H
    have aNk : (!(bAx == 0) || (!(bEa == 0))) = true := c3
    clear c3
    simp only [Option.some.injEq, Prod.mk.injEq] at H
    obtain ⟨rfl, rfl, rfl⟩ := H
    go_enter Try.func29, Try.ntmps29
    try go_wp2_with (first | ((with_reducible refine gate_dst (N := 1) rfl ?_); refine box_event ?hg (N := 1) ?hd (cs := #[.int .i64 dP, .slice nK dA.length mY, .slice mE dZ.length mF]) (t := 44) ?hr ?_; (case hd => rfl); (case hg => rfl); (case hr => first | (go_simp; done) | (go_simp; rfl)); intro aNo hg w4 hbox hb; have nL := aZ (hbox); have fVv := xgh hg HB; have cSd := xgh hg HB; replace HB := xhl HB hb; clear hb hbox hg) | ((with_reducible refine gate_dst (N := 3) rfl ?_); refine box_event ?hg (N := 3) ?hd (cs := #[.int .i64 0, .int .i64 0]) (t := 28) ?hr ?_; (case hd => rfl); (case hg => rfl); (case hr => first | (go_simp; done) | (go_simp; rfl)); intro aWq hg w5 hbox hb; have vB := aZ (hbox); have fVw := xgh hg HB; have cSe := xgh hg HB; replace HB := xhl HB hb; have aYl := xnl hg nL; have aYm := xng hg nL; replace nL := xbb nL hb; clear hb hbox hg; have eP0 := aYl.out; have eP1 := aYm.out; have bD1 : w5.cell? ⟨aNo, 0, none⟩ = some (.int .i64 dP) := (blk_cell nL.out 0).trans rfl; have dJo : w5.cell? ⟨aNo, 1, none⟩ = some (.slice nK dA.length mY) := (blk_cell nL.out 1).trans rfl; have fFc : w5.cell? ⟨aNo, 2, none⟩ = some (.slice mE dZ.length mF) := (blk_cell nL.out 2).trans rfl; have bIr := blk_frozen nL.out 0; have dJp := blk_frozen nL.out 1; have fFd := blk_frozen nL.out 2) | ((with_reducible refine gate_callee (f := 46) rfl ?_); refine goesL_ (some 10) rfl rfl Try.func46 (by kernel_rfl) rfl #[.agg #[.int .i64 dP, .slice nK dA.length mY, .slice mE dZ.length mF]] rfl xmp ?_; (with_reducible refine (objects_check.calls k dP _ _ dA _ _ dZ bAx bEa _ ?side1 ?side2 ?side3 ?side4 A2.out).mono ?_); (case side1 => exact xcb aCl HB); (case side2 => exact aIz.out); (case side3 => exact xcb aF0 HB); (case side4 => exact aNm.out); rintro e w8 ⟨rfl, hb⟩; refine ⟨_, rfl, ?_⟩; replace nL := xbb nL hb; replace vB := xbb vB hb; replace HB := xhl HB hb; skip; (try clear hb); (try clear iV); (try clear hk); (try clear hi)) | ((with_reducible refine gate_dst (N := 4) rfl ?_); refine box_event ?hg (N := 4) ?hd (cs := #[.int .i64 0, .int .i64 0]) (t := 28) ?hr ?_; (case hd => rfl); (case hg => rfl); (case hr => first | (go_simp; done) | (go_simp; rfl)); intro aI1 hg w9 hbox hb; have aAu := aZ (hbox); have fVx := xgh hg HB; have cSf := xgh hg HB; replace HB := xhl HB hb; have bPg := xnl hg nL; have bPh := xng hg nL; replace nL := xbb nL hb; have aYn := xnl hg vB; have aGi := xng hg vB; replace vB := xbb vB hb; clear hb hbox hg; have dDc := bPh.out; have dDd := bPg.out; have bMj := aGi.out; have bMk := aYn.out; have aHh : w9.cell? ⟨aI1, 0, none⟩ = some (.int .i64 0) := (blk_cell aAu.out 0).trans rfl; have cVk : w9.cell? ⟨aI1, 1, none⟩ = some (.int .i64 0) := (blk_cell aAu.out 1).trans rfl; have aHi := blk_frozen aAu.out 0; have cVl := blk_frozen aAu.out 1))
    replace nL : Aside0 (((w9.setCell ⟨aI1, 0, none⟩ (.int .i64 bAx)).setCell ⟨aI1, 1, none⟩ (.int .i64 bEa)).heap[aNo]? = some (.cells #[.int .i64 dP, .slice nK dA.length mY, .slice mE dZ.length mF] 44 (0, 0))) := xk nL
    replace vB : Aside0 (((w9.setCell ⟨aI1, 0, none⟩ (.int .i64 bAx)).setCell ⟨aI1, 1, none⟩ (.int .i64 bEa)).heap[aWq]? = some (.cells #[.int .i64 0, .int .i64 0] 28 (0, 0))) := xk vB
    replace aAu : Aside0 (((w9.setCell ⟨aI1, 0, none⟩ (.int .i64 bAx)).setCell ⟨aI1, 1, none⟩ (.int .i64 bEa)).heap[aI1]? = some (.cells #[.int .i64 bAx, .int .i64 bEa] 28 (0, 0))) := ⟨by (with_reducible repeat (first | refine bN ?_ _ | refine bD ?_ | refine bA ?_ _)); refine blk_put (cs := #[.int .i64 bAx, .int .i64 0]) ?_ 1 _ rfl; (with_reducible repeat (first | refine bN ?_ _ | refine bD ?_ | refine bA ?_ _)); refine blk_put (cs := #[.int .i64 0, .int .i64 0]) ?_ 0 _ rfl; (with_reducible repeat (first | refine bN ?_ _ | refine bD ?_ | refine bA ?_ _)); exact aAu.out⟩
    replace HB : Aside0 (Below w.heap.size w ((w9.setCell ⟨aI1, 0, none⟩ (.int .i64 bAx)).setCell ⟨aI1, 1, none⟩ (.int .i64 bEa))) := xb HB
    generalize ((w9.setCell ⟨aI1, 0, none⟩ (.int .i64 bAx)).setCell ⟨aI1, 1, none⟩ (.int .i64 bEa)) = w13 at nL vB aAu HB ⊢
    replace nL := aZ (bD nL.out)
    replace vB := aZ (bD vB.out)
    replace aAu := aZ (bD aAu.out)
    replace HB := aZ (lD HB.out)
    refine start_ (n := 3) (S := fun w' => w'.cell? ⟨aI1, 0, none⟩ = some (.int .i64 bAx) ∧ w'.cell? ⟨aI1, 1, none⟩ = some (.int .i64 bEa)) (ds := []) #[false, false, false] (by kernel_rfl) rfl rfl ⟨(blk_cell aAu.out 0).trans rfl, (blk_cell aAu.out 1).trans rfl⟩ (fun hHeld => ?_)
    generalize w13.drew = w14 at nL vB aAu HB hHeld ⊢
    refine pure_ (i := 1) (N := some 2) (v := ?_) (a' := ?_) #[false, true, false] rfl rfl (by kernel_rfl) (fun _ _ _ h => h) (Or.inl ⟨by rfl, ?_⟩) ?_ ?_
    rotate_left
    · intro w'
      go_simp
      with_reducible rfl
    rotate_left
    · simp only [Act.put, List.setIfInBounds_toArray, List.set_cons_zero, List.set_cons_succ, i64_w, i32_w]
      rfl
    refine take_ (i := 0) (N := some 14) (v := ?_) (a' := ?_) #[true, true, false] rfl rfl (by kernel_rfl) (fun _ _ _ h => h) (Or.inl ⟨by rfl, ?_⟩) hHeld ?_ ?_
    rotate_left
    · rintro w' ⟨s0, s1⟩
      go_simp
      with_reducible rfl
    rotate_left
    · simp only [Act.put, List.setIfInBounds_toArray, List.set_cons_zero, List.set_cons_succ, i64_w, i32_w]
      rfl
    refine one_ (i := 2) (N := none) #[true, true, true] rfl rfl (by kernel_rfl) (by decide) (fun K hK => ?_)
    have fVy : w14.cell? ⟨aWq, 0, none⟩ = some (.int .i64 0) := (blk_cell vB.out 0).trans rfl
    have eZ0 := blk_frozen vB.out 0
    have eP2 := aYl.out
    have dPb := aGi.out
    have eP3 := aYm.out
    have dPc := aYn.out
    have fFe : w14.cell? ⟨aWq, 1, none⟩ = some (.int .i64 0) := (blk_cell vB.out 1).trans rfl
    have eBz := blk_frozen vB.out 1
    have dPd := aYl.out
    have cVm := aGi.out
    have dPe := aYm.out
    have cVn := aYn.out
    refine skip_ (w1 := ?_) (by rfl) rfl ?_ ?_
    rotate_left
    · go_simp
      rfl
    refine hK.out _ _ ⟨((cell_far (p := ⟨aWq, _, none⟩) aGi.out _).trans (((cell_far (p := ⟨aWq, _, none⟩) aGi.out _).trans (hHeld.1)))), ((cell_far (p := ⟨aWq, _, none⟩) aGi.out _).trans (((cell_far (p := ⟨aWq, _, none⟩) aGi.out _).trans (hHeld.2))))⟩ (fun hHeld => ?_)
    clear hK K
    refine done_ (by kernel_rfl) ?_
    try go_wp2
    refine bodyPost_ret (results_tc rfl _ _ aWq 28 #[.int .i64 bAx, .int .i64 bEa] (0, 0) _ rfl (by (with_reducible repeat (first | refine bN ?_ _ | refine bD ?_ | refine bA ?_ _)); refine blk_put (cs := #[.int .i64 bAx, .int .i64 0]) ?_ 1 _ rfl; (with_reducible repeat (first | refine bN ?_ _ | refine bD ?_ | refine bA ?_ _)); refine blk_put (cs := #[.int .i64 0, .int .i64 0]) ?_ 0 _ rfl; (with_reducible repeat (first | refine bN ?_ _ | refine bD ?_ | refine bA ?_ _)); exact vB.out) Try.underlying28 rfl (by kernel_rfl)) rfl ?_
    exact ⟨xre, xq HB⟩
  rw [if_neg c3] at H
  have aNk : (!(bAx == 0) || (!(bEa == 0))) = false := by simpa using c3
  clear c3
  obtain ⟨fVz, dDe⟩ : ∃ y_ : List Int, y_ = (([(dP) % 256, ((dA.length : Int)) % 256] : List Int)) := ⟨_, rfl⟩
  replace H : (objects_Digest.l0 k fVz dA (dA.length : Int) 0 dP dA dZ) = some (r1, r2, r3) := by first | (rw [dDe]; with_reducible exact H) | (have qY := (Option.bind_some _ _).symm.trans H; rw [dDe]; with_reducible exact qY) | (have qY := (Option.bind_some _ _).symm.trans H; with_reducible exact qY) | with_reducible exact H | (rw [dDe]; exact H) | exact H
  have eZ1 := aZ dDe
  clear dDe
  have H' := aZ H
  clear H
  go_enter Try.func29, Try.ntmps29
  go_wp2_with (first | ((with_reducible refine gate_dst (N := 1) rfl ?_); refine box_event ?hg (N := 1) ?hd (cs := #[.int .i64 dP, .slice nK dA.length mY, .slice mE dZ.length mF]) (t := 44) ?hr ?_; (case hd => rfl); (case hg => rfl); (case hr => first | (go_simp; done) | (go_simp; rfl)); intro aNo hg w17 hbox hb; have nL := aZ (hbox); have fVv := xgh hg HB; have cSd := xgh hg HB; replace HB := xhl HB hb; clear hb hbox hg) | ((with_reducible refine gate_dst (N := 3) rfl ?_); refine box_event ?hg (N := 3) ?hd (cs := #[.int .i64 0, .int .i64 0]) (t := 28) ?hr ?_; (case hd => rfl); (case hg => rfl); (case hr => first | (go_simp; done) | (go_simp; rfl)); intro aWq hg w18 hbox hb; have vB := aZ (hbox); have fVw := xgh hg HB; have cSe := xgh hg HB; replace HB := xhl HB hb; have aYl := xnl hg nL; have aYm := xng hg nL; replace nL := xbb nL hb; clear hb hbox hg; have bMh := aYl.out; have bMi := aYm.out; have aJw : w18.cell? ⟨aNo, 0, none⟩ = some (.int .i64 dP) := (blk_cell nL.out 0).trans rfl; have aW4 : w18.cell? ⟨aNo, 1, none⟩ = some (.slice nK dA.length mY) := (blk_cell nL.out 1).trans rfl; have cJw : w18.cell? ⟨aNo, 2, none⟩ = some (.slice mE dZ.length mF) := (blk_cell nL.out 2).trans rfl; have aJx := blk_frozen nL.out 0; have aW5 := blk_frozen nL.out 1; have cJx := blk_frozen nL.out 2) | ((with_reducible refine gate_callee (f := 46) rfl ?_); refine goesL_ (some 10) rfl rfl Try.func46 (by kernel_rfl) rfl #[.agg #[.int .i64 dP, .slice nK dA.length mY, .slice mE dZ.length mF]] rfl xmp ?_; (with_reducible refine (objects_check.calls k dP _ _ dA _ _ dZ bAx bEa _ ?side1 ?side2 ?side3 ?side4 A2.out).mono ?_); (case side1 => exact xcb aCl HB); (case side2 => exact aIz.out); (case side3 => exact xcb aF0 HB); (case side4 => exact aNm.out); rintro e w21 ⟨rfl, hb⟩; refine ⟨_, rfl, ?_⟩; replace nL := xbb nL hb; replace vB := xbb vB hb; replace HB := xhl HB hb; skip; (try clear hb); (try clear iV); (try clear hk); (try clear hi)) | ((with_reducible refine gate_dst (N := 4) rfl ?_); refine box_event ?hg (N := 4) ?hd (cs := #[.int .i64 0, .int .i64 0]) (t := 28) ?hr ?_; (case hd => rfl); (case hg => rfl); (case hr => first | (go_simp; done) | (go_simp; rfl)); intro aI1 hg w22 hbox hb; have aAu := aZ (hbox); have fVx := xgh hg HB; have cSf := xgh hg HB; replace HB := xhl HB hb; have bPg := xnl hg nL; have bPh := xng hg nL; replace nL := xbb nL hb; have aYn := xnl hg vB; have aGi := xng hg vB; replace vB := xbb vB hb; clear hb hbox hg; have bMl := bPh.out; have bMm := bPg.out; have cG3 := aGi.out; have cG4 := aYn.out; have bPi : w22.cell? ⟨aI1, 0, none⟩ = some (.int .i64 0) := (blk_cell aAu.out 0).trans rfl; have cJz : w22.cell? ⟨aI1, 1, none⟩ = some (.int .i64 0) := (blk_cell aAu.out 1).trans rfl; have bPj := blk_frozen aAu.out 0; have cJ0 := blk_frozen aAu.out 1; have aN4 : w22.cell? ⟨aNo, 0, none⟩ = some (.int .i64 dP) := (blk_cell nL.out 0).trans rfl; have bCa : w22.cell? ⟨aNo, 1, none⟩ = some (.slice nK dA.length mY) := (blk_cell nL.out 1).trans rfl; have cVo : w22.cell? ⟨aNo, 2, none⟩ = some (.slice mE dZ.length mF) := (blk_cell nL.out 2).trans rfl; have aN5 := blk_frozen nL.out 0; have bCb := blk_frozen nL.out 1; have cVp := blk_frozen nL.out 2) | ((with_reducible refine gate_dst (N := 22) rfl ?_); refine Kd.R_lit (Kd.int .u8) _ 5 ?hg (N := 22) ?hd (xs := ([(dP) % 256, ((dA.length : Int)) % 256] : List Int)) (inner := [.int .u8 ((dP) % 256), .int .u8 (((dA.length : Int)) % 256)]) (ok := fun _ => True) (okp := fun _ => True) ?hr ?hp (fun _ hk => hk) trivial (Below.refl _ _) (Nat.le_refl _) (by simp) ?_; (case hd => rfl); (case hg => rfl); (case hr => first | (go_simp; done) | (go_simp; rfl)); (case hp => exact (Reps.one (show Kd.M (Kd.int .u8) _ _ _ ((dP) % 256) [.int .u8 ((dP) % 256)] from rfl) (Reps.one (show Kd.M (Kd.int .u8) _ _ _ (((dA.length : Int)) % 256) [.int .u8 (((dA.length : Int)) % 256)] from rfl) (Reps.none _ _)))); intro iGp w27 cMg hb hg_ hnew_; clear hg_ hnew_; (first | rw [← eZ1.out] at cMg | (simp only [Int.reduceToNat] at cMg; rw [← eZ1.out] at cMg)); have fV0 := aZ (Kd.R_lower cMg (lZ (by repeat (first | (with_reducible first | exact HB.out | apply lA | apply lN | apply lD | refine lS ?_ cSd.out | refine lS ?_ cSe.out | refine lS ?_ cSf.out) | exact HB.out)))); replace nL := xbb nL hb; replace vB := xbb vB hb; replace aAu := aZ (blk_below (g := aI1) (o := .cells #[.int .i64 bAx, .int .i64 bEa] 28 (0, 0)) (by (with_reducible repeat (first | refine bN ?_ _ | refine bD ?_ | refine bA ?_ _)); refine blk_put (cs := #[.int .i64 bAx, .int .i64 0]) ?_ 1 _ rfl; (with_reducible repeat (first | refine bN ?_ _ | refine bD ?_ | refine bA ?_ _)); refine blk_put (cs := #[.int .i64 0, .int .i64 0]) ?_ 0 _ rfl; (with_reducible repeat (first | refine bN ?_ _ | refine bD ?_ | refine bA ?_ _)); exact aAu.out) hb); replace HB := xhl HB hb; clear hb cMg; have bIs : w27.cell? ⟨aNo, 0, none⟩ = some (.int .i64 dP) := (blk_cell nL.out 0).trans rfl; have bVr : w27.cell? ⟨aNo, 1, none⟩ = some (.slice nK dA.length mY) := (blk_cell nL.out 1).trans rfl; have cVq : w27.cell? ⟨aNo, 2, none⟩ = some (.slice mE dZ.length mF) := (blk_cell nL.out 2).trans rfl; have bIt := blk_frozen nL.out 0; have bVs := blk_frozen nL.out 1; have cVr := blk_frozen nL.out 2))
  go_loopg [5, 26] k (fun kq v5 v26 w' => ∃ (dC : List Int) (aI2 : Int), v26 = .int .i64 aI2 ∧ Aside0 (objects_Digest.l0 kq dC dA (dA.length : Int) aI2 dP dA dZ = some (r1, r2, r3)) ∧ Aside0 (kq ≤ k) ∧ Aside0 (Kd.R (Kd.int .u8) 5 w' w.heap.size (fun _ => True) v5 dC) ∧ Aside0 (w'.heap[aNo]? = some (.cells #[.int .i64 dP, (.slice nK dA.length mY), (.slice mE dZ.length mF)] 44 (0, 0))) ∧ Aside0 (w'.heap[aWq]? = some (.cells #[.int .i64 0, .int .i64 0] 28 (0, 0))) ∧ Aside0 (w'.heap[aI1]? = some (.cells #[.int .i64 bAx, .int .i64 bEa] 28 (0, 0))) ∧ Aside0 (Below w.heap.size w w'))
  case atStart => exact ⟨(fVz), (0), xrs, H', ⟨Nat.le_refl _⟩, ⟨by (with_reducible repeat (first | apply Kd.rA | apply Kd.rN | apply Kd.rD)); exact fV0.out⟩, xk nL, xk vB, xk aAu, xb HB⟩
  case round =>
   clear H'
   (try clear c3); (try clear aNk); (try clear aJw); (try clear aW4); (try clear cJw); (try clear bPi); (try clear cJz); (try clear aN4); (try clear bCa); (try clear cVo); (try clear bIs); (try clear bVr); (try clear cVq); (try clear aJx); (try clear aW5); (try clear cJx); (try clear bPj); (try clear cJ0); (try clear aN5); (try clear bCb); (try clear cVp); (try clear bIt); (try clear bVs); (try clear cVr)
   obtain ⟨dC, aI2, rfl, HA, yS, gJ, nL, vB, aAu, HB⟩ := hrel
   cases gk with
   | zero => exact absurd HA.out (by simp [objects_Digest.l0])
   | succ k1 =>
    have H := HA.out
    clear HA
    simp only [objects_Digest.l0] at H
    by_cases c30 : aI2 < (dA.length : Int)
    rotate_left
    · rw [if_neg c30] at H
      have cSg : decide (aI2 < (dA.length : Int)) = false := decide_eq_false c30
      clear c30
      by_cases c38 : dC.length + dZ.length < 140737488355328
      rotate_left
      · rw [if_neg c38] at H
        exact absurd H (by simp)

      rw [if_pos c38] at H
      have fV1 := aZ c38
      clear c38
      obtain ⟨fFf, dDg⟩ : ∃ y_ : List Int, y_ = (dC ++ dZ) := ⟨_, rfl⟩
      replace H : ((digest_Of.f k1 fFf).bind fun cMf => (some (cMf.1, cMf.2.1, cMf.2.2))) = some (r1, r2, r3) := by first | (rw [dDg]; with_reducible exact H) | (have qY := (Option.bind_some _ _).symm.trans H; rw [dDg]; with_reducible exact qY) | (have qY := (Option.bind_some _ _).symm.trans H; with_reducible exact qY) | with_reducible exact H | (rw [dDg]; exact H) | exact H
      have fV2 := aZ dDg
      clear dDg
      replace H := Option.bind_eq_some_iff.mp H
      obtain ⟨⟨fV3, eP4, fFg⟩, dDh, H⟩ := H
      replace H : (some (fV3, eP4, fFg)) = some (r1, r2, r3) := H
      have A39 := aZ dDh
      clear dDh
      simp only [Option.some.injEq, Prod.mk.injEq] at H
      obtain ⟨rfl, rfl, rfl⟩ := H
      have cMh := aYl.out
      have cMi := aYm.out
      have cMj := bPg.out
      have cMk := bPh.out
      have cU8 : wr.cell? ⟨aNo, 0, none⟩ = some (.int .i64 dP) := (blk_cell nL.out 0).trans rfl
      have cU9 : wr.cell? ⟨aNo, 1, none⟩ = some (.slice nK dA.length mY) := (blk_cell nL.out 1).trans rfl
      have dOv : wr.cell? ⟨aNo, 2, none⟩ = some (.slice mE dZ.length mF) := (blk_cell nL.out 2).trans rfl
      have cVa := blk_frozen nL.out 0
      have cVb := blk_frozen nL.out 1
      have dOw := blk_frozen nL.out 2
      go_wp2_with (first | ((with_reducible refine gate_builtin (b := .append) (xs := #[.tmp 42, .tmp 44]) rfl ?_); at_builtin; refine Kd.R_append_rows (Kd.int .u8) (w0 := w) w.heap.size rfl (.tmp 42) (.tmp 44) 26 5 (.int .u8 0) 1 rfl Try.underlying26 aFk rfl (by decide) (by omega) u5 dC dZ _ _ _ (fun _ => True) (fun _ => False) rfl rfl ?aO ?aR (fun _ _ h => h) (fun _ h => h.elim) ?aF ?aB ?aS ?aL ?_; (case aR => exact xcb aF0 HB); (case aB => exact (by repeat (first | (with_reducible first | exact HB.out | apply lA | apply lN | apply lD | refine lS ?_ cSd.out | refine lS ?_ cSe.out | refine lS ?_ cSf.out) | exact HB.out))); (case aF => exact (fun _ _ => trivial)); (case aO => exact (by (with_reducible repeat (first | apply Kd.rA | apply Kd.rN | apply Kd.rD)); exact gJ.out)); (case aS => exact (lZ (by repeat (first | (with_reducible first | exact HB.out | apply lA | apply lN | apply lD | refine lS ?_ cSd.out | refine lS ?_ cSe.out | refine lS ?_ cSf.out) | exact HB.out)))); (case aL => have := fV1.out; omega); intro iGr w43 ho hb hg hat; rw [← fV2.out] at ho; replace nL := aZ (blk_grown (g := aNo) (o := .cells #[.int .i64 dP, .slice nK dA.length mY, .slice mE dZ.length mF] 44 (0, 0)) (xkq nL) hg (Kd.R_ne gJ.out nL.out (by decide))); replace vB := aZ (blk_grown (g := aWq) (o := .cells #[.int .i64 0, .int .i64 0] 28 (0, 0)) (xkq vB) hg (Kd.R_ne gJ.out vB.out (by decide))); replace aAu := aZ (blk_grown (g := aI1) (o := .cells #[.int .i64 bAx, .int .i64 bEa] 28 (0, 0)) (xkq aAu) hg (Kd.R_ne gJ.out aAu.out (by decide))); replace HB := aZ (hb); have dDi := aZ (ho); clear gJ; clear ho hb hg hat; obtain ⟨fV4, fV5, fFi⟩ := Kd.R_slice dDi.out; subst fFi) | ((with_reducible refine gate_callee (f := 40) rfl ?_); refine goesL_ (some 46) rfl rfl Try.func40 (by kernel_rfl) rfl #[.slice fV4 fFf.length fV5] rfl xmp ?_; (with_reducible refine (digest_Of.calls k1 _ _ fFf fV3 eP4 fFg _ ?side1 ?side2 A39.out).mono ?_); (case side1 => repeat (first | exact (Kd.R_reads' dDi.out).2.2 | (with_reducible refine Kd.C_alloc ?_ _) | (with_reducible refine Kd.C_drewN ?_ _) | (with_reducible refine Kd.C_drew ?_))); (case side2 => exact (Kd.R_reads' dDi.out).2.1); rintro e w45 ⟨rfl, hb⟩; refine ⟨_, rfl, ?_⟩; replace dDi := xR dDi hb; replace nL := xbb nL hb; replace vB := xbb vB hb; replace aAu := xbb aAu hb; replace HB := xhl HB hb; (try clear hb); (try clear iV); (try clear hk); (try clear hi); have dDj := aYn.out; have dDk := aGi.out; have bIl : w45.cell? ⟨aWq, 0, none⟩ = some (.int .i64 0) := (blk_cell vB.out 0).trans rfl; have cVc : w45.cell? ⟨aWq, 1, none⟩ = some (.int .i64 0) := (blk_cell vB.out 1).trans rfl; have bIm := blk_frozen vB.out 0; have cVd := blk_frozen vB.out 1))
      refine bodyPost_ret (results_tc rfl _ _ aWq 28 #[.int .i64 eP4, .int .i64 fFg] (0, 0) _ rfl (by (with_reducible repeat (first | refine bN ?_ _ | refine bD ?_ | refine bA ?_ _)); refine blk_put (cs := #[.int .i64 eP4, .int .i64 0]) ?_ 1 _ rfl; (with_reducible repeat (first | refine bN ?_ _ | refine bD ?_ | refine bA ?_ _)); refine blk_put (cs := #[.int .i64 0, .int .i64 0]) ?_ 0 _ rfl; (with_reducible repeat (first | refine bN ?_ _ | refine bD ?_ | refine bA ?_ _)); exact vB.out) Try.underlying28 rfl (by kernel_rfl)) rfl ?_
      exact ⟨xre, xq HB⟩
    rw [if_pos c30] at H
    have cSg : decide (aI2 < (dA.length : Int)) = true := decide_eq_true c30
    clear c30
    by_cases c31 : 0 ≤ aI2
    rotate_left
    · rw [if_neg c31] at H
      exact absurd H (by simp)
    rw [if_pos c31] at H
    have bVt : decide (0 ≤ aI2) = true := decide_eq_true c31
    clear c31
    by_cases c32 : aI2 < (dA.length : Int)
    rotate_left
    · rw [if_neg c32] at H
      exact absurd H (by simp)
    rw [if_pos c32] at H
    have dDl : decide (aI2 < (dA.length : Int)) = true := decide_eq_true c32
    clear c32
    have H' := aZ H
    clear H
    have eP5 : 0 ≤ (aI2 : Int) := of_decide_eq_true xas
    have eP6 : aI2 < (dA.length : Int) := of_decide_eq_true xas
    obtain ⟨eZ2, hG7, cVs⟩ := Kd.at_int aCl.out aI2 eP5 eP6
    cases hG7
    replace cVs := xcl HB cVs
    replace eP5 := eq_true eP5
    replace eP6 := eq_true eP6
    go_wp2
    go_loopg [5, 8] k1 (fun kq v5 v8 w' => ∃ (lX : List Int) (aN : Int), v8 = .int .i64 aN ∧ Aside0 (objects_Digest.l1 kq lX (rd dA aI2) aN dA (dA.length : Int) aI2 dP dA dZ = some (r1, r2, r3)) ∧ Aside0 (kq ≤ k1) ∧ Aside0 (Kd.R (Kd.int .u8) 5 w' w.heap.size (fun _ => True) v5 lX) ∧ Aside0 (w'.heap[aNo]? = some (.cells #[.int .i64 dP, (.slice (some eZ2) dA.length mY), (.slice mE dZ.length mF)] 44 (0, 0))) ∧ Aside0 (w'.heap[aWq]? = some (.cells #[.int .i64 0, .int .i64 0] 28 (0, 0))) ∧ Aside0 (w'.heap[aI1]? = some (.cells #[.int .i64 bAx, .int .i64 bEa] 28 (0, 0))) ∧ Aside0 (Below w.heap.size w w'))
    case atStart => exact ⟨(dC), (56), xrs, H', ⟨Nat.le_refl _⟩, ⟨by (with_reducible repeat (first | apply Kd.rA | apply Kd.rN | apply Kd.rD)); exact gJ.out⟩, xk nL, xk vB, xk aAu, xb HB⟩
    case round =>
     clear H'
     (try clear c30); (try clear cSg); (try clear c31); (try clear bVt); (try clear c32); (try clear dDl); (try clear cVs); (try clear eP5); (try clear eP6)
     obtain ⟨lX, aN, rfl, HA, HK2, gJ, nL, vB, aAu, HB⟩ := hrel
     cases gk with
     | zero => exact absurd HA.out (by simp [objects_Digest.l1])
     | succ k2 =>
      have H := HA.out
      clear HA
      simp only [objects_Digest.l1] at H
      by_cases c33 : aN ≥ 0
      rotate_left
      · rw [if_neg c33] at H
        have bEb : decide (0 ≤ aN) = false := decide_eq_false c33
        clear c33
        have H' := aZ H
        clear H
        go_wp2
        go_roundg k2
        case measure => have := yS.out; have := HK2.out; omega
        case rel => exact ⟨(lX), (wrap64 (aI2 + 1)), xrs, H', ⟨by have := yS.out; have := HK2.out; omega⟩, ⟨by (with_reducible repeat (first | apply Kd.rA | apply Kd.rN | apply Kd.rD)); exact gJ.out⟩, xk nL, xk vB, xk aAu, xb HB⟩
      rw [if_pos c33] at H
      have bEb : decide (0 ≤ aN) = true := decide_eq_true c33
      clear c33
      by_cases c34 : 0 ≤ aN
      rotate_left
      · rw [if_neg c34] at H
        exact absurd H (by simp)
      rw [if_pos c34] at H
      have dDm := eq_true c34
      have iAy : decide (0 ≤ aN) = true := decide_eq_true c34
      clear c34
      obtain ⟨dYt, dPf⟩ : ∃ j_ : Int, (shr .i64 (rd dA aI2) aN) = j_ := ⟨_, rfl⟩
      replace H : (if lX.length < 140737488355328 then (objects_Digest.l1 k2 (lX ++ [(dYt) % 256]) (rd dA aI2) (wrap64 (aN - 8)) dA (dA.length : Int) aI2 dP dA dZ) else (none)) = some (r1, r2, r3) := by first | (rw [dPf] at H; exact H) | (simp only [dPf] at H ⊢; exact H)
      have hG8 : ((rd dA aI2) / 2 ^ min aN.toNat 64) = dYt := dPf
      have hG9 : aN ≤ 64 → ((rd dA aI2) / 2 ^ aN.toNat) = dYt := shr_small dPf
      by_cases c36 : lX.length < 140737488355328
      rotate_left
      · rw [if_neg c36] at H
        exact absurd H (by simp)
      rw [if_pos c36] at H
      have fV6 := aZ c36
      clear c36
      obtain ⟨fV7, dDn⟩ : ∃ y_ : List Int, y_ = (lX ++ [(dYt) % 256]) := ⟨_, rfl⟩
      replace H : (objects_Digest.l1 k2 fV7 (rd dA aI2) (wrap64 (aN - 8)) dA (dA.length : Int) aI2 dP dA dZ) = some (r1, r2, r3) := by first | (rw [dDn]; with_reducible exact H) | (have qY := (Option.bind_some _ _).symm.trans H; rw [dDn]; with_reducible exact qY) | (have qY := (Option.bind_some _ _).symm.trans H; with_reducible exact qY) | with_reducible exact H | (rw [dDn]; exact H) | exact H
      have fV8 := aZ dDn
      clear dDn
      have H' := aZ H
      clear H
      go_wp2_with (first | ((with_reducible refine gate_builtin (b := .append) (xs := #[.tmp 34, .tmp 39]) rfl ?_); at_builtin; refine Kd.R_append (Kd.int .u8) (w0 := w) w.heap.size rfl (.tmp 34) (.tmp 39) 26 5 (.int .u8 0) 1 rfl Try.underlying26 aFk rfl (by decide) (by omega) u5 lX ((dYt) % 256) [.int .u8 ((dYt) % 256)] (fun _ => True) (fun _ => False) rfl rfl ?aP (fun _ hk => hk.elim) ?aF ?aO ?aB ?aS ?aL ?_; (case aP => exact rfl); (case aB => exact (by repeat (first | (with_reducible first | exact HB.out | apply lA | apply lN | apply lD | refine lS ?_ cSd.out | refine lS ?_ cSe.out | refine lS ?_ cSf.out) | exact HB.out))); (case aF => exact (fun _ _ => trivial)); (case aO => exact (by (with_reducible repeat (first | apply Kd.rA | apply Kd.rN | apply Kd.rD)); exact gJ.out)); (case aS => exact (lZ (by repeat (first | (with_reducible first | exact HB.out | apply lA | apply lN | apply lD | refine lS ?_ cSd.out | refine lS ?_ cSe.out | refine lS ?_ cSf.out) | exact HB.out)))); (case aL => have := fV6.out; omega); intro iGs w37 ho hb hg hat; rw [← fV8.out] at ho; replace nL := aZ (blk_grown (g := aNo) (o := .cells #[.int .i64 dP, .slice (some eZ2) dA.length mY, .slice mE dZ.length mF] 44 (0, 0)) (xkq nL) hg (Kd.R_ne gJ.out nL.out (by decide))); replace vB := aZ (blk_grown (g := aWq) (o := .cells #[.int .i64 0, .int .i64 0] 28 (0, 0)) (xkq vB) hg (Kd.R_ne gJ.out vB.out (by decide))); replace aAu := aZ (blk_grown (g := aI1) (o := .cells #[.int .i64 bAx, .int .i64 bEa] 28 (0, 0)) (xkq aAu) hg (Kd.R_ne gJ.out aAu.out (by decide))); replace HB := aZ (hb); have fV9 := aZ (ho); clear gJ; clear ho hb hg hat))
      go_roundg k2
      case measure => have := yS.out; have := HK2.out; omega
      case rel => exact ⟨(fV7), (wrap64 (aN - 8)), xrs, H', ⟨by have := yS.out; have := HK2.out; omega⟩, ⟨by (with_reducible repeat (first | apply Kd.rA | apply Kd.rN | apply Kd.rD)); exact fV9.out⟩, xk nL, xk vB, xk aAu, xb HB⟩
end
section
attribute [local go_sem high] bAt
def objects_Validate.l0 : Nat → List (fB) → Int → Int → List (fB) → Option (Int × Int)
  | 0, _, _, _, _ => none
  | k + 1, x13, x14, x15, cKu => if x15 < x14 then (if 0 ≤ x15 then (if x15 < (x13.length : Int) then ((objects_Digest.f k ((aA x13 x15).f1.f0) ((aA x13 x15).f1.f1) ((aA x13 x15).f1.f2)).bind fun dFa => (if (!(dFa.2.1 == 0) || (!(dFa.2.2 == 0))) = true then (some (dFa.2.1, x15)) else (if dFa.1 = ((aA x13 x15).f0) then (if x15 > 0 then (if 0 ≤ (wrap64 (x15 - 1)) then (if (wrap64 (x15 - 1)) < (cKu.length : Int) then (if ((aA cKu (wrap64 (x15 - 1))).f0) ≥ dFa.1 then (some (5, x15)) else (objects_Validate.l0 k x13 x14 (wrap64 (x15 + 1)) cKu)) else (none)) else (none)) else (objects_Validate.l0 k x13 x14 (wrap64 (x15 + 1)) cKu)) else (some (18, x15))))) else (none)) else (none)) else (some (0, 0))
def objects_Validate.f (k : Nat) (aD : List (fB)) : Option (Int × Int) := if (aD.length : Int) > 40 then (some (2, 0)) else (objects_Validate.l0 k aD (aD.length : Int) 0 aD)
theorem objects_Validate.mono_l : ∀ k, (∀ y0 y1 y2 y3, LeO (objects_Validate.l0 k y0 y1 y2 y3) (objects_Validate.l0 (k + 1) y0 y1 y2 y3))
  | 0 => fun _ _ _ _ r h => by simp [objects_Validate.l0] at h
  | k + 1 => by
    have mU := objects_Validate.mono_l k
    · intro y0 y1 y2 y3
      unfold objects_Validate.l0
      repeat' first | (with_reducible first | exact mU _ _ _ _ | exact objects_Digest.mono _ _ _ _ | exact LeO.refl _ | exact LeO.none _ | refine LeO.ite ?_ ?_ | refine LeO.bind ?_ (fun _ => ?_)) | exact mU _ _ _ _ | exact objects_Digest.mono _ _ _ _ | exact LeO.none _ | refine LeO.ite ?_ ?_ | refine LeO.bind ?_ (fun _ => ?_)
theorem objects_Validate.mono : ∀ a0 k, LeO (objects_Validate.f k a0) (objects_Validate.f (k + 1) a0) := by
  intro a0 k
  have mU := objects_Validate.mono_l k
  unfold objects_Validate.f
  repeat' first | (with_reducible first | exact mU _ _ _ _ | exact objects_Digest.mono _ _ _ _ | exact LeO.refl _ | exact LeO.none _ | refine LeO.ite ?_ ?_ | refine LeO.bind ?_ (fun _ => ?_)) | exact mU _ _ _ _ | exact objects_Digest.mono _ _ _ _ | exact LeO.none _ | refine LeO.ite ?_ ?_ | refine LeO.bind ?_ (fun _ => ?_)
set_option maxHeartbeats 8000000 in
set_option maxRecDepth 100000 in
theorem objects_Validate.calls (k : Nat) (bP : Option Addr) (bK : Nat) (aD : List (fB)) (r1 : Int) (r2 : Int) (w : World) (mZ : Kd.C qL w bP aD.length aD) (nA : aD.length ≤ bK) (h : objects_Validate.f k aD = some (r1, r2)) :
  Calls Try.prog 32 #[.agg #[.slice bP aD.length bK]] w fun e w' => e = .returned (.agg #[.int .i64 r1, .int .i64 r2]) ∧ Below w.heap.size w w' := by
  have aP7 := Try.underlying24
  have aQg := Try.underlying28
  have cRq := Try.underlying46
  have aQf := Try.underlying44
  have fI := aZ mZ
  have lC := aZ nA
  clear mZ nA
  have HB := aZ (Below.refl w.heap.size w)
  have H : (if (aD.length : Int) > 40 then (some (2, 0)) else (objects_Validate.l0 k aD (aD.length : Int) 0 aD)) = some (r1, r2) := h
  clear h
  by_cases c2 : (aD.length : Int) > 40
  · rw [if_pos c2] at H
    have aW6 : decide (40 < (aD.length : Int)) = true := decide_eq_true c2
    have bEc : decide (40 < aD.length) = true := decide_eq_true (by omega)
    clear c2
    simp only [Option.some.injEq, Prod.mk.injEq] at H
    obtain ⟨rfl, rfl⟩ := H
    go_enter Try.func32, Try.ntmps32
    go_wp2_with (first | ((with_reducible refine gate_dst (N := 1) rfl ?_); refine box_event ?hg (N := 1) ?hd (cs := #[.slice bP aD.length bK]) (t := 24) ?hr ?_; (case hd => rfl); (case hg => rfl); (case hr => first | (go_simp; done) | (go_simp; rfl)); intro cS1 hg w3 hbox hb; have nV := aZ (hbox); have fYf := xgh hg HB; have bM4 := xgh hg HB; replace HB := xhl HB hb; clear hb hbox hg) | ((with_reducible refine gate_dst (N := 2) rfl ?_); refine box_event ?hg (N := 2) ?hd (cs := #[.int .i64 0, .int .i64 0]) (t := 28) ?hr ?_; (case hd => rfl); (case hg => rfl); (case hr => first | (go_simp; done) | (go_simp; rfl)); intro aVv hg w4 hbox hb; have mG := aZ (hbox); have fYg := xgh hg HB; have bM5 := xgh hg HB; replace HB := xhl HB hb; have aOk := xnl hg nV; have aOl := xng hg nV; replace nV := xbb nV hb; clear hb hbox hg; have fYh := aOk.out; have fYi := aOl.out; have eD6 : w4.cell? ⟨cS1, 0, none⟩ = some (.slice bP aD.length bK) := (blk_cell nV.out 0).trans rfl; have fGo := blk_frozen nV.out 0; have bD1 : w4.cell? ⟨aVv, 0, none⟩ = some (.int .i64 0) := (blk_cell mG.out 0).trans rfl; have dJo : w4.cell? ⟨aVv, 1, none⟩ = some (.int .i64 0) := (blk_cell mG.out 1).trans rfl; have bIr := blk_frozen mG.out 0; have dJp := blk_frozen mG.out 1))
    refine bodyPost_ret (results_cell_row rfl _ _ aVv 28 #[.int .i64 2, .int .i64 0] (0, 0) _ rfl (by (with_reducible repeat (first | refine bN ?_ _ | refine bD ?_ | refine bA ?_ _)); refine blk_put (cs := #[.int .i64 2, .int .i64 0]) ?_ 1 _ rfl; (with_reducible repeat (first | refine bN ?_ _ | refine bD ?_ | refine bA ?_ _)); refine blk_put (cs := #[.int .i64 0, .int .i64 0]) ?_ 0 _ rfl; (with_reducible repeat (first | refine bN ?_ _ | refine bD ?_ | refine bA ?_ _)); exact mG.out) Try.underlying28 rfl (by kernel_rfl)) rfl ?_
    exact ⟨xre, xq HB⟩
  rw [if_neg c2] at H
  have aW6 : decide (40 < (aD.length : Int)) = false := decide_eq_false c2
  have bEc : decide (40 < aD.length) = false := decide_eq_false (by omega)
  clear c2
  have H' := aZ H
  clear H
  go_enter Try.func32, Try.ntmps32
  go_wp2_with (first | ((with_reducible refine gate_dst (N := 1) rfl ?_); refine box_event ?hg (N := 1) ?hd (cs := #[.slice bP aD.length bK]) (t := 24) ?hr ?_; (case hd => rfl); (case hg => rfl); (case hr => first | (go_simp; done) | (go_simp; rfl)); intro cS1 hg w8 hbox hb; have nV := aZ (hbox); have fYf := xgh hg HB; have bM4 := xgh hg HB; replace HB := xhl HB hb; clear hb hbox hg) | ((with_reducible refine gate_dst (N := 2) rfl ?_); refine box_event ?hg (N := 2) ?hd (cs := #[.int .i64 0, .int .i64 0]) (t := 28) ?hr ?_; (case hd => rfl); (case hg => rfl); (case hr => first | (go_simp; done) | (go_simp; rfl)); intro aVv hg w9 hbox hb; have mG := aZ (hbox); have fYg := xgh hg HB; have bM5 := xgh hg HB; replace HB := xhl HB hb; have aOk := xnl hg nV; have aOl := xng hg nV; replace nV := xbb nV hb; clear hb hbox hg; have dDc := aOk.out; have dDd := aOl.out; have bO7 : w9.cell? ⟨cS1, 0, none⟩ = some (.slice bP aD.length bK) := (blk_cell nV.out 0).trans rfl; have bO8 := blk_frozen nV.out 0))
  go_loopg [15] k (fun kq v15 w' => ∃ (bW : Int) (aCw : Int) (yF : Int), v15 = .int .i64 bW ∧ Aside0 (objects_Validate.l0 kq aD (aD.length : Int) bW aD = some (r1, r2)) ∧ Aside0 (kq ≤ k) ∧ Aside0 (w'.heap[cS1]? = some (.cells #[(.slice bP aD.length bK)] 24 (0, 0))) ∧ Aside0 (w'.heap[aVv]? = some (.cells #[.int .i64 aCw, .int .i64 yF] 28 (0, 0))) ∧ Aside0 (Below w.heap.size w w'))
  case atStart => exact ⟨(0), (0), (0), xrs, H', ⟨Nat.le_refl _⟩, xk nV, xk mG, xb HB⟩
  case round =>
   clear H'
   (try clear c2); (try clear aW6); (try clear bEc); (try clear bO7); (try clear bO8)
   obtain ⟨bW, aCw, yF, rfl, HA, yS, nV, mG, HB⟩ := hrel
   cases gk with
   | zero => exact absurd HA.out (by simp [objects_Validate.l0])
   | succ k1 =>
    have H := HA.out
    clear HA
    simp only [objects_Validate.l0] at H
    by_cases c12 : bW < (aD.length : Int)
    rotate_left
    · rw [if_neg c12] at H
      have cS3 : decide (bW < (aD.length : Int)) = false := decide_eq_false c12
      clear c12
      simp only [Option.some.injEq, Prod.mk.injEq] at H
      obtain ⟨rfl, rfl⟩ := H
      have dFb := aOl.out
      have dFc := aOk.out
      have dQl : wr.cell? ⟨aVv, 0, none⟩ = some (.int .i64 aCw) := (blk_cell mG.out 0).trans rfl
      have gW5 : wr.cell? ⟨aVv, 1, none⟩ = some (.int .i64 yF) := (blk_cell mG.out 1).trans rfl
      have dQm := blk_frozen mG.out 0
      have gW6 := blk_frozen mG.out 1
      go_wp2
      refine bodyPost_ret (results_cell_row rfl _ _ aVv 28 #[.int .i64 0, .int .i64 0] (0, 0) _ rfl (by (with_reducible repeat (first | refine bN ?_ _ | refine bD ?_ | refine bA ?_ _)); refine blk_put (cs := #[.int .i64 0, .int .i64 yF]) ?_ 1 _ rfl; (with_reducible repeat (first | refine bN ?_ _ | refine bD ?_ | refine bA ?_ _)); refine blk_put (cs := #[.int .i64 aCw, .int .i64 yF]) ?_ 0 _ rfl; (with_reducible repeat (first | refine bN ?_ _ | refine bD ?_ | refine bA ?_ _)); exact mG.out) Try.underlying28 rfl (by kernel_rfl)) rfl ?_
      exact ⟨xre, xq HB⟩

    rw [if_pos c12] at H
    have cS3 : decide (bW < (aD.length : Int)) = true := decide_eq_true c12
    clear c12
    by_cases c13 : 0 ≤ bW
    rotate_left
    · rw [if_neg c13] at H
      exact absurd H (by simp)
    rw [if_pos c13] at H
    have bMu : decide (0 ≤ bW) = true := decide_eq_true c13
    clear c13
    by_cases c14 : bW < (aD.length : Int)
    rotate_left
    · rw [if_neg c14] at H
      exact absurd H (by simp)
    rw [if_pos c14] at H
    have bEd : decide (bW < (aD.length : Int)) = true := decide_eq_true c14
    clear c14
    replace H := Option.bind_eq_some_iff.mp H
    obtain ⟨⟨bSb, bEs, bM6⟩, eCf, H⟩ := H
    replace H : (if (!(bEs == 0) || (!(bM6 == 0))) = true then (some (bEs, bW)) else (if bSb = ((aA aD bW).f0) then (if bW > 0 then (if 0 ≤ (wrap64 (bW - 1)) then (if (wrap64 (bW - 1)) < (aD.length : Int) then (if ((aA aD (wrap64 (bW - 1))).f0) ≥ bSb then (some (5, bW)) else (objects_Validate.l0 k1 aD (aD.length : Int) (wrap64 (bW + 1)) aD)) else (none)) else (none)) else (objects_Validate.l0 k1 aD (aD.length : Int) (wrap64 (bW + 1)) aD)) else (some (18, bW)))) = some (r1, r2) := H
    have A15 := aZ eCf
    clear eCf
    by_cases c16 : (!(bEs == 0) || (!(bM6 == 0))) = true
    · rw [if_pos c16] at H
      have cMn : (!(bEs == 0) || (!(bM6 == 0))) = true := c16
      clear c16
      simp only [Option.some.injEq, Prod.mk.injEq] at H
      obtain ⟨rfl, rfl⟩ := H
      have bJc : 0 ≤ (bW : Int) := of_decide_eq_true xas
      have bJd : bW < (aD.length : Int) := of_decide_eq_true xas
      obtain ⟨bLu, tF, tH, vG, vH, cXp, aHl, aHm, aHn, aHo, aHp, aHq, aHr, aHs⟩ := gY fI.out bW bJc bJd
      cases cXp
      replace aHl := xcl HB aHl
      replace aHm := xcl HB aHm
      replace aHn := xcl HB aHn
      replace aHo := xcl HB aHo
      have aW8 := aZ aHq
      have aW9 := aZ aHp
      clear aHq aHp
      have aXa := aZ aHs
      have aXb := aZ aHr
      clear aHs aHr
      replace bJc := eq_true bJc
      replace bJd := eq_true bJd
      go_wp2_with (first | ((with_reducible refine gate_dst (N := 4) rfl ?_); refine box_event ?hg (N := 4) ?hd (cs := #[.int .i64 0, .int .i64 0, .slice none 0 0, .slice none 0 0]) (t := 46) ?hr ?_; (case hd => rfl); (case hg => rfl); (case hr => first | (go_simp; done) | (go_simp; rfl)); intro nX hg w17 hbox hb; have jG := aZ (hbox); have dQ7 := xgh hg HB; have bCl := xgh hg HB; replace HB := xhl HB hb; have aJ1 := xnl hg nV; have aJ2 := xng hg nV; replace nV := xbb nV hb; have aJ3 := xnl hg mG; have aJ4 := xng hg mG; replace mG := xbb mG hb; clear hb hbox hg; have cNa := aJ2.out; have cNb := aJ1.out; have bMh := aJ4.out; have bMi := aJ3.out; have aJw : w17.cell? ⟨nX, 0, none⟩ = some (.int .i64 0) := (blk_cell jG.out 0).trans rfl; have aW4 : w17.cell? ⟨nX, 1, none⟩ = some (.int .i64 0) := (blk_cell jG.out 1).trans rfl; have cJw : w17.cell? ⟨nX, 2, none⟩ = some (.slice none 0 0) := (blk_cell jG.out 2).trans rfl; have gW7 : w17.cell? ⟨nX, 3, none⟩ = some (.slice none 0 0) := (blk_cell jG.out 3).trans rfl; have aJx := blk_frozen jG.out 0; have aW5 := blk_frozen jG.out 1; have cJx := blk_frozen jG.out 2; have gW8 := blk_frozen jG.out 3) | ((with_reducible refine gate_callee (f := 29) rfl ?_); refine goesL_ (some 23) rfl rfl Try.func29 (by kernel_rfl) rfl #[.agg #[.int .i64 ((aA aD bW).f1.f0), .slice tF ((aA aD bW).f1.f1).length tH, .slice vG ((aA aD bW).f1.f2).length vH]] rfl xmp ?_; (with_reducible refine (objects_Digest.calls k1 ((aA aD bW).f1.f0) _ _ ((aA aD bW).f1.f1) _ _ ((aA aD bW).f1.f2) bSb bEs bM6 _ ?side1 ?side2 ?side3 ?side4 A15.out).mono ?_); (case side1 => exact Kd.C_below aW8.out (by repeat (first | (with_reducible first | exact HB.out | apply lA | apply lN | apply lD | refine lS ?_ bM4.out | refine lS ?_ bM5.out | refine lS ?_ bCl.out) | exact HB.out))); (case side2 => exact aW9.out); (case side3 => exact Kd.C_below aXa.out (by repeat (first | (with_reducible first | exact HB.out | apply lA | apply lN | apply lD | refine lS ?_ bM4.out | refine lS ?_ bM5.out | refine lS ?_ bCl.out) | exact HB.out))); (case side4 => exact aXb.out); rintro e w21 ⟨rfl, hb⟩; refine ⟨_, rfl, ?_⟩; replace nV := xbb nV hb; replace mG := xbb mG hb; replace jG := aZ (blk_below (g := nX) (o := .cells #[.int .i64 ((aA aD bW).f0), .int .i64 ((aA aD bW).f1.f0), .slice tF ((aA aD bW).f1.f1).length tH, .slice vG ((aA aD bW).f1.f2).length vH] 46 (0, 0)) (by (with_reducible repeat (first | refine bN ?_ _ | refine bD ?_ | refine bA ?_ _)); refine blk_put (cs := #[.int .i64 ((aA aD bW).f0), .int .i64 ((aA aD bW).f1.f0), .slice tF ((aA aD bW).f1.f1).length tH, .slice none 0 0]) ?_ 3 _ rfl; (with_reducible repeat (first | refine bN ?_ _ | refine bD ?_ | refine bA ?_ _)); refine blk_put (cs := #[.int .i64 ((aA aD bW).f0), .int .i64 ((aA aD bW).f1.f0), .slice none 0 0, .slice none 0 0]) ?_ 2 _ rfl; (with_reducible repeat (first | refine bN ?_ _ | refine bD ?_ | refine bA ?_ _)); refine blk_put (cs := #[.int .i64 ((aA aD bW).f0), .int .i64 0, .slice none 0 0, .slice none 0 0]) ?_ 1 _ rfl; (with_reducible repeat (first | refine bN ?_ _ | refine bD ?_ | refine bA ?_ _)); refine blk_put (cs := #[.int .i64 0, .int .i64 0, .slice none 0 0, .slice none 0 0]) ?_ 0 _ rfl; (with_reducible repeat (first | refine bN ?_ _ | refine bD ?_ | refine bA ?_ _)); exact jG.out) hb); replace HB := xhl HB hb; (try clear hb); (try clear iV); (try clear hk); (try clear hi)) | ((with_reducible refine gate_dst (N := 6) rfl ?_); refine box_event ?hg (N := 6) ?hd (cs := #[.int .i64 0, .int .i64 0]) (t := 28) ?hr ?_; (case hd => rfl); (case hg => rfl); (case hr => first | (go_simp; done) | (go_simp; rfl)); intro vM hg w22 hbox hb; have aHt := aZ (hbox); have cHf := xgh hg HB; have dQ8 := xgh hg HB; replace HB := xhl HB hb; have aJ5 := xnl hg nV; have aJ6 := xng hg nV; replace nV := xbb nV hb; have yZ := xnl hg mG; have aJ7 := xng hg mG; replace mG := xbb mG hb; have aJ8 := aZ ((by rw [hg]; exact Nat.ne_of_lt (blk_lt (g := nX) (o := .cells #[.int .i64 ((aA aD bW).f0), .int .i64 ((aA aD bW).f1.f0), .slice tF ((aA aD bW).f1.f1).length tH, .slice vG ((aA aD bW).f1.f2).length vH] 46 (0, 0)) (xkq jG)) : nX ≠ vM)); have aJ9 := aZ ((by rw [hg]; exact Nat.ne_of_gt (blk_lt (g := nX) (o := .cells #[.int .i64 ((aA aD bW).f0), .int .i64 ((aA aD bW).f1.f0), .slice tF ((aA aD bW).f1.f1).length tH, .slice vG ((aA aD bW).f1.f2).length vH] 46 (0, 0)) (xkq jG)) : vM ≠ nX)); replace jG := aZ (blk_below (g := nX) (o := .cells #[.int .i64 ((aA aD bW).f0), .int .i64 ((aA aD bW).f1.f0), .slice tF ((aA aD bW).f1.f1).length tH, .slice vG ((aA aD bW).f1.f2).length vH] 46 (0, 0)) (xkq jG) hb); clear hb hbox hg; have bMl := aJ6.out; have bMm := aJ5.out; have cG3 := aJ7.out; have cG4 := yZ.out; have bV7 := aJ9.out; have bV8 := aJ8.out; have aN4 : w22.cell? ⟨vM, 0, none⟩ = some (.int .i64 0) := (blk_cell aHt.out 0).trans rfl; have bCa : w22.cell? ⟨vM, 1, none⟩ = some (.int .i64 0) := (blk_cell aHt.out 1).trans rfl; have aN5 := blk_frozen aHt.out 0; have bCb := blk_frozen aHt.out 1; have dDx := aOl.out; have dDy := aOk.out; have cJ9 : w22.cell? ⟨aVv, 0, none⟩ = some (.int .i64 aCw) := (blk_cell mG.out 0).trans rfl; have dPo : w22.cell? ⟨aVv, 1, none⟩ = some (.int .i64 yF) := (blk_cell mG.out 1).trans rfl; have cKa := blk_frozen mG.out 0; have dPp := blk_frozen mG.out 1))
      refine bodyPost_ret (results_cell_row rfl _ _ aVv 28 #[.int .i64 bEs, .int .i64 bW] (0, 0) _ rfl (by (with_reducible repeat (first | refine bN ?_ _ | refine bD ?_ | refine bA ?_ _)); refine blk_put (cs := #[.int .i64 bEs, .int .i64 yF]) ?_ 1 _ rfl; (with_reducible repeat (first | refine bN ?_ _ | refine bD ?_ | refine bA ?_ _)); refine blk_put (cs := #[.int .i64 aCw, .int .i64 yF]) ?_ 0 _ rfl; (with_reducible repeat (first | refine bN ?_ _ | refine bD ?_ | refine bA ?_ _)); refine blk_far ?_ yZ.out _; (with_reducible repeat (first | refine bN ?_ _ | refine bD ?_ | refine bA ?_ _)); refine blk_far ?_ yZ.out _; (with_reducible repeat (first | refine bN ?_ _ | refine bD ?_ | refine bA ?_ _)); exact mG.out) Try.underlying28 rfl (by kernel_rfl)) rfl ?_
      exact ⟨xre, xq HB⟩
    rw [if_neg c16] at H
    have cMn : (!(bEs == 0) || (!(bM6 == 0))) = false := by simpa using c16
    clear c16
    by_cases c29 : bSb = ((aA aD bW).f0)
    rotate_left
    · rw [if_neg c29] at H
      have eZ4 : (bSb == ((aA aD bW).f0)) = false := beq_eq_false_iff_ne.mpr c29
      have eZ5 : (bSb != ((aA aD bW).f0)) = true := bne_iff_ne.mpr c29
      simp only [Option.some.injEq, Prod.mk.injEq] at H
      obtain ⟨rfl, rfl⟩ := H
      have bJc : 0 ≤ (bW : Int) := of_decide_eq_true xas
      have bJd : bW < (aD.length : Int) := of_decide_eq_true xas
      obtain ⟨bLu, tF, tH, vG, vH, cXp, aHl, aHm, aHn, aHo, aHp, aHq, aHr, aHs⟩ := gY fI.out bW bJc bJd
      cases cXp
      replace aHl := xcl HB aHl
      replace aHm := xcl HB aHm
      replace aHn := xcl HB aHn
      replace aHo := xcl HB aHo
      have aW8 := aZ aHq
      have aW9 := aZ aHp
      clear aHq aHp
      have aXa := aZ aHs
      have aXb := aZ aHr
      clear aHs aHr
      replace bJc := eq_true bJc
      replace bJd := eq_true bJd
      go_wp2_with (first | ((with_reducible refine gate_dst (N := 4) rfl ?_); refine box_event ?hg (N := 4) ?hd (cs := #[.int .i64 0, .int .i64 0, .slice none 0 0, .slice none 0 0]) (t := 46) ?hr ?_; (case hd => rfl); (case hg => rfl); (case hr => first | (go_simp; done) | (go_simp; rfl)); intro nX hg w73 hbox hb; have jG := aZ (hbox); have dQ7 := xgh hg HB; have bCl := xgh hg HB; replace HB := xhl HB hb; have aJ1 := xnl hg nV; have aJ2 := xng hg nV; replace nV := xbb nV hb; have aJ3 := xnl hg mG; have aJ4 := xng hg mG; replace mG := xbb mG hb; clear hb hbox hg; have bSx := aJ2.out; have bSy := aJ1.out; have bM7 := aJ4.out; have bM8 := aJ3.out; have bJe : w73.cell? ⟨nX, 0, none⟩ = some (.int .i64 0) := (blk_cell jG.out 0).trans rfl; have cKv : w73.cell? ⟨nX, 1, none⟩ = some (.int .i64 0) := (blk_cell jG.out 1).trans rfl; have cKw : w73.cell? ⟨nX, 2, none⟩ = some (.slice none 0 0) := (blk_cell jG.out 2).trans rfl; have gXa : w73.cell? ⟨nX, 3, none⟩ = some (.slice none 0 0) := (blk_cell jG.out 3).trans rfl; have bJf := blk_frozen jG.out 0; have cKx := blk_frozen jG.out 1; have cKy := blk_frozen jG.out 2; have gXb := blk_frozen jG.out 3) | ((with_reducible refine gate_callee (f := 29) rfl ?_); refine goesL_ (some 23) rfl rfl Try.func29 (by kernel_rfl) rfl #[.agg #[.int .i64 ((aA aD bW).f1.f0), .slice tF ((aA aD bW).f1.f1).length tH, .slice vG ((aA aD bW).f1.f2).length vH]] rfl xmp ?_; (with_reducible refine (objects_Digest.calls k1 ((aA aD bW).f1.f0) _ _ ((aA aD bW).f1.f1) _ _ ((aA aD bW).f1.f2) bSb bEs bM6 _ ?side1 ?side2 ?side3 ?side4 A15.out).mono ?_); (case side1 => exact Kd.C_below aW8.out (by repeat (first | (with_reducible first | exact HB.out | apply lA | apply lN | apply lD | refine lS ?_ bM4.out | refine lS ?_ bM5.out | refine lS ?_ bCl.out) | exact HB.out))); (case side2 => exact aW9.out); (case side3 => exact Kd.C_below aXa.out (by repeat (first | (with_reducible first | exact HB.out | apply lA | apply lN | apply lD | refine lS ?_ bM4.out | refine lS ?_ bM5.out | refine lS ?_ bCl.out) | exact HB.out))); (case side4 => exact aXb.out); rintro e w77 ⟨rfl, hb⟩; refine ⟨_, rfl, ?_⟩; replace nV := xbb nV hb; replace mG := xbb mG hb; replace jG := aZ (blk_below (g := nX) (o := .cells #[.int .i64 ((aA aD bW).f0), .int .i64 ((aA aD bW).f1.f0), .slice tF ((aA aD bW).f1.f1).length tH, .slice vG ((aA aD bW).f1.f2).length vH] 46 (0, 0)) (by (with_reducible repeat (first | refine bN ?_ _ | refine bD ?_ | refine bA ?_ _)); refine blk_put (cs := #[.int .i64 ((aA aD bW).f0), .int .i64 ((aA aD bW).f1.f0), .slice tF ((aA aD bW).f1.f1).length tH, .slice none 0 0]) ?_ 3 _ rfl; (with_reducible repeat (first | refine bN ?_ _ | refine bD ?_ | refine bA ?_ _)); refine blk_put (cs := #[.int .i64 ((aA aD bW).f0), .int .i64 ((aA aD bW).f1.f0), .slice none 0 0, .slice none 0 0]) ?_ 2 _ rfl; (with_reducible repeat (first | refine bN ?_ _ | refine bD ?_ | refine bA ?_ _)); refine blk_put (cs := #[.int .i64 ((aA aD bW).f0), .int .i64 0, .slice none 0 0, .slice none 0 0]) ?_ 1 _ rfl; (with_reducible repeat (first | refine bN ?_ _ | refine bD ?_ | refine bA ?_ _)); refine blk_put (cs := #[.int .i64 0, .int .i64 0, .slice none 0 0, .slice none 0 0]) ?_ 0 _ rfl; (with_reducible repeat (first | refine bN ?_ _ | refine bD ?_ | refine bA ?_ _)); exact jG.out) hb); replace HB := xhl HB hb; (try clear hb); (try clear iV); (try clear hk); (try clear hi)) | ((with_reducible refine gate_dst (N := 6) rfl ?_); refine box_event ?hg (N := 6) ?hd (cs := #[.int .i64 0, .int .i64 0]) (t := 28) ?hr ?_; (case hd => rfl); (case hg => rfl); (case hr => first | (go_simp; done) | (go_simp; rfl)); intro vM hg w78 hbox hb; have aHt := aZ (hbox); have cHf := xgh hg HB; have dQ8 := xgh hg HB; replace HB := xhl HB hb; have aJ5 := xnl hg nV; have aJ6 := xng hg nV; replace nV := xbb nV hb; have yZ := xnl hg mG; have aJ7 := xng hg mG; replace mG := xbb mG hb; have aJ8 := aZ ((by rw [hg]; exact Nat.ne_of_lt (blk_lt (g := nX) (o := .cells #[.int .i64 ((aA aD bW).f0), .int .i64 ((aA aD bW).f1.f0), .slice tF ((aA aD bW).f1.f1).length tH, .slice vG ((aA aD bW).f1.f2).length vH] 46 (0, 0)) (xkq jG)) : nX ≠ vM)); have aJ9 := aZ ((by rw [hg]; exact Nat.ne_of_gt (blk_lt (g := nX) (o := .cells #[.int .i64 ((aA aD bW).f0), .int .i64 ((aA aD bW).f1.f0), .slice tF ((aA aD bW).f1.f1).length tH, .slice vG ((aA aD bW).f1.f2).length vH] 46 (0, 0)) (xkq jG)) : vM ≠ nX)); replace jG := aZ (blk_below (g := nX) (o := .cells #[.int .i64 ((aA aD bW).f0), .int .i64 ((aA aD bW).f1.f0), .slice tF ((aA aD bW).f1.f1).length tH, .slice vG ((aA aD bW).f1.f2).length vH] 46 (0, 0)) (xkq jG) hb); clear hb hbox hg; have cHg := aJ6.out; have cHh := aJ5.out; have bWn := aJ7.out; have bWo := yZ.out; have cNd := aJ9.out; have cNe := aJ8.out; have dQ9 : w78.cell? ⟨vM, 0, none⟩ = some (.int .i64 0) := (blk_cell aHt.out 0).trans rfl; have eRt : w78.cell? ⟨vM, 1, none⟩ = some (.int .i64 0) := (blk_cell aHt.out 1).trans rfl; have dRa := blk_frozen aHt.out 0; have eRu := blk_frozen aHt.out 1; have cXq : w78.cell? ⟨nX, 0, none⟩ = some (.int .i64 ((aA aD bW).f0)) := (blk_cell jG.out 0).trans rfl; have dRb : w78.cell? ⟨nX, 1, none⟩ = some (.int .i64 ((aA aD bW).f1.f0)) := (blk_cell jG.out 1).trans rfl; have eRv : w78.cell? ⟨nX, 2, none⟩ = some (.slice tF ((aA aD bW).f1.f1).length tH) := (blk_cell jG.out 2).trans rfl; have gXc : w78.cell? ⟨nX, 3, none⟩ = some (.slice vG ((aA aD bW).f1.f2).length vH) := (blk_cell jG.out 3).trans rfl; have cXr := blk_frozen jG.out 0; have dRc := blk_frozen jG.out 1; have eRw := blk_frozen jG.out 2; have gXd := blk_frozen jG.out 3; have bM0 := aOl.out; have bM1 := aOk.out; have bP1 : w78.cell? ⟨aVv, 0, none⟩ = some (.int .i64 aCw) := (blk_cell mG.out 0).trans rfl; have cKz : w78.cell? ⟨aVv, 1, none⟩ = some (.int .i64 yF) := (blk_cell mG.out 1).trans rfl; have bP2 := blk_frozen mG.out 0; have cK0 := blk_frozen mG.out 1))
      refine bodyPost_ret (results_cell_row rfl _ _ aVv 28 #[.int .i64 18, .int .i64 bW] (0, 0) _ rfl (by (with_reducible repeat (first | refine bN ?_ _ | refine bD ?_ | refine bA ?_ _)); refine blk_put (cs := #[.int .i64 18, .int .i64 yF]) ?_ 1 _ rfl; (with_reducible repeat (first | refine bN ?_ _ | refine bD ?_ | refine bA ?_ _)); refine blk_put (cs := #[.int .i64 aCw, .int .i64 yF]) ?_ 0 _ rfl; (with_reducible repeat (first | refine bN ?_ _ | refine bD ?_ | refine bA ?_ _)); refine blk_far ?_ yZ.out _; (with_reducible repeat (first | refine bN ?_ _ | refine bD ?_ | refine bA ?_ _)); refine blk_far ?_ yZ.out _; (with_reducible repeat (first | refine bN ?_ _ | refine bD ?_ | refine bA ?_ _)); exact mG.out) Try.underlying28 rfl (by kernel_rfl)) rfl ?_
      exact ⟨xre, xq HB⟩
    rw [if_pos c29] at H
    have eZ4 : (bSb == ((aA aD bW).f0)) = true := beq_iff_eq.mpr c29
    have eZ5 : (bSb != ((aA aD bW).f0)) = false := bne_eq_false_iff_eq.mpr c29
    clear c29
    by_cases c30 : bW > 0
    rotate_left
    · rw [if_neg c30] at H
      have cSg : decide (0 < bW) = false := decide_eq_false c30
      clear c30
      have H' := aZ H
      clear H
      have bJc : 0 ≤ (bW : Int) := of_decide_eq_true xas
      have bJd : bW < (aD.length : Int) := of_decide_eq_true xas
      obtain ⟨bLu, tF, tH, vG, vH, cXp, aHl, aHm, aHn, aHo, aHp, aHq, aHr, aHs⟩ := gY fI.out bW bJc bJd
      cases cXp
      replace aHl := xcl HB aHl
      replace aHm := xcl HB aHm
      replace aHn := xcl HB aHn
      replace aHo := xcl HB aHo
      have aW8 := aZ aHq
      have aW9 := aZ aHp
      clear aHq aHp
      have aXa := aZ aHs
      have aXb := aZ aHr
      clear aHs aHr
      replace bJc := eq_true bJc
      replace bJd := eq_true bJd
      go_wp2_with (first | ((with_reducible refine gate_dst (N := 4) rfl ?_); refine box_event ?hg (N := 4) ?hd (cs := #[.int .i64 0, .int .i64 0, .slice none 0 0, .slice none 0 0]) (t := 46) ?hr ?_; (case hd => rfl); (case hg => rfl); (case hr => first | (go_simp; done) | (go_simp; rfl)); intro nX hg w62 hbox hb; have jG := aZ (hbox); have dQ7 := xgh hg HB; have bCl := xgh hg HB; replace HB := xhl HB hb; have aJ1 := xnl hg nV; have aJ2 := xng hg nV; replace nV := xbb nV hb; have aJ3 := xnl hg mG; have aJ4 := xng hg mG; replace mG := xbb mG hb; clear hb hbox hg; have bWp := aJ2.out; have bWq := aJ1.out; have bAu := aJ4.out; have bAv := aJ3.out; have bWr : w62.cell? ⟨nX, 0, none⟩ = some (.int .i64 0) := (blk_cell jG.out 0).trans rfl; have dRd : w62.cell? ⟨nX, 1, none⟩ = some (.int .i64 0) := (blk_cell jG.out 1).trans rfl; have eRx : w62.cell? ⟨nX, 2, none⟩ = some (.slice none 0 0) := (blk_cell jG.out 2).trans rfl; have gXe : w62.cell? ⟨nX, 3, none⟩ = some (.slice none 0 0) := (blk_cell jG.out 3).trans rfl; have bWs := blk_frozen jG.out 0; have dRe := blk_frozen jG.out 1; have eRy := blk_frozen jG.out 2; have gXf := blk_frozen jG.out 3) | ((with_reducible refine gate_callee (f := 29) rfl ?_); refine goesL_ (some 23) rfl rfl Try.func29 (by kernel_rfl) rfl #[.agg #[.int .i64 ((aA aD bW).f1.f0), .slice tF ((aA aD bW).f1.f1).length tH, .slice vG ((aA aD bW).f1.f2).length vH]] rfl xmp ?_; (with_reducible refine (objects_Digest.calls k1 ((aA aD bW).f1.f0) _ _ ((aA aD bW).f1.f1) _ _ ((aA aD bW).f1.f2) bSb bEs bM6 _ ?side1 ?side2 ?side3 ?side4 A15.out).mono ?_); (case side1 => exact Kd.C_below aW8.out (by repeat (first | (with_reducible first | exact HB.out | apply lA | apply lN | apply lD | refine lS ?_ bM4.out | refine lS ?_ bM5.out | refine lS ?_ bCl.out) | exact HB.out))); (case side2 => exact aW9.out); (case side3 => exact Kd.C_below aXa.out (by repeat (first | (with_reducible first | exact HB.out | apply lA | apply lN | apply lD | refine lS ?_ bM4.out | refine lS ?_ bM5.out | refine lS ?_ bCl.out) | exact HB.out))); (case side4 => exact aXb.out); rintro e w66 ⟨rfl, hb⟩; refine ⟨_, rfl, ?_⟩; replace nV := xbb nV hb; replace mG := xbb mG hb; replace jG := aZ (blk_below (g := nX) (o := .cells #[.int .i64 ((aA aD bW).f0), .int .i64 ((aA aD bW).f1.f0), .slice tF ((aA aD bW).f1.f1).length tH, .slice vG ((aA aD bW).f1.f2).length vH] 46 (0, 0)) (by (with_reducible repeat (first | refine bN ?_ _ | refine bD ?_ | refine bA ?_ _)); refine blk_put (cs := #[.int .i64 ((aA aD bW).f0), .int .i64 ((aA aD bW).f1.f0), .slice tF ((aA aD bW).f1.f1).length tH, .slice none 0 0]) ?_ 3 _ rfl; (with_reducible repeat (first | refine bN ?_ _ | refine bD ?_ | refine bA ?_ _)); refine blk_put (cs := #[.int .i64 ((aA aD bW).f0), .int .i64 ((aA aD bW).f1.f0), .slice none 0 0, .slice none 0 0]) ?_ 2 _ rfl; (with_reducible repeat (first | refine bN ?_ _ | refine bD ?_ | refine bA ?_ _)); refine blk_put (cs := #[.int .i64 ((aA aD bW).f0), .int .i64 0, .slice none 0 0, .slice none 0 0]) ?_ 1 _ rfl; (with_reducible repeat (first | refine bN ?_ _ | refine bD ?_ | refine bA ?_ _)); refine blk_put (cs := #[.int .i64 0, .int .i64 0, .slice none 0 0, .slice none 0 0]) ?_ 0 _ rfl; (with_reducible repeat (first | refine bN ?_ _ | refine bD ?_ | refine bA ?_ _)); exact jG.out) hb); replace HB := xhl HB hb; (try clear hb); (try clear iV); (try clear hk); (try clear hi)) | ((with_reducible refine gate_dst (N := 6) rfl ?_); refine box_event ?hg (N := 6) ?hd (cs := #[.int .i64 0, .int .i64 0]) (t := 28) ?hr ?_; (case hd => rfl); (case hg => rfl); (case hr => first | (go_simp; done) | (go_simp; rfl)); intro vM hg w67 hbox hb; have aHt := aZ (hbox); have cHf := xgh hg HB; have dQ8 := xgh hg HB; replace HB := xhl HB hb; have aJ5 := xnl hg nV; have aJ6 := xng hg nV; replace nV := xbb nV hb; have yZ := xnl hg mG; have aJ7 := xng hg mG; replace mG := xbb mG hb; have aJ8 := aZ ((by rw [hg]; exact Nat.ne_of_lt (blk_lt (g := nX) (o := .cells #[.int .i64 ((aA aD bW).f0), .int .i64 ((aA aD bW).f1.f0), .slice tF ((aA aD bW).f1.f1).length tH, .slice vG ((aA aD bW).f1.f2).length vH] 46 (0, 0)) (xkq jG)) : nX ≠ vM)); have aJ9 := aZ ((by rw [hg]; exact Nat.ne_of_gt (blk_lt (g := nX) (o := .cells #[.int .i64 ((aA aD bW).f0), .int .i64 ((aA aD bW).f1.f0), .slice tF ((aA aD bW).f1.f1).length tH, .slice vG ((aA aD bW).f1.f2).length vH] 46 (0, 0)) (xkq jG)) : vM ≠ nX)); replace jG := aZ (blk_below (g := nX) (o := .cells #[.int .i64 ((aA aD bW).f0), .int .i64 ((aA aD bW).f1.f0), .slice tF ((aA aD bW).f1.f1).length tH, .slice vG ((aA aD bW).f1.f2).length vH] 46 (0, 0)) (xkq jG) hb); clear hb hbox hg; have dRf := aJ6.out; have dRg := aJ5.out; have cS4 := aJ7.out; have cS5 := yZ.out; have cHi := aJ9.out; have cHj := aJ8.out; have cK1 : w67.cell? ⟨vM, 0, none⟩ = some (.int .i64 0) := (blk_cell aHt.out 0).trans rfl; have gXg : w67.cell? ⟨vM, 1, none⟩ = some (.int .i64 0) := (blk_cell aHt.out 1).trans rfl; have cK2 := blk_frozen aHt.out 0; have gXh := blk_frozen aHt.out 1; have cK3 : w67.cell? ⟨nX, 0, none⟩ = some (.int .i64 ((aA aD bW).f0)) := (blk_cell jG.out 0).trans rfl; have dRh : w67.cell? ⟨nX, 1, none⟩ = some (.int .i64 ((aA aD bW).f1.f0)) := (blk_cell jG.out 1).trans rfl; have gXi : w67.cell? ⟨nX, 2, none⟩ = some (.slice tF ((aA aD bW).f1.f1).length tH) := (blk_cell jG.out 2).trans rfl; have gXj : w67.cell? ⟨nX, 3, none⟩ = some (.slice vG ((aA aD bW).f1.f2).length vH) := (blk_cell jG.out 3).trans rfl; have cK4 := blk_frozen jG.out 0; have dRi := blk_frozen jG.out 1; have gXk := blk_frozen jG.out 2; have gXl := blk_frozen jG.out 3))
      go_roundg k1
      case measure => have := yS.out; omega
      case rel => exact ⟨(wrap64 (bW + 1)), (aCw), (yF), xrs, H', ⟨by have := yS.out; omega⟩, xk nV, xk mG, xb HB⟩
    rw [if_pos c30] at H
    have cSg : decide (0 < bW) = true := decide_eq_true c30
    clear c30
    obtain ⟨bM9, dFd⟩ : ∃ j_ : Int, (wrap64 (bW - 1)) = j_ := ⟨_, rfl⟩
    replace H : (if 0 ≤ (bM9) then (if (bM9) < (aD.length : Int) then (if ((aA aD (bM9)).f0) ≥ bSb then (some (5, bW)) else (objects_Validate.l0 k1 aD (aD.length : Int) (wrap64 (bW + 1)) aD)) else (none)) else (none)) = some (r1, r2) := by first | (rw [dFd] at H; exact H) | (simp only [dFd] at H ⊢; exact H)
    (try rw [dFd] at A15)
    have hJc : (IntKind.i64.wrap (bW - 1)) = bM9 := (i64_w _).trans dFd
    by_cases c32 : 0 ≤ (bM9)
    rotate_left
    · rw [if_neg c32] at H
      exact absurd H (by simp)
    rw [if_pos c32] at H
    have dDl : decide (0 ≤ (bM9)) = true := decide_eq_true c32
    clear c32
    by_cases c33 : (bM9) < (aD.length : Int)
    rotate_left
    · rw [if_neg c33] at H
      exact absurd H (by simp)
    rw [if_pos c33] at H
    have bEb : decide ((bM9) < (aD.length : Int)) = true := decide_eq_true c33
    clear c33
    by_cases c34 : ((aA aD (bM9)).f0) ≥ bSb
    rotate_left
    · rw [if_neg c34] at H
      have dDm : decide (bSb ≤ ((aA aD (bM9)).f0)) = false := decide_eq_false c34
      clear c34
      have H' := aZ H
      clear H
      have bJc : 0 ≤ (bW : Int) := of_decide_eq_true xas
      have bJd : bW < (aD.length : Int) := of_decide_eq_true xas
      obtain ⟨bLu, tF, tH, vG, vH, cXp, aHl, aHm, aHn, aHo, aHp, aHq, aHr, aHs⟩ := gY fI.out bW bJc bJd
      cases cXp
      replace aHl := xcl HB aHl
      replace aHm := xcl HB aHm
      replace aHn := xcl HB aHn
      replace aHo := xcl HB aHo
      have aW8 := aZ aHq
      have aW9 := aZ aHp
      clear aHq aHp
      have aXa := aZ aHs
      have aXb := aZ aHr
      clear aHs aHr
      replace bJc := eq_true bJc
      replace bJd := eq_true bJd
      go_wp2_with (first | ((with_reducible refine gate_dst (N := 4) rfl ?_); refine box_event ?hg (N := 4) ?hd (cs := #[.int .i64 0, .int .i64 0, .slice none 0 0, .slice none 0 0]) (t := 46) ?hr ?_; (case hd => rfl); (case hg => rfl); (case hr => first | (go_simp; done) | (go_simp; rfl)); intro nX hg w49 hbox hb; have jG := aZ (hbox); have dQ7 := xgh hg HB; have bCl := xgh hg HB; replace HB := xhl HB hb; have aJ1 := xnl hg nV; have aJ2 := xng hg nV; replace nV := xbb nV hb; have aJ3 := xnl hg mG; have aJ4 := xng hg mG; replace mG := xbb mG hb; clear hb hbox hg; have bSm := aJ2.out; have bSn := aJ1.out; have bVi := aJ4.out; have bVj := aJ3.out; have dOx : w49.cell? ⟨nX, 0, none⟩ = some (.int .i64 0) := (blk_cell jG.out 0).trans rfl; have dOy : w49.cell? ⟨nX, 1, none⟩ = some (.int .i64 0) := (blk_cell jG.out 1).trans rfl; have gXm : w49.cell? ⟨nX, 2, none⟩ = some (.slice none 0 0) := (blk_cell jG.out 2).trans rfl; have gXn : w49.cell? ⟨nX, 3, none⟩ = some (.slice none 0 0) := (blk_cell jG.out 3).trans rfl; have dOz := blk_frozen jG.out 0; have dO0 := blk_frozen jG.out 1; have gXo := blk_frozen jG.out 2; have gXp := blk_frozen jG.out 3) | ((with_reducible refine gate_callee (f := 29) rfl ?_); refine goesL_ (some 23) rfl rfl Try.func29 (by kernel_rfl) rfl #[.agg #[.int .i64 ((aA aD bW).f1.f0), .slice tF ((aA aD bW).f1.f1).length tH, .slice vG ((aA aD bW).f1.f2).length vH]] rfl xmp ?_; (with_reducible refine (objects_Digest.calls k1 ((aA aD bW).f1.f0) _ _ ((aA aD bW).f1.f1) _ _ ((aA aD bW).f1.f2) bSb bEs bM6 _ ?side1 ?side2 ?side3 ?side4 A15.out).mono ?_); (case side1 => exact Kd.C_below aW8.out (by repeat (first | (with_reducible first | exact HB.out | apply lA | apply lN | apply lD | refine lS ?_ bM4.out | refine lS ?_ bM5.out | refine lS ?_ bCl.out) | exact HB.out))); (case side2 => exact aW9.out); (case side3 => exact Kd.C_below aXa.out (by repeat (first | (with_reducible first | exact HB.out | apply lA | apply lN | apply lD | refine lS ?_ bM4.out | refine lS ?_ bM5.out | refine lS ?_ bCl.out) | exact HB.out))); (case side4 => exact aXb.out); rintro e w53 ⟨rfl, hb⟩; refine ⟨_, rfl, ?_⟩; replace nV := xbb nV hb; replace mG := xbb mG hb; replace jG := aZ (blk_below (g := nX) (o := .cells #[.int .i64 ((aA aD bW).f0), .int .i64 ((aA aD bW).f1.f0), .slice tF ((aA aD bW).f1.f1).length tH, .slice vG ((aA aD bW).f1.f2).length vH] 46 (0, 0)) (by (with_reducible repeat (first | refine bN ?_ _ | refine bD ?_ | refine bA ?_ _)); refine blk_put (cs := #[.int .i64 ((aA aD bW).f0), .int .i64 ((aA aD bW).f1.f0), .slice tF ((aA aD bW).f1.f1).length tH, .slice none 0 0]) ?_ 3 _ rfl; (with_reducible repeat (first | refine bN ?_ _ | refine bD ?_ | refine bA ?_ _)); refine blk_put (cs := #[.int .i64 ((aA aD bW).f0), .int .i64 ((aA aD bW).f1.f0), .slice none 0 0, .slice none 0 0]) ?_ 2 _ rfl; (with_reducible repeat (first | refine bN ?_ _ | refine bD ?_ | refine bA ?_ _)); refine blk_put (cs := #[.int .i64 ((aA aD bW).f0), .int .i64 0, .slice none 0 0, .slice none 0 0]) ?_ 1 _ rfl; (with_reducible repeat (first | refine bN ?_ _ | refine bD ?_ | refine bA ?_ _)); refine blk_put (cs := #[.int .i64 0, .int .i64 0, .slice none 0 0, .slice none 0 0]) ?_ 0 _ rfl; (with_reducible repeat (first | refine bN ?_ _ | refine bD ?_ | refine bA ?_ _)); exact jG.out) hb); replace HB := xhl HB hb; (try clear hb); (try clear iV); (try clear hk); (try clear hi)) | ((with_reducible refine gate_dst (N := 6) rfl ?_); refine box_event ?hg (N := 6) ?hd (cs := #[.int .i64 0, .int .i64 0]) (t := 28) ?hr ?_; (case hd => rfl); (case hg => rfl); (case hr => first | (go_simp; done) | (go_simp; rfl)); intro vM hg w54 hbox hb; have aHt := aZ (hbox); have cHf := xgh hg HB; have dQ8 := xgh hg HB; replace HB := xhl HB hb; have aJ5 := xnl hg nV; have aJ6 := xng hg nV; replace nV := xbb nV hb; have yZ := xnl hg mG; have aJ7 := xng hg mG; replace mG := xbb mG hb; have aJ8 := aZ ((by rw [hg]; exact Nat.ne_of_lt (blk_lt (g := nX) (o := .cells #[.int .i64 ((aA aD bW).f0), .int .i64 ((aA aD bW).f1.f0), .slice tF ((aA aD bW).f1.f1).length tH, .slice vG ((aA aD bW).f1.f2).length vH] 46 (0, 0)) (xkq jG)) : nX ≠ vM)); have aJ9 := aZ ((by rw [hg]; exact Nat.ne_of_gt (blk_lt (g := nX) (o := .cells #[.int .i64 ((aA aD bW).f0), .int .i64 ((aA aD bW).f1.f0), .slice tF ((aA aD bW).f1.f1).length tH, .slice vG ((aA aD bW).f1.f2).length vH] 46 (0, 0)) (xkq jG)) : vM ≠ nX)); replace jG := aZ (blk_below (g := nX) (o := .cells #[.int .i64 ((aA aD bW).f0), .int .i64 ((aA aD bW).f1.f0), .slice tF ((aA aD bW).f1.f1).length tH, .slice vG ((aA aD bW).f1.f2).length vH] 46 (0, 0)) (xkq jG) hb); clear hb hbox hg; have bNa := aJ6.out; have bNb := aJ5.out; have dFe := aJ7.out; have dFf := yZ.out; have cN6 := aJ9.out; have cN7 := aJ8.out; have dRj : w54.cell? ⟨vM, 0, none⟩ = some (.int .i64 0) := (blk_cell aHt.out 0).trans rfl; have gXq : w54.cell? ⟨vM, 1, none⟩ = some (.int .i64 0) := (blk_cell aHt.out 1).trans rfl; have dRk := blk_frozen aHt.out 0; have gXr := blk_frozen aHt.out 1; have cK5 : w54.cell? ⟨nX, 0, none⟩ = some (.int .i64 ((aA aD bW).f0)) := (blk_cell jG.out 0).trans rfl; have cK6 : w54.cell? ⟨nX, 1, none⟩ = some (.int .i64 ((aA aD bW).f1.f0)) := (blk_cell jG.out 1).trans rfl; have dRl : w54.cell? ⟨nX, 2, none⟩ = some (.slice tF ((aA aD bW).f1.f1).length tH) := (blk_cell jG.out 2).trans rfl; have gXs : w54.cell? ⟨nX, 3, none⟩ = some (.slice vG ((aA aD bW).f1.f2).length vH) := (blk_cell jG.out 3).trans rfl; have cK7 := blk_frozen jG.out 0; have cK8 := blk_frozen jG.out 1; have dRm := blk_frozen jG.out 2; have gXt := blk_frozen jG.out 3; have bWt := aOk.out; have bWu := aOl.out; have bOx : w54.cell? ⟨cS1, 0, none⟩ = some (.slice (some bLu) aD.length bK) := (blk_cell nV.out 0).trans rfl; have bOy := blk_frozen nV.out 0; have dKq : 0 ≤ ((bM9) : Int) := of_decide_eq_true xas; have dKr : (bM9) < (aD.length : Int) := of_decide_eq_true xas; obtain ⟨eD7, fGq, fGr, fGs, fGt, fGu, aDp, aKa, aKb, aKc, bWv, bWw, bWx, bWy⟩ := gY fI.out (bM9) dKq dKr; obtain rfl : bLu = eD7 := (by injection fGu); have uS : bLu.block ≠ vM := Nat.ne_of_lt (Nat.lt_of_lt_of_le (by have := World.block_lt_of_cell? _ _ aDp; first | rwa [add_block] at this | exact this) cHf.out); have uT : bLu.block ≠ vM := Nat.ne_of_lt (Nat.lt_of_lt_of_le (by have := World.block_lt_of_cell? _ _ aDp; first | rwa [add_block] at this | exact this) cHf.out); replace aDp := xcl HB aDp; replace aKa := xcl HB aKa; replace aKb := xcl HB aKb; replace aKc := xcl HB aKc; have eRz := aZ bWw; have eR0 := aZ bWv; clear bWw bWv; have eR1 := aZ bWy; have eR2 := aZ bWx; clear bWy bWx; replace aDp := (cell_far (p := ⟨vM, 0, none⟩) (by first | (rw [add_block]; exact uS) | (show (Addr.add _ _).block ≠ _; rw [add_block]; exact uS) | exact uS) (.int .i64 bEs)).trans aDp; replace aKa := (cell_far (p := ⟨vM, 0, none⟩) (by first | (rw [add_block]; exact uS) | (show (Addr.add _ _).block ≠ _; rw [add_block]; exact uS) | exact uS) (.int .i64 bEs)).trans aKa; replace aKb := (cell_far (p := ⟨vM, 0, none⟩) (by first | (rw [add_block]; exact uS) | (show (Addr.add _ _).block ≠ _; rw [add_block]; exact uS) | exact uS) (.int .i64 bEs)).trans aKb; replace aKc := (cell_far (p := ⟨vM, 0, none⟩) (by first | (rw [add_block]; exact uS) | (show (Addr.add _ _).block ≠ _; rw [add_block]; exact uS) | exact uS) (.int .i64 bEs)).trans aKc; replace aDp := (cell_far (p := ⟨vM, 1, none⟩) (by first | (rw [add_block]; exact uT) | (show (Addr.add _ _).block ≠ _; rw [add_block]; exact uT) | exact uT) (.int .i64 bM6)).trans aDp; replace aKa := (cell_far (p := ⟨vM, 1, none⟩) (by first | (rw [add_block]; exact uT) | (show (Addr.add _ _).block ≠ _; rw [add_block]; exact uT) | exact uT) (.int .i64 bM6)).trans aKa; replace aKb := (cell_far (p := ⟨vM, 1, none⟩) (by first | (rw [add_block]; exact uT) | (show (Addr.add _ _).block ≠ _; rw [add_block]; exact uT) | exact uT) (.int .i64 bM6)).trans aKb; replace aKc := (cell_far (p := ⟨vM, 1, none⟩) (by first | (rw [add_block]; exact uT) | (show (Addr.add _ _).block ≠ _; rw [add_block]; exact uT) | exact uT) (.int .i64 bM6)).trans aKc; clear uS; clear uT; replace dKq := eq_true dKq; replace dKr := eq_true dKr))
      go_roundg k1
      case measure => have := yS.out; omega
      case rel => exact ⟨(wrap64 (bW + 1)), (aCw), (yF), xrs, H', ⟨by have := yS.out; omega⟩, xk nV, xk mG, xb HB⟩
    rw [if_pos c34] at H
    have dDm : decide (bSb ≤ ((aA aD (bM9)).f0)) = true := decide_eq_true c34
    clear c34
    simp only [Option.some.injEq, Prod.mk.injEq] at H
    obtain ⟨rfl, rfl⟩ := H
    have bJc : 0 ≤ (bW : Int) := of_decide_eq_true xas
    have bJd : bW < (aD.length : Int) := of_decide_eq_true xas
    obtain ⟨bLu, tF, tH, vG, vH, cXp, aHl, aHm, aHn, aHo, aHp, aHq, aHr, aHs⟩ := gY fI.out bW bJc bJd
    cases cXp
    replace aHl := xcl HB aHl
    replace aHm := xcl HB aHm
    replace aHn := xcl HB aHn
    replace aHo := xcl HB aHo
    have aW8 := aZ aHq
    have aW9 := aZ aHp
    clear aHq aHp
    have aXa := aZ aHs
    have aXb := aZ aHr
    clear aHs aHr
    replace bJc := eq_true bJc
    replace bJd := eq_true bJd
    go_wp2_with (first | ((with_reducible refine gate_dst (N := 4) rfl ?_); refine box_event ?hg (N := 4) ?hd (cs := #[.int .i64 0, .int .i64 0, .slice none 0 0, .slice none 0 0]) (t := 46) ?hr ?_; (case hd => rfl); (case hg => rfl); (case hr => first | (go_simp; done) | (go_simp; rfl)); intro nX hg w35 hbox hb; have jG := aZ (hbox); have dQ7 := xgh hg HB; have bCl := xgh hg HB; replace HB := xhl HB hb; have aJ1 := xnl hg nV; have aJ2 := xng hg nV; replace nV := xbb nV hb; have aJ3 := xnl hg mG; have aJ4 := xng hg mG; replace mG := xbb mG hb; clear hb hbox hg; have cG0 := aJ2.out; have cG1 := aJ1.out; have bV1 := aJ4.out; have bV2 := aJ3.out; have bB6 : w35.cell? ⟨nX, 0, none⟩ = some (.int .i64 0) := (blk_cell jG.out 0).trans rfl; have bB7 : w35.cell? ⟨nX, 1, none⟩ = some (.int .i64 0) := (blk_cell jG.out 1).trans rfl; have eR3 : w35.cell? ⟨nX, 2, none⟩ = some (.slice none 0 0) := (blk_cell jG.out 2).trans rfl; have eR4 : w35.cell? ⟨nX, 3, none⟩ = some (.slice none 0 0) := (blk_cell jG.out 3).trans rfl; have bB8 := blk_frozen jG.out 0; have bB9 := blk_frozen jG.out 1; have eR5 := blk_frozen jG.out 2; have eR6 := blk_frozen jG.out 3) | ((with_reducible refine gate_callee (f := 29) rfl ?_); refine goesL_ (some 23) rfl rfl Try.func29 (by kernel_rfl) rfl #[.agg #[.int .i64 ((aA aD bW).f1.f0), .slice tF ((aA aD bW).f1.f1).length tH, .slice vG ((aA aD bW).f1.f2).length vH]] rfl xmp ?_; (with_reducible refine (objects_Digest.calls k1 ((aA aD bW).f1.f0) _ _ ((aA aD bW).f1.f1) _ _ ((aA aD bW).f1.f2) bSb bEs bM6 _ ?side1 ?side2 ?side3 ?side4 A15.out).mono ?_); (case side1 => exact Kd.C_below aW8.out (by repeat (first | (with_reducible first | exact HB.out | apply lA | apply lN | apply lD | refine lS ?_ bM4.out | refine lS ?_ bM5.out | refine lS ?_ bCl.out) | exact HB.out))); (case side2 => exact aW9.out); (case side3 => exact Kd.C_below aXa.out (by repeat (first | (with_reducible first | exact HB.out | apply lA | apply lN | apply lD | refine lS ?_ bM4.out | refine lS ?_ bM5.out | refine lS ?_ bCl.out) | exact HB.out))); (case side4 => exact aXb.out); rintro e w39 ⟨rfl, hb⟩; refine ⟨_, rfl, ?_⟩; replace nV := xbb nV hb; replace mG := xbb mG hb; replace jG := aZ (blk_below (g := nX) (o := .cells #[.int .i64 ((aA aD bW).f0), .int .i64 ((aA aD bW).f1.f0), .slice tF ((aA aD bW).f1.f1).length tH, .slice vG ((aA aD bW).f1.f2).length vH] 46 (0, 0)) (by (with_reducible repeat (first | refine bN ?_ _ | refine bD ?_ | refine bA ?_ _)); refine blk_put (cs := #[.int .i64 ((aA aD bW).f0), .int .i64 ((aA aD bW).f1.f0), .slice tF ((aA aD bW).f1.f1).length tH, .slice none 0 0]) ?_ 3 _ rfl; (with_reducible repeat (first | refine bN ?_ _ | refine bD ?_ | refine bA ?_ _)); refine blk_put (cs := #[.int .i64 ((aA aD bW).f0), .int .i64 ((aA aD bW).f1.f0), .slice none 0 0, .slice none 0 0]) ?_ 2 _ rfl; (with_reducible repeat (first | refine bN ?_ _ | refine bD ?_ | refine bA ?_ _)); refine blk_put (cs := #[.int .i64 ((aA aD bW).f0), .int .i64 0, .slice none 0 0, .slice none 0 0]) ?_ 1 _ rfl; (with_reducible repeat (first | refine bN ?_ _ | refine bD ?_ | refine bA ?_ _)); refine blk_put (cs := #[.int .i64 0, .int .i64 0, .slice none 0 0, .slice none 0 0]) ?_ 0 _ rfl; (with_reducible repeat (first | refine bN ?_ _ | refine bD ?_ | refine bA ?_ _)); exact jG.out) hb); replace HB := xhl HB hb; (try clear hb); (try clear iV); (try clear hk); (try clear hi)) | ((with_reducible refine gate_dst (N := 6) rfl ?_); refine box_event ?hg (N := 6) ?hd (cs := #[.int .i64 0, .int .i64 0]) (t := 28) ?hr ?_; (case hd => rfl); (case hg => rfl); (case hr => first | (go_simp; done) | (go_simp; rfl)); intro vM hg w40 hbox hb; have aHt := aZ (hbox); have cHf := xgh hg HB; have dQ8 := xgh hg HB; replace HB := xhl HB hb; have aJ5 := xnl hg nV; have aJ6 := xng hg nV; replace nV := xbb nV hb; have yZ := xnl hg mG; have aJ7 := xng hg mG; replace mG := xbb mG hb; have aJ8 := aZ ((by rw [hg]; exact Nat.ne_of_lt (blk_lt (g := nX) (o := .cells #[.int .i64 ((aA aD bW).f0), .int .i64 ((aA aD bW).f1.f0), .slice tF ((aA aD bW).f1.f1).length tH, .slice vG ((aA aD bW).f1.f2).length vH] 46 (0, 0)) (xkq jG)) : nX ≠ vM)); have aJ9 := aZ ((by rw [hg]; exact Nat.ne_of_gt (blk_lt (g := nX) (o := .cells #[.int .i64 ((aA aD bW).f0), .int .i64 ((aA aD bW).f1.f0), .slice tF ((aA aD bW).f1.f1).length tH, .slice vG ((aA aD bW).f1.f2).length vH] 46 (0, 0)) (xkq jG)) : vM ≠ nX)); replace jG := aZ (blk_below (g := nX) (o := .cells #[.int .i64 ((aA aD bW).f0), .int .i64 ((aA aD bW).f1.f0), .slice tF ((aA aD bW).f1.f1).length tH, .slice vG ((aA aD bW).f1.f2).length vH] 46 (0, 0)) (xkq jG) hb); clear hb hbox hg; have cMj := aJ6.out; have cMk := aJ5.out; have bSu := aJ7.out; have bSv := yZ.out; have bLs := aJ9.out; have bLt := aJ8.out; have cWq : w40.cell? ⟨vM, 0, none⟩ = some (.int .i64 0) := (blk_cell aHt.out 0).trans rfl; have cWs : w40.cell? ⟨vM, 1, none⟩ = some (.int .i64 0) := (blk_cell aHt.out 1).trans rfl; have cWt := blk_frozen aHt.out 0; have cWu := blk_frozen aHt.out 1; have bPt : w40.cell? ⟨nX, 0, none⟩ = some (.int .i64 ((aA aD bW).f0)) := (blk_cell jG.out 0).trans rfl; have dP0 : w40.cell? ⟨nX, 1, none⟩ = some (.int .i64 ((aA aD bW).f1.f0)) := (blk_cell jG.out 1).trans rfl; have eQo : w40.cell? ⟨nX, 2, none⟩ = some (.slice tF ((aA aD bW).f1.f1).length tH) := (blk_cell jG.out 2).trans rfl; have gXu : w40.cell? ⟨nX, 3, none⟩ = some (.slice vG ((aA aD bW).f1.f2).length vH) := (blk_cell jG.out 3).trans rfl; have bPu := blk_frozen jG.out 0; have dP1 := blk_frozen jG.out 1; have eQp := blk_frozen jG.out 2; have gXv := blk_frozen jG.out 3; have dDj := aOk.out; have dDk := aOl.out; have bIl : w40.cell? ⟨cS1, 0, none⟩ = some (.slice (some bLu) aD.length bK) := (blk_cell nV.out 0).trans rfl; have bIm := blk_frozen nV.out 0; have dKq : 0 ≤ ((bM9) : Int) := of_decide_eq_true xas; have dKr : (bM9) < (aD.length : Int) := of_decide_eq_true xas; obtain ⟨eD7, fGq, fGr, fGs, fGt, fGu, aDp, aKa, aKb, aKc, bWv, bWw, bWx, bWy⟩ := gY fI.out (bM9) dKq dKr; obtain rfl : bLu = eD7 := (by injection fGu); have uS : bLu.block ≠ vM := Nat.ne_of_lt (Nat.lt_of_lt_of_le (by have := World.block_lt_of_cell? _ _ aDp; first | rwa [add_block] at this | exact this) cHf.out); have uT : bLu.block ≠ vM := Nat.ne_of_lt (Nat.lt_of_lt_of_le (by have := World.block_lt_of_cell? _ _ aDp; first | rwa [add_block] at this | exact this) cHf.out); replace aDp := xcl HB aDp; replace aKa := xcl HB aKa; replace aKb := xcl HB aKb; replace aKc := xcl HB aKc; have eRz := aZ bWw; have eR0 := aZ bWv; clear bWw bWv; have eR1 := aZ bWy; have eR2 := aZ bWx; clear bWy bWx; replace aDp := (cell_far (p := ⟨vM, 0, none⟩) (by first | (rw [add_block]; exact uS) | (show (Addr.add _ _).block ≠ _; rw [add_block]; exact uS) | exact uS) (.int .i64 bEs)).trans aDp; replace aKa := (cell_far (p := ⟨vM, 0, none⟩) (by first | (rw [add_block]; exact uS) | (show (Addr.add _ _).block ≠ _; rw [add_block]; exact uS) | exact uS) (.int .i64 bEs)).trans aKa; replace aKb := (cell_far (p := ⟨vM, 0, none⟩) (by first | (rw [add_block]; exact uS) | (show (Addr.add _ _).block ≠ _; rw [add_block]; exact uS) | exact uS) (.int .i64 bEs)).trans aKb; replace aKc := (cell_far (p := ⟨vM, 0, none⟩) (by first | (rw [add_block]; exact uS) | (show (Addr.add _ _).block ≠ _; rw [add_block]; exact uS) | exact uS) (.int .i64 bEs)).trans aKc; replace aDp := (cell_far (p := ⟨vM, 1, none⟩) (by first | (rw [add_block]; exact uT) | (show (Addr.add _ _).block ≠ _; rw [add_block]; exact uT) | exact uT) (.int .i64 bM6)).trans aDp; replace aKa := (cell_far (p := ⟨vM, 1, none⟩) (by first | (rw [add_block]; exact uT) | (show (Addr.add _ _).block ≠ _; rw [add_block]; exact uT) | exact uT) (.int .i64 bM6)).trans aKa; replace aKb := (cell_far (p := ⟨vM, 1, none⟩) (by first | (rw [add_block]; exact uT) | (show (Addr.add _ _).block ≠ _; rw [add_block]; exact uT) | exact uT) (.int .i64 bM6)).trans aKb; replace aKc := (cell_far (p := ⟨vM, 1, none⟩) (by first | (rw [add_block]; exact uT) | (show (Addr.add _ _).block ≠ _; rw [add_block]; exact uT) | exact uT) (.int .i64 bM6)).trans aKc; clear uS; clear uT; replace dKq := eq_true dKq; replace dKr := eq_true dKr; have dRn : w40.cell? ⟨aVv, 0, none⟩ = some (.int .i64 aCw) := (blk_cell mG.out 0).trans rfl; have eR7 : w40.cell? ⟨aVv, 1, none⟩ = some (.int .i64 yF) := (blk_cell mG.out 1).trans rfl; have dRo := blk_frozen mG.out 0; have eR8 := blk_frozen mG.out 1))
    refine bodyPost_ret (results_cell_row rfl _ _ aVv 28 #[.int .i64 5, .int .i64 bW] (0, 0) _ rfl (by (with_reducible repeat (first | refine bN ?_ _ | refine bD ?_ | refine bA ?_ _)); refine blk_put (cs := #[.int .i64 5, .int .i64 yF]) ?_ 1 _ rfl; (with_reducible repeat (first | refine bN ?_ _ | refine bD ?_ | refine bA ?_ _)); refine blk_put (cs := #[.int .i64 aCw, .int .i64 yF]) ?_ 0 _ rfl; (with_reducible repeat (first | refine bN ?_ _ | refine bD ?_ | refine bA ?_ _)); refine blk_far ?_ yZ.out _; (with_reducible repeat (first | refine bN ?_ _ | refine bD ?_ | refine bA ?_ _)); refine blk_far ?_ yZ.out _; (with_reducible repeat (first | refine bN ?_ _ | refine bD ?_ | refine bA ?_ _)); exact mG.out) Try.underlying28 rfl (by kernel_rfl)) rfl ?_
    exact ⟨by first | rfl | (simp [errW_none, errW_some] <;> rfl) | (simp only [← dFd]; first | rfl | (simp [errW_none, errW_some] <;> rfl)) | (simp [*, errW_none, errW_some] <;> rfl), xq HB⟩
end
def aT.f (a0 : Int) (a1 : Int) : Option (Int × Int) := some (a0, a1)
set_option maxHeartbeats 8000000 in
set_option maxRecDepth 100000 in
theorem aT.calls (a0 : Int) (a1 : Int) (r1 : Int) (r2 : Int) (w : World) (h : aT.f a0 a1 = some (r1, r2)) :
    Calls Try.prog 18 #[.int .i64 a0, .int .i64 a1] w fun e w' => e = .returned (.agg #[.int .i64 r1, .int .i64 r2]) ∧ Below w.heap.size w w' := by
  have aQg := Try.underlying28
  have HB := aZ (Below.refl w.heap.size w)
  have H : (some (a0, a1)) = some (r1, r2) := h
  clear h
  simp only [Option.some.injEq, Prod.mk.injEq] at H
  obtain ⟨rfl, rfl⟩ := H
  go_enter Try.func18, Try.ntmps18
  go_wp2_with (first | ((with_reducible refine gate_dst (N := 4) rfl ?_); refine box_event ?hg (N := 4) ?hd (cs := #[.int .i64 0, .int .i64 0]) (t := 28) ?hr ?_; (case hd => rfl); (case hg => rfl); (case hr => first | (go_simp; done) | (go_simp; rfl)); intro eCd hg w3 hbox hb; have dD1 := aZ (hbox); have iA7 := xgh hg HB; have iA8 := xgh hg HB; replace HB := xhl HB hb; clear hb hbox hg; have cVu : w3.cell? ⟨eCd, 0, none⟩ = some (.int .i64 0) := (blk_cell dD1.out 0).trans rfl; have eB1 : w3.cell? ⟨eCd, 1, none⟩ = some (.int .i64 0) := (blk_cell dD1.out 1).trans rfl; have cVv := blk_frozen dD1.out 0; have eB2 := blk_frozen dD1.out 1))
  refine bodyPost_ret (results_cell_row rfl _ _ eCd 28 #[.int .i64 a0, .int .i64 a1] (0, 0) _ rfl (by (with_reducible repeat (first | refine bN ?_ _ | refine bD ?_ | refine bA ?_ _)); refine blk_put (cs := #[.int .i64 a0, .int .i64 0]) ?_ 1 _ rfl; (with_reducible repeat (first | refine bN ?_ _ | refine bD ?_ | refine bA ?_ _)); refine blk_put (cs := #[.int .i64 0, .int .i64 0]) ?_ 0 _ rfl; (with_reducible repeat (first | refine bN ?_ _ | refine bD ?_ | refine bA ?_ _)); exact dD1.out) Try.underlying28 rfl (by kernel_rfl)) rfl ?_
  exact ⟨xre, xq HB⟩
def fE.f (a0 : Int) (a1 : Int) (a2 : Int) : Option (Bool) := if a0 ≥ a1 then (some (decide (a0 ≤ a2))) else (some false)
set_option maxHeartbeats 8000000 in
set_option maxRecDepth 100000 in
theorem fE.calls (a0 : Int) (a1 : Int) (a2 : Int) (r : Bool) (w : World) (h : fE.f a0 a1 a2 = some r) :
    Calls Try.prog 19 #[.int .i64 a0, .int .i64 a1, .int .i64 a2] w fun e w' => e = .returned (.bool r) ∧ Drawn0 w w' := by
  have H : (if a0 ≥ a1 then (some (decide (a0 ≤ a2))) else (some false)) = some r := h
  clear h
  by_cases c4 : a0 ≥ a1
  · rw [if_pos c4] at H
    have aJy : decide (a1 ≤ a0) = true := decide_eq_true c4
    clear c4
    obtain rfl := Option.some.inj H
    go_enter Try.func19, Try.ntmps19
    go_wp2
    go_ret
    exact ⟨by first | rfl | (simp; done) | (simp [*]; done), by repeat (first | exact Drawn0.refl _ | apply Drawn0.step)⟩
  · rw [if_neg c4] at H
    have aJy : decide (a1 ≤ a0) = false := decide_eq_false c4
    clear c4
    obtain rfl := Option.some.inj H
    go_enter Try.func19, Try.ntmps19
    go_wp2
    go_ret
    exact ⟨by first | rfl | (simp; done) | (simp [*]; done), by repeat (first | exact Drawn0.refl _ | apply Drawn0.step)⟩

end Go.Proofs.Ytnmkmamobhkcbaa.P
