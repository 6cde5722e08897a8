/- Texts of the proofs of ObjectsPutMatchesSpec: what the printed functions come to, plain laws, rows (no condition beyond the statements' own). -/
import Derived.Test.YtnmkmamobhkcbaaGP0
import Derived.Test.YtnmkmamobhkcbaaGP18
import Derived.Test.YtnmkmamobhkcbaaGP35
namespace Go.Proofs.Ytnmkmamobhkcbaa.P
open Go.RowKit Go.Proofs.YtnmkmamobhkcbaaW.PrintWords Go.Proofs.YtnmkmamobhkcbaaW.PrintLast Go.Proofs.YtnmkmamobhkcbaaW.PrintMore
attribute [local go_sem] max2_int min2_int max_two min_two max_three min_three max_four min_four   -- for this text's walks alone
set_option linter.unusedVariables false
set_option linter.unusedSimpArgs false
def aQ.l0 : Nat → Int → Bool → Int → List (fB) → Int → List Int → List Int → List (fB) → Option ((List (fB)) × Int × Int)
  | 0, _, _, _, _, _, _, _, _ => none
  | k + 1, x7, x10, x11, aDt, bYv, bYw, bYx, aXs => if x11 < (aDt.length : Int) then (if x10 = true then (if 0 ≤ x11 then (if aXs.length < 2199023255552 then (aQ.l0 k x7 x10 (wrap64 (x11 + 1)) aDt bYv bYw bYx (aXs ++ [(⟨(aA aDt x11).f0, (⟨(aA aDt x11).f1.f0, (aA aDt x11).f1.f1, (aA aDt x11).f1.f2⟩ : S44)⟩ : fB)])) else (none)) else (none)) else (if 0 ≤ x11 then (if ((aA aDt x11).f0) > x7 then (if aXs.length < 2199023255552 then ((some (aXs ++ [(⟨x7, (⟨bYv, bYw, bYx⟩ : S44)⟩ : fB)] : List (fB))).bind fun aB0 => (if aB0.length < 2199023255552 then (aQ.l0 k x7 true (wrap64 (x11 + 1)) aDt bYv bYw bYx (aB0 ++ [(⟨(aA aDt x11).f0, (⟨(aA aDt x11).f1.f0, (aA aDt x11).f1.f1, (aA aDt x11).f1.f2⟩ : S44)⟩ : fB)])) else (none))) else (none)) else (if aXs.length < 2199023255552 then (aQ.l0 k x7 x10 (wrap64 (x11 + 1)) aDt bYv bYw bYx (aXs ++ [(⟨(aA aDt x11).f0, (⟨(aA aDt x11).f1.f0, (aA aDt x11).f1.f1, (aA aDt x11).f1.f2⟩ : S44)⟩ : fB)])) else (none))) else (none))) else (if x10 = true then (some (aXs, x7, 0)) else (if aXs.length < 2199023255552 then (some ((aXs ++ [(⟨x7, (⟨bYv, bYw, bYx⟩ : S44)⟩ : fB)]), x7, 0)) else (none)))
def aQ.f (k : Nat) (aD : List (fB)) (dH : Int) (bX : List Int) (cO : List Int) : Option ((List (fB)) × Int × Int) := (aV.f k dH bX cO).bind fun aAc => ((bH.f k aD aAc).bind fun rG => (if rG ≥ 0 then (if 0 ≤ rG then (if rG < (aD.length : Int) then ((aU.f k ((aA aD rG).f1.f0) ((aA aD rG).f1.f1) ((aA aD rG).f1.f2) dH bX cO).bind fun cRx => (if cRx = true then (some (aD, aAc, 0)) else (some (([] : List (fB)), 0, 19)))) else (none)) else (none)) else (if (aD.length : Int) ≥ 40 then (some (([] : List (fB)), 0, 14)) else (aQ.l0 k aAc false 0 aD dH bX cO ([] : List (fB))))))
theorem aQ.mono_l : ∀ k, (∀ y0 y1 y2 y3 y4 y5 y6 y7, LeO (aQ.l0 k y0 y1 y2 y3 y4 y5 y6 y7) (aQ.l0 (k + 1) y0 y1 y2 y3 y4 y5 y6 y7))
  | 0 => fun _ _ _ _ _ _ _ _ r h => by simp [aQ.l0] at h
  | k + 1 => by
    have mU := aQ.mono_l k
    · intro y0 y1 y2 y3 y4 y5 y6 y7
      unfold aQ.l0
      repeat' first | (with_reducible first | exact mU _ _ _ _ _ _ _ _ | exact bH.mono _ _ _ | exact aV.mono _ _ _ _ | exact aU.mono _ _ _ _ _ _ _ | exact LeO.refl _ | exact LeO.none _ | refine LeO.ite ?_ ?_ | refine LeO.bind ?_ (fun _ => ?_)) | exact mU _ _ _ _ _ _ _ _ | exact bH.mono _ _ _ | exact aV.mono _ _ _ _ | exact aU.mono _ _ _ _ _ _ _ | exact LeO.none _ | refine LeO.ite ?_ ?_ | refine LeO.bind ?_ (fun _ => ?_)
theorem aQ.mono : ∀ a0 a1 a2 a3 k, LeO (aQ.f k a0 a1 a2 a3) (aQ.f (k + 1) a0 a1 a2 a3) := by
  intro a0 a1 a2 a3 k
  have mU := aQ.mono_l k
  unfold aQ.f
  repeat' first | (with_reducible first | exact mU _ _ _ _ _ _ _ _ | exact bH.mono _ _ _ | exact aV.mono _ _ _ _ | exact aU.mono _ _ _ _ _ _ _ | exact LeO.refl _ | exact LeO.none _ | refine LeO.ite ?_ ?_ | refine LeO.bind ?_ (fun _ => ?_)) | exact mU _ _ _ _ _ _ _ _ | exact bH.mono _ _ _ | exact aV.mono _ _ _ _ | exact aU.mono _ _ _ _ _ _ _ | exact LeO.none _ | refine LeO.ite ?_ ?_ | refine LeO.bind ?_ (fun _ => ?_)
def aQ.T4 : Bool × List (List Nat × List Nat) := (true, [([], []), ([0], [0]), ([], []), ([1, 2], [1, 2]), ([3], [3]), ([4], [4]), ([], []), ([5, 6], [5, 6]), ([7], [7])])
def aQ.B4 : List Nat := [0, 1, 0, 7, 15, 31, 0, 127, 255]
theorem aQ.tab4 : rtab .any (opsOf Try.f34 4) = aQ.T4 := by kernel_rfl
theorem aQ.bits4 : waitsOk aQ.T4.2 aQ.B4 = true := by kernel_rfl
def aQ.T17 : Bool × List (List Nat × List Nat) := (true, [([], []), ([0], [0]), ([], []), ([2], [2]), ([], []), ([3, 4], [3, 4]), ([5], [5]), ([6], [6]), ([1, 7], [1, 7]), ([0, 1, 2, 3, 4, 5, 6, 7, 8], []), ([9, 8, 8, 0, 1, 2, 3, 4, 5, 6, 7, 8], [8, 9])])
def aQ.B17 : List Nat := [0, 1, 0, 4, 0, 28, 60, 124, 255, 511, 1023]
theorem aQ.tab17 : rtab .any (opsOf Try.f34 17) = aQ.T17 := by kernel_rfl
theorem aQ.bits17 : waitsOk aQ.T17.2 aQ.B17 = true := by kernel_rfl
abbrev aQ.Z1 : Array Bool := #[U,U,U,U,U,U,U,U,U,U,U]
abbrev aQ.Z2 : Array Bool := #[J,U,U,U,U,U,U,U,U,U,U]
abbrev aQ.Z3 : Array Bool := #[J,U,J,U,U,U,U,U,U,U,U]
abbrev aQ.Z4 : Array Bool := #[J,U,J,U,J,U,U,U,U,U,U]
abbrev aQ.Z5 : Array Bool := #[J,J,J,U,J,U,U,U,U,U,U]
abbrev aQ.Z6 : Array Bool := #[J,J,J,J,J,U,U,U,U,U,U]
abbrev aQ.Z7 : Array Bool := #[J,J,J,J,J,J,U,U,U,U,U]
abbrev aQ.Z8 : Array Bool := #[J,J,J,J,J,J,J,U,U,U,U]
abbrev aQ.Z9 : Array Bool := #[J,J,J,J,J,J,J,J,U,U,U]
abbrev aQ.Z10 : Array Bool := #[J,J,J,J,J,J,J,J,J,U,U]
abbrev aQ.Z11 : Array Bool := #[J,J,J,J,J,J,J,J,J,J,U]
abbrev aQ.Z12 : Array Bool := #[J,J,J,J,J,J,J,J,J,J,J]
set_option maxHeartbeats 8000000 in
set_option maxRecDepth 100000 in
theorem aQ.calls (k : Nat) (eP : Nat → Prop) (bP : Option Addr) (bK : Nat) (aD : List (fB)) (dH : Int) (nQ : Nat → Prop) (kW : Option Addr) (kX : Nat) (bX : List Int) (nR : Nat → Prop) (kR : Option Addr) (kS : Nat) (cO : List Int) (r1 : List (fB)) (r2 : Int) (r3 : Int) (w : World) (dGw : Kd.V qL 46 w w.heap.size (fun k_ => eP k_) (.slice bP aD.length bK) aD) (gDe : Kd.V (Kd.int .i64) 3 w w.heap.size (fun k_ => nQ k_) (.slice kW bX.length kX) bX) (gDf : Kd.V (Kd.int .u8) 5 w w.heap.size (fun k_ => nR k_) (.slice kR cO.length kS) cO) (h : aQ.f k aD dH bX cO = some (r1, r2, r3)) :
  Calls Try.prog 34 #[.agg #[.slice bP aD.length bK], .agg #[.int .i64 dH, .slice kW bX.length kX, .slice kR cO.length kS]] w fun e w' => ∃ v0_ : Value, e = .returned (.tuple #[.agg #[v0_], .int .i64 r2, .int .i64 r3]) ∧ Kd.V qL 46 w' w.heap.size (fun k_ => ((eP k_ ∨ nQ k_ ∨ nR k_) ∨ w.heap.size ≤ k_)) v0_ r1 ∧ Below w.heap.size w w' := by
  have aP7 := Try.underlying24
  have aQf := Try.underlying44
  have cRq := Try.underlying46
  have kK := aZ (show Kd.V qL 46 w w.heap.size (fun k_ => ((eP k_ ∨ nQ k_ ∨ nR k_) ∨ w.heap.size ≤ k_)) (.slice bP aD.length bK) aD from Kd.V_mono dGw (fun k_ hk => .inl (.inl hk)))
  have oJ := aZ (show Kd.V (Kd.int .i64) 3 w w.heap.size (fun k_ => ((eP k_ ∨ nQ k_ ∨ nR k_) ∨ w.heap.size ≤ k_)) (.slice kW bX.length kX) bX from Kd.V_mono gDe (fun k_ hk => .inl (.inr (.inl hk))))
  have oK := aZ (show Kd.V (Kd.int .u8) 5 w w.heap.size (fun k_ => ((eP k_ ∨ nQ k_ ∨ nR k_) ∨ w.heap.size ≤ k_)) (.slice kR cO.length kS) cO from Kd.V_mono gDf (fun k_ hk => .inl (.inr (.inr hk))))
  have HB := aZ (Below.refl w.heap.size w)
  have H : ((aV.f k dH bX cO).bind fun aAc => ((bH.f k aD aAc).bind fun rG => (if rG ≥ 0 then (if 0 ≤ rG then (if rG < (aD.length : Int) then ((aU.f k ((aA aD rG).f1.f0) ((aA aD rG).f1.f1) ((aA aD rG).f1.f2) dH bX cO).bind fun cRx => (if cRx = true then (some (aD, aAc, 0)) else (some (([] : List (fB)), 0, 19)))) else (none)) else (none)) else (if (aD.length : Int) ≥ 40 then (some (([] : List (fB)), 0, 14)) else (aQ.l0 k aAc false 0 aD dH bX cO ([] : List (fB))))))) = some (r1, r2, r3) := h
  clear h
  replace H := Option.bind_eq_some_iff.mp H
  obtain ⟨aAc, A30, H⟩ := H
  replace H : ((bH.f k aD aAc).bind fun rG => (if rG ≥ 0 then (if 0 ≤ rG then (if rG < (aD.length : Int) then ((aU.f k ((aA aD rG).f1.f0) ((aA aD rG).f1.f1) ((aA aD rG).f1.f2) dH bX cO).bind fun cRx => (if cRx = true then (some (aD, aAc, 0)) else (some (([] : List (fB)), 0, 19)))) else (none)) else (none)) else (if (aD.length : Int) ≥ 40 then (some (([] : List (fB)), 0, 14)) else (aQ.l0 k aAc false 0 aD dH bX cO ([] : List (fB)))))) = some (r1, r2, r3) := H
  have A3 := aZ A30
  clear A30
  replace H := Option.bind_eq_some_iff.mp H
  obtain ⟨rG, A40, H⟩ := H
  replace H : (if rG ≥ 0 then (if 0 ≤ rG then (if rG < (aD.length : Int) then ((aU.f k ((aA aD rG).f1.f0) ((aA aD rG).f1.f1) ((aA aD rG).f1.f2) dH bX cO).bind fun cRx => (if cRx = true then (some (aD, aAc, 0)) else (some (([] : List (fB)), 0, 19)))) else (none)) else (none)) else (if (aD.length : Int) ≥ 40 then (some (([] : List (fB)), 0, 14)) else (aQ.l0 k aAc false 0 aD dH bX cO ([] : List (fB))))) = some (r1, r2, r3) := H
  have A4 := aZ A40
  clear A40
  by_cases c5 : rG ≥ 0
  · rw [if_pos c5] at H
    have bAy : decide (0 ≤ rG) = true := decide_eq_true c5
    clear c5
    by_cases c6 : 0 ≤ rG
    rotate_left
    · rw [if_neg c6] at H
      exact absurd H (by simp)
    rw [if_pos c6] at H
    have aWf : decide (0 ≤ rG) = true := decide_eq_true c6
    clear c6
    by_cases c7 : rG < (aD.length : Int)
    rotate_left
    · rw [if_neg c7] at H
      exact absurd H (by simp)
    rw [if_pos c7] at H
    have bTm : decide (rG < (aD.length : Int)) = true := decide_eq_true c7
    clear c7
    replace H := Option.bind_eq_some_iff.mp H
    obtain ⟨cRx, A80, H⟩ := H
    replace H : (if cRx = true then (some (aD, aAc, 0)) else (some (([] : List (fB)), 0, 19))) = some (r1, r2, r3) := H
    have A8 := aZ A80
    clear A80
    by_cases c9 : cRx = true
    rotate_left
    · replace c9 := Bool.eq_false_iff.mpr c9
      subst c9
      have H1 : (some (([] : List (fB)), 0, 19)) = some (r1, r2, r3) := by rw [if_neg (show ¬ (false = true) by decide)] at H; exact H
      clear H
      have H := H1
      clear H1
      simp only [Option.some.injEq, Prod.mk.injEq] at H
      obtain ⟨rfl, rfl, rfl⟩ := H
      go_enter Try.func34, Try.ntmps34
      try go_wp2_with (first | ((with_reducible refine gate_dst (N := 2) rfl ?_); refine box_event ?hg (N := 2) ?hd (cs := #[.slice bP aD.length bK]) (t := 24) ?hr ?_; (case hd => rfl); (case hg => rfl); (case hr => first | (go_simp; done) | (go_simp; rfl)); intro jT hg w24 hbox hb; replace kK := xVB kK hg hb; replace oJ := xVB oJ hg hb; replace oK := xVB oK hg hb; have gB := aZ (hbox); have eJe := xgh hg HB; have aSo := xgh hg HB; replace HB := xhl HB hb; clear hb hbox hg) | ((with_reducible refine gate_dst (N := 3) rfl ?_); refine box_event ?hg (N := 3) ?hd (cs := #[.int .i64 dH, .slice kW bX.length kX, .slice kR cO.length kS]) (t := 44) ?hr ?_; (case hd => rfl); (case hg => rfl); (case hr => first | (go_simp; done) | (go_simp; rfl)); intro jH hg w25 hbox hb; replace kK := xVB kK hg hb; replace oJ := xVB oJ hg hb; replace oK := xVB oK hg hb; have gH := aZ (hbox); have eJf := xgh hg HB; have aSp := xgh hg HB; replace HB := xhl HB hb; have aC5 := xnl hg gB; have aC6 := xng hg gB; replace gB := xbb gB hb; clear hb hbox hg) | ((with_reducible refine gate_dst (N := 4) rfl ?_); refine box_event ?hg (N := 4) ?hd (cs := #[.slice none 0 0]) (t := 24) ?hr ?_; (case hd => rfl); (case hg => rfl); (case hr => first | (go_simp; done) | (go_simp; rfl)); intro jU hg w26 hbox hb; replace kK := xVB kK hg hb; replace oJ := xVB oJ hg hb; replace oK := xVB oK hg hb; have lH := aZ (hbox); have eJg := xgh hg HB; have aSq := xgh hg HB; replace HB := xhl HB hb; have aC7 := xnl hg gB; have aC8 := xng hg gB; replace gB := xbb gB hb; have aGu := xnl hg gH; have aGv := xng hg gH; replace gH := xbb gH hb; clear hb hbox hg; have dDx := aC6.out; have dDy := aC5.out; have bV9 := aGu.out; have bWa := aGv.out; have bIs : w26.cell? ⟨jH, 0, none⟩ = some (.int .i64 dH) := (blk_cell gH.out 0).trans rfl; have bVr : w26.cell? ⟨jH, 1, none⟩ = some (.slice kW bX.length kX) := (blk_cell gH.out 1).trans rfl; have cVq : w26.cell? ⟨jH, 2, none⟩ = some (.slice kR cO.length kS) := (blk_cell gH.out 2).trans rfl; have bIt := blk_frozen gH.out 0; have bVs := blk_frozen gH.out 1; have cVr := blk_frozen gH.out 2) | ((with_reducible refine gate_callee (f := 31) rfl ?_); refine goesL_ (some 13) rfl rfl Try.func31 (by kernel_rfl) rfl #[.agg #[.int .i64 dH, .slice kW bX.length kX, .slice kR cO.length kS]] rfl xmp ?_; (with_reducible refine (aV.calls k dH _ _ bX _ _ cO aAc _ ?side1 ?side2 ?side3 ?side4 A3.out).mono ?_); (case side1 => repeat (first | exact (Kd.V_reads' oJ.out).2.2 | (with_reducible refine Kd.C_alloc ?_ _) | (with_reducible refine Kd.C_drewN ?_ _) | (with_reducible refine Kd.C_drew ?_))); (case side2 => exact (Kd.V_reads' oJ.out).2.1); (case side3 => repeat (first | exact (Kd.V_reads' oK.out).2.2 | (with_reducible refine Kd.C_alloc ?_ _) | (with_reducible refine Kd.C_drewN ?_ _) | (with_reducible refine Kd.C_drew ?_))); (case side4 => exact (Kd.V_reads' oK.out).2.1); rintro e w30 ⟨rfl, hb⟩; refine ⟨_, rfl, ?_⟩; replace kK := xV kK hb; replace oJ := xV oJ hb; replace oK := xV oK hb; replace gB := xbb gB hb; replace gH := xbb gH hb; replace lH := xbb lH hb; replace HB := xhl HB hb; (try clear hb); (try clear iV); (try clear hk); (try clear hi); have bVz := aC7.out; have bV0 := aC8.out; have aFo : w30.cell? ⟨jT, 0, none⟩ = some (.slice bP aD.length bK) := (blk_cell gB.out 0).trans rfl; have aFp := blk_frozen gB.out 0) | ((with_reducible refine gate_callee (f := 27) rfl ?_); refine goesL_ (some 16) rfl rfl Try.func27 (by kernel_rfl) rfl #[.agg #[.slice bP aD.length bK], .int .i64 aAc] rfl xmp ?_; (with_reducible refine (bH.calls k _ _ aD aAc rG _ ?side1 ?side2 A4.out).mono ?_); (case side1 => repeat (first | exact (Kd.V_reads' kK.out).2.2 | (with_reducible refine Kd.C_alloc ?_ _) | (with_reducible refine Kd.C_drewN ?_ _) | (with_reducible refine Kd.C_drew ?_))); (case side2 => exact (Kd.V_reads' kK.out).2.1); rintro e w33 ⟨rfl, hb⟩; refine ⟨_, rfl, ?_⟩; replace kK := xV kK hb; replace oJ := xV oJ hb; replace oK := xV oK hb; replace gB := xbb gB hb; replace gH := xbb gH hb; replace lH := xbb lH hb; replace HB := xhl HB hb; (try clear hb); (try clear iV); (try clear hk); (try clear hi)))
      replace kK := aZ (Kd.V_drew kK.out)
      replace oJ := aZ (Kd.V_drew oJ.out)
      replace oK := aZ (Kd.V_drew oK.out)
      replace gB := aZ (bD gB.out)
      replace gH := aZ (bD gH.out)
      replace lH := aZ (bD lH.out)
      replace HB := aZ (lD HB.out)
      have cZh : 0 ≤ (rG : Int) := of_decide_eq_true xas
      have cZi : rG < (aD.length : Int) := of_decide_eq_true xas
      obtain ⟨aO0, cPb, cPc, cPd, cPe, fJx, bYy, bYz, bKb, bKc, bY0, bY1, bY2, bY3⟩ := gY (Kd.V_reads' kK.out).2.2 rG cZh cZi
      cases fJx
      obtain ⟨gDg, dMp, dMq, bUp⟩ := Kd.V_get kK.out z46 rG cZh (by first | exact cZi | exact of_decide_eq_true xas | (have e_ := (Kd.V_reads' kK.out).1; omega))
      obtain ⟨eUw, eUx, eUy, eUz, rfl, bKd, bKe, bKf, bKg⟩ := rM dMq
      have aXt := bUp 2 _ rfl
      rw [add_field _ _ 2 (by omega)] at aXt
      replace aXt := Option.some.inj (aXt.symm.trans bKb)
      injection aXt with hva_ hvn_ hvc_
      rw [hva_] at bKe
      rw [hvc_] at bKd
      have bKh := aZ (show Kd.V (Kd.int .i64) 3 _ w.heap.size _ _ ((aA aD rG).f1.f1) from Kd.V_mk bKd bKe)
      clear hva_ hvn_ hvc_ bKe bKd
      have aXu := bUp 3 _ rfl
      rw [add_field _ _ 3 (by omega)] at aXu
      replace aXu := Option.some.inj (aXu.symm.trans bKc)
      injection aXu with hva_ hvn_ hvc_
      rw [hva_] at bKg
      rw [hvc_] at bKf
      have bKi := aZ (show Kd.V (Kd.int .u8) 5 _ w.heap.size _ _ ((aA aD rG).f1.f2) from Kd.V_mk bKf bKg)
      clear hva_ hvn_ hvc_ bKg bKf
      clear bUp dMp
      have aXv := aZ bY1
      have cZj := aZ bY0
      clear bY1 bY0
      have aXw := aZ bY3
      have cZk := aZ bY2
      clear bY3 bY2
      replace cZh := eq_true cZh
      replace cZi := eq_true cZi
      refine start_ (n := 9) (S := fun w' => w'.cell? ⟨jT, 0, none⟩ = some (.slice (some aO0) aD.length bK) ∧ w'.cell? ⟨jH, 0, none⟩ = some (.int .i64 dH) ∧ w'.cell? ⟨jH, 1, none⟩ = some (.slice kW bX.length kX) ∧ w'.cell? ⟨jH, 2, none⟩ = some (.slice kR cO.length kS) ∧ w'.cell? (aO0.add ((rG).toNat * 4)) = some (.int .i64 ((aA aD rG).f0)) ∧ w'.cell? ⟨(aO0.add ((rG).toNat * 4)).block, (aO0.add ((rG).toNat * 4)).off + 1, none⟩ = some (.int .i64 ((aA aD rG).f1.f0)) ∧ w'.cell? ⟨(aO0.add ((rG).toNat * 4)).block, (aO0.add ((rG).toNat * 4)).off + 2, none⟩ = some (.slice cPb ((aA aD rG).f1.f1).length cPc) ∧ w'.cell? ⟨(aO0.add ((rG).toNat * 4)).block, (aO0.add ((rG).toNat * 4)).off + 3, none⟩ = some (.slice cPd ((aA aD rG).f1.f2).length cPe)) (ds := []) #[false, false, false, false, false, false, false, false, false] (by kernel_rfl) rfl rfl ⟨(blk_cell gB.out 0).trans rfl, (blk_cell gH.out 0).trans rfl, (blk_cell gH.out 1).trans rfl, (blk_cell gH.out 2).trans rfl, bYy, bYz, bKb, bKc⟩ (fun hHeld => ?_); refine with_tabW aQ.tab4 aQ.bits4 (fun HT_ HW_ => ?_)
      generalize w33.drew = w34 at kK oJ oK gB gH lH HB bKh bKi aXv aXw bYy bYz bKb bKc hHeld ⊢
      refine pu 0 19 #[true, false, false, false, false, false, false, false, false] HT_ rfl rfl (h := ?_)
      refine pu 2 21 #[true, false, true, false, false, false, false, false, false] HT_ rfl rfl (h := ?_)
      refine tk 1 20 #[true, true, true, false, false, false, false, false, false] HT_ HW_ rfl rfl hHeld (by rintro w' ⟨s0, s1, s2, s3, s4, s5, s6, s7⟩; go_simp; with_reducible rfl) (h := ?_)
      refine pu 3 22 #[true, true, true, true, false, false, false, false, false] HT_ rfl rfl (h := ?_)
      refine pu 4 23 #[true, true, true, true, true, false, false, false, false] HT_ rfl rfl (h := ?_)
      refine tk 5 24 #[true, true, true, true, true, true, false, false, false] HT_ HW_ rfl rfl hHeld (by rintro w' ⟨s0, s1, s2, s3, s4, s5, s6, s7⟩; go_simp; with_reducible rfl) (h := ?_)
      refine tk 6 25 #[true, true, true, true, true, true, true, false, false] HT_ HW_ rfl rfl hHeld (by rintro w' ⟨s0, s1, s2, s3, s4, s5, s6, s7⟩; go_simp; with_reducible rfl) (h := ?_)
      refine one_ (i := 7) (N := some 26) #[true, true, true, true, true, true, true, true, false] rfl rfl (one_of HT_.out (by kernel_rfl)) (by decide) (fun K hK => ?_)
      refine goes_ Try.func24 (by kernel_rfl) rfl #[.agg #[.int .i64 ((aA aD rG).f1.f0), .slice cPb ((aA aD rG).f1.f1).length cPc, .slice cPd ((aA aD rG).f1.f2).length cPe], .agg #[.int .i64 dH, .slice kW bX.length kX, .slice kR cO.length kS]] (by rfl) rfl rfl xmp ?_
      with_reducible refine (aU.calls k ((aA aD rG).f1.f0) _ _ ((aA aD rG).f1.f1) _ _ ((aA aD rG).f1.f2) dH _ _ bX _ _ cO false _ ?side1 ?side2 ?side3 ?side4 ?side5 ?side6 ?side7 ?side8 A8.out).mono ?_
      (case side1 => exact xcc aXv)
      (case side2 => exact cZj.out)
      (case side3 => exact xcc aXw)
      (case side4 => exact cZk.out)
      (case side5 => repeat (first | exact (Kd.V_reads' oJ.out).2.2 | (with_reducible refine Kd.C_alloc ?_ _) | (with_reducible refine Kd.C_drewN ?_ _) | (with_reducible refine Kd.C_drew ?_)))
      (case side6 => exact (Kd.V_reads' oJ.out).2.1)
      (case side7 => repeat (first | exact (Kd.V_reads' oK.out).2.2 | (with_reducible refine Kd.C_alloc ?_ _) | (with_reducible refine Kd.C_drewN ?_ _) | (with_reducible refine Kd.C_drew ?_)))
      (case side8 => exact (Kd.V_reads' oK.out).2.1)
      rintro e w35 ⟨rfl, hb⟩
      have dMr := (hb.cell (World.block_lt_of_cell? _ _ (hHeld.2.2.2.2.1))).trans (hHeld.2.2.2.2.1)
      have cPf := (hb.cell (World.block_lt_of_cell? _ _ (hHeld.2.2.2.2.2.1))).trans (hHeld.2.2.2.2.2.1)
      have cD8 := (hb.cell (World.block_lt_of_cell? _ _ (hHeld.2.2.2.2.2.2.1))).trans (hHeld.2.2.2.2.2.2.1)
      have cD9 := (hb.cell (World.block_lt_of_cell? _ _ (hHeld.2.2.2.2.2.2.2))).trans (hHeld.2.2.2.2.2.2.2)
      refine ⟨_, rfl, ?_⟩
      replace kK := xV kK hb
      replace oJ := xV oJ hb
      replace oK := xV oK hb
      replace bKh := xV bKh hb
      replace bKi := xV bKi hb
      replace gB := xbb gB hb
      replace gH := xbb gH hb
      replace lH := xbb lH hb
      replace aXv := xC aXv hb
      replace aXw := xC aXw hb
      replace HB := xhl HB hb
      (try clear hb)
      (try clear iV)
      (try clear hk)
      (try clear hi)
      refine hK.out _ _ ⟨(blk_cell gB.out 0).trans rfl, (blk_cell gH.out 0).trans rfl, (blk_cell gH.out 1).trans rfl, (blk_cell gH.out 2).trans rfl, dMr, cPf, cD8, cD9⟩ (fun hHeld => ?_)
      clear hK K
      refine norm_ (a' := ?_) ?_ ?_
      rotate_left
      · show Act.put _ (some 26) _ = _
        simp only [Act.put, List.setIfInBounds_toArray, List.set_cons_zero, List.set_cons_succ, i64_w, i32_w]
        rfl
      refine pu 8 27 #[true, true, true, true, true, true, true, true, true] HT_ rfl rfl (h := ?_)
      refine done_ (done_of HT_.out (by kernel_rfl)) ?_
      have cV4 : w35.cell? ⟨jU, 0, none⟩ = some (.slice none 0 0) := (blk_cell lH.out 0).trans rfl
      have cV5 := blk_frozen lH.out 0
      try go_wp2
      refine bodyPost_ret (results_ctt rfl _ _ jU 24 #[.slice none 0 0] (0, 0) _ rfl (by (with_reducible repeat (first | refine bN ?_ _ | refine bD ?_ | refine bA ?_ _)); refine blk_put (cs := #[.slice none 0 0]) ?_ 0 _ rfl; (with_reducible repeat (first | refine bN ?_ _ | refine bD ?_ | refine bA ?_ _)); exact lH.out) Try.underlying24 rfl (by kernel_rfl)) rfl ?_
      exact ⟨_, xre, Kd.V_nil _ _ _ _ _, xq HB⟩
    subst c9
    have H1 : (some (aD, aAc, 0)) = some (r1, r2, r3) := by rw [if_pos rfl] at H; exact H
    clear H
    have H := H1
    clear H1
    simp only [Option.some.injEq, Prod.mk.injEq] at H
    obtain ⟨rfl, rfl, rfl⟩ := H
    go_enter Try.func34, Try.ntmps34
    try go_wp2_with (first | ((with_reducible refine gate_dst (N := 2) rfl ?_); refine box_event ?hg (N := 2) ?hd (cs := #[.slice bP aD.length bK]) (t := 24) ?hr ?_; (case hd => rfl); (case hg => rfl); (case hr => first | (go_simp; done) | (go_simp; rfl)); intro jT hg w10 hbox hb; replace kK := xVB kK hg hb; replace oJ := xVB oJ hg hb; replace oK := xVB oK hg hb; have gB := aZ (hbox); have eJe := xgh hg HB; have aSo := xgh hg HB; replace HB := xhl HB hb; clear hb hbox hg) | ((with_reducible refine gate_dst (N := 3) rfl ?_); refine box_event ?hg (N := 3) ?hd (cs := #[.int .i64 dH, .slice kW bX.length kX, .slice kR cO.length kS]) (t := 44) ?hr ?_; (case hd => rfl); (case hg => rfl); (case hr => first | (go_simp; done) | (go_simp; rfl)); intro jH hg w11 hbox hb; replace kK := xVB kK hg hb; replace oJ := xVB oJ hg hb; replace oK := xVB oK hg hb; have gH := aZ (hbox); have eJf := xgh hg HB; have aSp := xgh hg HB; replace HB := xhl HB hb; have aC5 := xnl hg gB; have aC6 := xng hg gB; replace gB := xbb gB hb; clear hb hbox hg) | ((with_reducible refine gate_dst (N := 4) rfl ?_); refine box_event ?hg (N := 4) ?hd (cs := #[.slice none 0 0]) (t := 24) ?hr ?_; (case hd => rfl); (case hg => rfl); (case hr => first | (go_simp; done) | (go_simp; rfl)); intro jU hg w12 hbox hb; replace kK := xVB kK hg hb; replace oJ := xVB oJ hg hb; replace oK := xVB oK hg hb; have lH := aZ (hbox); have eJg := xgh hg HB; have aSq := xgh hg HB; replace HB := xhl HB hb; have aC7 := xnl hg gB; have aC8 := xng hg gB; replace gB := xbb gB hb; have aGu := xnl hg gH; have aGv := xng hg gH; replace gH := xbb gH hb; clear hb hbox hg; have bS1 := aC6.out; have bS2 := aC5.out; have cSb := aGu.out; have cSc := aGv.out; have bO9 : w12.cell? ⟨jH, 0, none⟩ = some (.int .i64 dH) := (blk_cell gH.out 0).trans rfl; have cJm : w12.cell? ⟨jH, 1, none⟩ = some (.slice kW bX.length kX) := (blk_cell gH.out 1).trans rfl; have eSr : w12.cell? ⟨jH, 2, none⟩ = some (.slice kR cO.length kS) := (blk_cell gH.out 2).trans rfl; have bPa := blk_frozen gH.out 0; have cJn := blk_frozen gH.out 1; have eSs := blk_frozen gH.out 2) | ((with_reducible refine gate_callee (f := 31) rfl ?_); refine goesL_ (some 13) rfl rfl Try.func31 (by kernel_rfl) rfl #[.agg #[.int .i64 dH, .slice kW bX.length kX, .slice kR cO.length kS]] rfl xmp ?_; (with_reducible refine (aV.calls k dH _ _ bX _ _ cO aAc _ ?side1 ?side2 ?side3 ?side4 A3.out).mono ?_); (case side1 => repeat (first | exact (Kd.V_reads' oJ.out).2.2 | (with_reducible refine Kd.C_alloc ?_ _) | (with_reducible refine Kd.C_drewN ?_ _) | (with_reducible refine Kd.C_drew ?_))); (case side2 => exact (Kd.V_reads' oJ.out).2.1); (case side3 => repeat (first | exact (Kd.V_reads' oK.out).2.2 | (with_reducible refine Kd.C_alloc ?_ _) | (with_reducible refine Kd.C_drewN ?_ _) | (with_reducible refine Kd.C_drew ?_))); (case side4 => exact (Kd.V_reads' oK.out).2.1); rintro e w16 ⟨rfl, hb⟩; refine ⟨_, rfl, ?_⟩; replace kK := xV kK hb; replace oJ := xV oJ hb; replace oK := xV oK hb; replace gB := xbb gB hb; replace gH := xbb gH hb; replace lH := xbb lH hb; replace HB := xhl HB hb; (try clear hb); (try clear iV); (try clear hk); (try clear hi); have cMx := aC7.out; have cMy := aC8.out; have bI2 : w16.cell? ⟨jT, 0, none⟩ = some (.slice bP aD.length bK) := (blk_cell gB.out 0).trans rfl; have bI3 := blk_frozen gB.out 0) | ((with_reducible refine gate_callee (f := 27) rfl ?_); refine goesL_ (some 16) rfl rfl Try.func27 (by kernel_rfl) rfl #[.agg #[.slice bP aD.length bK], .int .i64 aAc] rfl xmp ?_; (with_reducible refine (bH.calls k _ _ aD aAc rG _ ?side1 ?side2 A4.out).mono ?_); (case side1 => repeat (first | exact (Kd.V_reads' kK.out).2.2 | (with_reducible refine Kd.C_alloc ?_ _) | (with_reducible refine Kd.C_drewN ?_ _) | (with_reducible refine Kd.C_drew ?_))); (case side2 => exact (Kd.V_reads' kK.out).2.1); rintro e w19 ⟨rfl, hb⟩; refine ⟨_, rfl, ?_⟩; replace kK := xV kK hb; replace oJ := xV oJ hb; replace oK := xV oK hb; replace gB := xbb gB hb; replace gH := xbb gH hb; replace lH := xbb lH hb; replace HB := xhl HB hb; (try clear hb); (try clear iV); (try clear hk); (try clear hi)))
    replace kK := aZ (Kd.V_drew kK.out)
    replace oJ := aZ (Kd.V_drew oJ.out)
    replace oK := aZ (Kd.V_drew oK.out)
    replace gB := aZ (bD gB.out)
    replace gH := aZ (bD gH.out)
    replace lH := aZ (bD lH.out)
    replace HB := aZ (lD HB.out)
    have cZh : 0 ≤ (rG : Int) := of_decide_eq_true xas
    have cZi : rG < (aD.length : Int) := of_decide_eq_true xas
    obtain ⟨aO0, cPb, cPc, cPd, cPe, fJx, bYy, bYz, bKb, bKc, bY0, bY1, bY2, bY3⟩ := gY (Kd.V_reads' kK.out).2.2 rG cZh cZi
    cases fJx
    obtain ⟨gDg, dMp, dMq, bUp⟩ := Kd.V_get kK.out z46 rG cZh (by first | exact cZi | exact of_decide_eq_true xas | (have e_ := (Kd.V_reads' kK.out).1; omega))
    obtain ⟨eUw, eUx, eUy, eUz, rfl, bKd, bKe, bKf, bKg⟩ := rM dMq
    have aXt := bUp 2 _ rfl
    rw [add_field _ _ 2 (by omega)] at aXt
    replace aXt := Option.some.inj (aXt.symm.trans bKb)
    injection aXt with hva_ hvn_ hvc_
    rw [hva_] at bKe
    rw [hvc_] at bKd
    have bKh := aZ (show Kd.V (Kd.int .i64) 3 _ w.heap.size _ _ ((aA aD rG).f1.f1) from Kd.V_mk bKd bKe)
    clear hva_ hvn_ hvc_ bKe bKd
    have aXu := bUp 3 _ rfl
    rw [add_field _ _ 3 (by omega)] at aXu
    replace aXu := Option.some.inj (aXu.symm.trans bKc)
    injection aXu with hva_ hvn_ hvc_
    rw [hva_] at bKg
    rw [hvc_] at bKf
    have bKi := aZ (show Kd.V (Kd.int .u8) 5 _ w.heap.size _ _ ((aA aD rG).f1.f2) from Kd.V_mk bKf bKg)
    clear hva_ hvn_ hvc_ bKg bKf
    clear bUp dMp
    have aXv := aZ bY1
    have cZj := aZ bY0
    clear bY1 bY0
    have aXw := aZ bY3
    have cZk := aZ bY2
    clear bY3 bY2
    replace cZh := eq_true cZh
    replace cZi := eq_true cZi
    refine start_ (n := 9) (S := fun w' => w'.cell? ⟨jT, 0, none⟩ = some (.slice (some aO0) aD.length bK) ∧ w'.cell? ⟨jH, 0, none⟩ = some (.int .i64 dH) ∧ w'.cell? ⟨jH, 1, none⟩ = some (.slice kW bX.length kX) ∧ w'.cell? ⟨jH, 2, none⟩ = some (.slice kR cO.length kS) ∧ w'.cell? (aO0.add ((rG).toNat * 4)) = some (.int .i64 ((aA aD rG).f0)) ∧ w'.cell? ⟨(aO0.add ((rG).toNat * 4)).block, (aO0.add ((rG).toNat * 4)).off + 1, none⟩ = some (.int .i64 ((aA aD rG).f1.f0)) ∧ w'.cell? ⟨(aO0.add ((rG).toNat * 4)).block, (aO0.add ((rG).toNat * 4)).off + 2, none⟩ = some (.slice cPb ((aA aD rG).f1.f1).length cPc) ∧ w'.cell? ⟨(aO0.add ((rG).toNat * 4)).block, (aO0.add ((rG).toNat * 4)).off + 3, none⟩ = some (.slice cPd ((aA aD rG).f1.f2).length cPe)) (ds := []) #[false, false, false, false, false, false, false, false, false] (by kernel_rfl) rfl rfl ⟨(blk_cell gB.out 0).trans rfl, (blk_cell gH.out 0).trans rfl, (blk_cell gH.out 1).trans rfl, (blk_cell gH.out 2).trans rfl, bYy, bYz, bKb, bKc⟩ (fun hHeld => ?_); refine with_tabW aQ.tab4 aQ.bits4 (fun HT_ HW_ => ?_)
    generalize w19.drew = w20 at kK oJ oK gB gH lH HB bKh bKi aXv aXw bYy bYz bKb bKc hHeld ⊢
    refine pu 0 19 #[true, false, false, false, false, false, false, false, false] HT_ rfl rfl (h := ?_)
    refine pu 2 21 #[true, false, true, false, false, false, false, false, false] HT_ rfl rfl (h := ?_)
    refine tk 1 20 #[true, true, true, false, false, false, false, false, false] HT_ HW_ rfl rfl hHeld (by rintro w' ⟨s0, s1, s2, s3, s4, s5, s6, s7⟩; go_simp; with_reducible rfl) (h := ?_)
    refine pu 3 22 #[true, true, true, true, false, false, false, false, false] HT_ rfl rfl (h := ?_)
    refine pu 4 23 #[true, true, true, true, true, false, false, false, false] HT_ rfl rfl (h := ?_)
    refine tk 5 24 #[true, true, true, true, true, true, false, false, false] HT_ HW_ rfl rfl hHeld (by rintro w' ⟨s0, s1, s2, s3, s4, s5, s6, s7⟩; go_simp; with_reducible rfl) (h := ?_)
    refine tk 6 25 #[true, true, true, true, true, true, true, false, false] HT_ HW_ rfl rfl hHeld (by rintro w' ⟨s0, s1, s2, s3, s4, s5, s6, s7⟩; go_simp; with_reducible rfl) (h := ?_)
    refine one_ (i := 7) (N := some 26) #[true, true, true, true, true, true, true, true, false] rfl rfl (one_of HT_.out (by kernel_rfl)) (by decide) (fun K hK => ?_)
    refine goes_ Try.func24 (by kernel_rfl) rfl #[.agg #[.int .i64 ((aA aD rG).f1.f0), .slice cPb ((aA aD rG).f1.f1).length cPc, .slice cPd ((aA aD rG).f1.f2).length cPe], .agg #[.int .i64 dH, .slice kW bX.length kX, .slice kR cO.length kS]] (by rfl) rfl rfl xmp ?_
    with_reducible refine (aU.calls k ((aA aD rG).f1.f0) _ _ ((aA aD rG).f1.f1) _ _ ((aA aD rG).f1.f2) dH _ _ bX _ _ cO true _ ?side1 ?side2 ?side3 ?side4 ?side5 ?side6 ?side7 ?side8 A8.out).mono ?_
    (case side1 => exact xcc aXv)
    (case side2 => exact cZj.out)
    (case side3 => exact xcc aXw)
    (case side4 => exact cZk.out)
    (case side5 => repeat (first | exact (Kd.V_reads' oJ.out).2.2 | (with_reducible refine Kd.C_alloc ?_ _) | (with_reducible refine Kd.C_drewN ?_ _) | (with_reducible refine Kd.C_drew ?_)))
    (case side6 => exact (Kd.V_reads' oJ.out).2.1)
    (case side7 => repeat (first | exact (Kd.V_reads' oK.out).2.2 | (with_reducible refine Kd.C_alloc ?_ _) | (with_reducible refine Kd.C_drewN ?_ _) | (with_reducible refine Kd.C_drew ?_)))
    (case side8 => exact (Kd.V_reads' oK.out).2.1)
    rintro e w21 ⟨rfl, hb⟩
    have dMr := (hb.cell (World.block_lt_of_cell? _ _ (hHeld.2.2.2.2.1))).trans (hHeld.2.2.2.2.1)
    have cPf := (hb.cell (World.block_lt_of_cell? _ _ (hHeld.2.2.2.2.2.1))).trans (hHeld.2.2.2.2.2.1)
    have cD8 := (hb.cell (World.block_lt_of_cell? _ _ (hHeld.2.2.2.2.2.2.1))).trans (hHeld.2.2.2.2.2.2.1)
    have cD9 := (hb.cell (World.block_lt_of_cell? _ _ (hHeld.2.2.2.2.2.2.2))).trans (hHeld.2.2.2.2.2.2.2)
    refine ⟨_, rfl, ?_⟩
    replace kK := xV kK hb
    replace oJ := xV oJ hb
    replace oK := xV oK hb
    replace bKh := xV bKh hb
    replace bKi := xV bKi hb
    replace gB := xbb gB hb
    replace gH := xbb gH hb
    replace lH := xbb lH hb
    replace aXv := xC aXv hb
    replace aXw := xC aXw hb
    replace HB := xhl HB hb
    (try clear hb)
    (try clear iV)
    (try clear hk)
    (try clear hi)
    refine hK.out _ _ ⟨(blk_cell gB.out 0).trans rfl, (blk_cell gH.out 0).trans rfl, (blk_cell gH.out 1).trans rfl, (blk_cell gH.out 2).trans rfl, dMr, cPf, cD8, cD9⟩ (fun hHeld => ?_)
    clear hK K
    refine norm_ (a' := ?_) ?_ ?_
    rotate_left
    · show Act.put _ (some 26) _ = _
      simp only [Act.put, List.setIfInBounds_toArray, List.set_cons_zero, List.set_cons_succ, i64_w, i32_w]
      rfl
    refine pu 8 27 #[true, true, true, true, true, true, true, true, true] HT_ rfl rfl (h := ?_)
    refine done_ (done_of HT_.out (by kernel_rfl)) ?_
    have cJs : w21.cell? ⟨jT, 0, none⟩ = some (.slice (some aO0) aD.length bK) := (blk_cell gB.out 0).trans rfl
    have cJt := blk_frozen gB.out 0
    have bPd : w21.cell? ⟨jU, 0, none⟩ = some (.slice none 0 0) := (blk_cell lH.out 0).trans rfl
    have bPe := blk_frozen lH.out 0
    try go_wp2
    refine bodyPost_ret (results_ctt rfl _ _ jU 24 #[.slice (some aO0) aD.length bK] (0, 0) _ rfl (by (with_reducible repeat (first | refine bN ?_ _ | refine bD ?_ | refine bA ?_ _)); refine blk_put (cs := #[.slice none 0 0]) ?_ 0 _ rfl; (with_reducible repeat (first | refine bN ?_ _ | refine bD ?_ | refine bA ?_ _)); exact lH.out) Try.underlying24 rfl (by kernel_rfl)) rfl ?_
    exact ⟨_, xre, by (with_reducible repeat (first | apply Kd.V_alloc | apply Kd.V_drewN | apply Kd.V_drew)); exact Kd.V_mono (Kd.V_far (p := ⟨jU, 0, none⟩) (Kd.V_mono kK.out (fun k_ hk => (⟨hk, hk.2⟩ : _ ∧ k_ ≠ jU))) (fun _ hk => hk.2) (.slice (some aO0) aD.length bK)) (fun _ hk => hk.1.1.1.1), xq HB⟩
  rw [if_neg c5] at H
  have bAy : decide (0 ≤ rG) = false := decide_eq_false c5
  clear c5
  by_cases c37 : (aD.length : Int) ≥ 40
  · rw [if_pos c37] at H
    have cSk : decide (40 ≤ (aD.length : Int)) = true := decide_eq_true c37
    have dT1 : decide (40 ≤ aD.length) = true := decide_eq_true (by omega)
    clear c37
    simp only [Option.some.injEq, Prod.mk.injEq] at H
    obtain ⟨rfl, rfl, rfl⟩ := H
    go_enter Try.func34, Try.ntmps34
    go_wp2_with (first | ((with_reducible refine gate_dst (N := 2) rfl ?_); refine box_event ?hg (N := 2) ?hd (cs := #[.slice bP aD.length bK]) (t := 24) ?hr ?_; (case hd => rfl); (case hg => rfl); (case hr => first | (go_simp; done) | (go_simp; rfl)); intro jT hg w38 hbox hb; replace kK := xVB kK hg hb; replace oJ := xVB oJ hg hb; replace oK := xVB oK hg hb; have gB := aZ (hbox); have eJe := xgh hg HB; have aSo := xgh hg HB; replace HB := xhl HB hb; clear hb hbox hg) | ((with_reducible refine gate_dst (N := 3) rfl ?_); refine box_event ?hg (N := 3) ?hd (cs := #[.int .i64 dH, .slice kW bX.length kX, .slice kR cO.length kS]) (t := 44) ?hr ?_; (case hd => rfl); (case hg => rfl); (case hr => first | (go_simp; done) | (go_simp; rfl)); intro jH hg w39 hbox hb; replace kK := xVB kK hg hb; replace oJ := xVB oJ hg hb; replace oK := xVB oK hg hb; have gH := aZ (hbox); have eJf := xgh hg HB; have aSp := xgh hg HB; replace HB := xhl HB hb; have aC5 := xnl hg gB; have aC6 := xng hg gB; replace gB := xbb gB hb; clear hb hbox hg) | ((with_reducible refine gate_dst (N := 4) rfl ?_); refine box_event ?hg (N := 4) ?hd (cs := #[.slice none 0 0]) (t := 24) ?hr ?_; (case hd => rfl); (case hg => rfl); (case hr => first | (go_simp; done) | (go_simp; rfl)); intro jU hg w40 hbox hb; replace kK := xVB kK hg hb; replace oJ := xVB oJ hg hb; replace oK := xVB oK hg hb; have lH := aZ (hbox); have eJg := xgh hg HB; have aSq := xgh hg HB; replace HB := xhl HB hb; have aC7 := xnl hg gB; have aC8 := xng hg gB; replace gB := xbb gB hb; have aGu := xnl hg gH; have aGv := xng hg gH; replace gH := xbb gH hb; clear hb hbox hg; have cMj := aC6.out; have cMk := aC5.out; have bSu := aGu.out; have bSv := aGv.out; have cKb : w40.cell? ⟨jH, 0, none⟩ = some (.int .i64 dH) := (blk_cell gH.out 0).trans rfl; have eQg : w40.cell? ⟨jH, 1, none⟩ = some (.slice kW bX.length kX) := (blk_cell gH.out 1).trans rfl; have gYx : w40.cell? ⟨jH, 2, none⟩ = some (.slice kR cO.length kS) := (blk_cell gH.out 2).trans rfl; have cKc := blk_frozen gH.out 0; have eQh := blk_frozen gH.out 1; have gYy := blk_frozen gH.out 2) | ((with_reducible refine gate_callee (f := 31) rfl ?_); refine goesL_ (some 13) rfl rfl Try.func31 (by kernel_rfl) rfl #[.agg #[.int .i64 dH, .slice kW bX.length kX, .slice kR cO.length kS]] rfl xmp ?_; (with_reducible refine (aV.calls k dH _ _ bX _ _ cO aAc _ ?side1 ?side2 ?side3 ?side4 A3.out).mono ?_); (case side1 => repeat (first | exact (Kd.V_reads' oJ.out).2.2 | (with_reducible refine Kd.C_alloc ?_ _) | (with_reducible refine Kd.C_drewN ?_ _) | (with_reducible refine Kd.C_drew ?_))); (case side2 => exact (Kd.V_reads' oJ.out).2.1); (case side3 => repeat (first | exact (Kd.V_reads' oK.out).2.2 | (with_reducible refine Kd.C_alloc ?_ _) | (with_reducible refine Kd.C_drewN ?_ _) | (with_reducible refine Kd.C_drew ?_))); (case side4 => exact (Kd.V_reads' oK.out).2.1); rintro e w44 ⟨rfl, hb⟩; refine ⟨_, rfl, ?_⟩; replace kK := xV kK hb; replace oJ := xV oJ hb; replace oK := xV oK hb; replace gB := xbb gB hb; replace gH := xbb gH hb; replace lH := xbb lH hb; replace HB := xhl HB hb; (try clear hb); (try clear iV); (try clear hk); (try clear hi); have bLh := aC7.out; have bLi := aC8.out; have aVl : w44.cell? ⟨jT, 0, none⟩ = some (.slice bP aD.length bK) := (blk_cell gB.out 0).trans rfl; have aVm := blk_frozen gB.out 0) | ((with_reducible refine gate_callee (f := 27) rfl ?_); refine goesL_ (some 16) rfl rfl Try.func27 (by kernel_rfl) rfl #[.agg #[.slice bP aD.length bK], .int .i64 aAc] rfl xmp ?_; (with_reducible refine (bH.calls k _ _ aD aAc rG _ ?side1 ?side2 A4.out).mono ?_); (case side1 => repeat (first | exact (Kd.V_reads' kK.out).2.2 | (with_reducible refine Kd.C_alloc ?_ _) | (with_reducible refine Kd.C_drewN ?_ _) | (with_reducible refine Kd.C_drew ?_))); (case side2 => exact (Kd.V_reads' kK.out).2.1); rintro e w47 ⟨rfl, hb⟩; refine ⟨_, rfl, ?_⟩; replace kK := xV kK hb; replace oJ := xV oJ hb; replace oK := xV oK hb; replace gB := xbb gB hb; replace gH := xbb gH hb; replace lH := xbb lH hb; replace HB := xhl HB hb; (try clear hb); (try clear iV); (try clear hk); (try clear hi); have dRn : w47.cell? ⟨jT, 0, none⟩ = some (.slice bP aD.length bK) := (blk_cell gB.out 0).trans rfl; have dRo := blk_frozen gB.out 0; have bPr : w47.cell? ⟨jU, 0, none⟩ = some (.slice none 0 0) := (blk_cell lH.out 0).trans rfl; have bPs := blk_frozen lH.out 0))
    refine bodyPost_ret (results_ctt rfl _ _ jU 24 #[.slice none 0 0] (0, 0) _ rfl (by (with_reducible repeat (first | refine bN ?_ _ | refine bD ?_ | refine bA ?_ _)); refine blk_put (cs := #[.slice none 0 0]) ?_ 0 _ rfl; (with_reducible repeat (first | refine bN ?_ _ | refine bD ?_ | refine bA ?_ _)); exact lH.out) Try.underlying24 rfl (by kernel_rfl)) rfl ?_
    exact ⟨_, xre, Kd.V_nil _ _ _ _ _, xq HB⟩
  rw [if_neg c37] at H
  have cSk : decide (40 ≤ (aD.length : Int)) = false := decide_eq_false c37
  have dT1 : decide (40 ≤ aD.length) = false := decide_eq_false (by omega)
  clear c37
  have H' := aZ H
  clear H
  go_enter Try.func34, Try.ntmps34
  go_wp2_with (first | ((with_reducible refine gate_dst (N := 2) rfl ?_); refine box_event ?hg (N := 2) ?hd (cs := #[.slice bP aD.length bK]) (t := 24) ?hr ?_; (case hd => rfl); (case hg => rfl); (case hr => first | (go_simp; done) | (go_simp; rfl)); intro jT hg w50 hbox hb; replace kK := xVB kK hg hb; replace oJ := xVB oJ hg hb; replace oK := xVB oK hg hb; have gB := aZ (hbox); have eJe := xgh hg HB; have aSo := xgh hg HB; replace HB := xhl HB hb; clear hb hbox hg) | ((with_reducible refine gate_dst (N := 3) rfl ?_); refine box_event ?hg (N := 3) ?hd (cs := #[.int .i64 dH, .slice kW bX.length kX, .slice kR cO.length kS]) (t := 44) ?hr ?_; (case hd => rfl); (case hg => rfl); (case hr => first | (go_simp; done) | (go_simp; rfl)); intro jH hg w51 hbox hb; replace kK := xVB kK hg hb; replace oJ := xVB oJ hg hb; replace oK := xVB oK hg hb; have gH := aZ (hbox); have eJf := xgh hg HB; have aSp := xgh hg HB; replace HB := xhl HB hb; have aC5 := xnl hg gB; have aC6 := xng hg gB; replace gB := xbb gB hb; clear hb hbox hg) | ((with_reducible refine gate_dst (N := 4) rfl ?_); refine box_event ?hg (N := 4) ?hd (cs := #[.slice none 0 0]) (t := 24) ?hr ?_; (case hd => rfl); (case hg => rfl); (case hr => first | (go_simp; done) | (go_simp; rfl)); intro jU hg w52 hbox hb; replace kK := xVB kK hg hb; replace oJ := xVB oJ hg hb; replace oK := xVB oK hg hb; have lH := aZ (hbox); have eJg := xgh hg HB; have aSq := xgh hg HB; replace HB := xhl HB hb; have aC7 := xnl hg gB; have aC8 := xng hg gB; replace gB := xbb gB hb; have aGu := xnl hg gH; have aGv := xng hg gH; replace gH := xbb gH hb; clear hb hbox hg; have bNj := aC6.out; have bNk := aC5.out; have bCg := aGu.out; have bCh := aGv.out; have bPn : w52.cell? ⟨jH, 0, none⟩ = some (.int .i64 dH) := (blk_cell gH.out 0).trans rfl; have cKf : w52.cell? ⟨jH, 1, none⟩ = some (.slice kW bX.length kX) := (blk_cell gH.out 1).trans rfl; have dPs : w52.cell? ⟨jH, 2, none⟩ = some (.slice kR cO.length kS) := (blk_cell gH.out 2).trans rfl; have bPo := blk_frozen gH.out 0; have cKg := blk_frozen gH.out 1; have dPt := blk_frozen gH.out 2) | ((with_reducible refine gate_callee (f := 31) rfl ?_); refine goesL_ (some 13) rfl rfl Try.func31 (by kernel_rfl) rfl #[.agg #[.int .i64 dH, .slice kW bX.length kX, .slice kR cO.length kS]] rfl xmp ?_; (with_reducible refine (aV.calls k dH _ _ bX _ _ cO aAc _ ?side1 ?side2 ?side3 ?side4 A3.out).mono ?_); (case side1 => repeat (first | exact (Kd.V_reads' oJ.out).2.2 | (with_reducible refine Kd.C_alloc ?_ _) | (with_reducible refine Kd.C_drewN ?_ _) | (with_reducible refine Kd.C_drew ?_))); (case side2 => exact (Kd.V_reads' oJ.out).2.1); (case side3 => repeat (first | exact (Kd.V_reads' oK.out).2.2 | (with_reducible refine Kd.C_alloc ?_ _) | (with_reducible refine Kd.C_drewN ?_ _) | (with_reducible refine Kd.C_drew ?_))); (case side4 => exact (Kd.V_reads' oK.out).2.1); rintro e w56 ⟨rfl, hb⟩; refine ⟨_, rfl, ?_⟩; replace kK := xV kK hb; replace oJ := xV oJ hb; replace oK := xV oK hb; replace gB := xbb gB hb; replace gH := xbb gH hb; replace lH := xbb lH hb; replace HB := xhl HB hb; (try clear hb); (try clear iV); (try clear hk); (try clear hi); have cN6 := aC7.out; have cN7 := aC8.out; have dRj : w56.cell? ⟨jT, 0, none⟩ = some (.slice bP aD.length bK) := (blk_cell gB.out 0).trans rfl; have dRk := blk_frozen gB.out 0) | ((with_reducible refine gate_callee (f := 27) rfl ?_); refine goesL_ (some 16) rfl rfl Try.func27 (by kernel_rfl) rfl #[.agg #[.slice bP aD.length bK], .int .i64 aAc] rfl xmp ?_; (with_reducible refine (bH.calls k _ _ aD aAc rG _ ?side1 ?side2 A4.out).mono ?_); (case side1 => repeat (first | exact (Kd.V_reads' kK.out).2.2 | (with_reducible refine Kd.C_alloc ?_ _) | (with_reducible refine Kd.C_drewN ?_ _) | (with_reducible refine Kd.C_drew ?_))); (case side2 => exact (Kd.V_reads' kK.out).2.1); rintro e w59 ⟨rfl, hb⟩; refine ⟨_, rfl, ?_⟩; replace kK := xV kK hb; replace oJ := xV oJ hb; replace oK := xV oK hb; replace gB := xbb gB hb; replace gH := xbb gH hb; replace lH := xbb lH hb; replace HB := xhl HB hb; (try clear hb); (try clear iV); (try clear hk); (try clear hi); have cJi : w59.cell? ⟨jT, 0, none⟩ = some (.slice bP aD.length bK) := (blk_cell gB.out 0).trans rfl; have cJj := blk_frozen gB.out 0) | ((with_reducible refine gate_dst (N := 9) rfl ?_); refine box_event ?hg (N := 9) ?hd (cs := #[.slice none 0 0]) (t := 24) ?hr ?_; (case hd => rfl); (case hg => rfl); (case hr => first | (go_simp; done) | (go_simp; rfl)); intro fH hg w61 hbox hb; replace kK := xVB kK hg hb; replace oJ := xVB oJ hg hb; replace oK := xVB oK hg hb; have pK := aZ (hbox); have iCr := xgh hg HB; have bA7 := xgh hg HB; replace HB := xhl HB hb; have aKm := xnl hg gB; have aKn := xng hg gB; replace gB := xbb gB hb; have aTk := xnl hg gH; have aTl := xng hg gH; replace gH := xbb gH hb; have aO1 := xnl hg lH; have aTm := xng hg lH; replace lH := xbb lH hb; clear hb hbox hg; have cTc := aKn.out; have cTd := aKm.out; have bWp := aTl.out; have bWq := aTk.out; have bAu := aTm.out; have bAv := aO1.out; have bWr : w61.cell? ⟨fH, 0, none⟩ = some (.slice none 0 0) := (blk_cell pK.out 0).trans rfl; have bWs := blk_frozen pK.out 0))
  go_loopg [10, 11] k (fun kq v10 v11 w' => ∃ (jO : Bool) (eY : Int) (oW : List (fB)) (u724000 : Value), v10 = .bool jO ∧ v11 = .int .i64 eY ∧ Aside0 (aQ.l0 kq aAc jO eY aD dH bX cO oW = some (r1, r2, r3)) ∧ Aside0 (kq ≤ k) ∧ Aside0 (Kd.V qL 46 w' w.heap.size (fun k_ => ((eP k_ ∨ nQ k_ ∨ nR k_) ∨ w.heap.size ≤ k_) ∧ some k_ ≠ (u724000 : Value).ownBlock ∧ k_ ≠ jT ∧ k_ ≠ jH ∧ k_ ≠ jU ∧ k_ ≠ fH) (.slice bP aD.length bK) aD) ∧ Aside0 (Kd.V (Kd.int .i64) 3 w' w.heap.size (fun k_ => ((eP k_ ∨ nQ k_ ∨ nR k_) ∨ w.heap.size ≤ k_) ∧ some k_ ≠ (u724000 : Value).ownBlock ∧ k_ ≠ jT ∧ k_ ≠ jH ∧ k_ ≠ jU ∧ k_ ≠ fH) (.slice kW bX.length kX) bX) ∧ Aside0 (Kd.V (Kd.int .u8) 5 w' w.heap.size (fun k_ => ((eP k_ ∨ nQ k_ ∨ nR k_) ∨ w.heap.size ≤ k_) ∧ some k_ ≠ (u724000 : Value).ownBlock ∧ k_ ≠ jT ∧ k_ ≠ jH ∧ k_ ≠ jU ∧ k_ ≠ fH) (.slice kR cO.length kS) cO) ∧ Aside0 (Kd.N qL 46 w' w.heap.size (fun k_ => ((eP k_ ∨ nQ k_ ∨ nR k_) ∨ w.heap.size ≤ k_) ∧ k_ ≠ jT ∧ k_ ≠ jH ∧ k_ ≠ jU ∧ k_ ≠ fH) u724000 oW) ∧ Aside0 (w'.heap[jT]? = some (.cells #[(.slice bP aD.length bK)] 24 (0, 0))) ∧ Aside0 (w'.heap[jH]? = some (.cells #[.int .i64 dH, (.slice kW bX.length kX), (.slice kR cO.length kS)] 44 (0, 0))) ∧ Aside0 (w'.heap[jU]? = some (.cells #[(.slice none 0 0)] 24 (0, 0))) ∧ Aside0 (w'.heap[fH]? = some (.cells #[u724000] 24 (0, 0))) ∧ Aside0 (Below w.heap.size w w'))
  case atStart => exact ⟨(false), (0), (([] : List (fB))), (.slice none 0 0), xrs, xrs, H', ⟨Nat.le_refl _⟩, ⟨by (with_reducible repeat (first | apply Kd.V_alloc | apply Kd.V_drewN | apply Kd.V_drew)); exact Kd.V_mono (Kd.V_far (p := ⟨fH, 0, none⟩) (Kd.V_mono kK.out (fun k_ hk => (⟨hk, hk.2⟩ : _ ∧ k_ ≠ fH))) (fun _ hk => hk.2) (.slice none 0 0)) (fun _ hk => ⟨hk.1.1.1.1.1, ⟨(by simp [Value.ownBlock]), ⟨hk.1.1.1.1.2, ⟨hk.1.1.1.2, ⟨hk.1.1.2, hk.1.2⟩⟩⟩⟩⟩)⟩, ⟨by (with_reducible repeat (first | apply Kd.V_alloc | apply Kd.V_drewN | apply Kd.V_drew)); exact Kd.V_mono (Kd.V_far (p := ⟨fH, 0, none⟩) (Kd.V_mono oJ.out (fun k_ hk => (⟨hk, hk.2⟩ : _ ∧ k_ ≠ fH))) (fun _ hk => hk.2) (.slice none 0 0)) (fun _ hk => ⟨hk.1.1.1.1.1, ⟨(by simp [Value.ownBlock]), ⟨hk.1.1.1.1.2, ⟨hk.1.1.1.2, ⟨hk.1.1.2, hk.1.2⟩⟩⟩⟩⟩)⟩, ⟨by (with_reducible repeat (first | apply Kd.V_alloc | apply Kd.V_drewN | apply Kd.V_drew)); exact Kd.V_mono (Kd.V_far (p := ⟨fH, 0, none⟩) (Kd.V_mono oK.out (fun k_ hk => (⟨hk, hk.2⟩ : _ ∧ k_ ≠ fH))) (fun _ hk => hk.2) (.slice none 0 0)) (fun _ hk => ⟨hk.1.1.1.1.1, ⟨(by simp [Value.ownBlock]), ⟨hk.1.1.1.1.2, ⟨hk.1.1.1.2, ⟨hk.1.1.2, hk.1.2⟩⟩⟩⟩⟩)⟩, ⟨by first | exact Kd.S_nil _ _ _ _ _ | exact Kd.N_nil _ _ _ _ _ | exact Kd.V_nil _ _ _ _ _ | exact Kd.Q_nil _ _ _ _ _ | exact Kd.R_nil _ _ _ _ _⟩, xk gB, xk gH, xk lH, ⟨by (with_reducible repeat (first | refine bN ?_ _ | refine bD ?_ | refine bA ?_ _)); refine blk_put (cs := #[.slice none 0 0]) ?_ 0 _ rfl; (with_reducible repeat (first | refine bN ?_ _ | refine bD ?_ | refine bA ?_ _)); exact pK.out⟩, xb HB⟩
  case round =>
   clear H'
   (try clear c5); (try clear bAy); (try clear c37); (try clear cSk); (try clear dT1); (try clear bPn); (try clear cKf); (try clear dPs); (try clear dRj); (try clear cJi); (try clear bWr); (try clear bPo); (try clear cKg); (try clear dPt); (try clear dRk); (try clear cJj); (try clear bWs)
   obtain ⟨jO, eY, oW, u724000, rfl, rfl, HA, yS, kJ, nY, nZ, mV, gB, gH, lH, pK, HB⟩ := hrel
   cases gk with
   | zero => exact absurd HA.out (by simp [aQ.l0])
   | succ k1 =>
    have H := HA.out
    clear HA
    simp only [aQ.l0] at H
    by_cases c66 : eY < (aD.length : Int)
    rotate_left
    · rw [if_neg c66] at H
      have gDh : decide (eY < (aD.length : Int)) = false := decide_eq_false c66
      clear c66
      by_cases eU0 : jO = true
      · subst eU0
        have H1 : (some (oW, aAc, 0)) = some (r1, r2, r3) := by rw [if_pos rfl] at H; exact H
        clear H
        have H := H1
        clear H1
        simp only [Option.some.injEq, Prod.mk.injEq] at H
        obtain ⟨rfl, rfl, rfl⟩ := H
        have cC5 := aC5.out
        have cC6 := aC6.out
        have bTp := aC7.out
        have bTq := aC8.out
        have bTr := aKm.out
        have bTs := aKn.out
        have eJh : wr.cell? ⟨jT, 0, none⟩ = some (.slice bP aD.length bK) := (blk_cell gB.out 0).trans rfl
        have eJi := blk_frozen gB.out 0
        have cC7 := aTl.out
        have cC8 := aTk.out
        have bUk := aTm.out
        have bUl := aO1.out
        have bYt : wr.cell? ⟨fH, 0, none⟩ = some (u724000) := (blk_cell pK.out 0).trans rfl
        have bYu := blk_frozen pK.out 0
        obtain ⟨aF7, aEy, dGx⟩ := Kd.N_slice mV.out
        subst dGx
        have bTv := aGv.out
        have bTw := aGu.out
        have dF2 : wr.cell? ⟨jU, 0, none⟩ = some (.slice none 0 0) := (blk_cell lH.out 0).trans rfl
        have dF3 := blk_frozen lH.out 0
        go_wp2
        refine bodyPost_ret (results_ctt rfl _ _ jU 24 #[.slice aF7 oW.length aEy] (0, 0) _ rfl (by (with_reducible repeat (first | refine bN ?_ _ | refine bD ?_ | refine bA ?_ _)); refine blk_put (cs := #[.slice none 0 0]) ?_ 0 _ rfl; (with_reducible repeat (first | refine bN ?_ _ | refine bD ?_ | refine bA ?_ _)); exact lH.out) Try.underlying24 rfl (by kernel_rfl)) rfl ?_
        exact ⟨_, xre, Kd.N_V (by (with_reducible repeat (first | apply Kd.N_alloc | apply Kd.N_drewN | apply Kd.N_drew)); exact Kd.N_mono (Kd.N_far (p := ⟨jU, 0, none⟩) (Kd.N_mono mV.out (fun k_ hk => (⟨hk, hk.2.2.2.1⟩ : _ ∧ k_ ≠ jU))) (fun _ hk => hk.2) (.slice aF7 oW.length aEy)) (fun _ hk => hk.1.1)), xq HB⟩
      replace eU0 := Bool.eq_false_iff.mpr eU0
      subst eU0
      have H1 : (if oW.length < 2199023255552 then (some ((oW ++ [(⟨aAc, (⟨dH, bX, cO⟩ : S44)⟩ : fB)]), aAc, 0)) else (none)) = some (r1, r2, r3) := by rw [if_neg (show ¬ (false = true) by decide)] at H; exact H
      clear H
      have H := H1
      clear H1
      by_cases eU1 : oW.length < 2199023255552
      rotate_left
      · rw [if_neg eU1] at H
        exact absurd H (by simp)

      rw [if_pos eU1] at H
      have fJy := aZ eU1
      clear eU1
      obtain ⟨eU2, dGy⟩ : ∃ y_ : List (fB), y_ = (oW ++ [(⟨aAc, (⟨dH, bX, cO⟩ : S44)⟩ : fB)]) := ⟨_, rfl⟩
      replace H : (some (eU2, aAc, 0)) = some (r1, r2, r3) := by first | (rw [dGy]; with_reducible exact H) | (have qY := (Option.bind_some _ _).symm.trans H; rw [dGy]; with_reducible exact qY) | (have qY := (Option.bind_some _ _).symm.trans H; with_reducible exact qY) | with_reducible exact H | (rw [dGy]; exact H) | exact H
      have gDi := aZ dGy
      clear dGy
      simp only [Option.some.injEq, Prod.mk.injEq] at H
      obtain ⟨rfl, rfl, rfl⟩ := H
      have cD2 := aC5.out
      have cD3 := aC6.out
      have cO6 := aC7.out
      have cO7 := aC8.out
      have bM2 := aKm.out
      have bM3 := aKn.out
      have dGf : wr.cell? ⟨jT, 0, none⟩ = some (.slice bP aD.length bK) := (blk_cell gB.out 0).trans rfl
      have dGg := blk_frozen gB.out 0
      have cDb := aTl.out
      have cDc := aTk.out
      have cDd := aTm.out
      have cDe := aO1.out
      have eE3 : wr.cell? ⟨fH, 0, none⟩ = some (u724000) := (blk_cell pK.out 0).trans rfl
      have eE4 := blk_frozen pK.out 0
      have bJa := aGu.out
      have bJb := aGv.out
      have bA3 : wr.cell? ⟨jH, 0, none⟩ = some (.int .i64 dH) := (blk_cell gH.out 0).trans rfl
      have bFe : wr.cell? ⟨jH, 1, none⟩ = some (.slice kW bX.length kX) := (blk_cell gH.out 1).trans rfl
      have eJj : wr.cell? ⟨jH, 2, none⟩ = some (.slice kR cO.length kS) := (blk_cell gH.out 2).trans rfl
      have bA4 := blk_frozen gH.out 0
      have bFf := blk_frozen gH.out 1
      have eJk := blk_frozen gH.out 2
      go_wp2_with (first | ((with_reducible refine gate_builtin (b := .append) (xs := #[.tmp 77, .tmp 81]) rfl ?_); at_builtin; refine Kd.N_append qL (w0 := w) w.heap.size rfl (.tmp 77) (.tmp 81) 22 46 (.agg #[(.int .i64 0), (.int .i64 0), (.slice none 0 0), (.slice none 0 0)]) 64 rfl Try.underlying22 aNg rfl (by decide) (by omega) u724000 oW (⟨aAc, (⟨dH, bX, cO⟩ : S44)⟩ : fB) [.int .i64 aAc, .int .i64 dH, .slice kW bX.length kX, .slice kR cO.length kS] (fun k_ => ((eP k_ ∨ nQ k_ ∨ nR k_) ∨ w.heap.size ≤ k_) ∧ k_ ≠ jT ∧ k_ ≠ jH ∧ k_ ≠ jU ∧ k_ ≠ fH) (fun k_ => ((fun k_ => ((eP k_ ∨ nQ k_ ∨ nR k_) ∨ w.heap.size ≤ k_) ∧ k_ ≠ jT ∧ k_ ≠ jH ∧ k_ ≠ jU ∧ k_ ≠ fH)) k_ ∧ some k_ ≠ (u724000 : Value).ownBlock) rfl rfl ?aP (fun _ hk => hk) ?aF ?aO ?aB ?aS ?aL ?_; (case aP => exact (aW2 _ _ (⟨aAc, (⟨dH, bX, cO⟩ : S44)⟩ : fB) (Kd.V_reads' (Kd.V_mono (ok' := (fun k_ => ((fun k_ => ((eP k_ ∨ nQ k_ ∨ nR k_) ∨ w.heap.size ≤ k_) ∧ k_ ≠ jT ∧ k_ ≠ jH ∧ k_ ≠ jU ∧ k_ ≠ fH)) k_ ∧ some k_ ≠ (u724000 : Value).ownBlock)) (nY.out) (fun k_ hk => ⟨⟨hk.1, ⟨hk.2.2.1, ⟨hk.2.2.2.1, ⟨hk.2.2.2.2.1, hk.2.2.2.2.2⟩⟩⟩⟩, hk.2.1⟩))).2.1 (Kd.V_F (Kd.V_mono (ok' := (fun k_ => ((fun k_ => ((eP k_ ∨ nQ k_ ∨ nR k_) ∨ w.heap.size ≤ k_) ∧ k_ ≠ jT ∧ k_ ≠ jH ∧ k_ ≠ jU ∧ k_ ≠ fH)) k_ ∧ some k_ ≠ (u724000 : Value).ownBlock)) (nY.out) (fun k_ hk => ⟨⟨hk.1, ⟨hk.2.2.1, ⟨hk.2.2.2.1, ⟨hk.2.2.2.2.1, hk.2.2.2.2.2⟩⟩⟩⟩, hk.2.1⟩))) (Kd.V_reads' (Kd.V_mono (ok' := (fun k_ => ((fun k_ => ((eP k_ ∨ nQ k_ ∨ nR k_) ∨ w.heap.size ≤ k_) ∧ k_ ≠ jT ∧ k_ ≠ jH ∧ k_ ≠ jU ∧ k_ ≠ fH)) k_ ∧ some k_ ≠ (u724000 : Value).ownBlock)) (nZ.out) (fun k_ hk => ⟨⟨hk.1, ⟨hk.2.2.1, ⟨hk.2.2.2.1, ⟨hk.2.2.2.2.1, hk.2.2.2.2.2⟩⟩⟩⟩, hk.2.1⟩))).2.1 (Kd.V_F (Kd.V_mono (ok' := (fun k_ => ((fun k_ => ((eP k_ ∨ nQ k_ ∨ nR k_) ∨ w.heap.size ≤ k_) ∧ k_ ≠ jT ∧ k_ ≠ jH ∧ k_ ≠ jU ∧ k_ ≠ fH)) k_ ∧ some k_ ≠ (u724000 : Value).ownBlock)) (nZ.out) (fun k_ hk => ⟨⟨hk.1, ⟨hk.2.2.1, ⟨hk.2.2.2.1, ⟨hk.2.2.2.2.1, hk.2.2.2.2.2⟩⟩⟩⟩, hk.2.1⟩))))); (case aB => exact (by repeat (first | (with_reducible first | exact HB.out | apply lA | apply lN | apply lD | refine lS ?_ aSo.out | refine lS ?_ aSp.out | refine lS ?_ aSq.out | refine lS ?_ bA7.out) | exact HB.out))); (case aF => exact (fun k_ hk => ⟨(.inr (Nat.le_trans (lZ (by repeat (first | (with_reducible first | exact HB.out | apply lA | apply lN | apply lD | refine lS ?_ aSo.out | refine lS ?_ aSp.out | refine lS ?_ aSq.out | refine lS ?_ bA7.out) | exact HB.out))) hk)), Kd.freshB (g := jT) (o := .cells #[.slice bP aD.length bK] 24 (0, 0)) (xkq gB) k_ hk, Kd.freshB (g := jH) (o := .cells #[.int .i64 dH, .slice kW bX.length kX, .slice kR cO.length kS] 44 (0, 0)) (xkq gH) k_ hk, Kd.freshB (g := jU) (o := .cells #[.slice none 0 0] 24 (0, 0)) (xkq lH) k_ hk, Kd.freshB (g := fH) (o := .cells #[u724000] 24 (0, 0)) (xkq pK) k_ hk⟩)); (case aO => exact (by (with_reducible repeat (first | apply Kd.N_alloc | apply Kd.N_drewN | apply Kd.N_drew)); exact mV.out)); (case aS => exact (lZ (by repeat (first | (with_reducible first | exact HB.out | apply lA | apply lN | apply lD | refine lS ?_ aSo.out | refine lS ?_ aSp.out | refine lS ?_ aSq.out | refine lS ?_ bA7.out) | exact HB.out)))); (case aL => have := fJy.out; omega); intro iIs cRy ho hb hg hat; rw [← gDi.out] at ho; replace kJ := aZ (Kd.V_afterv (ok := (fun k_ => ((eP k_ ∨ nQ k_ ∨ nR k_) ∨ w.heap.size ≤ k_) ∧ k_ ≠ jT ∧ k_ ≠ jH ∧ k_ ≠ jU ∧ k_ ≠ fH)) (by (with_reducible repeat (first | apply Kd.V_alloc | apply Kd.V_drewN | apply Kd.V_drew)); exact Kd.V_mono kJ.out (fun _ hk => ⟨⟨hk.1, ⟨hk.2.2.1, ⟨hk.2.2.2.1, ⟨hk.2.2.2.2.1, hk.2.2.2.2.2⟩⟩⟩⟩, hk.2.1⟩)) hg hat); replace nY := aZ (Kd.V_afterv (ok := (fun k_ => ((eP k_ ∨ nQ k_ ∨ nR k_) ∨ w.heap.size ≤ k_) ∧ k_ ≠ jT ∧ k_ ≠ jH ∧ k_ ≠ jU ∧ k_ ≠ fH)) (by (with_reducible repeat (first | apply Kd.V_alloc | apply Kd.V_drewN | apply Kd.V_drew)); exact Kd.V_mono nY.out (fun _ hk => ⟨⟨hk.1, ⟨hk.2.2.1, ⟨hk.2.2.2.1, ⟨hk.2.2.2.2.1, hk.2.2.2.2.2⟩⟩⟩⟩, hk.2.1⟩)) hg hat); replace nZ := aZ (Kd.V_afterv (ok := (fun k_ => ((eP k_ ∨ nQ k_ ∨ nR k_) ∨ w.heap.size ≤ k_) ∧ k_ ≠ jT ∧ k_ ≠ jH ∧ k_ ≠ jU ∧ k_ ≠ fH)) (by (with_reducible repeat (first | apply Kd.V_alloc | apply Kd.V_drewN | apply Kd.V_drew)); exact Kd.V_mono nZ.out (fun _ hk => ⟨⟨hk.1, ⟨hk.2.2.1, ⟨hk.2.2.2.1, ⟨hk.2.2.2.2.1, hk.2.2.2.2.2⟩⟩⟩⟩, hk.2.1⟩)) hg hat); replace gB := aZ (blk_grown (g := jT) (o := .cells #[.slice bP aD.length bK] 24 (0, 0)) (xkq gB) hg (Kd.N_ne mV.out gB.out (by decide))); replace gH := aZ (blk_grown (g := jH) (o := .cells #[.int .i64 dH, .slice kW bX.length kX, .slice kR cO.length kS] 44 (0, 0)) (xkq gH) hg (Kd.N_ne mV.out gH.out (by decide))); replace lH := aZ (blk_grown (g := jU) (o := .cells #[.slice none 0 0] 24 (0, 0)) (xkq lH) hg (Kd.N_ne mV.out lH.out (by decide))); replace pK := aZ (blk_grown (g := fH) (o := .cells #[u724000] 24 (0, 0)) (xkq pK) hg (Kd.N_ne mV.out pK.out (by decide))); replace HB := aZ (hb); have fBv := aZ (ho); clear mV; clear ho hb hg hat; obtain ⟨eJl, eJm, gDj⟩ := Kd.N_slice fBv.out; subst gDj; have dGz : cRy.cell? ⟨fH, 0, none⟩ = some (u724000) := (blk_cell pK.out 0).trans rfl; have dG0 := blk_frozen pK.out 0; have gDk : cRy.cell? ⟨jU, 0, none⟩ = some (.slice none 0 0) := (blk_cell lH.out 0).trans rfl; have gDl := blk_frozen lH.out 0))
      refine bodyPost_ret (results_ctt rfl _ _ jU 24 #[.slice eJl eU2.length eJm] (0, 0) _ rfl (by (with_reducible repeat (first | refine bN ?_ _ | refine bD ?_ | refine bA ?_ _)); refine blk_put (cs := #[.slice none 0 0]) ?_ 0 _ rfl; (with_reducible repeat (first | refine bN ?_ _ | refine bD ?_ | refine bA ?_ _)); refine blk_far ?_ aO1.out _; (with_reducible repeat (first | refine bN ?_ _ | refine bD ?_ | refine bA ?_ _)); exact lH.out) Try.underlying24 rfl (by kernel_rfl)) rfl ?_
      exact ⟨_, xre, Kd.N_V (by (with_reducible repeat (first | apply Kd.N_alloc | apply Kd.N_drewN | apply Kd.N_drew)); exact Kd.N_mono (Kd.N_far (p := ⟨jU, 0, none⟩) (Kd.N_far (p := ⟨fH, 0, none⟩) (Kd.N_mono (Kd.N_mono fBv.out (fun k_ hk => (⟨hk, hk.2.2.2.2⟩ : _ ∧ k_ ≠ fH))) (fun k_ hk => (⟨hk, hk.1.2.2.2.1⟩ : _ ∧ k_ ≠ jU))) (fun _ hk => hk.1.2) (.slice eJl eU2.length eJm)) (fun _ hk => hk.2) (.slice eJl eU2.length eJm)) (fun _ hk => hk.1.1.1)), xq HB⟩
    rw [if_pos c66] at H
    have gDh : decide (eY < (aD.length : Int)) = true := decide_eq_true c66
    clear c66
    by_cases c67 : jO = true
    · subst c67
      have H1 : (if 0 ≤ eY then (if oW.length < 2199023255552 then (aQ.l0 k1 aAc true (wrap64 (eY + 1)) aD dH bX cO (oW ++ [(⟨(aA aD eY).f0, (⟨(aA aD eY).f1.f0, (aA aD eY).f1.f1, (aA aD eY).f1.f2⟩ : S44)⟩ : fB)])) else (none)) else (none)) = some (r1, r2, r3) := by rw [if_pos rfl] at H; exact H
      clear H
      have H := H1
      clear H1
      by_cases c68 : 0 ≤ eY
      rotate_left
      · rw [if_neg c68] at H
        exact absurd H (by simp)
      rw [if_pos c68] at H
      have iCs : decide (0 ≤ eY) = true := decide_eq_true c68
      clear c68
      by_cases c69 : oW.length < 2199023255552
      rotate_left
      · rw [if_neg c69] at H
        exact absurd H (by simp)
      rw [if_pos c69] at H
      have gDm := aZ c69
      clear c69
      obtain ⟨dMs, dG1⟩ : ∃ y_ : List (fB), y_ = (oW ++ [(⟨(aA aD eY).f0, (⟨(aA aD eY).f1.f0, (aA aD eY).f1.f1, (aA aD eY).f1.f2⟩ : S44)⟩ : fB)]) := ⟨_, rfl⟩
      replace H : (aQ.l0 k1 aAc true (wrap64 (eY + 1)) aD dH bX cO dMs) = some (r1, r2, r3) := by first | (rw [dG1]; with_reducible exact H) | (have qY := (Option.bind_some _ _).symm.trans H; rw [dG1]; with_reducible exact qY) | (have qY := (Option.bind_some _ _).symm.trans H; with_reducible exact qY) | with_reducible exact H | (rw [dG1]; exact H) | exact H
      have gDn := aZ dG1
      clear dG1
      have H' := aZ H
      clear H
      have cHi := aC5.out
      have cHj := aC6.out
      have cSv := aC7.out
      have cSw := aC8.out
      have dEs := aKm.out
      have dEt := aKn.out
      have dSr : wr.cell? ⟨jT, 0, none⟩ = some (.slice bP aD.length bK) := (blk_cell gB.out 0).trans rfl
      have dSs := blk_frozen gB.out 0
      try go_wp2
      replace kJ := aZ (Kd.V_drew kJ.out)
      replace nY := aZ (Kd.V_drew nY.out)
      replace nZ := aZ (Kd.V_drew nZ.out)
      replace mV := aZ (Kd.N_drew mV.out)
      replace gB := aZ (bD gB.out)
      replace gH := aZ (bD gH.out)
      replace lH := aZ (bD lH.out)
      replace pK := aZ (bD pK.out)
      replace HB := aZ (lD HB.out)
      have eU3 : 0 ≤ (eY : Int) := of_decide_eq_true xas
      have eU4 : eY < (aD.length : Int) := of_decide_eq_true xas
      obtain ⟨bS3, eJn, eJo, eJp, eJq, hLf, dT2, dT3, cZl, cZm, dT4, dT5, dT6, dT7⟩ := gY (Kd.V_reads' kJ.out).2.2 eY eU3 eU4
      cases hLf
      obtain ⟨iCt, fJz, fJ0, dMt⟩ := Kd.V_get kJ.out z46 eY eU3 (by first | exact eU4 | exact of_decide_eq_true xas | (have e_ := (Kd.V_reads' kJ.out).1; omega))
      obtain ⟨gY1, gY2, gY3, gY4, rfl, cZn, cZo, cZp, cZq⟩ := rM fJ0
      have cLf := dMt 2 _ rfl
      rw [add_field _ _ 2 (by omega)] at cLf
      replace cLf := Option.some.inj (cLf.symm.trans cZl)
      injection cLf with hva_ hvn_ hvc_
      rw [hva_] at cZo
      rw [hvc_] at cZn
      have bY4 := aZ (show Kd.V (Kd.int .i64) 3 _ w.heap.size _ _ ((aA aD eY).f1.f1) from Kd.V_mk cZn cZo)
      clear hva_ hvn_ hvc_ cZo cZn
      have cLg := dMt 3 _ rfl
      rw [add_field _ _ 3 (by omega)] at cLg
      replace cLg := Option.some.inj (cLg.symm.trans cZm)
      injection cLg with hva_ hvn_ hvc_
      rw [hva_] at cZq
      rw [hvc_] at cZp
      have bY5 := aZ (show Kd.V (Kd.int .u8) 5 _ w.heap.size _ _ ((aA aD eY).f1.f2) from Kd.V_mk cZp cZq)
      clear hva_ hvn_ hvc_ cZq cZp
      clear dMt fJz
      have eU5 := aZ dT5
      have gY5 := aZ dT4
      clear dT5 dT4
      have eU6 := aZ dT7
      have gY6 := aZ dT6
      clear dT7 dT6
      replace eU3 := eq_true eU3
      replace eU4 := eq_true eU4
      refine start_ (n := 11) (S := fun w' => w'.cell? ⟨fH, 0, none⟩ = some (u724000) ∧ w'.cell? ⟨jT, 0, none⟩ = some (.slice (some bS3) aD.length bK) ∧ w'.cell? (bS3.add ((eY).toNat * 4)) = some (.int .i64 ((aA aD eY).f0)) ∧ w'.cell? ⟨(bS3.add ((eY).toNat * 4)).block, (bS3.add ((eY).toNat * 4)).off + 1, none⟩ = some (.int .i64 ((aA aD eY).f1.f0)) ∧ w'.cell? ⟨(bS3.add ((eY).toNat * 4)).block, (bS3.add ((eY).toNat * 4)).off + 2, none⟩ = some (.slice eJn ((aA aD eY).f1.f1).length eJo) ∧ w'.cell? ⟨(bS3.add ((eY).toNat * 4)).block, (bS3.add ((eY).toNat * 4)).off + 3, none⟩ = some (.slice eJp ((aA aD eY).f1.f2).length eJq)) (ds := [8, 10]) Z1 (by kernel_rfl) rfl rfl ⟨(blk_cell pK.out 0).trans rfl, (blk_cell gB.out 0).trans rfl, dT2, dT3, cZl, cZm⟩ (fun hHeld => ?_); refine with_tabW aQ.tab17 aQ.bits17 (fun HT_ HW_ => ?_)
      generalize wr.drew = w74 at kJ nY nZ mV gB gH lH pK HB bY4 bY5 eU5 eU6 dT2 dT3 cZl cZm hHeld ⊢
      refine pu 0 64 Z2 HT_ rfl rfl (h := ?_)
      refine pu 2 66 Z3 HT_ rfl rfl (h := ?_)
      refine pu 4 68 Z4 HT_ rfl rfl (h := ?_)
      refine tk 1 65 Z5 HT_ HW_ rfl rfl hHeld (by rintro w' ⟨s0, s1, s2, s3, s4, s5⟩; go_simp; with_reducible rfl) (h := ?_)
      refine tk 3 67 Z6 HT_ HW_ rfl rfl hHeld (by rintro w' ⟨s0, s1, s2, s3, s4, s5⟩; go_simp; with_reducible rfl) (h := ?_)
      refine pu 5 69 Z7 HT_ rfl rfl (h := ?_)
      refine tk 6 70 Z8 HT_ HW_ rfl rfl hHeld (by rintro w' ⟨s0, s1, s2, s3, s4, s5⟩; go_simp; with_reducible rfl) (h := ?_)
      refine one_ (i := 7) (N := some 71) Z9 rfl rfl (one_of HT_.out (by kernel_rfl)) (by decide) (fun K hK => ?_)
      refine value_ (w1 := ?_) (v := ?_) (by rfl) rfl ?_ ?_
      rotate_left 2
      · go_simp
        constructor
        · rfl
        · rfl
      refine hK.out _ _ ⟨(blk_cell (bA pK.out _) 0).trans rfl, (blk_cell (bA gB.out _) 0).trans rfl, (World.cell?_alloc_lt _ _ _ (World.block_lt_of_cell? _ _ (hHeld.2.2.1))).trans (hHeld.2.2.1), (World.cell?_alloc_lt _ _ _ (World.block_lt_of_cell? _ _ (hHeld.2.2.2.1))).trans (hHeld.2.2.2.1), (World.cell?_alloc_lt _ _ _ (World.block_lt_of_cell? _ _ (hHeld.2.2.2.2.1))).trans (hHeld.2.2.2.2.1), (World.cell?_alloc_lt _ _ _ (World.block_lt_of_cell? _ _ (hHeld.2.2.2.2.2))).trans (hHeld.2.2.2.2.2)⟩ (fun hHeld => ?_)
      clear hK K
      refine norm_ (a' := ?_) ?_ ?_
      rotate_left
      · show Act.put _ (some 71) _ = _
        simp only [Act.put, List.setIfInBounds_toArray, List.set_cons_zero, List.set_cons_succ, i64_w, i32_w]
        rfl
      refine last_ (i := 8) (N := some 72) Z10 rfl rfl (one_of HT_.out (by kernel_rfl)) (by decide) (fun K hK => ?_)
      refine Kd.N_append_step qL (w0 := w) w.heap.size (by rfl) (.tmp 65) (.tmp 71) 22 46 (.agg #[(.int .i64 0), (.int .i64 0), (.slice none 0 0), (.slice none 0 0)]) 64 rfl Try.underlying22 aNg rfl (by decide) (by omega) u724000 oW (⟨(aA aD eY).f0, (⟨(aA aD eY).f1.f0, (aA aD eY).f1.f1, (aA aD eY).f1.f2⟩ : S44)⟩ : fB) [.int .i64 ((aA aD eY).f0), .int .i64 ((aA aD eY).f1.f0), .slice eJn ((aA aD eY).f1.f1).length eJo, .slice eJp ((aA aD eY).f1.f2).length eJq] (fun k_ => ((eP k_ ∨ nQ k_ ∨ nR k_) ∨ w.heap.size ≤ k_) ∧ k_ ≠ jT ∧ k_ ≠ jH ∧ k_ ≠ jU ∧ k_ ≠ fH) (fun k_ => ((fun k_ => ((eP k_ ∨ nQ k_ ∨ nR k_) ∨ w.heap.size ≤ k_) ∧ k_ ≠ jT ∧ k_ ≠ jH ∧ k_ ≠ jU ∧ k_ ≠ fH)) k_ ∧ some k_ ≠ (u724000 : Value).ownBlock) rfl rfl ?aP (fun _ hk => hk) ?aF ?aO ?aB ?aS ?aL ?_
      (case aP => exact (aW2 _ _ (⟨(aA aD eY).f0, (⟨(aA aD eY).f1.f0, (aA aD eY).f1.f1, (aA aD eY).f1.f2⟩ : S44)⟩ : fB) (Kd.V_reads' (Kd.V_mono (ok' := (fun k_ => ((fun k_ => ((eP k_ ∨ nQ k_ ∨ nR k_) ∨ w.heap.size ≤ k_) ∧ k_ ≠ jT ∧ k_ ≠ jH ∧ k_ ≠ jU ∧ k_ ≠ fH)) k_ ∧ some k_ ≠ (u724000 : Value).ownBlock)) (bY4.out) (fun k_ hk => ⟨⟨hk.1, ⟨hk.2.2.1, ⟨hk.2.2.2.1, ⟨hk.2.2.2.2.1, hk.2.2.2.2.2⟩⟩⟩⟩, hk.2.1⟩))).2.1 (Kd.V_F (Kd.V_mono (ok' := (fun k_ => ((fun k_ => ((eP k_ ∨ nQ k_ ∨ nR k_) ∨ w.heap.size ≤ k_) ∧ k_ ≠ jT ∧ k_ ≠ jH ∧ k_ ≠ jU ∧ k_ ≠ fH)) k_ ∧ some k_ ≠ (u724000 : Value).ownBlock)) (bY4.out) (fun k_ hk => ⟨⟨hk.1, ⟨hk.2.2.1, ⟨hk.2.2.2.1, ⟨hk.2.2.2.2.1, hk.2.2.2.2.2⟩⟩⟩⟩, hk.2.1⟩))) (Kd.V_reads' (Kd.V_mono (ok' := (fun k_ => ((fun k_ => ((eP k_ ∨ nQ k_ ∨ nR k_) ∨ w.heap.size ≤ k_) ∧ k_ ≠ jT ∧ k_ ≠ jH ∧ k_ ≠ jU ∧ k_ ≠ fH)) k_ ∧ some k_ ≠ (u724000 : Value).ownBlock)) (bY5.out) (fun k_ hk => ⟨⟨hk.1, ⟨hk.2.2.1, ⟨hk.2.2.2.1, ⟨hk.2.2.2.2.1, hk.2.2.2.2.2⟩⟩⟩⟩, hk.2.1⟩))).2.1 (Kd.V_F (Kd.V_mono (ok' := (fun k_ => ((fun k_ => ((eP k_ ∨ nQ k_ ∨ nR k_) ∨ w.heap.size ≤ k_) ∧ k_ ≠ jT ∧ k_ ≠ jH ∧ k_ ≠ jU ∧ k_ ≠ fH)) k_ ∧ some k_ ≠ (u724000 : Value).ownBlock)) (bY5.out) (fun k_ hk => ⟨⟨hk.1, ⟨hk.2.2.1, ⟨hk.2.2.2.1, ⟨hk.2.2.2.2.1, hk.2.2.2.2.2⟩⟩⟩⟩, hk.2.1⟩)))))
      (case aB => exact (by repeat (first | (with_reducible first | exact HB.out | apply lA | apply lN | apply lD | refine lS ?_ aSo.out | refine lS ?_ aSp.out | refine lS ?_ aSq.out | refine lS ?_ bA7.out) | exact HB.out)))
      (case aF => exact (fun k_ hk => ⟨(.inr (Nat.le_trans (lZ (by repeat (first | (with_reducible first | exact HB.out | apply lA | apply lN | apply lD | refine lS ?_ aSo.out | refine lS ?_ aSp.out | refine lS ?_ aSq.out | refine lS ?_ bA7.out) | exact HB.out))) hk)), Kd.freshB (g := jT) (o := .cells #[.slice (some bS3) aD.length bK] 24 (0, 0)) (xkq gB) k_ hk, Kd.freshB (g := jH) (o := .cells #[.int .i64 dH, .slice kW bX.length kX, .slice kR cO.length kS] 44 (0, 0)) (xkq gH) k_ hk, Kd.freshB (g := jU) (o := .cells #[.slice none 0 0] 24 (0, 0)) (xkq lH) k_ hk, Kd.freshB (g := fH) (o := .cells #[u724000] 24 (0, 0)) (xkq pK) k_ hk⟩))
      (case aO => exact (by (with_reducible repeat (first | apply Kd.N_alloc | apply Kd.N_drewN | apply Kd.N_drew)); exact mV.out))
      (case aS => exact (lZ (by repeat (first | (with_reducible first | exact HB.out | apply lA | apply lN | apply lD | refine lS ?_ aSo.out | refine lS ?_ aSp.out | refine lS ?_ aSq.out | refine lS ?_ bA7.out) | exact HB.out))))
      (case aL => have := gDm.out; omega)
      intro iIt w75 ho hb hg hat
      rw [← gDn.out] at ho
      replace kJ := aZ (Kd.V_afterv (ok := (fun k_ => ((eP k_ ∨ nQ k_ ∨ nR k_) ∨ w.heap.size ≤ k_) ∧ k_ ≠ jT ∧ k_ ≠ jH ∧ k_ ≠ jU ∧ k_ ≠ fH)) (by (with_reducible repeat (first | apply Kd.V_alloc | apply Kd.V_drewN | apply Kd.V_drew)); exact Kd.V_mono kJ.out (fun _ hk => ⟨⟨hk.1, ⟨hk.2.2.1, ⟨hk.2.2.2.1, ⟨hk.2.2.2.2.1, hk.2.2.2.2.2⟩⟩⟩⟩, hk.2.1⟩)) hg hat)
      replace nY := aZ (Kd.V_afterv (ok := (fun k_ => ((eP k_ ∨ nQ k_ ∨ nR k_) ∨ w.heap.size ≤ k_) ∧ k_ ≠ jT ∧ k_ ≠ jH ∧ k_ ≠ jU ∧ k_ ≠ fH)) (by (with_reducible repeat (first | apply Kd.V_alloc | apply Kd.V_drewN | apply Kd.V_drew)); exact Kd.V_mono nY.out (fun _ hk => ⟨⟨hk.1, ⟨hk.2.2.1, ⟨hk.2.2.2.1, ⟨hk.2.2.2.2.1, hk.2.2.2.2.2⟩⟩⟩⟩, hk.2.1⟩)) hg hat)
      replace nZ := aZ (Kd.V_afterv (ok := (fun k_ => ((eP k_ ∨ nQ k_ ∨ nR k_) ∨ w.heap.size ≤ k_) ∧ k_ ≠ jT ∧ k_ ≠ jH ∧ k_ ≠ jU ∧ k_ ≠ fH)) (by (with_reducible repeat (first | apply Kd.V_alloc | apply Kd.V_drewN | apply Kd.V_drew)); exact Kd.V_mono nZ.out (fun _ hk => ⟨⟨hk.1, ⟨hk.2.2.1, ⟨hk.2.2.2.1, ⟨hk.2.2.2.2.1, hk.2.2.2.2.2⟩⟩⟩⟩, hk.2.1⟩)) hg hat)
      replace gB := aZ (blk_grown (g := jT) (o := .cells #[.slice (some bS3) aD.length bK] 24 (0, 0)) (xkq gB) hg (Kd.N_ne mV.out gB.out (by decide)))
      replace gH := aZ (blk_grown (g := jH) (o := .cells #[.int .i64 dH, .slice kW bX.length kX, .slice kR cO.length kS] 44 (0, 0)) (xkq gH) hg (Kd.N_ne mV.out gH.out (by decide)))
      replace lH := aZ (blk_grown (g := jU) (o := .cells #[.slice none 0 0] 24 (0, 0)) (xkq lH) hg (Kd.N_ne mV.out lH.out (by decide)))
      replace pK := aZ (blk_grown (g := fH) (o := .cells #[u724000] 24 (0, 0)) (xkq pK) hg (Kd.N_ne mV.out pK.out (by decide)))
      replace bY4 := aZ (Kd.V_afterv (ok := (fun k_ => ((eP k_ ∨ nQ k_ ∨ nR k_) ∨ w.heap.size ≤ k_) ∧ k_ ≠ jT ∧ k_ ≠ jH ∧ k_ ≠ jU ∧ k_ ≠ fH)) (by (with_reducible repeat (first | apply Kd.V_alloc | apply Kd.V_drewN | apply Kd.V_drew)); exact Kd.V_mono bY4.out (fun _ hk => ⟨⟨hk.1, ⟨hk.2.2.1, ⟨hk.2.2.2.1, ⟨hk.2.2.2.2.1, hk.2.2.2.2.2⟩⟩⟩⟩, hk.2.1⟩)) hg hat)
      replace bY5 := aZ (Kd.V_afterv (ok := (fun k_ => ((eP k_ ∨ nQ k_ ∨ nR k_) ∨ w.heap.size ≤ k_) ∧ k_ ≠ jT ∧ k_ ≠ jH ∧ k_ ≠ jU ∧ k_ ≠ fH)) (by (with_reducible repeat (first | apply Kd.V_alloc | apply Kd.V_drewN | apply Kd.V_drew)); exact Kd.V_mono bY5.out (fun _ hk => ⟨⟨hk.1, ⟨hk.2.2.1, ⟨hk.2.2.2.1, ⟨hk.2.2.2.2.1, hk.2.2.2.2.2⟩⟩⟩⟩, hk.2.1⟩)) hg hat)
      replace HB := aZ (hb)
      have fBw := aZ (ho)
      clear mV
      clear ho hb hg hat
      obtain ⟨bUq, bSd, eJr⟩ := Kd.N_slice fBw.out
      (first | subst eJr | (injection eJr with f1_ f2_ f3_; have f4_ := f1_.symm; have f5_ := f3_.symm; clear f1_ f2_ f3_; subst f4_; subst f5_))
      refine hK.out _ _ ?_
      clear hK K
      refine norm_ (a' := ?_) ?_ ?_
      rotate_left
      · show Act.put _ (some 72) _ = _
        simp only [Act.put, List.setIfInBounds_toArray, List.set_cons_zero, List.set_cons_succ, i64_w, i32_w]
        rfl
      refine pu 9 73 Z11 HT_ rfl rfl (h := ?_)
      refine last_ (i := 10) (N := none) Z12 rfl rfl (one_of HT_.out (by kernel_rfl)) (by decide) (fun K hK => ?_)
      have hLg : w75.cell? ⟨fH, 0, none⟩ = some (u724000) := (blk_cell pK.out 0).trans rfl
      have gDo := blk_frozen pK.out 0
      have eU7 := aKm.out
      have eU8 := aTk.out
      have eU9 := aO1.out
      have eVa := aKn.out
      have eVb := aTl.out
      have eVc := aTm.out
      refine skip_ (w1 := ?_) (by rfl) rfl ?_ ?_
      rotate_left
      · go_simp
        rfl
      refine hK.out _ _ ?_
      clear hK K
      refine done_ (done_of HT_.out (by kernel_rfl)) ?_
      try go_wp2
      go_roundg k1
      case measure => have := yS.out; omega
      case rel => exact ⟨(true), (wrap64 (eY + 1)), (dMs), (.slice bUq dMs.length bSd), xrs, xrs, H', ⟨by have := yS.out; omega⟩, ⟨by (with_reducible repeat (first | apply Kd.V_alloc | apply Kd.V_drewN | apply Kd.V_drew)); exact Kd.V_mono (Kd.V_far (p := ⟨fH, 0, none⟩) (Kd.V_mono kJ.out (fun k_ hk => (⟨hk, hk.1.2.2.2.2⟩ : _ ∧ k_ ≠ fH))) (fun _ hk => hk.2) (.slice bUq dMs.length bSd)) (fun _ hk => ⟨hk.1.1.1, ⟨hk.1.2, ⟨hk.1.1.2.1, ⟨hk.1.1.2.2.1, ⟨hk.1.1.2.2.2.1, hk.1.1.2.2.2.2⟩⟩⟩⟩⟩)⟩, ⟨by (with_reducible repeat (first | apply Kd.V_alloc | apply Kd.V_drewN | apply Kd.V_drew)); exact Kd.V_mono (Kd.V_far (p := ⟨fH, 0, none⟩) (Kd.V_mono nY.out (fun k_ hk => (⟨hk, hk.1.2.2.2.2⟩ : _ ∧ k_ ≠ fH))) (fun _ hk => hk.2) (.slice bUq dMs.length bSd)) (fun _ hk => ⟨hk.1.1.1, ⟨hk.1.2, ⟨hk.1.1.2.1, ⟨hk.1.1.2.2.1, ⟨hk.1.1.2.2.2.1, hk.1.1.2.2.2.2⟩⟩⟩⟩⟩)⟩, ⟨by (with_reducible repeat (first | apply Kd.V_alloc | apply Kd.V_drewN | apply Kd.V_drew)); exact Kd.V_mono (Kd.V_far (p := ⟨fH, 0, none⟩) (Kd.V_mono nZ.out (fun k_ hk => (⟨hk, hk.1.2.2.2.2⟩ : _ ∧ k_ ≠ fH))) (fun _ hk => hk.2) (.slice bUq dMs.length bSd)) (fun _ hk => ⟨hk.1.1.1, ⟨hk.1.2, ⟨hk.1.1.2.1, ⟨hk.1.1.2.2.1, ⟨hk.1.1.2.2.2.1, hk.1.1.2.2.2.2⟩⟩⟩⟩⟩)⟩, ⟨by (with_reducible repeat (first | apply Kd.N_alloc | apply Kd.N_drewN | apply Kd.N_drew)); exact Kd.N_mono (Kd.N_far (p := ⟨fH, 0, none⟩) (Kd.N_mono fBw.out (fun k_ hk => (⟨hk, hk.2.2.2.2⟩ : _ ∧ k_ ≠ fH))) (fun _ hk => hk.2) (.slice bUq dMs.length bSd)) (fun _ hk => ⟨hk.1.1, ⟨hk.1.2.1, ⟨hk.1.2.2.1, ⟨hk.1.2.2.2.1, hk.1.2.2.2.2⟩⟩⟩⟩)⟩, xk gB, xk gH, xk lH, ⟨by (with_reducible repeat (first | refine bN ?_ _ | refine bD ?_ | refine bA ?_ _)); refine blk_put (cs := #[u724000]) ?_ 0 _ rfl; (with_reducible repeat (first | refine bN ?_ _ | refine bD ?_ | refine bA ?_ _)); exact pK.out⟩, xb HB⟩
    replace c67 := Bool.eq_false_iff.mpr c67
    subst c67
    have H1 : (if 0 ≤ eY then (if ((aA aD eY).f0) > aAc then (if oW.length < 2199023255552 then ((some (oW ++ [(⟨aAc, (⟨dH, bX, cO⟩ : S44)⟩ : fB)] : List (fB))).bind fun aB0 => (if aB0.length < 2199023255552 then (aQ.l0 k1 aAc true (wrap64 (eY + 1)) aD dH bX cO (aB0 ++ [(⟨(aA aD eY).f0, (⟨(aA aD eY).f1.f0, (aA aD eY).f1.f1, (aA aD eY).f1.f2⟩ : S44)⟩ : fB)])) else (none))) else (none)) else (if oW.length < 2199023255552 then (aQ.l0 k1 aAc false (wrap64 (eY + 1)) aD dH bX cO (oW ++ [(⟨(aA aD eY).f0, (⟨(aA aD eY).f1.f0, (aA aD eY).f1.f1, (aA aD eY).f1.f2⟩ : S44)⟩ : fB)])) else (none))) else (none)) = some (r1, r2, r3) := by rw [if_neg (show ¬ (false = true) by decide)] at H; exact H
    clear H
    have H := H1
    clear H1
    by_cases c78 : 0 ≤ eY
    rotate_left
    · rw [if_neg c78] at H
      exact absurd H (by simp)
    rw [if_pos c78] at H
    have iCv : decide (0 ≤ eY) = true := decide_eq_true c78
    clear c78
    by_cases c79 : ((aA aD eY).f0) > aAc
    rotate_left
    · rw [if_neg c79] at H
      have fBx : decide (aAc < ((aA aD eY).f0)) = false := decide_eq_false c79
      clear c79
      by_cases c99 : oW.length < 2199023255552
      rotate_left
      · rw [if_neg c99] at H
        exact absurd H (by simp)
      rw [if_pos c99] at H
      have gDp := aZ c99
      clear c99
      obtain ⟨dMu, dG2⟩ : ∃ y_ : List (fB), y_ = (oW ++ [(⟨(aA aD eY).f0, (⟨(aA aD eY).f1.f0, (aA aD eY).f1.f1, (aA aD eY).f1.f2⟩ : S44)⟩ : fB)]) := ⟨_, rfl⟩
      replace H : (aQ.l0 k1 aAc false (wrap64 (eY + 1)) aD dH bX cO dMu) = some (r1, r2, r3) := by first | (rw [dG2]; with_reducible exact H) | (have qY := (Option.bind_some _ _).symm.trans H; rw [dG2]; with_reducible exact qY) | (have qY := (Option.bind_some _ _).symm.trans H; with_reducible exact qY) | with_reducible exact H | (rw [dG2]; exact H) | exact H
      have gDq := aZ dG2
      clear dG2
      have H' := aZ H
      clear H
      have cD4 := aC5.out
      have cD5 := aC6.out
      have bUr := aC7.out
      have bUs := aC8.out
      have bUm := aKm.out
      have bUn := aKn.out
      have cPg : wr.cell? ⟨jT, 0, none⟩ = some (.slice bP aD.length bK) := (blk_cell gB.out 0).trans rfl
      have cPh := blk_frozen gB.out 0
      have cZs : 0 ≤ (eY : Int) := of_decide_eq_true xas
      have cZt : eY < (aD.length : Int) := of_decide_eq_true xas
      obtain ⟨aEz, eJt, eJu, eJv, eJw, fJ1, eVe, eVf, cZu, cZv, bY6, bY7, bY8, bY9⟩ := gY (Kd.V_reads' kJ.out).2.2 eY cZs cZt
      cases fJ1
      obtain ⟨gDr, dMv, dMw, bUt⟩ := Kd.V_get kJ.out z46 eY cZs (by first | exact cZt | exact of_decide_eq_true xas | (have e_ := (Kd.V_reads' kJ.out).1; omega))
      obtain ⟨eVg, eVh, eVi, eVj, rfl, bKj, bKk, bKl, bKm⟩ := rM dMw
      have aXx := bUt 2 _ rfl
      rw [add_field _ _ 2 (by omega)] at aXx
      replace aXx := Option.some.inj (aXx.symm.trans cZu)
      injection aXx with hva_ hvn_ hvc_
      rw [hva_] at bKk
      rw [hvc_] at bKj
      have aEk := aZ (show Kd.V (Kd.int .i64) 3 _ w.heap.size _ _ ((aA aD eY).f1.f1) from Kd.V_mk bKj bKk)
      clear hva_ hvn_ hvc_ bKk bKj
      have aXy := bUt 3 _ rfl
      rw [add_field _ _ 3 (by omega)] at aXy
      replace aXy := Option.some.inj (aXy.symm.trans cZv)
      injection aXy with hva_ hvn_ hvc_
      rw [hva_] at bKm
      rw [hvc_] at bKl
      have aEl := aZ (show Kd.V (Kd.int .u8) 5 _ w.heap.size _ _ ((aA aD eY).f1.f2) from Kd.V_mk bKl bKm)
      clear hva_ hvn_ hvc_ bKm bKl
      clear bUt dMv
      have cLh := aZ bY7
      have eVk := aZ bY6
      clear bY7 bY6
      have cLi := aZ bY9
      have eVl := aZ bY8
      clear bY9 bY8
      replace cZs := eq_true cZs
      replace cZt := eq_true cZt
      try go_wp2
      replace kJ := aZ (Kd.V_drew kJ.out)
      replace nY := aZ (Kd.V_drew nY.out)
      replace nZ := aZ (Kd.V_drew nZ.out)
      replace mV := aZ (Kd.N_drew mV.out)
      replace aEk := aZ (Kd.V_drew aEk.out)
      replace aEl := aZ (Kd.V_drew aEl.out)
      replace gB := aZ (bD gB.out)
      replace gH := aZ (bD gH.out)
      replace lH := aZ (bD lH.out)
      replace pK := aZ (bD pK.out)
      replace cLh := aZ (Kd.C_drew cLh.out)
      replace cLi := aZ (Kd.C_drew cLi.out)
      replace HB := aZ (lD HB.out)
      have eVm : 0 ≤ (eY : Int) := of_decide_eq_true xas
      have eVn : eY < (aD.length : Int) := of_decide_eq_true xas
      obtain ⟨gDs, eJx, eJy, eJz, eJ0, hLh, dT8, dT9, cZw, cZx, dUa, dUb, dUc, dUd⟩ := gY (Kd.V_reads' kJ.out).2.2 eY eVm eVn
      obtain rfl : aEz = gDs := (by injection hLh)
      obtain ⟨iCw, fJ2, fJ3, dMx⟩ := Kd.V_get kJ.out z46 eY eVm (by first | exact eVn | exact of_decide_eq_true xas | (have e_ := (Kd.V_reads' kJ.out).1; omega))
      obtain ⟨gY8, gY9, gZa, gZb, rfl, cZy, cZz, cZ0, cZ1⟩ := rM fJ3
      have cLj := dMx 2 _ rfl
      rw [add_field _ _ 2 (by omega)] at cLj
      replace cLj := Option.some.inj (cLj.symm.trans cZw)
      injection cLj with hva_ hvn_ hvc_
      rw [hva_] at cZz
      rw [hvc_] at cZy
      have bZa := aZ (show Kd.V (Kd.int .i64) 3 _ w.heap.size _ _ ((aA aD eY).f1.f1) from Kd.V_mk cZy cZz)
      clear hva_ hvn_ hvc_ cZz cZy
      have cLk := dMx 3 _ rfl
      rw [add_field _ _ 3 (by omega)] at cLk
      replace cLk := Option.some.inj (cLk.symm.trans cZx)
      injection cLk with hva_ hvn_ hvc_
      rw [hva_] at cZ1
      rw [hvc_] at cZ0
      have bZb := aZ (show Kd.V (Kd.int .u8) 5 _ w.heap.size _ _ ((aA aD eY).f1.f2) from Kd.V_mk cZ0 cZ1)
      clear hva_ hvn_ hvc_ cZ1 cZ0
      clear dMx fJ2
      have eVo := aZ dUb
      have gZc := aZ dUa
      clear dUb dUa
      have eVp := aZ dUd
      have gZd := aZ dUc
      clear dUd dUc
      replace eVm := eq_true eVm
      replace eVn := eq_true eVn
      refine start_ (n := 11) (S := fun w' => w'.cell? ⟨fH, 0, none⟩ = some (u724000) ∧ w'.cell? ⟨jT, 0, none⟩ = some (.slice (some aEz) aD.length bK) ∧ w'.cell? (aEz.add ((eY).toNat * 4)) = some (.int .i64 ((aA aD eY).f0)) ∧ w'.cell? ⟨(aEz.add ((eY).toNat * 4)).block, (aEz.add ((eY).toNat * 4)).off + 1, none⟩ = some (.int .i64 ((aA aD eY).f1.f0)) ∧ w'.cell? ⟨(aEz.add ((eY).toNat * 4)).block, (aEz.add ((eY).toNat * 4)).off + 2, none⟩ = some (.slice eJx ((aA aD eY).f1.f1).length eJy) ∧ w'.cell? ⟨(aEz.add ((eY).toNat * 4)).block, (aEz.add ((eY).toNat * 4)).off + 3, none⟩ = some (.slice eJz ((aA aD eY).f1.f2).length eJ0)) (ds := [8, 10]) Z1 (by kernel_rfl) rfl rfl ⟨(blk_cell pK.out 0).trans rfl, (blk_cell gB.out 0).trans rfl, dT8, dT9, cZw, cZx⟩ (fun hHeld => ?_); refine with_tabW aQ.tab17 aQ.bits17 (fun HT_ HW_ => ?_)
      generalize wr.drew = hI6 at kJ nY nZ mV aEk aEl gB gH lH pK cLh cLi HB bZa bZb eVo eVp dT8 dT9 cZw cZx hHeld ⊢
      refine pu 0 64 Z2 HT_ rfl rfl (h := ?_)
      refine pu 2 66 Z3 HT_ rfl rfl (h := ?_)
      refine pu 4 68 Z4 HT_ rfl rfl (h := ?_)
      refine tk 1 65 Z5 HT_ HW_ rfl rfl hHeld (by rintro w' ⟨s0, s1, s2, s3, s4, s5⟩; go_simp; with_reducible rfl) (h := ?_)
      refine tk 3 67 Z6 HT_ HW_ rfl rfl hHeld (by rintro w' ⟨s0, s1, s2, s3, s4, s5⟩; go_simp; with_reducible rfl) (h := ?_)
      refine pu 5 69 Z7 HT_ rfl rfl (h := ?_)
      refine tk 6 70 Z8 HT_ HW_ rfl rfl hHeld (by rintro w' ⟨s0, s1, s2, s3, s4, s5⟩; go_simp; with_reducible rfl) (h := ?_)
      refine one_ (i := 7) (N := some 71) Z9 rfl rfl (one_of HT_.out (by kernel_rfl)) (by decide) (fun K hK => ?_)
      refine value_ (w1 := ?_) (v := ?_) (by rfl) rfl ?_ ?_
      rotate_left 2
      · go_simp
        constructor
        · rfl
        · rfl
      refine hK.out _ _ ⟨(blk_cell (bA pK.out _) 0).trans rfl, (blk_cell (bA gB.out _) 0).trans rfl, (World.cell?_alloc_lt _ _ _ (World.block_lt_of_cell? _ _ (hHeld.2.2.1))).trans (hHeld.2.2.1), (World.cell?_alloc_lt _ _ _ (World.block_lt_of_cell? _ _ (hHeld.2.2.2.1))).trans (hHeld.2.2.2.1), (World.cell?_alloc_lt _ _ _ (World.block_lt_of_cell? _ _ (hHeld.2.2.2.2.1))).trans (hHeld.2.2.2.2.1), (World.cell?_alloc_lt _ _ _ (World.block_lt_of_cell? _ _ (hHeld.2.2.2.2.2))).trans (hHeld.2.2.2.2.2)⟩ (fun hHeld => ?_)
      clear hK K
      refine norm_ (a' := ?_) ?_ ?_
      rotate_left
      · show Act.put _ (some 71) _ = _
        simp only [Act.put, List.setIfInBounds_toArray, List.set_cons_zero, List.set_cons_succ, i64_w, i32_w]
        rfl
      refine last_ (i := 8) (N := some 72) Z10 rfl rfl (one_of HT_.out (by kernel_rfl)) (by decide) (fun K hK => ?_)
      refine Kd.N_append_step qL (w0 := w) w.heap.size (by rfl) (.tmp 65) (.tmp 71) 22 46 (.agg #[(.int .i64 0), (.int .i64 0), (.slice none 0 0), (.slice none 0 0)]) 64 rfl Try.underlying22 aNg rfl (by decide) (by omega) u724000 oW (⟨(aA aD eY).f0, (⟨(aA aD eY).f1.f0, (aA aD eY).f1.f1, (aA aD eY).f1.f2⟩ : S44)⟩ : fB) [.int .i64 ((aA aD eY).f0), .int .i64 ((aA aD eY).f1.f0), .slice eJx ((aA aD eY).f1.f1).length eJy, .slice eJz ((aA aD eY).f1.f2).length eJ0] (fun k_ => ((eP k_ ∨ nQ k_ ∨ nR k_) ∨ w.heap.size ≤ k_) ∧ k_ ≠ jT ∧ k_ ≠ jH ∧ k_ ≠ jU ∧ k_ ≠ fH) (fun k_ => ((fun k_ => ((eP k_ ∨ nQ k_ ∨ nR k_) ∨ w.heap.size ≤ k_) ∧ k_ ≠ jT ∧ k_ ≠ jH ∧ k_ ≠ jU ∧ k_ ≠ fH)) k_ ∧ some k_ ≠ (u724000 : Value).ownBlock) rfl rfl ?aP (fun _ hk => hk) ?aF ?aO ?aB ?aS ?aL ?_
      (case aP => exact (aW2 _ _ (⟨(aA aD eY).f0, (⟨(aA aD eY).f1.f0, (aA aD eY).f1.f1, (aA aD eY).f1.f2⟩ : S44)⟩ : fB) (Kd.V_reads' (Kd.V_mono (ok' := (fun k_ => ((fun k_ => ((eP k_ ∨ nQ k_ ∨ nR k_) ∨ w.heap.size ≤ k_) ∧ k_ ≠ jT ∧ k_ ≠ jH ∧ k_ ≠ jU ∧ k_ ≠ fH)) k_ ∧ some k_ ≠ (u724000 : Value).ownBlock)) (bZa.out) (fun k_ hk => ⟨⟨hk.1, ⟨hk.2.2.1, ⟨hk.2.2.2.1, ⟨hk.2.2.2.2.1, hk.2.2.2.2.2⟩⟩⟩⟩, hk.2.1⟩))).2.1 (Kd.V_F (Kd.V_mono (ok' := (fun k_ => ((fun k_ => ((eP k_ ∨ nQ k_ ∨ nR k_) ∨ w.heap.size ≤ k_) ∧ k_ ≠ jT ∧ k_ ≠ jH ∧ k_ ≠ jU ∧ k_ ≠ fH)) k_ ∧ some k_ ≠ (u724000 : Value).ownBlock)) (bZa.out) (fun k_ hk => ⟨⟨hk.1, ⟨hk.2.2.1, ⟨hk.2.2.2.1, ⟨hk.2.2.2.2.1, hk.2.2.2.2.2⟩⟩⟩⟩, hk.2.1⟩))) (Kd.V_reads' (Kd.V_mono (ok' := (fun k_ => ((fun k_ => ((eP k_ ∨ nQ k_ ∨ nR k_) ∨ w.heap.size ≤ k_) ∧ k_ ≠ jT ∧ k_ ≠ jH ∧ k_ ≠ jU ∧ k_ ≠ fH)) k_ ∧ some k_ ≠ (u724000 : Value).ownBlock)) (bZb.out) (fun k_ hk => ⟨⟨hk.1, ⟨hk.2.2.1, ⟨hk.2.2.2.1, ⟨hk.2.2.2.2.1, hk.2.2.2.2.2⟩⟩⟩⟩, hk.2.1⟩))).2.1 (Kd.V_F (Kd.V_mono (ok' := (fun k_ => ((fun k_ => ((eP k_ ∨ nQ k_ ∨ nR k_) ∨ w.heap.size ≤ k_) ∧ k_ ≠ jT ∧ k_ ≠ jH ∧ k_ ≠ jU ∧ k_ ≠ fH)) k_ ∧ some k_ ≠ (u724000 : Value).ownBlock)) (bZb.out) (fun k_ hk => ⟨⟨hk.1, ⟨hk.2.2.1, ⟨hk.2.2.2.1, ⟨hk.2.2.2.2.1, hk.2.2.2.2.2⟩⟩⟩⟩, hk.2.1⟩)))))
      (case aB => exact (by repeat (first | (with_reducible first | exact HB.out | apply lA | apply lN | apply lD | refine lS ?_ aSo.out | refine lS ?_ aSp.out | refine lS ?_ aSq.out | refine lS ?_ bA7.out) | exact HB.out)))
      (case aF => exact (fun k_ hk => ⟨(.inr (Nat.le_trans (lZ (by repeat (first | (with_reducible first | exact HB.out | apply lA | apply lN | apply lD | refine lS ?_ aSo.out | refine lS ?_ aSp.out | refine lS ?_ aSq.out | refine lS ?_ bA7.out) | exact HB.out))) hk)), Kd.freshB (g := jT) (o := .cells #[.slice (some aEz) aD.length bK] 24 (0, 0)) (xkq gB) k_ hk, Kd.freshB (g := jH) (o := .cells #[.int .i64 dH, .slice kW bX.length kX, .slice kR cO.length kS] 44 (0, 0)) (xkq gH) k_ hk, Kd.freshB (g := jU) (o := .cells #[.slice none 0 0] 24 (0, 0)) (xkq lH) k_ hk, Kd.freshB (g := fH) (o := .cells #[u724000] 24 (0, 0)) (xkq pK) k_ hk⟩))
      (case aO => exact (by (with_reducible repeat (first | apply Kd.N_alloc | apply Kd.N_drewN | apply Kd.N_drew)); exact mV.out))
      (case aS => exact (lZ (by repeat (first | (with_reducible first | exact HB.out | apply lA | apply lN | apply lD | refine lS ?_ aSo.out | refine lS ?_ aSp.out | refine lS ?_ aSq.out | refine lS ?_ bA7.out) | exact HB.out))))
      (case aL => have := gDp.out; omega)
      intro iIu bWl ho hb hg hat
      rw [← gDq.out] at ho
      replace kJ := aZ (Kd.V_afterv (ok := (fun k_ => ((eP k_ ∨ nQ k_ ∨ nR k_) ∨ w.heap.size ≤ k_) ∧ k_ ≠ jT ∧ k_ ≠ jH ∧ k_ ≠ jU ∧ k_ ≠ fH)) (by (with_reducible repeat (first | apply Kd.V_alloc | apply Kd.V_drewN | apply Kd.V_drew)); exact Kd.V_mono kJ.out (fun _ hk => ⟨⟨hk.1, ⟨hk.2.2.1, ⟨hk.2.2.2.1, ⟨hk.2.2.2.2.1, hk.2.2.2.2.2⟩⟩⟩⟩, hk.2.1⟩)) hg hat)
      replace nY := aZ (Kd.V_afterv (ok := (fun k_ => ((eP k_ ∨ nQ k_ ∨ nR k_) ∨ w.heap.size ≤ k_) ∧ k_ ≠ jT ∧ k_ ≠ jH ∧ k_ ≠ jU ∧ k_ ≠ fH)) (by (with_reducible repeat (first | apply Kd.V_alloc | apply Kd.V_drewN | apply Kd.V_drew)); exact Kd.V_mono nY.out (fun _ hk => ⟨⟨hk.1, ⟨hk.2.2.1, ⟨hk.2.2.2.1, ⟨hk.2.2.2.2.1, hk.2.2.2.2.2⟩⟩⟩⟩, hk.2.1⟩)) hg hat)
      replace nZ := aZ (Kd.V_afterv (ok := (fun k_ => ((eP k_ ∨ nQ k_ ∨ nR k_) ∨ w.heap.size ≤ k_) ∧ k_ ≠ jT ∧ k_ ≠ jH ∧ k_ ≠ jU ∧ k_ ≠ fH)) (by (with_reducible repeat (first | apply Kd.V_alloc | apply Kd.V_drewN | apply Kd.V_drew)); exact Kd.V_mono nZ.out (fun _ hk => ⟨⟨hk.1, ⟨hk.2.2.1, ⟨hk.2.2.2.1, ⟨hk.2.2.2.2.1, hk.2.2.2.2.2⟩⟩⟩⟩, hk.2.1⟩)) hg hat)
      replace gB := aZ (blk_grown (g := jT) (o := .cells #[.slice (some aEz) aD.length bK] 24 (0, 0)) (xkq gB) hg (Kd.N_ne mV.out gB.out (by decide)))
      replace gH := aZ (blk_grown (g := jH) (o := .cells #[.int .i64 dH, .slice kW bX.length kX, .slice kR cO.length kS] 44 (0, 0)) (xkq gH) hg (Kd.N_ne mV.out gH.out (by decide)))
      replace lH := aZ (blk_grown (g := jU) (o := .cells #[.slice none 0 0] 24 (0, 0)) (xkq lH) hg (Kd.N_ne mV.out lH.out (by decide)))
      replace pK := aZ (blk_grown (g := fH) (o := .cells #[u724000] 24 (0, 0)) (xkq pK) hg (Kd.N_ne mV.out pK.out (by decide)))
      replace aEk := aZ (Kd.V_afterv (ok := (fun k_ => ((eP k_ ∨ nQ k_ ∨ nR k_) ∨ w.heap.size ≤ k_) ∧ k_ ≠ jT ∧ k_ ≠ jH ∧ k_ ≠ jU ∧ k_ ≠ fH)) (by (with_reducible repeat (first | apply Kd.V_alloc | apply Kd.V_drewN | apply Kd.V_drew)); exact Kd.V_mono aEk.out (fun _ hk => ⟨⟨hk.1, ⟨hk.2.2.1, ⟨hk.2.2.2.1, ⟨hk.2.2.2.2.1, hk.2.2.2.2.2⟩⟩⟩⟩, hk.2.1⟩)) hg hat)
      replace aEl := aZ (Kd.V_afterv (ok := (fun k_ => ((eP k_ ∨ nQ k_ ∨ nR k_) ∨ w.heap.size ≤ k_) ∧ k_ ≠ jT ∧ k_ ≠ jH ∧ k_ ≠ jU ∧ k_ ≠ fH)) (by (with_reducible repeat (first | apply Kd.V_alloc | apply Kd.V_drewN | apply Kd.V_drew)); exact Kd.V_mono aEl.out (fun _ hk => ⟨⟨hk.1, ⟨hk.2.2.1, ⟨hk.2.2.2.1, ⟨hk.2.2.2.2.1, hk.2.2.2.2.2⟩⟩⟩⟩, hk.2.1⟩)) hg hat)
      replace bZa := aZ (Kd.V_afterv (ok := (fun k_ => ((eP k_ ∨ nQ k_ ∨ nR k_) ∨ w.heap.size ≤ k_) ∧ k_ ≠ jT ∧ k_ ≠ jH ∧ k_ ≠ jU ∧ k_ ≠ fH)) (by (with_reducible repeat (first | apply Kd.V_alloc | apply Kd.V_drewN | apply Kd.V_drew)); exact Kd.V_mono bZa.out (fun _ hk => ⟨⟨hk.1, ⟨hk.2.2.1, ⟨hk.2.2.2.1, ⟨hk.2.2.2.2.1, hk.2.2.2.2.2⟩⟩⟩⟩, hk.2.1⟩)) hg hat)
      replace bZb := aZ (Kd.V_afterv (ok := (fun k_ => ((eP k_ ∨ nQ k_ ∨ nR k_) ∨ w.heap.size ≤ k_) ∧ k_ ≠ jT ∧ k_ ≠ jH ∧ k_ ≠ jU ∧ k_ ≠ fH)) (by (with_reducible repeat (first | apply Kd.V_alloc | apply Kd.V_drewN | apply Kd.V_drew)); exact Kd.V_mono bZb.out (fun _ hk => ⟨⟨hk.1, ⟨hk.2.2.1, ⟨hk.2.2.2.1, ⟨hk.2.2.2.2.1, hk.2.2.2.2.2⟩⟩⟩⟩, hk.2.1⟩)) hg hat)
      replace HB := aZ (hb)
      have fBy := aZ (ho)
      clear mV
      clear ho hb hg hat
      obtain ⟨aRh, aO2, dG3⟩ := Kd.N_slice fBy.out
      (first | subst dG3 | (injection dG3 with f1_ f2_ f3_; have f4_ := f1_.symm; have f5_ := f3_.symm; clear f1_ f2_ f3_; subst f4_; subst f5_))
      refine hK.out _ _ ?_
      clear hK K
      refine norm_ (a' := ?_) ?_ ?_
      rotate_left
      · show Act.put _ (some 72) _ = _
        simp only [Act.put, List.setIfInBounds_toArray, List.set_cons_zero, List.set_cons_succ, i64_w, i32_w]
        rfl
      refine pu 9 73 Z11 HT_ rfl rfl (h := ?_)
      refine last_ (i := 10) (N := none) Z12 rfl rfl (one_of HT_.out (by kernel_rfl)) (by decide) (fun K hK => ?_)
      have gDt : bWl.cell? ⟨fH, 0, none⟩ = some (u724000) := (blk_cell pK.out 0).trans rfl
      have fJ4 := blk_frozen pK.out 0
      have eJ1 := aKm.out
      have eJ2 := aTk.out
      have eJ3 := aO1.out
      have eJ4 := aKn.out
      have eJ5 := aTl.out
      have eJ6 := aTm.out
      refine skip_ (w1 := ?_) (by rfl) rfl ?_ ?_
      rotate_left
      · go_simp
        rfl
      refine hK.out _ _ ?_
      clear hK K
      refine done_ (done_of HT_.out (by kernel_rfl)) ?_
      try go_wp2
      go_roundg k1
      case measure => have := yS.out; omega
      case rel => exact ⟨(false), (wrap64 (eY + 1)), (dMu), (.slice aRh dMu.length aO2), xrs, xrs, H', ⟨by have := yS.out; omega⟩, ⟨by (with_reducible repeat (first | apply Kd.V_alloc | apply Kd.V_drewN | apply Kd.V_drew)); exact Kd.V_mono (Kd.V_far (p := ⟨fH, 0, none⟩) (Kd.V_mono kJ.out (fun k_ hk => (⟨hk, hk.1.2.2.2.2⟩ : _ ∧ k_ ≠ fH))) (fun _ hk => hk.2) (.slice aRh dMu.length aO2)) (fun _ hk => ⟨hk.1.1.1, ⟨hk.1.2, ⟨hk.1.1.2.1, ⟨hk.1.1.2.2.1, ⟨hk.1.1.2.2.2.1, hk.1.1.2.2.2.2⟩⟩⟩⟩⟩)⟩, ⟨by (with_reducible repeat (first | apply Kd.V_alloc | apply Kd.V_drewN | apply Kd.V_drew)); exact Kd.V_mono (Kd.V_far (p := ⟨fH, 0, none⟩) (Kd.V_mono nY.out (fun k_ hk => (⟨hk, hk.1.2.2.2.2⟩ : _ ∧ k_ ≠ fH))) (fun _ hk => hk.2) (.slice aRh dMu.length aO2)) (fun _ hk => ⟨hk.1.1.1, ⟨hk.1.2, ⟨hk.1.1.2.1, ⟨hk.1.1.2.2.1, ⟨hk.1.1.2.2.2.1, hk.1.1.2.2.2.2⟩⟩⟩⟩⟩)⟩, ⟨by (with_reducible repeat (first | apply Kd.V_alloc | apply Kd.V_drewN | apply Kd.V_drew)); exact Kd.V_mono (Kd.V_far (p := ⟨fH, 0, none⟩) (Kd.V_mono nZ.out (fun k_ hk => (⟨hk, hk.1.2.2.2.2⟩ : _ ∧ k_ ≠ fH))) (fun _ hk => hk.2) (.slice aRh dMu.length aO2)) (fun _ hk => ⟨hk.1.1.1, ⟨hk.1.2, ⟨hk.1.1.2.1, ⟨hk.1.1.2.2.1, ⟨hk.1.1.2.2.2.1, hk.1.1.2.2.2.2⟩⟩⟩⟩⟩)⟩, ⟨by (with_reducible repeat (first | apply Kd.N_alloc | apply Kd.N_drewN | apply Kd.N_drew)); exact Kd.N_mono (Kd.N_far (p := ⟨fH, 0, none⟩) (Kd.N_mono fBy.out (fun k_ hk => (⟨hk, hk.2.2.2.2⟩ : _ ∧ k_ ≠ fH))) (fun _ hk => hk.2) (.slice aRh dMu.length aO2)) (fun _ hk => ⟨hk.1.1, ⟨hk.1.2.1, ⟨hk.1.2.2.1, ⟨hk.1.2.2.2.1, hk.1.2.2.2.2⟩⟩⟩⟩)⟩, xk gB, xk gH, xk lH, ⟨by (with_reducible repeat (first | refine bN ?_ _ | refine bD ?_ | refine bA ?_ _)); refine blk_put (cs := #[u724000]) ?_ 0 _ rfl; (with_reducible repeat (first | refine bN ?_ _ | refine bD ?_ | refine bA ?_ _)); exact pK.out⟩, xb HB⟩
    rw [if_pos c79] at H
    have fBx : decide (aAc < ((aA aD eY).f0)) = true := decide_eq_true c79
    clear c79
    by_cases c80 : oW.length < 2199023255552
    rotate_left
    · rw [if_neg c80] at H
      exact absurd H (by simp)
    rw [if_pos c80] at H
    have gDu := aZ c80
    clear c80
    obtain ⟨aB0, dG4⟩ : ∃ y_ : List (fB), y_ = (oW ++ [(⟨aAc, (⟨dH, bX, cO⟩ : S44)⟩ : fB)]) := ⟨_, rfl⟩
    replace H : (if aB0.length < 2199023255552 then (aQ.l0 k1 aAc true (wrap64 (eY + 1)) aD dH bX cO (aB0 ++ [(⟨(aA aD eY).f0, (⟨(aA aD eY).f1.f0, (aA aD eY).f1.f1, (aA aD eY).f1.f2⟩ : S44)⟩ : fB)])) else (none)) = some (r1, r2, r3) := by first | (rw [dG4]; with_reducible exact H) | (have qY := (Option.bind_some _ _).symm.trans H; rw [dG4]; with_reducible exact qY) | (have qY := (Option.bind_some _ _).symm.trans H; with_reducible exact qY) | with_reducible exact H | (rw [dG4]; exact H) | exact H
    have gDv := aZ dG4
    clear dG4
    by_cases c81 : aB0.length < 2199023255552
    rotate_left
    · rw [if_neg c81] at H
      exact absurd H (by simp)
    rw [if_pos c81] at H
    have gDw := aZ c81
    clear c81
    obtain ⟨dMy, dG5⟩ : ∃ y_ : List (fB), y_ = (aB0 ++ [(⟨(aA aD eY).f0, (⟨(aA aD eY).f1.f0, (aA aD eY).f1.f1, (aA aD eY).f1.f2⟩ : S44)⟩ : fB)]) := ⟨_, rfl⟩
    replace H : (aQ.l0 k1 aAc true (wrap64 (eY + 1)) aD dH bX cO dMy) = some (r1, r2, r3) := by first | (rw [dG5]; with_reducible exact H) | (have qY := (Option.bind_some _ _).symm.trans H; rw [dG5]; with_reducible exact qY) | (have qY := (Option.bind_some _ _).symm.trans H; with_reducible exact qY) | with_reducible exact H | (rw [dG5]; exact H) | exact H
    have gDx := aZ dG5
    clear dG5
    have H' := aZ H
    clear H
    have cNf := aC5.out
    have cNg := aC6.out
    have dEw := aC7.out
    have dEx := aC8.out
    have bM0 := aKm.out
    have bM1 := aKn.out
    have bP1 : wr.cell? ⟨jT, 0, none⟩ = some (.slice bP aD.length bK) := (blk_cell gB.out 0).trans rfl
    have bP2 := blk_frozen gB.out 0
    have cZs : 0 ≤ (eY : Int) := of_decide_eq_true xas
    have cZt : eY < (aD.length : Int) := of_decide_eq_true xas
    obtain ⟨aEz, eJt, eJu, eJv, eJw, fJ1, eVe, eVf, cZu, cZv, bY6, bY7, bY8, bY9⟩ := gY (Kd.V_reads' kJ.out).2.2 eY cZs cZt
    cases fJ1
    obtain ⟨gDr, dMv, dMw, bUt⟩ := Kd.V_get kJ.out z46 eY cZs (by first | exact cZt | exact of_decide_eq_true xas | (have e_ := (Kd.V_reads' kJ.out).1; omega))
    obtain ⟨eVg, eVh, eVi, eVj, rfl, bKj, bKk, bKl, bKm⟩ := rM dMw
    have aXx := bUt 2 _ rfl
    rw [add_field _ _ 2 (by omega)] at aXx
    replace aXx := Option.some.inj (aXx.symm.trans cZu)
    injection aXx with hva_ hvn_ hvc_
    rw [hva_] at bKk
    rw [hvc_] at bKj
    have aEk := aZ (show Kd.V (Kd.int .i64) 3 _ w.heap.size _ _ ((aA aD eY).f1.f1) from Kd.V_mk bKj bKk)
    clear hva_ hvn_ hvc_ bKk bKj
    have aXy := bUt 3 _ rfl
    rw [add_field _ _ 3 (by omega)] at aXy
    replace aXy := Option.some.inj (aXy.symm.trans cZv)
    injection aXy with hva_ hvn_ hvc_
    rw [hva_] at bKm
    rw [hvc_] at bKl
    have aEl := aZ (show Kd.V (Kd.int .u8) 5 _ w.heap.size _ _ ((aA aD eY).f1.f2) from Kd.V_mk bKl bKm)
    clear hva_ hvn_ hvc_ bKm bKl
    clear bUt dMv
    have cLh := aZ bY7
    have eVk := aZ bY6
    clear bY7 bY6
    have cLi := aZ bY9
    have eVl := aZ bY8
    clear bY9 bY8
    replace cZs := eq_true cZs
    replace cZt := eq_true cZt
    have dFb := aTl.out
    have dFc := aTk.out
    have cOk := aTm.out
    have cOl := aO1.out
    have eVs : wr.cell? ⟨fH, 0, none⟩ = some (u724000) := (blk_cell pK.out 0).trans rfl
    have eVt := blk_frozen pK.out 0
    have cOo := aGu.out
    have cOp := aGv.out
    have eTj : wr.cell? ⟨jH, 0, none⟩ = some (.int .i64 dH) := (blk_cell gH.out 0).trans rfl
    have eTk : wr.cell? ⟨jH, 1, none⟩ = some (.slice kW bX.length kX) := (blk_cell gH.out 1).trans rfl
    have gZe : wr.cell? ⟨jH, 2, none⟩ = some (.slice kR cO.length kS) := (blk_cell gH.out 2).trans rfl
    have eTl := blk_frozen gH.out 0
    have eTm := blk_frozen gH.out 1
    have gZf := blk_frozen gH.out 2
    try go_wp2_with (first | ((with_reducible refine gate_builtin (b := .append) (xs := #[.tmp 57, .tmp 61]) rfl ?_); at_builtin; refine Kd.N_append qL (w0 := w) w.heap.size rfl (.tmp 57) (.tmp 61) 22 46 (.agg #[(.int .i64 0), (.int .i64 0), (.slice none 0 0), (.slice none 0 0)]) 64 rfl Try.underlying22 aNg rfl (by decide) (by omega) u724000 oW (⟨aAc, (⟨dH, bX, cO⟩ : S44)⟩ : fB) [.int .i64 aAc, .int .i64 dH, .slice kW bX.length kX, .slice kR cO.length kS] (fun k_ => ((eP k_ ∨ nQ k_ ∨ nR k_) ∨ w.heap.size ≤ k_) ∧ k_ ≠ jT ∧ k_ ≠ jH ∧ k_ ≠ jU ∧ k_ ≠ fH) (fun k_ => ((fun k_ => ((eP k_ ∨ nQ k_ ∨ nR k_) ∨ w.heap.size ≤ k_) ∧ k_ ≠ jT ∧ k_ ≠ jH ∧ k_ ≠ jU ∧ k_ ≠ fH)) k_ ∧ some k_ ≠ (u724000 : Value).ownBlock) rfl rfl ?aP (fun _ hk => hk) ?aF ?aO ?aB ?aS ?aL ?_; (case aP => exact (aW2 _ _ (⟨aAc, (⟨dH, bX, cO⟩ : S44)⟩ : fB) (Kd.V_reads' (Kd.V_mono (ok' := (fun k_ => ((fun k_ => ((eP k_ ∨ nQ k_ ∨ nR k_) ∨ w.heap.size ≤ k_) ∧ k_ ≠ jT ∧ k_ ≠ jH ∧ k_ ≠ jU ∧ k_ ≠ fH)) k_ ∧ some k_ ≠ (u724000 : Value).ownBlock)) (nY.out) (fun k_ hk => ⟨⟨hk.1, ⟨hk.2.2.1, ⟨hk.2.2.2.1, ⟨hk.2.2.2.2.1, hk.2.2.2.2.2⟩⟩⟩⟩, hk.2.1⟩))).2.1 (Kd.V_F (Kd.V_mono (ok' := (fun k_ => ((fun k_ => ((eP k_ ∨ nQ k_ ∨ nR k_) ∨ w.heap.size ≤ k_) ∧ k_ ≠ jT ∧ k_ ≠ jH ∧ k_ ≠ jU ∧ k_ ≠ fH)) k_ ∧ some k_ ≠ (u724000 : Value).ownBlock)) (nY.out) (fun k_ hk => ⟨⟨hk.1, ⟨hk.2.2.1, ⟨hk.2.2.2.1, ⟨hk.2.2.2.2.1, hk.2.2.2.2.2⟩⟩⟩⟩, hk.2.1⟩))) (Kd.V_reads' (Kd.V_mono (ok' := (fun k_ => ((fun k_ => ((eP k_ ∨ nQ k_ ∨ nR k_) ∨ w.heap.size ≤ k_) ∧ k_ ≠ jT ∧ k_ ≠ jH ∧ k_ ≠ jU ∧ k_ ≠ fH)) k_ ∧ some k_ ≠ (u724000 : Value).ownBlock)) (nZ.out) (fun k_ hk => ⟨⟨hk.1, ⟨hk.2.2.1, ⟨hk.2.2.2.1, ⟨hk.2.2.2.2.1, hk.2.2.2.2.2⟩⟩⟩⟩, hk.2.1⟩))).2.1 (Kd.V_F (Kd.V_mono (ok' := (fun k_ => ((fun k_ => ((eP k_ ∨ nQ k_ ∨ nR k_) ∨ w.heap.size ≤ k_) ∧ k_ ≠ jT ∧ k_ ≠ jH ∧ k_ ≠ jU ∧ k_ ≠ fH)) k_ ∧ some k_ ≠ (u724000 : Value).ownBlock)) (nZ.out) (fun k_ hk => ⟨⟨hk.1, ⟨hk.2.2.1, ⟨hk.2.2.2.1, ⟨hk.2.2.2.2.1, hk.2.2.2.2.2⟩⟩⟩⟩, hk.2.1⟩))))); (case aB => exact (by repeat (first | (with_reducible first | exact HB.out | apply lA | apply lN | apply lD | refine lS ?_ aSo.out | refine lS ?_ aSp.out | refine lS ?_ aSq.out | refine lS ?_ bA7.out) | exact HB.out))); (case aF => exact (fun k_ hk => ⟨(.inr (Nat.le_trans (lZ (by repeat (first | (with_reducible first | exact HB.out | apply lA | apply lN | apply lD | refine lS ?_ aSo.out | refine lS ?_ aSp.out | refine lS ?_ aSq.out | refine lS ?_ bA7.out) | exact HB.out))) hk)), Kd.freshB (g := jT) (o := .cells #[.slice (some aEz) aD.length bK] 24 (0, 0)) (xkq gB) k_ hk, Kd.freshB (g := jH) (o := .cells #[.int .i64 dH, .slice kW bX.length kX, .slice kR cO.length kS] 44 (0, 0)) (xkq gH) k_ hk, Kd.freshB (g := jU) (o := .cells #[.slice none 0 0] 24 (0, 0)) (xkq lH) k_ hk, Kd.freshB (g := fH) (o := .cells #[u724000] 24 (0, 0)) (xkq pK) k_ hk⟩)); (case aO => exact (by (with_reducible repeat (first | apply Kd.N_alloc | apply Kd.N_drewN | apply Kd.N_drew)); exact mV.out)); (case aS => exact (lZ (by repeat (first | (with_reducible first | exact HB.out | apply lA | apply lN | apply lD | refine lS ?_ aSo.out | refine lS ?_ aSp.out | refine lS ?_ aSq.out | refine lS ?_ bA7.out) | exact HB.out)))); (case aL => have := gDu.out; omega); intro iIv w91 ho hb hg hat; rw [← gDv.out] at ho; replace kJ := aZ (Kd.V_afterv (ok := (fun k_ => ((eP k_ ∨ nQ k_ ∨ nR k_) ∨ w.heap.size ≤ k_) ∧ k_ ≠ jT ∧ k_ ≠ jH ∧ k_ ≠ jU ∧ k_ ≠ fH)) (by (with_reducible repeat (first | apply Kd.V_alloc | apply Kd.V_drewN | apply Kd.V_drew)); exact Kd.V_mono kJ.out (fun _ hk => ⟨⟨hk.1, ⟨hk.2.2.1, ⟨hk.2.2.2.1, ⟨hk.2.2.2.2.1, hk.2.2.2.2.2⟩⟩⟩⟩, hk.2.1⟩)) hg hat); replace nY := aZ (Kd.V_afterv (ok := (fun k_ => ((eP k_ ∨ nQ k_ ∨ nR k_) ∨ w.heap.size ≤ k_) ∧ k_ ≠ jT ∧ k_ ≠ jH ∧ k_ ≠ jU ∧ k_ ≠ fH)) (by (with_reducible repeat (first | apply Kd.V_alloc | apply Kd.V_drewN | apply Kd.V_drew)); exact Kd.V_mono nY.out (fun _ hk => ⟨⟨hk.1, ⟨hk.2.2.1, ⟨hk.2.2.2.1, ⟨hk.2.2.2.2.1, hk.2.2.2.2.2⟩⟩⟩⟩, hk.2.1⟩)) hg hat); replace nZ := aZ (Kd.V_afterv (ok := (fun k_ => ((eP k_ ∨ nQ k_ ∨ nR k_) ∨ w.heap.size ≤ k_) ∧ k_ ≠ jT ∧ k_ ≠ jH ∧ k_ ≠ jU ∧ k_ ≠ fH)) (by (with_reducible repeat (first | apply Kd.V_alloc | apply Kd.V_drewN | apply Kd.V_drew)); exact Kd.V_mono nZ.out (fun _ hk => ⟨⟨hk.1, ⟨hk.2.2.1, ⟨hk.2.2.2.1, ⟨hk.2.2.2.2.1, hk.2.2.2.2.2⟩⟩⟩⟩, hk.2.1⟩)) hg hat); replace gB := aZ (blk_grown (g := jT) (o := .cells #[.slice (some aEz) aD.length bK] 24 (0, 0)) (xkq gB) hg (Kd.N_ne mV.out gB.out (by decide))); replace gH := aZ (blk_grown (g := jH) (o := .cells #[.int .i64 dH, .slice kW bX.length kX, .slice kR cO.length kS] 44 (0, 0)) (xkq gH) hg (Kd.N_ne mV.out gH.out (by decide))); replace lH := aZ (blk_grown (g := jU) (o := .cells #[.slice none 0 0] 24 (0, 0)) (xkq lH) hg (Kd.N_ne mV.out lH.out (by decide))); replace pK := aZ (blk_grown (g := fH) (o := .cells #[u724000] 24 (0, 0)) (xkq pK) hg (Kd.N_ne mV.out pK.out (by decide))); replace aEk := aZ (Kd.V_afterv (ok := (fun k_ => ((eP k_ ∨ nQ k_ ∨ nR k_) ∨ w.heap.size ≤ k_) ∧ k_ ≠ jT ∧ k_ ≠ jH ∧ k_ ≠ jU ∧ k_ ≠ fH)) (by (with_reducible repeat (first | apply Kd.V_alloc | apply Kd.V_drewN | apply Kd.V_drew)); exact Kd.V_mono aEk.out (fun _ hk => ⟨⟨hk.1, ⟨hk.2.2.1, ⟨hk.2.2.2.1, ⟨hk.2.2.2.2.1, hk.2.2.2.2.2⟩⟩⟩⟩, hk.2.1⟩)) hg hat); replace aEl := aZ (Kd.V_afterv (ok := (fun k_ => ((eP k_ ∨ nQ k_ ∨ nR k_) ∨ w.heap.size ≤ k_) ∧ k_ ≠ jT ∧ k_ ≠ jH ∧ k_ ≠ jU ∧ k_ ≠ fH)) (by (with_reducible repeat (first | apply Kd.V_alloc | apply Kd.V_drewN | apply Kd.V_drew)); exact Kd.V_mono aEl.out (fun _ hk => ⟨⟨hk.1, ⟨hk.2.2.1, ⟨hk.2.2.2.1, ⟨hk.2.2.2.2.1, hk.2.2.2.2.2⟩⟩⟩⟩, hk.2.1⟩)) hg hat); replace HB := aZ (hb); have bFg := aZ (ho); clear mV; clear ho hb hg hat; obtain ⟨aIu, aIv, hLi⟩ := Kd.N_slice bFg.out; subst hLi; have dUe : w91.cell? ⟨fH, 0, none⟩ = some (u724000) := (blk_cell pK.out 0).trans rfl; have dUf := blk_frozen pK.out 0))
    replace kJ : Aside0 (Kd.V qL 46 (w91.setCell ⟨fH, 0, none⟩ (.slice aIu aB0.length aIv)) w.heap.size (fun k_ => ((eP k_ ∨ nQ k_ ∨ nR k_) ∨ w.heap.size ≤ k_) ∧ some k_ ≠ (.slice aIu aB0.length aIv : Value).ownBlock ∧ k_ ≠ jT ∧ k_ ≠ jH ∧ k_ ≠ jU ∧ k_ ≠ fH) (.slice (some aEz) aD.length bK) aD) := ⟨by (with_reducible repeat (first | apply Kd.V_alloc | apply Kd.V_drewN | apply Kd.V_drew)); exact Kd.V_mono (Kd.V_far (p := ⟨fH, 0, none⟩) (Kd.V_mono kJ.out (fun k_ hk => (⟨hk, hk.1.2.2.2.2⟩ : _ ∧ k_ ≠ fH))) (fun _ hk => hk.2) (.slice aIu aB0.length aIv)) (fun _ hk => ⟨hk.1.1.1, ⟨hk.1.2, ⟨hk.1.1.2.1, ⟨hk.1.1.2.2.1, ⟨hk.1.1.2.2.2.1, hk.1.1.2.2.2.2⟩⟩⟩⟩⟩)⟩
    replace nY : Aside0 (Kd.V (Kd.int .i64) 3 (w91.setCell ⟨fH, 0, none⟩ (.slice aIu aB0.length aIv)) w.heap.size (fun k_ => ((eP k_ ∨ nQ k_ ∨ nR k_) ∨ w.heap.size ≤ k_) ∧ some k_ ≠ (.slice aIu aB0.length aIv : Value).ownBlock ∧ k_ ≠ jT ∧ k_ ≠ jH ∧ k_ ≠ jU ∧ k_ ≠ fH) (.slice kW bX.length kX) bX) := ⟨by (with_reducible repeat (first | apply Kd.V_alloc | apply Kd.V_drewN | apply Kd.V_drew)); exact Kd.V_mono (Kd.V_far (p := ⟨fH, 0, none⟩) (Kd.V_mono nY.out (fun k_ hk => (⟨hk, hk.1.2.2.2.2⟩ : _ ∧ k_ ≠ fH))) (fun _ hk => hk.2) (.slice aIu aB0.length aIv)) (fun _ hk => ⟨hk.1.1.1, ⟨hk.1.2, ⟨hk.1.1.2.1, ⟨hk.1.1.2.2.1, ⟨hk.1.1.2.2.2.1, hk.1.1.2.2.2.2⟩⟩⟩⟩⟩)⟩
    replace nZ : Aside0 (Kd.V (Kd.int .u8) 5 (w91.setCell ⟨fH, 0, none⟩ (.slice aIu aB0.length aIv)) w.heap.size (fun k_ => ((eP k_ ∨ nQ k_ ∨ nR k_) ∨ w.heap.size ≤ k_) ∧ some k_ ≠ (.slice aIu aB0.length aIv : Value).ownBlock ∧ k_ ≠ jT ∧ k_ ≠ jH ∧ k_ ≠ jU ∧ k_ ≠ fH) (.slice kR cO.length kS) cO) := ⟨by (with_reducible repeat (first | apply Kd.V_alloc | apply Kd.V_drewN | apply Kd.V_drew)); exact Kd.V_mono (Kd.V_far (p := ⟨fH, 0, none⟩) (Kd.V_mono nZ.out (fun k_ hk => (⟨hk, hk.1.2.2.2.2⟩ : _ ∧ k_ ≠ fH))) (fun _ hk => hk.2) (.slice aIu aB0.length aIv)) (fun _ hk => ⟨hk.1.1.1, ⟨hk.1.2, ⟨hk.1.1.2.1, ⟨hk.1.1.2.2.1, ⟨hk.1.1.2.2.2.1, hk.1.1.2.2.2.2⟩⟩⟩⟩⟩)⟩
    replace aEk : Aside0 (Kd.V (Kd.int .i64) 3 (w91.setCell ⟨fH, 0, none⟩ (.slice aIu aB0.length aIv)) w.heap.size (fun k_ => ((eP k_ ∨ nQ k_ ∨ nR k_) ∨ w.heap.size ≤ k_) ∧ some k_ ≠ (.slice aIu aB0.length aIv : Value).ownBlock ∧ k_ ≠ jT ∧ k_ ≠ jH ∧ k_ ≠ jU ∧ k_ ≠ fH) (.slice eJt ((aA aD eY).f1.f1).length eJu) ((aA aD eY).f1.f1)) := ⟨by (with_reducible repeat (first | apply Kd.V_alloc | apply Kd.V_drewN | apply Kd.V_drew)); exact Kd.V_mono (Kd.V_far (p := ⟨fH, 0, none⟩) (Kd.V_mono aEk.out (fun k_ hk => (⟨hk, hk.1.2.2.2.2⟩ : _ ∧ k_ ≠ fH))) (fun _ hk => hk.2) (.slice aIu aB0.length aIv)) (fun _ hk => ⟨hk.1.1.1, ⟨hk.1.2, ⟨hk.1.1.2.1, ⟨hk.1.1.2.2.1, ⟨hk.1.1.2.2.2.1, hk.1.1.2.2.2.2⟩⟩⟩⟩⟩)⟩
    replace aEl : Aside0 (Kd.V (Kd.int .u8) 5 (w91.setCell ⟨fH, 0, none⟩ (.slice aIu aB0.length aIv)) w.heap.size (fun k_ => ((eP k_ ∨ nQ k_ ∨ nR k_) ∨ w.heap.size ≤ k_) ∧ some k_ ≠ (.slice aIu aB0.length aIv : Value).ownBlock ∧ k_ ≠ jT ∧ k_ ≠ jH ∧ k_ ≠ jU ∧ k_ ≠ fH) (.slice eJv ((aA aD eY).f1.f2).length eJw) ((aA aD eY).f1.f2)) := ⟨by (with_reducible repeat (first | apply Kd.V_alloc | apply Kd.V_drewN | apply Kd.V_drew)); exact Kd.V_mono (Kd.V_far (p := ⟨fH, 0, none⟩) (Kd.V_mono aEl.out (fun k_ hk => (⟨hk, hk.1.2.2.2.2⟩ : _ ∧ k_ ≠ fH))) (fun _ hk => hk.2) (.slice aIu aB0.length aIv)) (fun _ hk => ⟨hk.1.1.1, ⟨hk.1.2, ⟨hk.1.1.2.1, ⟨hk.1.1.2.2.1, ⟨hk.1.1.2.2.2.1, hk.1.1.2.2.2.2⟩⟩⟩⟩⟩)⟩
    replace bFg : Aside0 (Kd.N qL 46 (w91.setCell ⟨fH, 0, none⟩ (.slice aIu aB0.length aIv)) w.heap.size (fun k_ => ((eP k_ ∨ nQ k_ ∨ nR k_) ∨ w.heap.size ≤ k_) ∧ k_ ≠ jT ∧ k_ ≠ jH ∧ k_ ≠ jU ∧ k_ ≠ fH) (.slice aIu aB0.length aIv) aB0) := ⟨by (with_reducible repeat (first | apply Kd.N_alloc | apply Kd.N_drewN | apply Kd.N_drew)); exact Kd.N_mono (Kd.N_far (p := ⟨fH, 0, none⟩) (Kd.N_mono bFg.out (fun k_ hk => (⟨hk, hk.2.2.2.2⟩ : _ ∧ k_ ≠ fH))) (fun _ hk => hk.2) (.slice aIu aB0.length aIv)) (fun _ hk => ⟨hk.1.1, ⟨hk.1.2.1, ⟨hk.1.2.2.1, ⟨hk.1.2.2.2.1, hk.1.2.2.2.2⟩⟩⟩⟩)⟩
    replace gB : Aside0 ((w91.setCell ⟨fH, 0, none⟩ (.slice aIu aB0.length aIv)).heap[jT]? = some (.cells #[.slice (some aEz) aD.length bK] 24 (0, 0))) := xk gB
    replace gH : Aside0 ((w91.setCell ⟨fH, 0, none⟩ (.slice aIu aB0.length aIv)).heap[jH]? = some (.cells #[.int .i64 dH, .slice kW bX.length kX, .slice kR cO.length kS] 44 (0, 0))) := xk gH
    replace lH : Aside0 ((w91.setCell ⟨fH, 0, none⟩ (.slice aIu aB0.length aIv)).heap[jU]? = some (.cells #[.slice none 0 0] 24 (0, 0))) := xk lH
    replace pK : Aside0 ((w91.setCell ⟨fH, 0, none⟩ (.slice aIu aB0.length aIv)).heap[fH]? = some (.cells #[.slice aIu aB0.length aIv] 24 (0, 0))) := ⟨by (with_reducible repeat (first | refine bN ?_ _ | refine bD ?_ | refine bA ?_ _)); refine blk_put (cs := #[u724000]) ?_ 0 _ rfl; (with_reducible repeat (first | refine bN ?_ _ | refine bD ?_ | refine bA ?_ _)); exact pK.out⟩
    replace HB : Aside0 (Below w.heap.size w (w91.setCell ⟨fH, 0, none⟩ (.slice aIu aB0.length aIv))) := xb HB
    generalize (w91.setCell ⟨fH, 0, none⟩ (.slice aIu aB0.length aIv)) = w94 at kJ nY nZ aEk aEl bFg gB gH lH pK HB ⊢
    replace kJ := aZ (Kd.V_drew kJ.out)
    replace nY := aZ (Kd.V_drew nY.out)
    replace nZ := aZ (Kd.V_drew nZ.out)
    replace aEk := aZ (Kd.V_drew aEk.out)
    replace aEl := aZ (Kd.V_drew aEl.out)
    replace bFg := aZ (Kd.N_drew bFg.out)
    replace gB := aZ (bD gB.out)
    replace gH := aZ (bD gH.out)
    replace lH := aZ (bD lH.out)
    replace pK := aZ (bD pK.out)
    replace HB := aZ (lD HB.out)
    have eVu : 0 ≤ (eY : Int) := of_decide_eq_true xas
    have eVv : eY < (aD.length : Int) := of_decide_eq_true xas
    obtain ⟨gDy, eJ7, eJ8, eJ9, eKa, hLj, dUg, dUh, cZ2, cZ3, dUi, dUj, dUk, dUl⟩ := gY (Kd.V_reads' kJ.out).2.2 eY eVu eVv
    obtain rfl : aEz = gDy := (by injection hLj)
    obtain ⟨iCy, fJ5, fJ6, dMz⟩ := Kd.V_get kJ.out z46 eY eVu (by first | exact eVv | exact of_decide_eq_true xas | (have e_ := (Kd.V_reads' kJ.out).1; omega))
    obtain ⟨gZg, gZh, gZi, gZj, rfl, cZ4, cZ5, cZ6, cZ7⟩ := rM fJ6
    have cLl := dMz 2 _ rfl
    rw [add_field _ _ 2 (by omega)] at cLl
    replace cLl := Option.some.inj (cLl.symm.trans cZ2)
    injection cLl with hva_ hvn_ hvc_
    rw [hva_] at cZ5
    rw [hvc_] at cZ4
    have bZc := aZ (show Kd.V (Kd.int .i64) 3 _ w.heap.size _ _ ((aA aD eY).f1.f1) from Kd.V_mk cZ4 cZ5)
    clear hva_ hvn_ hvc_ cZ5 cZ4
    have cLm := dMz 3 _ rfl
    rw [add_field _ _ 3 (by omega)] at cLm
    replace cLm := Option.some.inj (cLm.symm.trans cZ3)
    injection cLm with hva_ hvn_ hvc_
    rw [hva_] at cZ7
    rw [hvc_] at cZ6
    have bZd := aZ (show Kd.V (Kd.int .u8) 5 _ w.heap.size _ _ ((aA aD eY).f1.f2) from Kd.V_mk cZ6 cZ7)
    clear hva_ hvn_ hvc_ cZ7 cZ6
    clear dMz fJ5
    have eVw := aZ dUj
    have gZk := aZ dUi
    clear dUj dUi
    have eVx := aZ dUl
    have gZl := aZ dUk
    clear dUl dUk
    replace eVu := eq_true eVu
    replace eVv := eq_true eVv
    refine start_ (n := 11) (S := fun w' => w'.cell? ⟨fH, 0, none⟩ = some (.slice aIu aB0.length aIv) ∧ w'.cell? ⟨jT, 0, none⟩ = some (.slice (some aEz) aD.length bK) ∧ w'.cell? (aEz.add ((eY).toNat * 4)) = some (.int .i64 ((aA aD eY).f0)) ∧ w'.cell? ⟨(aEz.add ((eY).toNat * 4)).block, (aEz.add ((eY).toNat * 4)).off + 1, none⟩ = some (.int .i64 ((aA aD eY).f1.f0)) ∧ w'.cell? ⟨(aEz.add ((eY).toNat * 4)).block, (aEz.add ((eY).toNat * 4)).off + 2, none⟩ = some (.slice eJ7 ((aA aD eY).f1.f1).length eJ8) ∧ w'.cell? ⟨(aEz.add ((eY).toNat * 4)).block, (aEz.add ((eY).toNat * 4)).off + 3, none⟩ = some (.slice eJ9 ((aA aD eY).f1.f2).length eKa)) (ds := [8, 10]) Z1 (by kernel_rfl) rfl rfl ⟨(blk_cell pK.out 0).trans rfl, (blk_cell gB.out 0).trans rfl, dUg, dUh, cZ2, cZ3⟩ (fun hHeld => ?_); refine with_tabW aQ.tab17 aQ.bits17 (fun HT_ HW_ => ?_)
    generalize w94.drew = w95 at kJ nY nZ aEk aEl bFg gB gH lH pK HB bZc bZd eVw eVx dUg dUh cZ2 cZ3 hHeld ⊢
    refine pu 0 64 Z2 HT_ rfl rfl (h := ?_)
    refine pu 2 66 Z3 HT_ rfl rfl (h := ?_)
    refine pu 4 68 Z4 HT_ rfl rfl (h := ?_)
    refine tk 1 65 Z5 HT_ HW_ rfl rfl hHeld (by rintro w' ⟨s0, s1, s2, s3, s4, s5⟩; go_simp; with_reducible rfl) (h := ?_)
    refine tk 3 67 Z6 HT_ HW_ rfl rfl hHeld (by rintro w' ⟨s0, s1, s2, s3, s4, s5⟩; go_simp; with_reducible rfl) (h := ?_)
    refine pu 5 69 Z7 HT_ rfl rfl (h := ?_)
    refine tk 6 70 Z8 HT_ HW_ rfl rfl hHeld (by rintro w' ⟨s0, s1, s2, s3, s4, s5⟩; go_simp; with_reducible rfl) (h := ?_)
    refine one_ (i := 7) (N := some 71) Z9 rfl rfl (one_of HT_.out (by kernel_rfl)) (by decide) (fun K hK => ?_)
    refine value_ (w1 := ?_) (v := ?_) (by rfl) rfl ?_ ?_
    rotate_left 2
    · go_simp
      constructor
      · rfl
      · rfl
    refine hK.out _ _ ⟨(blk_cell (bA pK.out _) 0).trans rfl, (blk_cell (bA gB.out _) 0).trans rfl, (World.cell?_alloc_lt _ _ _ (World.block_lt_of_cell? _ _ (hHeld.2.2.1))).trans (hHeld.2.2.1), (World.cell?_alloc_lt _ _ _ (World.block_lt_of_cell? _ _ (hHeld.2.2.2.1))).trans (hHeld.2.2.2.1), (World.cell?_alloc_lt _ _ _ (World.block_lt_of_cell? _ _ (hHeld.2.2.2.2.1))).trans (hHeld.2.2.2.2.1), (World.cell?_alloc_lt _ _ _ (World.block_lt_of_cell? _ _ (hHeld.2.2.2.2.2))).trans (hHeld.2.2.2.2.2)⟩ (fun hHeld => ?_)
    clear hK K
    refine norm_ (a' := ?_) ?_ ?_
    rotate_left
    · show Act.put _ (some 71) _ = _
      simp only [Act.put, List.setIfInBounds_toArray, List.set_cons_zero, List.set_cons_succ, i64_w, i32_w]
      rfl
    refine last_ (i := 8) (N := some 72) Z10 rfl rfl (one_of HT_.out (by kernel_rfl)) (by decide) (fun K hK => ?_)
    refine Kd.N_append_step qL (w0 := w) w.heap.size (by rfl) (.tmp 65) (.tmp 71) 22 46 (.agg #[(.int .i64 0), (.int .i64 0), (.slice none 0 0), (.slice none 0 0)]) 64 rfl Try.underlying22 aNg rfl (by decide) (by omega) (.slice aIu aB0.length aIv) aB0 (⟨(aA aD eY).f0, (⟨(aA aD eY).f1.f0, (aA aD eY).f1.f1, (aA aD eY).f1.f2⟩ : S44)⟩ : fB) [.int .i64 ((aA aD eY).f0), .int .i64 ((aA aD eY).f1.f0), .slice eJ7 ((aA aD eY).f1.f1).length eJ8, .slice eJ9 ((aA aD eY).f1.f2).length eKa] (fun k_ => ((eP k_ ∨ nQ k_ ∨ nR k_) ∨ w.heap.size ≤ k_) ∧ k_ ≠ jT ∧ k_ ≠ jH ∧ k_ ≠ jU ∧ k_ ≠ fH) (fun k_ => ((fun k_ => ((eP k_ ∨ nQ k_ ∨ nR k_) ∨ w.heap.size ≤ k_) ∧ k_ ≠ jT ∧ k_ ≠ jH ∧ k_ ≠ jU ∧ k_ ≠ fH)) k_ ∧ some k_ ≠ (.slice aIu aB0.length aIv : Value).ownBlock) rfl rfl ?aP (fun _ hk => hk) ?aF ?aO ?aB ?aS ?aL ?_
    (case aP => exact (aW2 _ _ (⟨(aA aD eY).f0, (⟨(aA aD eY).f1.f0, (aA aD eY).f1.f1, (aA aD eY).f1.f2⟩ : S44)⟩ : fB) (Kd.V_reads' (Kd.V_mono (ok' := (fun k_ => ((fun k_ => ((eP k_ ∨ nQ k_ ∨ nR k_) ∨ w.heap.size ≤ k_) ∧ k_ ≠ jT ∧ k_ ≠ jH ∧ k_ ≠ jU ∧ k_ ≠ fH)) k_ ∧ some k_ ≠ (.slice aIu aB0.length aIv : Value).ownBlock)) (bZc.out) (fun k_ hk => ⟨⟨hk.1, ⟨hk.2.2.1, ⟨hk.2.2.2.1, ⟨hk.2.2.2.2.1, hk.2.2.2.2.2⟩⟩⟩⟩, hk.2.1⟩))).2.1 (Kd.V_F (Kd.V_mono (ok' := (fun k_ => ((fun k_ => ((eP k_ ∨ nQ k_ ∨ nR k_) ∨ w.heap.size ≤ k_) ∧ k_ ≠ jT ∧ k_ ≠ jH ∧ k_ ≠ jU ∧ k_ ≠ fH)) k_ ∧ some k_ ≠ (.slice aIu aB0.length aIv : Value).ownBlock)) (bZc.out) (fun k_ hk => ⟨⟨hk.1, ⟨hk.2.2.1, ⟨hk.2.2.2.1, ⟨hk.2.2.2.2.1, hk.2.2.2.2.2⟩⟩⟩⟩, hk.2.1⟩))) (Kd.V_reads' (Kd.V_mono (ok' := (fun k_ => ((fun k_ => ((eP k_ ∨ nQ k_ ∨ nR k_) ∨ w.heap.size ≤ k_) ∧ k_ ≠ jT ∧ k_ ≠ jH ∧ k_ ≠ jU ∧ k_ ≠ fH)) k_ ∧ some k_ ≠ (.slice aIu aB0.length aIv : Value).ownBlock)) (bZd.out) (fun k_ hk => ⟨⟨hk.1, ⟨hk.2.2.1, ⟨hk.2.2.2.1, ⟨hk.2.2.2.2.1, hk.2.2.2.2.2⟩⟩⟩⟩, hk.2.1⟩))).2.1 (Kd.V_F (Kd.V_mono (ok' := (fun k_ => ((fun k_ => ((eP k_ ∨ nQ k_ ∨ nR k_) ∨ w.heap.size ≤ k_) ∧ k_ ≠ jT ∧ k_ ≠ jH ∧ k_ ≠ jU ∧ k_ ≠ fH)) k_ ∧ some k_ ≠ (.slice aIu aB0.length aIv : Value).ownBlock)) (bZd.out) (fun k_ hk => ⟨⟨hk.1, ⟨hk.2.2.1, ⟨hk.2.2.2.1, ⟨hk.2.2.2.2.1, hk.2.2.2.2.2⟩⟩⟩⟩, hk.2.1⟩)))))
    (case aB => exact (by repeat (first | (with_reducible first | exact HB.out | apply lA | apply lN | apply lD | refine lS ?_ aSo.out | refine lS ?_ aSp.out | refine lS ?_ aSq.out | refine lS ?_ bA7.out) | exact HB.out)))
    (case aF => exact (fun k_ hk => ⟨(.inr (Nat.le_trans (lZ (by repeat (first | (with_reducible first | exact HB.out | apply lA | apply lN | apply lD | refine lS ?_ aSo.out | refine lS ?_ aSp.out | refine lS ?_ aSq.out | refine lS ?_ bA7.out) | exact HB.out))) hk)), Kd.freshB (g := jT) (o := .cells #[.slice (some aEz) aD.length bK] 24 (0, 0)) (xkq gB) k_ hk, Kd.freshB (g := jH) (o := .cells #[.int .i64 dH, .slice kW bX.length kX, .slice kR cO.length kS] 44 (0, 0)) (xkq gH) k_ hk, Kd.freshB (g := jU) (o := .cells #[.slice none 0 0] 24 (0, 0)) (xkq lH) k_ hk, Kd.freshB (g := fH) (o := .cells #[.slice aIu aB0.length aIv] 24 (0, 0)) (xkq pK) k_ hk⟩))
    (case aO => exact (by (with_reducible repeat (first | apply Kd.N_alloc | apply Kd.N_drewN | apply Kd.N_drew)); exact bFg.out))
    (case aS => exact (lZ (by repeat (first | (with_reducible first | exact HB.out | apply lA | apply lN | apply lD | refine lS ?_ aSo.out | refine lS ?_ aSp.out | refine lS ?_ aSq.out | refine lS ?_ bA7.out) | exact HB.out))))
    (case aL => have := gDw.out; omega)
    intro iIx w96 ho hb hg hat
    rw [← gDx.out] at ho
    replace kJ := aZ (Kd.V_afterv (ok := (fun k_ => ((eP k_ ∨ nQ k_ ∨ nR k_) ∨ w.heap.size ≤ k_) ∧ k_ ≠ jT ∧ k_ ≠ jH ∧ k_ ≠ jU ∧ k_ ≠ fH)) (by (with_reducible repeat (first | apply Kd.V_alloc | apply Kd.V_drewN | apply Kd.V_drew)); exact Kd.V_mono kJ.out (fun _ hk => ⟨⟨hk.1, ⟨hk.2.2.1, ⟨hk.2.2.2.1, ⟨hk.2.2.2.2.1, hk.2.2.2.2.2⟩⟩⟩⟩, hk.2.1⟩)) hg hat)
    replace nY := aZ (Kd.V_afterv (ok := (fun k_ => ((eP k_ ∨ nQ k_ ∨ nR k_) ∨ w.heap.size ≤ k_) ∧ k_ ≠ jT ∧ k_ ≠ jH ∧ k_ ≠ jU ∧ k_ ≠ fH)) (by (with_reducible repeat (first | apply Kd.V_alloc | apply Kd.V_drewN | apply Kd.V_drew)); exact Kd.V_mono nY.out (fun _ hk => ⟨⟨hk.1, ⟨hk.2.2.1, ⟨hk.2.2.2.1, ⟨hk.2.2.2.2.1, hk.2.2.2.2.2⟩⟩⟩⟩, hk.2.1⟩)) hg hat)
    replace nZ := aZ (Kd.V_afterv (ok := (fun k_ => ((eP k_ ∨ nQ k_ ∨ nR k_) ∨ w.heap.size ≤ k_) ∧ k_ ≠ jT ∧ k_ ≠ jH ∧ k_ ≠ jU ∧ k_ ≠ fH)) (by (with_reducible repeat (first | apply Kd.V_alloc | apply Kd.V_drewN | apply Kd.V_drew)); exact Kd.V_mono nZ.out (fun _ hk => ⟨⟨hk.1, ⟨hk.2.2.1, ⟨hk.2.2.2.1, ⟨hk.2.2.2.2.1, hk.2.2.2.2.2⟩⟩⟩⟩, hk.2.1⟩)) hg hat)
    replace gB := aZ (blk_grown (g := jT) (o := .cells #[.slice (some aEz) aD.length bK] 24 (0, 0)) (xkq gB) hg (Kd.N_ne bFg.out gB.out (by decide)))
    replace gH := aZ (blk_grown (g := jH) (o := .cells #[.int .i64 dH, .slice kW bX.length kX, .slice kR cO.length kS] 44 (0, 0)) (xkq gH) hg (Kd.N_ne bFg.out gH.out (by decide)))
    replace lH := aZ (blk_grown (g := jU) (o := .cells #[.slice none 0 0] 24 (0, 0)) (xkq lH) hg (Kd.N_ne bFg.out lH.out (by decide)))
    replace pK := aZ (blk_grown (g := fH) (o := .cells #[.slice aIu aB0.length aIv] 24 (0, 0)) (xkq pK) hg (Kd.N_ne bFg.out pK.out (by decide)))
    replace aEk := aZ (Kd.V_afterv (ok := (fun k_ => ((eP k_ ∨ nQ k_ ∨ nR k_) ∨ w.heap.size ≤ k_) ∧ k_ ≠ jT ∧ k_ ≠ jH ∧ k_ ≠ jU ∧ k_ ≠ fH)) (by (with_reducible repeat (first | apply Kd.V_alloc | apply Kd.V_drewN | apply Kd.V_drew)); exact Kd.V_mono aEk.out (fun _ hk => ⟨⟨hk.1, ⟨hk.2.2.1, ⟨hk.2.2.2.1, ⟨hk.2.2.2.2.1, hk.2.2.2.2.2⟩⟩⟩⟩, hk.2.1⟩)) hg hat)
    replace aEl := aZ (Kd.V_afterv (ok := (fun k_ => ((eP k_ ∨ nQ k_ ∨ nR k_) ∨ w.heap.size ≤ k_) ∧ k_ ≠ jT ∧ k_ ≠ jH ∧ k_ ≠ jU ∧ k_ ≠ fH)) (by (with_reducible repeat (first | apply Kd.V_alloc | apply Kd.V_drewN | apply Kd.V_drew)); exact Kd.V_mono aEl.out (fun _ hk => ⟨⟨hk.1, ⟨hk.2.2.1, ⟨hk.2.2.2.1, ⟨hk.2.2.2.2.1, hk.2.2.2.2.2⟩⟩⟩⟩, hk.2.1⟩)) hg hat)
    replace bZc := aZ (Kd.V_afterv (ok := (fun k_ => ((eP k_ ∨ nQ k_ ∨ nR k_) ∨ w.heap.size ≤ k_) ∧ k_ ≠ jT ∧ k_ ≠ jH ∧ k_ ≠ jU ∧ k_ ≠ fH)) (by (with_reducible repeat (first | apply Kd.V_alloc | apply Kd.V_drewN | apply Kd.V_drew)); exact Kd.V_mono bZc.out (fun _ hk => ⟨⟨hk.1, ⟨hk.2.2.1, ⟨hk.2.2.2.1, ⟨hk.2.2.2.2.1, hk.2.2.2.2.2⟩⟩⟩⟩, hk.2.1⟩)) hg hat)
    replace bZd := aZ (Kd.V_afterv (ok := (fun k_ => ((eP k_ ∨ nQ k_ ∨ nR k_) ∨ w.heap.size ≤ k_) ∧ k_ ≠ jT ∧ k_ ≠ jH ∧ k_ ≠ jU ∧ k_ ≠ fH)) (by (with_reducible repeat (first | apply Kd.V_alloc | apply Kd.V_drewN | apply Kd.V_drew)); exact Kd.V_mono bZd.out (fun _ hk => ⟨⟨hk.1, ⟨hk.2.2.1, ⟨hk.2.2.2.1, ⟨hk.2.2.2.2.1, hk.2.2.2.2.2⟩⟩⟩⟩, hk.2.1⟩)) hg hat)
    replace HB := aZ (hb)
    have fBz := aZ (ho)
    clear bFg
    clear ho hb hg hat
    obtain ⟨eKb, eKc, gDz⟩ := Kd.N_slice fBz.out
    (first | subst gDz | (injection gDz with f1_ f2_ f3_; have f4_ := f1_.symm; have f5_ := f3_.symm; clear f1_ f2_ f3_; subst f4_; subst f5_))
    refine hK.out _ _ ?_
    clear hK K
    refine norm_ (a' := ?_) ?_ ?_
    rotate_left
    · show Act.put _ (some 72) _ = _
      simp only [Act.put, List.setIfInBounds_toArray, List.set_cons_zero, List.set_cons_succ, i64_w, i32_w]
      rfl
    refine pu 9 73 Z11 HT_ rfl rfl (h := ?_)
    refine last_ (i := 10) (N := none) Z12 rfl rfl (one_of HT_.out (by kernel_rfl)) (by decide) (fun K hK => ?_)
    have iIy : w96.cell? ⟨fH, 0, none⟩ = some (.slice aIu aB0.length aIv) := (blk_cell pK.out 0).trans rfl
    have iCz := blk_frozen pK.out 0
    have gZm := aKm.out
    have gZn := aTk.out
    have gZo := aO1.out
    have gZp := aKn.out
    have gZq := aTl.out
    have gZr := aTm.out
    refine skip_ (w1 := ?_) (by rfl) rfl ?_ ?_
    rotate_left
    · go_simp
      rfl
    refine hK.out _ _ ?_
    clear hK K
    refine done_ (done_of HT_.out (by kernel_rfl)) ?_
    try go_wp2
    go_roundg k1
    case measure => have := yS.out; omega
    case rel => exact ⟨(true), (wrap64 (eY + 1)), (dMy), (.slice eKb dMy.length eKc), xrs, xrs, H', ⟨by have := yS.out; omega⟩, ⟨by (with_reducible repeat (first | apply Kd.V_alloc | apply Kd.V_drewN | apply Kd.V_drew)); exact Kd.V_mono (Kd.V_far (p := ⟨fH, 0, none⟩) (Kd.V_mono kJ.out (fun k_ hk => (⟨hk, hk.1.2.2.2.2⟩ : _ ∧ k_ ≠ fH))) (fun _ hk => hk.2) (.slice eKb dMy.length eKc)) (fun _ hk => ⟨hk.1.1.1, ⟨hk.1.2, ⟨hk.1.1.2.1, ⟨hk.1.1.2.2.1, ⟨hk.1.1.2.2.2.1, hk.1.1.2.2.2.2⟩⟩⟩⟩⟩)⟩, ⟨by (with_reducible repeat (first | apply Kd.V_alloc | apply Kd.V_drewN | apply Kd.V_drew)); exact Kd.V_mono (Kd.V_far (p := ⟨fH, 0, none⟩) (Kd.V_mono nY.out (fun k_ hk => (⟨hk, hk.1.2.2.2.2⟩ : _ ∧ k_ ≠ fH))) (fun _ hk => hk.2) (.slice eKb dMy.length eKc)) (fun _ hk => ⟨hk.1.1.1, ⟨hk.1.2, ⟨hk.1.1.2.1, ⟨hk.1.1.2.2.1, ⟨hk.1.1.2.2.2.1, hk.1.1.2.2.2.2⟩⟩⟩⟩⟩)⟩, ⟨by (with_reducible repeat (first | apply Kd.V_alloc | apply Kd.V_drewN | apply Kd.V_drew)); exact Kd.V_mono (Kd.V_far (p := ⟨fH, 0, none⟩) (Kd.V_mono nZ.out (fun k_ hk => (⟨hk, hk.1.2.2.2.2⟩ : _ ∧ k_ ≠ fH))) (fun _ hk => hk.2) (.slice eKb dMy.length eKc)) (fun _ hk => ⟨hk.1.1.1, ⟨hk.1.2, ⟨hk.1.1.2.1, ⟨hk.1.1.2.2.1, ⟨hk.1.1.2.2.2.1, hk.1.1.2.2.2.2⟩⟩⟩⟩⟩)⟩, ⟨by (with_reducible repeat (first | apply Kd.N_alloc | apply Kd.N_drewN | apply Kd.N_drew)); exact Kd.N_mono (Kd.N_far (p := ⟨fH, 0, none⟩) (Kd.N_mono fBz.out (fun k_ hk => (⟨hk, hk.2.2.2.2⟩ : _ ∧ k_ ≠ fH))) (fun _ hk => hk.2) (.slice eKb dMy.length eKc)) (fun _ hk => ⟨hk.1.1, ⟨hk.1.2.1, ⟨hk.1.2.2.1, ⟨hk.1.2.2.2.1, hk.1.2.2.2.2⟩⟩⟩⟩)⟩, xk gB, xk gH, xk lH, ⟨by (with_reducible repeat (first | refine bN ?_ _ | refine bD ?_ | refine bA ?_ _)); refine blk_put (cs := #[.slice aIu aB0.length aIv]) ?_ 0 _ rfl; (with_reducible repeat (first | refine bN ?_ _ | refine bD ?_ | refine bA ?_ _)); exact pK.out⟩, xb HB⟩

end Go.Proofs.Ytnmkmamobhkcbaa.P
