/- Texts of the proofs of 8 statements: what the printed functions come to, plain laws, rows (no condition beyond the statements' own). -/
import Derived.Test.YtnmkmamobhkcbaaGP0
namespace Go.Proofs.Ytnmkmamobhkcbaa.P
open Go.RowKit Go.Proofs.YtnmkmamobhkcbaaW.PrintWords Go.Proofs.YtnmkmamobhkcbaaW.PrintLast Go.Proofs.YtnmkmamobhkcbaaW.PrintMore
attribute [local go_sem] max2_int min2_int max_two min_two max_three min_three max_four min_four   -- for this text's walks alone
set_option linter.unusedVariables false
set_option linter.unusedSimpArgs false
def dI.l0 : Nat → List Int → List Int → Int → Option (Bool)
  | 0, _, _, _ => none
  | k + 1, x0, x1, x5 => if x5 < (x0.length : Int) then (if 0 ≤ x5 then (if x5 < (x1.length : Int) then (if (rd x0 x5) = (rd x1 x5) then (dI.l0 k x0 x1 (wrap64 (x5 + 1))) else (some false)) else (none)) else (none)) else (some true)
def dI.f (k : Nat) (l0 : List Int) (l1 : List Int) : Option (Bool) := if (l0.length : Int) = (l1.length : Int) then (dI.l0 k l0 l1 0) else (some false)
theorem dI.mono_l : ∀ k, (∀ y0 y1 y2, LeO (dI.l0 k y0 y1 y2) (dI.l0 (k + 1) y0 y1 y2))
  | 0 => fun _ _ _ r h => by simp [dI.l0] at h
  | k + 1 => by
    have mU := dI.mono_l k
    · intro y0 y1 y2
      unfold dI.l0
      repeat' first | (with_reducible first | exact mU _ _ _ | exact LeO.refl _ | exact LeO.none _ | refine LeO.ite ?_ ?_ | refine LeO.bind ?_ (fun _ => ?_)) | exact mU _ _ _ | exact LeO.none _ | refine LeO.ite ?_ ?_ | refine LeO.bind ?_ (fun _ => ?_)
theorem dI.mono : ∀ a0 a1 k, LeO (dI.f k a0 a1) (dI.f (k + 1) a0 a1) := by
  intro a0 a1 k
  have mU := dI.mono_l k
  unfold dI.f
  repeat' first | (with_reducible first | exact mU _ _ _ | exact LeO.refl _ | exact LeO.none _ | refine LeO.ite ?_ ?_ | refine LeO.bind ?_ (fun _ => ?_)) | exact mU _ _ _ | exact LeO.none _ | refine LeO.ite ?_ ?_ | refine LeO.bind ?_ (fun _ => ?_)
set_option maxHeartbeats 8000000 in
set_option maxRecDepth 100000 in
theorem dI.calls (k : Nat) (A0 : Option Addr) (c0 : Nat) (l0 : List Int) (A1 : Option Addr) (c1 : Nat) (l1 : List Int) (r : Bool) (w : World) (hr0 : Kd.C (Kd.int .i64) w A0 l0.length l0) (hc0 : l0.length ≤ c0) (hr1 : Kd.C (Kd.int .i64) w A1 l1.length l1) (hc1 : l1.length ≤ c1) (h : dI.f k l0 l1 = some r) :
  Calls Try.prog 45 #[.slice A0 l0.length c0, .slice A1 l1.length c1] w fun e w' => e = .returned (.bool r) ∧ Drawn0 w w' := by
  have HR0 := aZ hr0
  have HC0 := aZ hc0
  clear hr0 hc0
  have HR1 := aZ hr1
  have HC1 := aZ hc1
  clear hr1 hc1
  have H : (if (l0.length : Int) = (l1.length : Int) then (dI.l0 k l0 l1 0) else (some false)) = some r := h
  clear h
  by_cases c3 : (l0.length : Int) = (l1.length : Int)
  rotate_left
  · rw [if_neg c3] at H
    have aNk : ((l0.length : Int) == (l1.length : Int)) = false := beq_eq_false_iff_ne.mpr c3
    have bNc : ((l0.length : Int) != (l1.length : Int)) = true := bne_iff_ne.mpr c3
    have cOc : (l0.length == l1.length) = false := by first | simpa using c3 | (simp at c3 ⊢; omega)
    obtain rfl := Option.some.inj H
    go_enter Try.func45, Try.ntmps45
    go_wp2
    repeat (go_quiet (fail); try go_wp2)
    go_ret
    exact ⟨by first | rfl | (simp; done) | (simp [*]; done), by repeat (first | exact Drawn0.refl _ | apply Drawn0.step)⟩

  rw [if_pos c3] at H
  have aNk : ((l0.length : Int) == (l1.length : Int)) = true := beq_iff_eq.mpr c3
  have bNc : ((l0.length : Int) != (l1.length : Int)) = false := bne_eq_false_iff_eq.mpr c3
  have cOc : (l0.length == l1.length) = true := by first | simpa using c3 | (simp at c3 ⊢; omega)
  clear c3
  have H' := aZ H
  clear H
  go_enter Try.func45, Try.ntmps45
  go_wp2
  repeat (go_quiet (fail); try go_wp2)
  go_loopg [5] k (fun kq v5 w' => ∃ (dC : Int), v5 = .int .i64 dC ∧ Aside0 (dI.l0 kq l0 l1 dC = some r) ∧ Aside0 (kq ≤ k) ∧ Drawn0 w w')
  case atStart => exact ⟨(0), xrs, H', ⟨Nat.le_refl _⟩, by repeat (first | exact Drawn0.refl _ | apply Drawn0.step)⟩
  case round =>
   clear H'
   (try clear c1); (try clear c3); (try clear aNk); (try clear bNc); (try clear cOc)
   obtain ⟨dC, rfl, HA, yS, ⟨m1, rfl⟩⟩ := hrel
   cases gk with
   | zero => exact absurd HA.out (by simp [dI.l0])
   | succ k1 =>
    have H := HA.out
    clear HA
    simp only [dI.l0] at H
    by_cases c4 : dC < (l0.length : Int)
    rotate_left
    · rw [if_neg c4] at H
      have aJy : decide (dC < (l0.length : Int)) = false := decide_eq_false c4
      clear c4
      obtain rfl := Option.some.inj H
      go_wp2
      repeat (go_quiet (fail); try go_wp2)
      go_ret
      exact ⟨by first | rfl | (simp; done) | (simp [*]; done), by repeat (first | exact Drawn0.refl _ | apply Drawn0.step)⟩
    rw [if_pos c4] at H
    have aJy : decide (dC < (l0.length : Int)) = true := decide_eq_true c4
    clear c4
    by_cases c5 : 0 ≤ dC
    rotate_left
    · rw [if_neg c5] at H
      exact absurd H (by simp)
    rw [if_pos c5] at H
    have bAy : decide (0 ≤ dC) = true := decide_eq_true c5
    clear c5
    by_cases c6 : dC < (l1.length : Int)
    rotate_left
    · rw [if_neg c6] at H
      exact absurd H (by simp)
    rw [if_pos c6] at H
    have aWf : decide (dC < (l1.length : Int)) = true := decide_eq_true c6
    clear c6
    by_cases c7 : (rd l0 dC) = (rd l1 dC)
    rotate_left
    · rw [if_neg c7] at H
      have bTm : ((rd l0 dC) == (rd l1 dC)) = false := beq_eq_false_iff_ne.mpr c7
      have dYr : ((rd l0 dC) != (rd l1 dC)) = true := bne_iff_ne.mpr c7
      obtain rfl := Option.some.inj H
      have dLk : 0 ≤ (dC : Int) := of_decide_eq_true xas
      have dLl : dC < (l0.length : Int) := of_decide_eq_true xas
      obtain ⟨fZc, fHq, eS9⟩ := Kd.at_int HR0.out dC dLk dLl
      cases fHq
      replace dLk := eq_true dLk
      replace dLl := eq_true dLl
      have dLm : 0 ≤ (dC : Int) := of_decide_eq_true xas
      have dLn : dC < (l1.length : Int) := of_decide_eq_true xas
      obtain ⟨fZd, fHr, eTa⟩ := Kd.at_int HR1.out dC dLm dLn
      cases fHr
      replace dLm := eq_true dLm
      replace dLn := eq_true dLn
      go_wp2
      repeat (go_quiet (fail); try go_wp2)
      go_ret
      exact ⟨by first | rfl | (simp; done) | (simp [*]; done), by repeat (first | exact Drawn0.refl _ | apply Drawn0.step)⟩
    rw [if_pos c7] at H
    have bTm : ((rd l0 dC) == (rd l1 dC)) = true := beq_iff_eq.mpr c7
    have dYr : ((rd l0 dC) != (rd l1 dC)) = false := bne_eq_false_iff_eq.mpr c7
    clear c7
    have H' := aZ H
    clear H
    have dLk : 0 ≤ (dC : Int) := of_decide_eq_true xas
    have dLl : dC < (l0.length : Int) := of_decide_eq_true xas
    obtain ⟨fZc, fHq, eS9⟩ := Kd.at_int HR0.out dC dLk dLl
    cases fHq
    replace dLk := eq_true dLk
    replace dLl := eq_true dLl
    have dLm : 0 ≤ (dC : Int) := of_decide_eq_true xas
    have dLn : dC < (l1.length : Int) := of_decide_eq_true xas
    obtain ⟨fZd, fHr, eTa⟩ := Kd.at_int HR1.out dC dLm dLn
    cases fHr
    replace dLm := eq_true dLm
    replace dLn := eq_true dLn
    go_wp2
    repeat (go_quiet (fail); try go_wp2)
    go_roundg k1
    case measure => have := yS.out; omega
    case rel => exact ⟨(wrap64 (dC + 1)), xrs, H', ⟨by have := yS.out; omega⟩, by repeat (first | exact Drawn0.refl _ | apply Drawn0.step)⟩
def aU.f (k : Nat) (dP : Int) (dA : List Int) (dZ : List Int) (dH : Int) (bX : List Int) (cO : List Int) : Option (Bool) := if dP = dH then ((dI.f k dA bX).bind fun dY9 => (if dY9 = true then (some ((strOfNums dZ).toList == (strOfNums cO).toList)) else (some false))) else (some false)
theorem aU.mono : ∀ a0 a1 a2 a3 a4 a5 k, LeO (aU.f k a0 a1 a2 a3 a4 a5) (aU.f (k + 1) a0 a1 a2 a3 a4 a5) := by
  intro a0 a1 a2 a3 a4 a5 k
  unfold aU.f
  repeat' first | (with_reducible first | exact dI.mono _ _ _ | exact LeO.refl _ | exact LeO.none _ | refine LeO.ite ?_ ?_ | refine LeO.bind ?_ (fun _ => ?_)) | exact dI.mono _ _ _ | exact LeO.none _ | refine LeO.ite ?_ ?_ | refine LeO.bind ?_ (fun _ => ?_)
set_option maxHeartbeats 8000000 in
set_option maxRecDepth 100000 in
theorem aU.calls (k : Nat) (dP : Int) (nK : Option Addr) (mY : Nat) (dA : List Int) (mE : Option Addr) (mF : Nat) (dZ : List Int) (dH : Int) (kW : Option Addr) (kX : Nat) (bX : List Int) (kR : Option Addr) (kS : Nat) (cO : List Int) (r : Bool) (w : World) (aFz : Kd.C (Kd.int .i64) w nK dA.length dA) (aFy : dA.length ≤ mY) (aD6 : Kd.C (Kd.int .u8) w mE dZ.length dZ) (aD5 : dZ.length ≤ mF) (aNp : Kd.C (Kd.int .i64) w kW bX.length bX) (aNq : bX.length ≤ kX) (aNr : Kd.C (Kd.int .u8) w kR cO.length cO) (aNs : cO.length ≤ kS) (h : aU.f k dP dA dZ dH bX cO = some r) :
  Calls Try.prog 24 #[.agg #[.int .i64 dP, .slice nK dA.length mY, .slice mE dZ.length mF], .agg #[.int .i64 dH, .slice kW bX.length kX, .slice kR cO.length kS]] w fun e w' => e = .returned (.bool r) ∧ Below w.heap.size w w' := by
  have aQf := Try.underlying44
  have aCl := aZ aFz
  have aIz := aZ aFy
  clear aFz aFy
  have aF0 := aZ aD6
  have aNm := aZ aD5
  clear aD6 aD5
  have aDm := aZ aNp
  have aD8 := aZ aNq
  clear aNp aNq
  have aD9 := aZ aNr
  have aF2 := aZ aNs
  clear aNr aNs
  have HB := aZ (Below.refl w.heap.size w)
  have H : (if dP = dH then ((dI.f k dA bX).bind fun dY9 => (if dY9 = true then (some ((strOfNums dZ).toList == (strOfNums cO).toList)) else (some false))) else (some false)) = some r := h
  clear h
  by_cases c3 : dP = dH
  rotate_left
  · rw [if_neg c3] at H
    have aNk : (dP == dH) = false := beq_eq_false_iff_ne.mpr c3
    have bNc : (dP != dH) = true := bne_iff_ne.mpr c3
    obtain rfl := Option.some.inj H
    go_enter Try.func24, Try.ntmps24
    go_wp2_with (first | ((with_reducible refine gate_dst (N := 2) rfl ?_); refine box_event ?hg (N := 2) ?hd (cs := #[.int .i64 dP, .slice nK dA.length mY, .slice mE dZ.length mF]) (t := 44) ?hr ?_; (case hd => rfl); (case hg => rfl); (case hr => first | (go_simp; done) | (go_simp; rfl)); intro bNg hg w18 hbox hb; have aBc := aZ (hbox); have fBb := xgh hg HB; have fBc := xgh hg HB; replace HB := xhl HB hb; clear hb hbox hg) | ((with_reducible refine gate_dst (N := 3) rfl ?_); refine box_event ?hg (N := 3) ?hd (cs := #[.int .i64 dH, .slice kW bX.length kX, .slice kR cO.length kS]) (t := 44) ?hr ?_; (case hd => rfl); (case hg => rfl); (case hr => first | (go_simp; done) | (go_simp; rfl)); intro bNh hg w19 hbox hb; have aOp := aZ (hbox); have fBd := xgh hg HB; have fBe := xgh hg HB; replace HB := xhl HB hb; have bEy := xnl hg aBc; have bEz := xng hg aBc; replace aBc := xbb aBc hb; clear hb hbox hg; have dO8 := bEy.out; have dO9 := bEz.out; have bPb : w19.cell? ⟨bNg, 0, none⟩ = some (.int .i64 dP) := (blk_cell aBc.out 0).trans rfl; have cJq : w19.cell? ⟨bNg, 1, none⟩ = some (.slice nK dA.length mY) := (blk_cell aBc.out 1).trans rfl; have eSp : w19.cell? ⟨bNg, 2, none⟩ = some (.slice mE dZ.length mF) := (blk_cell aBc.out 2).trans rfl; have bPc := blk_frozen aBc.out 0; have cJr := blk_frozen aBc.out 1; have eSq := blk_frozen aBc.out 2; have cJs : w19.cell? ⟨bNh, 0, none⟩ = some (.int .i64 dH) := (blk_cell aOp.out 0).trans rfl; have ePw : w19.cell? ⟨bNh, 1, none⟩ = some (.slice kW bX.length kX) := (blk_cell aOp.out 1).trans rfl; have gYi : w19.cell? ⟨bNh, 2, none⟩ = some (.slice kR cO.length kS) := (blk_cell aOp.out 2).trans rfl; have cJt := blk_frozen aOp.out 0; have ePx := blk_frozen aOp.out 1; have gYj := blk_frozen aOp.out 2))
    go_ret
    exact ⟨xre, xq HB⟩

  rw [if_pos c3] at H
  have aNk : (dP == dH) = true := beq_iff_eq.mpr c3
  have bNc : (dP != dH) = false := bne_eq_false_iff_eq.mpr c3
  clear c3
  replace H := Option.bind_eq_some_iff.mp H
  obtain ⟨dY9, A40, H⟩ := H
  replace H : (if dY9 = true then (some ((strOfNums dZ).toList == (strOfNums cO).toList)) else (some false)) = some r := H
  have A4 := aZ A40
  clear A40
  by_cases c5 : dY9 = true
  rotate_left
  · replace c5 := Bool.eq_false_iff.mpr c5
    subst c5
    have H1 : (some false) = some r := by rw [if_neg (show ¬ (false = true) by decide)] at H; exact H
    clear H
    have H := H1
    clear H1
    obtain rfl := Option.some.inj H
    go_enter Try.func24, Try.ntmps24
    go_wp2_with (first | ((with_reducible refine gate_dst (N := 2) rfl ?_); refine box_event ?hg (N := 2) ?hd (cs := #[.int .i64 dP, .slice nK dA.length mY, .slice mE dZ.length mF]) (t := 44) ?hr ?_; (case hd => rfl); (case hg => rfl); (case hr => first | (go_simp; done) | (go_simp; rfl)); intro bNg hg w13 hbox hb; have aBc := aZ (hbox); have fBb := xgh hg HB; have fBc := xgh hg HB; replace HB := xhl HB hb; clear hb hbox hg) | ((with_reducible refine gate_dst (N := 3) rfl ?_); refine box_event ?hg (N := 3) ?hd (cs := #[.int .i64 dH, .slice kW bX.length kX, .slice kR cO.length kS]) (t := 44) ?hr ?_; (case hd => rfl); (case hg => rfl); (case hr => first | (go_simp; done) | (go_simp; rfl)); intro bNh hg w14 hbox hb; have aOp := aZ (hbox); have fBd := xgh hg HB; have fBe := xgh hg HB; replace HB := xhl HB hb; have bEy := xnl hg aBc; have bEz := xng hg aBc; replace aBc := xbb aBc hb; clear hb hbox hg; have bVv := bEy.out; have bVw := bEz.out; have aQj : w14.cell? ⟨bNg, 0, none⟩ = some (.int .i64 dP) := (blk_cell aBc.out 0).trans rfl; have bIp : w14.cell? ⟨bNg, 1, none⟩ = some (.slice nK dA.length mY) := (blk_cell aBc.out 1).trans rfl; have cJo : w14.cell? ⟨bNg, 2, none⟩ = some (.slice mE dZ.length mF) := (blk_cell aBc.out 2).trans rfl; have aQk := blk_frozen aBc.out 0; have bIq := blk_frozen aBc.out 1; have cJp := blk_frozen aBc.out 2; have bIy : w14.cell? ⟨bNh, 0, none⟩ = some (.int .i64 dH) := (blk_cell aOp.out 0).trans rfl; have cVx : w14.cell? ⟨bNh, 1, none⟩ = some (.slice kW bX.length kX) := (blk_cell aOp.out 1).trans rfl; have gYk : w14.cell? ⟨bNh, 2, none⟩ = some (.slice kR cO.length kS) := (blk_cell aOp.out 2).trans rfl; have bIz := blk_frozen aOp.out 0; have cVy := blk_frozen aOp.out 1; have gYl := blk_frozen aOp.out 2) | (go_at_call 45; (with_reducible refine (dI.calls k _ _ dA _ _ bX false _ ?side1 ?side2 ?side3 ?side4 A4.out).mono ?_); (case side1 => exact xcb aCl HB); (case side2 => exact aIz.out); (case side3 => exact xcb aDm HB); (case side4 => exact aD8.out); rintro e w' ⟨rfl, ⟨nd, rfl⟩⟩))
    go_ret
    exact ⟨xre, xq HB⟩
  subst c5
  have H1 : (some ((strOfNums dZ).toList == (strOfNums cO).toList)) = some r := by rw [if_pos rfl] at H; exact H
  clear H
  have H := H1
  clear H1
  obtain rfl := Option.some.inj H
  go_enter Try.func24, Try.ntmps24
  go_wp2_with (first | ((with_reducible refine gate_dst (N := 2) rfl ?_); refine box_event ?hg (N := 2) ?hd (cs := #[.int .i64 dP, .slice nK dA.length mY, .slice mE dZ.length mF]) (t := 44) ?hr ?_; (case hd => rfl); (case hg => rfl); (case hr => first | (go_simp; done) | (go_simp; rfl)); intro bNg hg w6 hbox hb; have aBc := aZ (hbox); have fBb := xgh hg HB; have fBc := xgh hg HB; replace HB := xhl HB hb; clear hb hbox hg) | ((with_reducible refine gate_dst (N := 3) rfl ?_); refine box_event ?hg (N := 3) ?hd (cs := #[.int .i64 dH, .slice kW bX.length kX, .slice kR cO.length kS]) (t := 44) ?hr ?_; (case hd => rfl); (case hg => rfl); (case hr => first | (go_simp; done) | (go_simp; rfl)); intro bNh hg w7 hbox hb; have aOp := aZ (hbox); have fBd := xgh hg HB; have fBe := xgh hg HB; replace HB := xhl HB hb; have bEy := xnl hg aBc; have bEz := xng hg aBc; replace aBc := xbb aBc hb; clear hb hbox hg; have dYw := bEy.out; have dYx := bEz.out; have cCg : w7.cell? ⟨bNg, 0, none⟩ = some (.int .i64 dP) := (blk_cell aBc.out 0).trans rfl; have dJs : w7.cell? ⟨bNg, 1, none⟩ = some (.slice nK dA.length mY) := (blk_cell aBc.out 1).trans rfl; have fFw : w7.cell? ⟨bNg, 2, none⟩ = some (.slice mE dZ.length mF) := (blk_cell aBc.out 2).trans rfl; have cCh := blk_frozen aBc.out 0; have dJt := blk_frozen aBc.out 1; have fFx := blk_frozen aBc.out 2; have aA3 : w7.cell? ⟨bNh, 0, none⟩ = some (.int .i64 dH) := (blk_cell aOp.out 0).trans rfl; have bIv : w7.cell? ⟨bNh, 1, none⟩ = some (.slice kW bX.length kX) := (blk_cell aOp.out 1).trans rfl; have bPl : w7.cell? ⟨bNh, 2, none⟩ = some (.slice kR cO.length kS) := (blk_cell aOp.out 2).trans rfl; have aA4 := blk_frozen aOp.out 0; have bIw := blk_frozen aOp.out 1; have bPm := blk_frozen aOp.out 2) | (go_at_call 45; (with_reducible refine (dI.calls k _ _ dA _ _ bX true _ ?side1 ?side2 ?side3 ?side4 A4.out).mono ?_); (case side1 => exact xcb aCl HB); (case side2 => exact aIz.out); (case side3 => exact xcb aDm HB); (case side4 => exact aD8.out); rintro e w' ⟨rfl, ⟨nd, rfl⟩⟩; have iCb := Kd.C_string (P := Try.prog) (A := mE) (c := mF) Try.underlying26 Try.underlying5 Try.underlying9 (Kd.C_below aF0.out HB.out); have hJ7 := fun n_ : Nat => Kd.C_string (P := Try.prog) (A := mE) (c := mF) Try.underlying26 Try.underlying5 Try.underlying9 (Kd.C_drewN (Kd.C_below aF0.out HB.out) n_); have iCc := Kd.C_string (P := Try.prog) (A := kR) (c := kS) Try.underlying26 Try.underlying5 Try.underlying9 (Kd.C_below aD9.out HB.out); have hJ8 := fun n_ : Nat => Kd.C_string (P := Try.prog) (A := kR) (c := kS) Try.underlying26 Try.underlying5 Try.underlying9 (Kd.C_drewN (Kd.C_below aD9.out HB.out) n_)))
  go_ret
  exact ⟨xre, xq HB⟩
def aI.l0 : Nat → Int → List (fB) → List (fB) → Option (Bool)
  | 0, _, _, _ => none
  | k + 1, x5, bP3, bP4 => if x5 < (bP3.length : Int) then (if 0 ≤ x5 then (if x5 < (bP4.length : Int) then (if ((aA bP3 x5).f0) = ((aA bP4 x5).f0) then ((aU.f k ((aA bP3 x5).f1.f0) ((aA bP3 x5).f1.f1) ((aA bP3 x5).f1.f2) ((aA bP4 x5).f1.f0) ((aA bP4 x5).f1.f1) ((aA bP4 x5).f1.f2)).bind fun eTb => (if eTb = true then (aI.l0 k (wrap64 (x5 + 1)) bP3 bP4) else (some false))) else (some false)) else (none)) else (none)) else (some true)
def aI.f (k : Nat) (aD : List (fB)) (bR : List (fB)) : Option (Bool) := if (aD.length : Int) = (bR.length : Int) then (aI.l0 k 0 aD bR) else (some false)
theorem aI.mono_l : ∀ k, (∀ y0 y1 y2, LeO (aI.l0 k y0 y1 y2) (aI.l0 (k + 1) y0 y1 y2))
  | 0 => fun _ _ _ r h => by simp [aI.l0] at h
  | k + 1 => by
    have mU := aI.mono_l k
    · intro y0 y1 y2
      unfold aI.l0
      repeat' first | (with_reducible first | exact mU _ _ _ | exact aU.mono _ _ _ _ _ _ _ | exact LeO.refl _ | exact LeO.none _ | refine LeO.ite ?_ ?_ | refine LeO.bind ?_ (fun _ => ?_)) | exact mU _ _ _ | exact aU.mono _ _ _ _ _ _ _ | exact LeO.none _ | refine LeO.ite ?_ ?_ | refine LeO.bind ?_ (fun _ => ?_)
theorem aI.mono : ∀ a0 a1 k, LeO (aI.f k a0 a1) (aI.f (k + 1) a0 a1) := by
  intro a0 a1 k
  have mU := aI.mono_l k
  unfold aI.f
  repeat' first | (with_reducible first | exact mU _ _ _ | exact aU.mono _ _ _ _ _ _ _ | exact LeO.refl _ | exact LeO.none _ | refine LeO.ite ?_ ?_ | refine LeO.bind ?_ (fun _ => ?_)) | exact mU _ _ _ | exact aU.mono _ _ _ _ _ _ _ | exact LeO.none _ | refine LeO.ite ?_ ?_ | refine LeO.bind ?_ (fun _ => ?_)
def aI.T6 : Bool × List (List Nat × List Nat) := (true, [([], []), ([0], [0]), ([], []), ([1, 2], [1, 2]), ([3], [3]), ([4], [4]), ([], []), ([6], [6]), ([], []), ([7, 8], [7, 8]), ([9], [9]), ([10], [10]), ([5, 11], [5, 11]), ([12], [12]), ([13], [13]), ([14, 13], [13, 14]), ([13], [13]), ([15, 16, 13], [13, 15, 16]), ([17, 13], [13, 17]), ([18, 13], [13, 18]), ([13], [13]), ([20, 13], [13, 20]), ([13], [13]), ([21, 22, 13], [13, 21, 22]), ([23, 13], [13, 23]), ([24, 13], [13, 24]), ([19, 25, 13, 13], [13, 19, 25]), ([26, 13], [13, 26]), ([13, 27], [13, 27])])
def aI.B6 : List Nat := [0, 1, 0, 7, 15, 31, 0, 64, 0, 448, 960, 1984, 4095, 8191, 16383, 32767, 16383, 131071, 262143, 524287, 16383, 1064959, 16383, 7356415, 15745023, 32522239, 67108863, 134217727, 268435455]
theorem aI.tab6 : rtab .any (opsOf Try.f22 6) = aI.T6 := by kernel_rfl
theorem aI.bits6 : waitsOk aI.T6.2 aI.B6 = true := by kernel_rfl
abbrev aI.Z1 : Array Bool := #[U,U,U,U,U,U,U,U,U,U,U,U,U,U,U,U,U,U,U,U,U,U,U,U,U,U,U,U,U]
abbrev aI.Z2 : Array Bool := #[J,U,U,U,U,U,U,U,U,U,U,U,U,U,U,U,U,U,U,U,U,U,U,U,U,U,U,U,U]
abbrev aI.Z3 : Array Bool := #[J,U,J,U,U,U,U,U,U,U,U,U,U,U,U,U,U,U,U,U,U,U,U,U,U,U,U,U,U]
abbrev aI.Z4 : Array Bool := #[J,U,J,U,U,U,J,U,U,U,U,U,U,U,U,U,U,U,U,U,U,U,U,U,U,U,U,U,U]
abbrev aI.Z5 : Array Bool := #[J,U,J,U,U,U,J,U,J,U,U,U,U,U,U,U,U,U,U,U,U,U,U,U,U,U,U,U,U]
abbrev aI.Z6 : Array Bool := #[J,J,J,U,U,U,J,U,J,U,U,U,U,U,U,U,U,U,U,U,U,U,U,U,U,U,U,U,U]
abbrev aI.Z7 : Array Bool := #[J,J,J,J,U,U,J,U,J,U,U,U,U,U,U,U,U,U,U,U,U,U,U,U,U,U,U,U,U]
abbrev aI.Z8 : Array Bool := #[J,J,J,J,J,U,J,U,J,U,U,U,U,U,U,U,U,U,U,U,U,U,U,U,U,U,U,U,U]
abbrev aI.Z9 : Array Bool := #[J,J,J,J,J,J,J,U,J,U,U,U,U,U,U,U,U,U,U,U,U,U,U,U,U,U,U,U,U]
abbrev aI.Z10 : Array Bool := #[J,J,J,J,J,J,J,J,J,U,U,U,U,U,U,U,U,U,U,U,U,U,U,U,U,U,U,U,U]
abbrev aI.Z11 : Array Bool := #[J,J,J,J,J,J,J,J,J,J,U,U,U,U,U,U,U,U,U,U,U,U,U,U,U,U,U,U,U]
abbrev aI.Z12 : Array Bool := #[J,J,J,J,J,J,J,J,J,J,J,U,U,U,U,U,U,U,U,U,U,U,U,U,U,U,U,U,U]
abbrev aI.Z13 : Array Bool := #[J,J,J,J,J,J,J,J,J,J,J,J,U,U,U,U,U,U,U,U,U,U,U,U,U,U,U,U,U]
abbrev aI.Z14 : Array Bool := #[J,J,J,J,J,J,J,J,J,J,J,J,J,U,U,U,U,U,U,U,U,U,U,U,U,U,U,U,U]
abbrev aI.Z15 : Array Bool := #[J,J,J,J,J,J,J,J,J,J,J,J,J,J,U,U,U,U,U,U,U,U,U,U,U,U,U,U,U]
abbrev aI.Z16 : Array Bool := #[J,J,J,J,J,J,J,J,J,J,J,J,J,J,J,U,U,U,U,U,U,U,U,U,U,U,U,U,U]
abbrev aI.Z17 : Array Bool := #[J,J,J,J,J,J,J,J,J,J,J,J,J,J,J,U,J,U,U,U,U,U,U,U,U,U,U,U,U]
abbrev aI.Z18 : Array Bool := #[J,J,J,J,J,J,J,J,J,J,J,J,J,J,J,U,J,U,U,U,J,U,U,U,U,U,U,U,U]
abbrev aI.Z19 : Array Bool := #[J,J,J,J,J,J,J,J,J,J,J,J,J,J,J,U,J,U,U,U,J,U,J,U,U,U,U,U,U]
abbrev aI.Z20 : Array Bool := #[J,J,J,J,J,J,J,J,J,J,J,J,J,J,J,J,J,U,U,U,J,U,J,U,U,U,U,U,U]
abbrev aI.Z21 : Array Bool := #[J,J,J,J,J,J,J,J,J,J,J,J,J,J,J,J,J,J,U,U,J,U,J,U,U,U,U,U,U]
abbrev aI.Z22 : Array Bool := #[J,J,J,J,J,J,J,J,J,J,J,J,J,J,J,J,J,J,J,U,J,U,J,U,U,U,U,U,U]
abbrev aI.Z23 : Array Bool := #[J,J,J,J,J,J,J,J,J,J,J,J,J,J,J,J,J,J,J,J,J,U,J,U,U,U,U,U,U]
abbrev aI.Z24 : Array Bool := #[J,J,J,J,J,J,J,J,J,J,J,J,J,J,J,J,J,J,J,J,J,J,J,U,U,U,U,U,U]
abbrev aI.Z25 : Array Bool := #[J,J,J,J,J,J,J,J,J,J,J,J,J,J,J,J,J,J,J,J,J,J,J,J,U,U,U,U,U]
abbrev aI.Z26 : Array Bool := #[J,J,J,J,J,J,J,J,J,J,J,J,J,J,J,J,J,J,J,J,J,J,J,J,J,U,U,U,U]
abbrev aI.Z27 : Array Bool := #[J,J,J,J,J,J,J,J,J,J,J,J,J,J,J,J,J,J,J,J,J,J,J,J,J,J,U,U,U]
abbrev aI.Z28 : Array Bool := #[J,J,J,J,J,J,J,J,J,J,J,J,J,J,J,J,J,J,J,J,J,J,J,J,J,J,J,U,U]
abbrev aI.Z29 : Array Bool := #[J,J,J,J,J,J,J,J,J,J,J,J,J,J,J,J,J,J,J,J,J,J,J,J,J,J,J,J,U]
abbrev aI.Z30 : Array Bool := #[J,J,J,J,J,J,J,J,J,J,J,J,J,J,J,J,J,J,J,J,J,J,J,J,J,J,J,J,J]
abbrev aI.Z31 : Array Bool := #[J,J,J,J,J,J,J,J,J,J,J,J,J,J,J,J,U,U,U,U,U,U,U,U,U,U,U,U,U]
abbrev aI.Z32 : Array Bool := #[J,J,J,J,J,J,J,J,J,J,J,J,J,J,J,J,J,U,U,U,U,U,U,U,U,U,U,U,U]
abbrev aI.Z33 : Array Bool := #[J,J,J,J,J,J,J,J,J,J,J,J,J,J,J,J,J,J,U,U,U,U,U,U,U,U,U,U,U]
abbrev aI.Z34 : Array Bool := #[J,J,J,J,J,J,J,J,J,J,J,J,J,J,J,J,J,J,J,U,U,U,U,U,U,U,U,U,U]
abbrev aI.Z35 : Array Bool := #[J,J,J,J,J,J,J,J,J,J,J,J,J,J,J,J,J,J,J,J,U,U,U,U,U,U,U,U,U]
abbrev aI.Z36 : Array Bool := #[J,J,J,J,J,J,J,J,J,J,J,J,J,J,J,J,J,J,J,J,J,U,U,U,U,U,U,U,U]
abbrev aI.Z37 : Array Bool := #[J,J,J,J,J,J,J,J,J,J,J,J,J,J,J,J,J,J,J,J,J,J,U,U,U,U,U,U,U]
set_option maxHeartbeats 8000000 in
set_option maxRecDepth 100000 in
theorem aI.calls (k : Nat) (bP : Option Addr) (bK : Nat) (aD : List (fB)) (tT : Option Addr) (qD : Nat) (bR : List (fB)) (r : Bool) (w : World) (mZ : Kd.C qL w bP aD.length aD) (nA : aD.length ≤ bK) (bLw : Kd.C qL w tT bR.length bR) (bLx : bR.length ≤ qD) (h : aI.f k aD bR = some r) :
  Calls Try.prog 22 #[.agg #[.slice bP aD.length bK], .agg #[.slice tT bR.length qD]] w fun e w' => e = .returned (.bool r) ∧ Below w.heap.size w w' := by
  have aP7 := Try.underlying24
  have aQf := Try.underlying44
  have fI := aZ mZ
  have lC := aZ nA
  clear mZ nA
  have bCm := aZ bLw
  have bXm := aZ bLx
  clear bLw bLx
  have HB := aZ (Below.refl w.heap.size w)
  have H : (if (aD.length : Int) = (bR.length : Int) then (aI.l0 k 0 aD bR) else (some false)) = some r := h
  clear h
  by_cases c3 : (aD.length : Int) = (bR.length : Int)
  rotate_left
  · rw [if_neg c3] at H
    have aNk : ((aD.length : Int) == (bR.length : Int)) = false := beq_eq_false_iff_ne.mpr c3
    have bNc : ((aD.length : Int) != (bR.length : Int)) = true := bne_iff_ne.mpr c3
    have cOc : (aD.length == bR.length) = false := by first | simpa using c3 | (simp at c3 ⊢; omega)
    obtain rfl := Option.some.inj H
    go_enter Try.func22, Try.ntmps22
    go_wp2_with (first | ((with_reducible refine gate_dst (N := 2) rfl ?_); refine box_event ?hg (N := 2) ?hd (cs := #[.slice bP aD.length bK]) (t := 24) ?hr ?_; (case hd => rfl); (case hg => rfl); (case hr => first | (go_simp; done) | (go_simp; rfl)); intro bNi hg w28 hbox hb; have wG := aZ (hbox); have fZe := xgh hg HB; have fZf := xgh hg HB; replace HB := xhl HB hb; clear hb hbox hg) | ((with_reducible refine gate_dst (N := 3) rfl ?_); refine box_event ?hg (N := 3) ?hd (cs := #[.slice tT bR.length qD]) (t := 24) ?hr ?_; (case hd => rfl); (case hg => rfl); (case hr => first | (go_simp; done) | (go_simp; rfl)); intro cOf hg w29 hbox hb; have aFm := aZ (hbox); have fZg := xgh hg HB; have fZh := xgh hg HB; replace HB := xhl HB hb; have aTc := xnl hg wG; have aTd := xng hg wG; replace wG := xbb wG hb; clear hb hbox hg; have bSo := aTc.out; have bSp := aTd.out; have bIn : w29.cell? ⟨bNi, 0, none⟩ = some (.slice bP aD.length bK) := (blk_cell wG.out 0).trans rfl; have bIo := blk_frozen wG.out 0; have aFo : w29.cell? ⟨cOf, 0, none⟩ = some (.slice tT bR.length qD) := (blk_cell aFm.out 0).trans rfl; have aFp := blk_frozen aFm.out 0))
    go_ret
    exact ⟨xre, xq HB⟩

  rw [if_pos c3] at H
  have aNk : ((aD.length : Int) == (bR.length : Int)) = true := beq_iff_eq.mpr c3
  have bNc : ((aD.length : Int) != (bR.length : Int)) = false := bne_eq_false_iff_eq.mpr c3
  have cOc : (aD.length == bR.length) = true := by first | simpa using c3 | (simp at c3 ⊢; omega)
  clear c3
  have H' := aZ H
  clear H
  go_enter Try.func22, Try.ntmps22
  go_wp2_with (first | ((with_reducible refine gate_dst (N := 2) rfl ?_); refine box_event ?hg (N := 2) ?hd (cs := #[.slice bP aD.length bK]) (t := 24) ?hr ?_; (case hd => rfl); (case hg => rfl); (case hr => first | (go_simp; done) | (go_simp; rfl)); intro bNi hg w4 hbox hb; have wG := aZ (hbox); have fZe := xgh hg HB; have fZf := xgh hg HB; replace HB := xhl HB hb; clear hb hbox hg) | ((with_reducible refine gate_dst (N := 3) rfl ?_); refine box_event ?hg (N := 3) ?hd (cs := #[.slice tT bR.length qD]) (t := 24) ?hr ?_; (case hd => rfl); (case hg => rfl); (case hr => first | (go_simp; done) | (go_simp; rfl)); intro cOf hg w5 hbox hb; have aFm := aZ (hbox); have fZg := xgh hg HB; have fZh := xgh hg HB; replace HB := xhl HB hb; have aTc := xnl hg wG; have aTd := xng hg wG; replace wG := xbb wG hb; clear hb hbox hg; have eP0 := aTc.out; have eP1 := aTd.out; have bD1 : w5.cell? ⟨bNi, 0, none⟩ = some (.slice bP aD.length bK) := (blk_cell wG.out 0).trans rfl; have bIr := blk_frozen wG.out 0; have cMq : w5.cell? ⟨cOf, 0, none⟩ = some (.slice tT bR.length qD) := (blk_cell aFm.out 0).trans rfl; have cMr := blk_frozen aFm.out 0))
  go_loopg [5] k (fun kq v5 w' => ∃ (dC : Int), v5 = .int .i64 dC ∧ Aside0 (aI.l0 kq dC aD bR = some r) ∧ Aside0 (kq ≤ k) ∧ Aside0 (w'.heap[bNi]? = some (.cells #[(.slice bP aD.length bK)] 24 (0, 0))) ∧ Aside0 (w'.heap[cOf]? = some (.cells #[(.slice tT bR.length qD)] 24 (0, 0))) ∧ Aside0 (Below w.heap.size w w'))
  case atStart => exact ⟨(0), xrs, H', ⟨Nat.le_refl _⟩, xk wG, xk aFm, xb HB⟩
  case round =>
   clear H'
   (try clear c3); (try clear aNk); (try clear bNc); (try clear cOc); (try clear bD1); (try clear cMq); (try clear bIr); (try clear cMr)
   obtain ⟨dC, rfl, HA, yS, wG, aFm, HB⟩ := hrel
   cases gk with
   | zero => exact absurd HA.out (by simp [aI.l0])
   | succ k1 =>
    have H := HA.out
    clear HA
    simp only [aI.l0] at H
    by_cases c9 : dC < (aD.length : Int)
    rotate_left
    · rw [if_neg c9] at H
      have cRm : decide (dC < (aD.length : Int)) = false := decide_eq_false c9
      clear c9
      obtain rfl := Option.some.inj H
      have cHa := aTc.out
      have cHb := aTd.out
      have aQh : wr.cell? ⟨bNi, 0, none⟩ = some (.slice bP aD.length bK) := (blk_cell wG.out 0).trans rfl
      have aQi := blk_frozen wG.out 0
      go_wp2
      go_ret
      exact ⟨xre, xq HB⟩
    rw [if_pos c9] at H
    have cRm : decide (dC < (aD.length : Int)) = true := decide_eq_true c9
    clear c9
    by_cases c10 : 0 ≤ dC
    rotate_left
    · rw [if_neg c10] at H
      exact absurd H (by simp)
    rw [if_pos c10] at H
    have dR4 : decide (0 ≤ dC) = true := decide_eq_true c10
    clear c10
    by_cases c11 : dC < (bR.length : Int)
    rotate_left
    · rw [if_neg c11] at H
      exact absurd H (by simp)
    rw [if_pos c11] at H
    have cG6 : decide (dC < (bR.length : Int)) = true := decide_eq_true c11
    clear c11
    by_cases c12 : ((aA aD dC).f0) = ((aA bR dC).f0)
    rotate_left
    · rw [if_neg c12] at H
      have cS3 : (((aA aD dC).f0) == ((aA bR dC).f0)) = false := beq_eq_false_iff_ne.mpr c12
      have fZi : (((aA aD dC).f0) != ((aA bR dC).f0)) = true := bne_iff_ne.mpr c12
      obtain rfl := Option.some.inj H
      have bMl := aTc.out
      have bMm := aTd.out
      have bCn : wr.cell? ⟨bNi, 0, none⟩ = some (.slice bP aD.length bK) := (blk_cell wG.out 0).trans rfl
      have bCo := blk_frozen wG.out 0
      try go_wp2
      replace wG := aZ (bD wG.out)
      replace aFm := aZ (bD aFm.out)
      replace HB := aZ (lD HB.out)
      have cOg : 0 ≤ (dC : Int) := of_decide_eq_true xas
      have cOh : dC < (aD.length : Int) := of_decide_eq_true xas
      obtain ⟨wH, bJr, bJs, bJt, bJu, eEq, aH2, aH3, aEg, aEh, bCp, bCq, bCr, bCs⟩ := gY fI.out dC cOg cOh
      have bJv := aEh
      have bJw := aEg
      have bJx := aH3
      have bJy := aH2
      cases eEq
      replace aH2 := xcl HB aH2
      replace aH3 := xcl HB aH3
      replace aEg := xcl HB aEg
      replace aEh := xcl HB aEh
      have bXn := aZ bCq
      have dSu := aZ bCp
      clear bCq bCp
      have bXo := aZ bCs
      have dSv := aZ bCr
      clear bCs bCr
      replace cOg := eq_true cOg
      replace cOh := eq_true cOh
      have cOi : 0 ≤ (dC : Int) := of_decide_eq_true xas
      have cOj : dC < (bR.length : Int) := of_decide_eq_true xas
      obtain ⟨wI, bJz, bJ0, bJ1, bJ2, eEr, aH4, aH5, aEi, aEj, bCt, bCu, bCv, bCw⟩ := gY bCm.out dC cOi cOj
      have bJ3 := aEj
      have bJ4 := aEi
      have bJ5 := aH5
      have bJ6 := aH4
      cases eEr
      replace aH4 := xcl HB aH4
      replace aH5 := xcl HB aH5
      replace aEi := xcl HB aEi
      replace aEj := xcl HB aEj
      have bXp := aZ bCu
      have dSw := aZ bCt
      clear bCu bCt
      have bXq := aZ bCw
      have dSx := aZ bCv
      clear bCw bCv
      replace cOi := eq_true cOi
      replace cOj := eq_true cOj
      refine start_ (n := 29) (S := fun w' => w'.cell? ⟨bNi, 0, none⟩ = some (.slice (some wH) aD.length bK) ∧ w'.cell? ⟨cOf, 0, none⟩ = some (.slice (some wI) bR.length qD) ∧ w'.cell? (wH.add ((dC).toNat * 4)) = some (.int .i64 ((aA aD dC).f0)) ∧ w'.cell? ⟨(wH.add ((dC).toNat * 4)).block, (wH.add ((dC).toNat * 4)).off + 1, none⟩ = some (.int .i64 ((aA aD dC).f1.f0)) ∧ w'.cell? ⟨(wH.add ((dC).toNat * 4)).block, (wH.add ((dC).toNat * 4)).off + 2, none⟩ = some (.slice bJr ((aA aD dC).f1.f1).length bJs) ∧ w'.cell? ⟨(wH.add ((dC).toNat * 4)).block, (wH.add ((dC).toNat * 4)).off + 3, none⟩ = some (.slice bJt ((aA aD dC).f1.f2).length bJu) ∧ w'.cell? (wI.add ((dC).toNat * 4)) = some (.int .i64 ((aA bR dC).f0)) ∧ w'.cell? ⟨(wI.add ((dC).toNat * 4)).block, (wI.add ((dC).toNat * 4)).off + 1, none⟩ = some (.int .i64 ((aA bR dC).f1.f0)) ∧ w'.cell? ⟨(wI.add ((dC).toNat * 4)).block, (wI.add ((dC).toNat * 4)).off + 2, none⟩ = some (.slice bJz ((aA bR dC).f1.f1).length bJ0) ∧ w'.cell? ⟨(wI.add ((dC).toNat * 4)).block, (wI.add ((dC).toNat * 4)).off + 3, none⟩ = some (.slice bJ1 ((aA bR dC).f1.f2).length bJ2)) (ds := []) Z1 (by kernel_rfl) rfl rfl ⟨(blk_cell wG.out 0).trans rfl, (blk_cell aFm.out 0).trans rfl, (xcl HB bJy), (xcl HB bJx), (xcl HB bJw), (xcl HB bJv), (xcl HB bJ6), (xcl HB bJ5), (xcl HB bJ4), (xcl HB bJ3)⟩ (fun hHeld => ?_); refine with_tabW aI.tab6 aI.bits6 (fun HT_ HW_ => ?_)
      generalize wr.drew = w25 at wG aFm HB bXn bXo bXp bXq aH2 aH3 aEg aEh aH4 aH5 aEi aEj hHeld ⊢
      refine pu 0 20 Z2 HT_ rfl rfl (h := ?_)
      refine pu 2 22 Z3 HT_ rfl rfl (h := ?_)
      refine pu 6 26 Z4 HT_ rfl rfl (h := ?_)
      refine pu 8 28 Z5 HT_ rfl rfl (h := ?_)
      refine tk 1 21 Z6 HT_ HW_ rfl rfl hHeld (by rintro w' ⟨s0, s1, s2, s3, s4, s5, s6, s7, s8, s9⟩; go_simp; with_reducible rfl) (h := ?_)
      refine pu 3 23 Z7 HT_ rfl rfl (h := ?_)
      refine pu 4 24 Z8 HT_ rfl rfl (h := ?_)
      refine tk 5 25 Z9 HT_ HW_ rfl rfl hHeld (by rintro w' ⟨s0, s1, s2, s3, s4, s5, s6, s7, s8, s9⟩; go_simp; with_reducible rfl) (h := ?_)
      refine tk 7 27 Z10 HT_ HW_ rfl rfl hHeld (by rintro w' ⟨s0, s1, s2, s3, s4, s5, s6, s7, s8, s9⟩; go_simp; with_reducible rfl) (h := ?_)
      refine pu 9 29 Z11 HT_ rfl rfl (h := ?_)
      refine pu 10 30 Z12 HT_ rfl rfl (h := ?_)
      refine tk 11 31 Z13 HT_ HW_ rfl rfl hHeld (by rintro w' ⟨s0, s1, s2, s3, s4, s5, s6, s7, s8, s9⟩; go_simp; with_reducible rfl) (h := ?_)
      refine pu 12 32 Z14 HT_ rfl rfl (h := ?_)
      refine pu 13 33 Z15 HT_ rfl rfl (h := ?_)
      refine pv 14 34 Z16 HT_ rfl rfl (h := ?_)
      refine pv 15 35 Z31 HT_ rfl rfl (h := ?_)
      refine pv 16 36 Z32 HT_ rfl rfl (h := ?_)
      refine pv 17 37 Z33 HT_ rfl rfl (h := ?_)
      refine pv 18 38 Z34 HT_ rfl rfl (h := ?_)
      refine pv 19 39 Z35 HT_ rfl rfl (h := ?_)
      refine pv 20 40 Z36 HT_ rfl rfl (h := ?_)
      refine pv 21 41 Z37 HT_ rfl rfl (h := ?_)
      refine pv 22 42 Z24 HT_ rfl rfl (h := ?_)
      refine pv 23 43 Z25 HT_ rfl rfl (h := ?_)
      refine pv 24 44 Z26 HT_ rfl rfl (h := ?_)
      refine pv 25 45 Z27 HT_ rfl rfl (h := ?_)
      refine pv 26 46 Z28 HT_ rfl rfl (h := ?_)
      refine pv 27 47 Z29 HT_ rfl rfl (h := ?_)
      refine pu 28 48 Z30 HT_ rfl rfl (h := ?_)
      refine done_ (done_of HT_.out (by kernel_rfl)) ?_
      try go_wp2
      go_ret
      exact ⟨xre, xq HB⟩
    rw [if_pos c12] at H
    have cS3 : (((aA aD dC).f0) == ((aA bR dC).f0)) = true := beq_iff_eq.mpr c12
    have fZi : (((aA aD dC).f0) != ((aA bR dC).f0)) = false := bne_eq_false_iff_eq.mpr c12
    clear c12
    replace H := Option.bind_eq_some_iff.mp H
    obtain ⟨eTb, eEe, H⟩ := H
    replace H : (if eTb = true then (aI.l0 k1 (wrap64 (dC + 1)) aD bR) else (some false)) = some r := H
    have A13 := aZ eEe
    clear eEe
    by_cases c14 : eTb = true
    rotate_left
    · replace c14 := Bool.eq_false_iff.mpr c14
      subst c14
      have H1 : (some false) = some r := by rw [if_neg (show ¬ (false = true) by decide)] at H; exact H
      clear H
      have H := H1
      clear H1
      obtain rfl := Option.some.inj H
      have bMh := aTc.out
      have bMi := aTd.out
      have aJw : wr.cell? ⟨bNi, 0, none⟩ = some (.slice bP aD.length bK) := (blk_cell wG.out 0).trans rfl
      have aJx := blk_frozen wG.out 0
      try go_wp2
      replace wG := aZ (bD wG.out)
      replace aFm := aZ (bD aFm.out)
      replace HB := aZ (lD HB.out)
      have cOg : 0 ≤ (dC : Int) := of_decide_eq_true xas
      have cOh : dC < (aD.length : Int) := of_decide_eq_true xas
      obtain ⟨wH, bJr, bJs, bJt, bJu, eEq, aH2, aH3, aEg, aEh, bCp, bCq, bCr, bCs⟩ := gY fI.out dC cOg cOh
      have bJv := aEh
      have bJw := aEg
      have bJx := aH3
      have bJy := aH2
      cases eEq
      replace aH2 := xcl HB aH2
      replace aH3 := xcl HB aH3
      replace aEg := xcl HB aEg
      replace aEh := xcl HB aEh
      have bXn := aZ bCq
      have dSu := aZ bCp
      clear bCq bCp
      have bXo := aZ bCs
      have dSv := aZ bCr
      clear bCs bCr
      replace cOg := eq_true cOg
      replace cOh := eq_true cOh
      have cOi : 0 ≤ (dC : Int) := of_decide_eq_true xas
      have cOj : dC < (bR.length : Int) := of_decide_eq_true xas
      obtain ⟨wI, bJz, bJ0, bJ1, bJ2, eEr, aH4, aH5, aEi, aEj, bCt, bCu, bCv, bCw⟩ := gY bCm.out dC cOi cOj
      have bJ3 := aEj
      have bJ4 := aEi
      have bJ5 := aH5
      have bJ6 := aH4
      cases eEr
      replace aH4 := xcl HB aH4
      replace aH5 := xcl HB aH5
      replace aEi := xcl HB aEi
      replace aEj := xcl HB aEj
      have bXp := aZ bCu
      have dSw := aZ bCt
      clear bCu bCt
      have bXq := aZ bCw
      have dSx := aZ bCv
      clear bCw bCv
      replace cOi := eq_true cOi
      replace cOj := eq_true cOj
      have dLo : 0 ≤ (dC : Int) := of_decide_eq_true xas
      have dLp : dC < (aD.length : Int) := of_decide_eq_true xas
      obtain ⟨eEs, fHs, fHt, fHu, fHv, fHw, aXo, aXp, aRb, aRc, bXr, bXs, bXt, bXu⟩ := gY fI.out dC dLo dLp
      have bXv := aRc
      have bXw := aRb
      have bXx := aXp
      have bXy := aXo
      obtain rfl : wH = eEs := (by injection fHw)
      replace aXo := xcl HB aXo
      replace aXp := xcl HB aXp
      replace aRb := xcl HB aRb
      replace aRc := xcl HB aRc
      have bXz := aZ bXs
      have cYg := aZ bXr
      clear bXs bXr
      have bX0 := aZ bXu
      have cYh := aZ bXt
      clear bXu bXt
      replace dLo := eq_true dLo
      replace dLp := eq_true dLp
      have ea_ := Option.some.inj (aEg.symm.trans aRb)
      injection ea_ with ea_ en_ ec_
      subst ea_
      subst ec_
      clear en_
      have ea_ := Option.some.inj (aEh.symm.trans aRc)
      injection ea_ with ea_ en_ ec_
      subst ea_
      subst ec_
      clear en_
      have dLq : 0 ≤ (dC : Int) := of_decide_eq_true xas
      have dLr : dC < (bR.length : Int) := of_decide_eq_true xas
      obtain ⟨eEt, fHx, fHy, fHz, fH0, fH1, aXq, aXr, aRd, aRe, bX1, bX2, bX3, bX4⟩ := gY bCm.out dC dLq dLr
      have bX5 := aRe
      have bX6 := aRd
      have bX7 := aXr
      have bX8 := aXq
      obtain rfl : wI = eEt := (by injection fH1)
      replace aXq := xcl HB aXq
      replace aXr := xcl HB aXr
      replace aRd := xcl HB aRd
      replace aRe := xcl HB aRe
      have bX9 := aZ bX2
      have cYi := aZ bX1
      clear bX2 bX1
      have bYa := aZ bX4
      have cYj := aZ bX3
      clear bX4 bX3
      replace dLq := eq_true dLq
      replace dLr := eq_true dLr
      have ea_ := Option.some.inj (aEi.symm.trans aRd)
      injection ea_ with ea_ en_ ec_
      subst ea_
      subst ec_
      clear en_
      have ea_ := Option.some.inj (aEj.symm.trans aRe)
      injection ea_ with ea_ en_ ec_
      subst ea_
      subst ec_
      clear en_
      refine start_ (n := 29) (S := fun w' => w'.cell? ⟨bNi, 0, none⟩ = some (.slice (some wH) aD.length bK) ∧ w'.cell? ⟨cOf, 0, none⟩ = some (.slice (some wI) bR.length qD) ∧ w'.cell? (wH.add ((dC).toNat * 4)) = some (.int .i64 ((aA aD dC).f0)) ∧ w'.cell? ⟨(wH.add ((dC).toNat * 4)).block, (wH.add ((dC).toNat * 4)).off + 1, none⟩ = some (.int .i64 ((aA aD dC).f1.f0)) ∧ w'.cell? ⟨(wH.add ((dC).toNat * 4)).block, (wH.add ((dC).toNat * 4)).off + 2, none⟩ = some (.slice bJr ((aA aD dC).f1.f1).length bJs) ∧ w'.cell? ⟨(wH.add ((dC).toNat * 4)).block, (wH.add ((dC).toNat * 4)).off + 3, none⟩ = some (.slice bJt ((aA aD dC).f1.f2).length bJu) ∧ w'.cell? (wI.add ((dC).toNat * 4)) = some (.int .i64 ((aA bR dC).f0)) ∧ w'.cell? ⟨(wI.add ((dC).toNat * 4)).block, (wI.add ((dC).toNat * 4)).off + 1, none⟩ = some (.int .i64 ((aA bR dC).f1.f0)) ∧ w'.cell? ⟨(wI.add ((dC).toNat * 4)).block, (wI.add ((dC).toNat * 4)).off + 2, none⟩ = some (.slice bJz ((aA bR dC).f1.f1).length bJ0) ∧ w'.cell? ⟨(wI.add ((dC).toNat * 4)).block, (wI.add ((dC).toNat * 4)).off + 3, none⟩ = some (.slice bJ1 ((aA bR dC).f1.f2).length bJ2) ∧ w'.cell? (wH.add ((dC).toNat * 4)) = some (.int .i64 ((aA aD dC).f0)) ∧ w'.cell? ⟨(wH.add ((dC).toNat * 4)).block, (wH.add ((dC).toNat * 4)).off + 1, none⟩ = some (.int .i64 ((aA aD dC).f1.f0)) ∧ w'.cell? ⟨(wH.add ((dC).toNat * 4)).block, (wH.add ((dC).toNat * 4)).off + 2, none⟩ = some (.slice bJr ((aA aD dC).f1.f1).length bJs) ∧ w'.cell? ⟨(wH.add ((dC).toNat * 4)).block, (wH.add ((dC).toNat * 4)).off + 3, none⟩ = some (.slice bJt ((aA aD dC).f1.f2).length bJu) ∧ w'.cell? (wI.add ((dC).toNat * 4)) = some (.int .i64 ((aA bR dC).f0)) ∧ w'.cell? ⟨(wI.add ((dC).toNat * 4)).block, (wI.add ((dC).toNat * 4)).off + 1, none⟩ = some (.int .i64 ((aA bR dC).f1.f0)) ∧ w'.cell? ⟨(wI.add ((dC).toNat * 4)).block, (wI.add ((dC).toNat * 4)).off + 2, none⟩ = some (.slice bJz ((aA bR dC).f1.f1).length bJ0) ∧ w'.cell? ⟨(wI.add ((dC).toNat * 4)).block, (wI.add ((dC).toNat * 4)).off + 3, none⟩ = some (.slice bJ1 ((aA bR dC).f1.f2).length bJ2)) (ds := []) Z1 (by kernel_rfl) rfl rfl ⟨(blk_cell wG.out 0).trans rfl, (blk_cell aFm.out 0).trans rfl, (xcl HB bJy), (xcl HB bJx), (xcl HB bJw), (xcl HB bJv), (xcl HB bJ6), (xcl HB bJ5), (xcl HB bJ4), (xcl HB bJ3), (xcl HB bXy), (xcl HB bXx), (xcl HB bXw), (xcl HB bXv), (xcl HB bX8), (xcl HB bX7), (xcl HB bX6), (xcl HB bX5)⟩ (fun hHeld => ?_); refine with_tabW aI.tab6 aI.bits6 (fun HT_ HW_ => ?_)
      generalize wr.drew = w21 at wG aFm HB bXn bXo bXp bXq bXz bX0 bX9 bYa aH2 aH3 aEg aEh aH4 aH5 aEi aEj aXo aXp aRb aRc aXq aXr aRd aRe hHeld ⊢
      refine pu 0 20 Z2 HT_ rfl rfl (h := ?_)
      refine pu 2 22 Z3 HT_ rfl rfl (h := ?_)
      refine pu 6 26 Z4 HT_ rfl rfl (h := ?_)
      refine pu 8 28 Z5 HT_ rfl rfl (h := ?_)
      refine tk 1 21 Z6 HT_ HW_ rfl rfl hHeld (by rintro w' ⟨s0, s1, s2, s3, s4, s5, s6, s7, s8, s9, s10, s11, s12, s13, s14, s15, s16, s17⟩; go_simp; with_reducible rfl) (h := ?_)
      refine pu 3 23 Z7 HT_ rfl rfl (h := ?_)
      refine pu 4 24 Z8 HT_ rfl rfl (h := ?_)
      refine tk 5 25 Z9 HT_ HW_ rfl rfl hHeld (by rintro w' ⟨s0, s1, s2, s3, s4, s5, s6, s7, s8, s9, s10, s11, s12, s13, s14, s15, s16, s17⟩; go_simp; with_reducible rfl) (h := ?_)
      refine tk 7 27 Z10 HT_ HW_ rfl rfl hHeld (by rintro w' ⟨s0, s1, s2, s3, s4, s5, s6, s7, s8, s9, s10, s11, s12, s13, s14, s15, s16, s17⟩; go_simp; with_reducible rfl) (h := ?_)
      refine pu 9 29 Z11 HT_ rfl rfl (h := ?_)
      refine pu 10 30 Z12 HT_ rfl rfl (h := ?_)
      refine tk 11 31 Z13 HT_ HW_ rfl rfl hHeld (by rintro w' ⟨s0, s1, s2, s3, s4, s5, s6, s7, s8, s9, s10, s11, s12, s13, s14, s15, s16, s17⟩; go_simp; with_reducible rfl) (h := ?_)
      refine pu 12 32 Z14 HT_ rfl rfl (h := ?_)
      refine pu 13 33 Z15 HT_ rfl rfl (h := ?_)
      refine pu 14 34 Z16 HT_ rfl rfl (h := ?_)
      refine pu 16 36 Z17 HT_ rfl rfl (h := ?_)
      refine pu 20 40 Z18 HT_ rfl rfl (h := ?_)
      refine pu 22 42 Z19 HT_ rfl rfl (h := ?_)
      refine tk 15 35 Z20 HT_ HW_ rfl rfl hHeld (by rintro w' ⟨s0, s1, s2, s3, s4, s5, s6, s7, s8, s9, s10, s11, s12, s13, s14, s15, s16, s17⟩; go_simp; with_reducible rfl) (h := ?_)
      refine pu 17 37 Z21 HT_ rfl rfl (h := ?_)
      refine pu 18 38 Z22 HT_ rfl rfl (h := ?_)
      refine tk 19 39 Z23 HT_ HW_ rfl rfl hHeld (by rintro w' ⟨s0, s1, s2, s3, s4, s5, s6, s7, s8, s9, s10, s11, s12, s13, s14, s15, s16, s17⟩; go_simp; with_reducible rfl) (h := ?_)
      refine tk 21 41 Z24 HT_ HW_ rfl rfl hHeld (by rintro w' ⟨s0, s1, s2, s3, s4, s5, s6, s7, s8, s9, s10, s11, s12, s13, s14, s15, s16, s17⟩; go_simp; with_reducible rfl) (h := ?_)
      refine pu 23 43 Z25 HT_ rfl rfl (h := ?_)
      refine pu 24 44 Z26 HT_ rfl rfl (h := ?_)
      refine tk 25 45 Z27 HT_ HW_ rfl rfl hHeld (by rintro w' ⟨s0, s1, s2, s3, s4, s5, s6, s7, s8, s9, s10, s11, s12, s13, s14, s15, s16, s17⟩; go_simp; with_reducible rfl) (h := ?_)
      refine one_ (i := 26) (N := some 46) Z28 rfl rfl (one_of HT_.out (by kernel_rfl)) (by decide) (fun K hK => ?_)
      refine goes_ Try.func24 (by kernel_rfl) rfl #[.agg #[.int .i64 ((aA aD dC).f1.f0), .slice bJr ((aA aD dC).f1.f1).length bJs, .slice bJt ((aA aD dC).f1.f2).length bJu], .agg #[.int .i64 ((aA bR dC).f1.f0), .slice bJz ((aA bR dC).f1.f1).length bJ0, .slice bJ1 ((aA bR dC).f1.f2).length bJ2]] (by rfl) rfl rfl xmp ?_
      with_reducible refine (aU.calls k1 ((aA aD dC).f1.f0) _ _ ((aA aD dC).f1.f1) _ _ ((aA aD dC).f1.f2) ((aA bR dC).f1.f0) _ _ ((aA bR dC).f1.f1) _ _ ((aA bR dC).f1.f2) false _ ?side1 ?side2 ?side3 ?side4 ?side5 ?side6 ?side7 ?side8 A13.out).mono ?_
      (case side1 => exact xcb bXz HB)
      (case side2 => exact cYg.out)
      (case side3 => exact xcb bX0 HB)
      (case side4 => exact cYh.out)
      (case side5 => exact xcb bX9 HB)
      (case side6 => exact cYi.out)
      (case side7 => exact xcb bYa HB)
      (case side8 => exact cYj.out)
      rintro e w22 ⟨rfl, hb⟩
      refine ⟨_, rfl, ?_⟩
      replace wG := xbb wG hb
      replace aFm := xbb aFm hb
      replace HB := xhl HB hb
      skip
      (try clear hb)
      (try clear iV)
      (try clear hk)
      (try clear hi)
      refine hK.out _ _ ⟨(blk_cell wG.out 0).trans rfl, (blk_cell aFm.out 0).trans rfl, (xcl HB bJy), (xcl HB bJx), (xcl HB bJw), (xcl HB bJv), (xcl HB bJ6), (xcl HB bJ5), (xcl HB bJ4), (xcl HB bJ3), (xcl HB bXy), (xcl HB bXx), (xcl HB bXw), (xcl HB bXv), (xcl HB bX8), (xcl HB bX7), (xcl HB bX6), (xcl HB bX5)⟩ (fun hHeld => ?_)
      clear hK K
      refine norm_ (a' := ?_) ?_ ?_
      rotate_left
      · show Act.put _ (some 46) _ = _
        simp only [Act.put, List.setIfInBounds_toArray, List.set_cons_zero, List.set_cons_succ, i64_w, i32_w]
        rfl
      refine pu 27 47 Z29 HT_ rfl rfl (h := ?_)
      refine pu 28 48 Z30 HT_ rfl rfl (h := ?_)
      refine done_ (done_of HT_.out (by kernel_rfl)) ?_
      try go_wp2
      go_ret
      exact ⟨xre, xq HB⟩
    subst c14
    have H1 : (aI.l0 k1 (wrap64 (dC + 1)) aD bR) = some r := by rw [if_pos rfl] at H; exact H
    clear H
    have H := H1
    clear H1
    have H' := aZ H
    clear H
    have bVv := aTc.out
    have bVw := aTd.out
    have aQj : wr.cell? ⟨bNi, 0, none⟩ = some (.slice bP aD.length bK) := (blk_cell wG.out 0).trans rfl
    have aQk := blk_frozen wG.out 0
    try go_wp2
    replace wG := aZ (bD wG.out)
    replace aFm := aZ (bD aFm.out)
    replace HB := aZ (lD HB.out)
    have cOg : 0 ≤ (dC : Int) := of_decide_eq_true xas
    have cOh : dC < (aD.length : Int) := of_decide_eq_true xas
    obtain ⟨wH, bJr, bJs, bJt, bJu, eEq, aH2, aH3, aEg, aEh, bCp, bCq, bCr, bCs⟩ := gY fI.out dC cOg cOh
    have bJv := aEh
    have bJw := aEg
    have bJx := aH3
    have bJy := aH2
    cases eEq
    replace aH2 := xcl HB aH2
    replace aH3 := xcl HB aH3
    replace aEg := xcl HB aEg
    replace aEh := xcl HB aEh
    have bXn := aZ bCq
    have dSu := aZ bCp
    clear bCq bCp
    have bXo := aZ bCs
    have dSv := aZ bCr
    clear bCs bCr
    replace cOg := eq_true cOg
    replace cOh := eq_true cOh
    have cOi : 0 ≤ (dC : Int) := of_decide_eq_true xas
    have cOj : dC < (bR.length : Int) := of_decide_eq_true xas
    obtain ⟨wI, bJz, bJ0, bJ1, bJ2, eEr, aH4, aH5, aEi, aEj, bCt, bCu, bCv, bCw⟩ := gY bCm.out dC cOi cOj
    have bJ3 := aEj
    have bJ4 := aEi
    have bJ5 := aH5
    have bJ6 := aH4
    cases eEr
    replace aH4 := xcl HB aH4
    replace aH5 := xcl HB aH5
    replace aEi := xcl HB aEi
    replace aEj := xcl HB aEj
    have bXp := aZ bCu
    have dSw := aZ bCt
    clear bCu bCt
    have bXq := aZ bCw
    have dSx := aZ bCv
    clear bCw bCv
    replace cOi := eq_true cOi
    replace cOj := eq_true cOj
    have dLo : 0 ≤ (dC : Int) := of_decide_eq_true xas
    have dLp : dC < (aD.length : Int) := of_decide_eq_true xas
    obtain ⟨eEs, fHs, fHt, fHu, fHv, fHw, aXo, aXp, aRb, aRc, bXr, bXs, bXt, bXu⟩ := gY fI.out dC dLo dLp
    have bXv := aRc
    have bXw := aRb
    have bXx := aXp
    have bXy := aXo
    obtain rfl : wH = eEs := (by injection fHw)
    replace aXo := xcl HB aXo
    replace aXp := xcl HB aXp
    replace aRb := xcl HB aRb
    replace aRc := xcl HB aRc
    have bXz := aZ bXs
    have cYg := aZ bXr
    clear bXs bXr
    have bX0 := aZ bXu
    have cYh := aZ bXt
    clear bXu bXt
    replace dLo := eq_true dLo
    replace dLp := eq_true dLp
    have ea_ := Option.some.inj (aEg.symm.trans aRb)
    injection ea_ with ea_ en_ ec_
    subst ea_
    subst ec_
    clear en_
    have ea_ := Option.some.inj (aEh.symm.trans aRc)
    injection ea_ with ea_ en_ ec_
    subst ea_
    subst ec_
    clear en_
    have dLq : 0 ≤ (dC : Int) := of_decide_eq_true xas
    have dLr : dC < (bR.length : Int) := of_decide_eq_true xas
    obtain ⟨eEt, fHx, fHy, fHz, fH0, fH1, aXq, aXr, aRd, aRe, bX1, bX2, bX3, bX4⟩ := gY bCm.out dC dLq dLr
    have bX5 := aRe
    have bX6 := aRd
    have bX7 := aXr
    have bX8 := aXq
    obtain rfl : wI = eEt := (by injection fH1)
    replace aXq := xcl HB aXq
    replace aXr := xcl HB aXr
    replace aRd := xcl HB aRd
    replace aRe := xcl HB aRe
    have bX9 := aZ bX2
    have cYi := aZ bX1
    clear bX2 bX1
    have bYa := aZ bX4
    have cYj := aZ bX3
    clear bX4 bX3
    replace dLq := eq_true dLq
    replace dLr := eq_true dLr
    have ea_ := Option.some.inj (aEi.symm.trans aRd)
    injection ea_ with ea_ en_ ec_
    subst ea_
    subst ec_
    clear en_
    have ea_ := Option.some.inj (aEj.symm.trans aRe)
    injection ea_ with ea_ en_ ec_
    subst ea_
    subst ec_
    clear en_
    refine start_ (n := 29) (S := fun w' => w'.cell? ⟨bNi, 0, none⟩ = some (.slice (some wH) aD.length bK) ∧ w'.cell? ⟨cOf, 0, none⟩ = some (.slice (some wI) bR.length qD) ∧ w'.cell? (wH.add ((dC).toNat * 4)) = some (.int .i64 ((aA aD dC).f0)) ∧ w'.cell? ⟨(wH.add ((dC).toNat * 4)).block, (wH.add ((dC).toNat * 4)).off + 1, none⟩ = some (.int .i64 ((aA aD dC).f1.f0)) ∧ w'.cell? ⟨(wH.add ((dC).toNat * 4)).block, (wH.add ((dC).toNat * 4)).off + 2, none⟩ = some (.slice bJr ((aA aD dC).f1.f1).length bJs) ∧ w'.cell? ⟨(wH.add ((dC).toNat * 4)).block, (wH.add ((dC).toNat * 4)).off + 3, none⟩ = some (.slice bJt ((aA aD dC).f1.f2).length bJu) ∧ w'.cell? (wI.add ((dC).toNat * 4)) = some (.int .i64 ((aA bR dC).f0)) ∧ w'.cell? ⟨(wI.add ((dC).toNat * 4)).block, (wI.add ((dC).toNat * 4)).off + 1, none⟩ = some (.int .i64 ((aA bR dC).f1.f0)) ∧ w'.cell? ⟨(wI.add ((dC).toNat * 4)).block, (wI.add ((dC).toNat * 4)).off + 2, none⟩ = some (.slice bJz ((aA bR dC).f1.f1).length bJ0) ∧ w'.cell? ⟨(wI.add ((dC).toNat * 4)).block, (wI.add ((dC).toNat * 4)).off + 3, none⟩ = some (.slice bJ1 ((aA bR dC).f1.f2).length bJ2) ∧ w'.cell? (wH.add ((dC).toNat * 4)) = some (.int .i64 ((aA aD dC).f0)) ∧ w'.cell? ⟨(wH.add ((dC).toNat * 4)).block, (wH.add ((dC).toNat * 4)).off + 1, none⟩ = some (.int .i64 ((aA aD dC).f1.f0)) ∧ w'.cell? ⟨(wH.add ((dC).toNat * 4)).block, (wH.add ((dC).toNat * 4)).off + 2, none⟩ = some (.slice bJr ((aA aD dC).f1.f1).length bJs) ∧ w'.cell? ⟨(wH.add ((dC).toNat * 4)).block, (wH.add ((dC).toNat * 4)).off + 3, none⟩ = some (.slice bJt ((aA aD dC).f1.f2).length bJu) ∧ w'.cell? (wI.add ((dC).toNat * 4)) = some (.int .i64 ((aA bR dC).f0)) ∧ w'.cell? ⟨(wI.add ((dC).toNat * 4)).block, (wI.add ((dC).toNat * 4)).off + 1, none⟩ = some (.int .i64 ((aA bR dC).f1.f0)) ∧ w'.cell? ⟨(wI.add ((dC).toNat * 4)).block, (wI.add ((dC).toNat * 4)).off + 2, none⟩ = some (.slice bJz ((aA bR dC).f1.f1).length bJ0) ∧ w'.cell? ⟨(wI.add ((dC).toNat * 4)).block, (wI.add ((dC).toNat * 4)).off + 3, none⟩ = some (.slice bJ1 ((aA bR dC).f1.f2).length bJ2)) (ds := []) Z1 (by kernel_rfl) rfl rfl ⟨(blk_cell wG.out 0).trans rfl, (blk_cell aFm.out 0).trans rfl, (xcl HB bJy), (xcl HB bJx), (xcl HB bJw), (xcl HB bJv), (xcl HB bJ6), (xcl HB bJ5), (xcl HB bJ4), (xcl HB bJ3), (xcl HB bXy), (xcl HB bXx), (xcl HB bXw), (xcl HB bXv), (xcl HB bX8), (xcl HB bX7), (xcl HB bX6), (xcl HB bX5)⟩ (fun hHeld => ?_); refine with_tabW aI.tab6 aI.bits6 (fun HT_ HW_ => ?_)
    generalize wr.drew = w17 at wG aFm HB bXn bXo bXp bXq bXz bX0 bX9 bYa aH2 aH3 aEg aEh aH4 aH5 aEi aEj aXo aXp aRb aRc aXq aXr aRd aRe hHeld ⊢
    refine pu 0 20 Z2 HT_ rfl rfl (h := ?_)
    refine pu 2 22 Z3 HT_ rfl rfl (h := ?_)
    refine pu 6 26 Z4 HT_ rfl rfl (h := ?_)
    refine pu 8 28 Z5 HT_ rfl rfl (h := ?_)
    refine tk 1 21 Z6 HT_ HW_ rfl rfl hHeld (by rintro w' ⟨s0, s1, s2, s3, s4, s5, s6, s7, s8, s9, s10, s11, s12, s13, s14, s15, s16, s17⟩; go_simp; with_reducible rfl) (h := ?_)
    refine pu 3 23 Z7 HT_ rfl rfl (h := ?_)
    refine pu 4 24 Z8 HT_ rfl rfl (h := ?_)
    refine tk 5 25 Z9 HT_ HW_ rfl rfl hHeld (by rintro w' ⟨s0, s1, s2, s3, s4, s5, s6, s7, s8, s9, s10, s11, s12, s13, s14, s15, s16, s17⟩; go_simp; with_reducible rfl) (h := ?_)
    refine tk 7 27 Z10 HT_ HW_ rfl rfl hHeld (by rintro w' ⟨s0, s1, s2, s3, s4, s5, s6, s7, s8, s9, s10, s11, s12, s13, s14, s15, s16, s17⟩; go_simp; with_reducible rfl) (h := ?_)
    refine pu 9 29 Z11 HT_ rfl rfl (h := ?_)
    refine pu 10 30 Z12 HT_ rfl rfl (h := ?_)
    refine tk 11 31 Z13 HT_ HW_ rfl rfl hHeld (by rintro w' ⟨s0, s1, s2, s3, s4, s5, s6, s7, s8, s9, s10, s11, s12, s13, s14, s15, s16, s17⟩; go_simp; with_reducible rfl) (h := ?_)
    refine pu 12 32 Z14 HT_ rfl rfl (h := ?_)
    refine pu 13 33 Z15 HT_ rfl rfl (h := ?_)
    refine pu 14 34 Z16 HT_ rfl rfl (h := ?_)
    refine pu 16 36 Z17 HT_ rfl rfl (h := ?_)
    refine pu 20 40 Z18 HT_ rfl rfl (h := ?_)
    refine pu 22 42 Z19 HT_ rfl rfl (h := ?_)
    refine tk 15 35 Z20 HT_ HW_ rfl rfl hHeld (by rintro w' ⟨s0, s1, s2, s3, s4, s5, s6, s7, s8, s9, s10, s11, s12, s13, s14, s15, s16, s17⟩; go_simp; with_reducible rfl) (h := ?_)
    refine pu 17 37 Z21 HT_ rfl rfl (h := ?_)
    refine pu 18 38 Z22 HT_ rfl rfl (h := ?_)
    refine tk 19 39 Z23 HT_ HW_ rfl rfl hHeld (by rintro w' ⟨s0, s1, s2, s3, s4, s5, s6, s7, s8, s9, s10, s11, s12, s13, s14, s15, s16, s17⟩; go_simp; with_reducible rfl) (h := ?_)
    refine tk 21 41 Z24 HT_ HW_ rfl rfl hHeld (by rintro w' ⟨s0, s1, s2, s3, s4, s5, s6, s7, s8, s9, s10, s11, s12, s13, s14, s15, s16, s17⟩; go_simp; with_reducible rfl) (h := ?_)
    refine pu 23 43 Z25 HT_ rfl rfl (h := ?_)
    refine pu 24 44 Z26 HT_ rfl rfl (h := ?_)
    refine tk 25 45 Z27 HT_ HW_ rfl rfl hHeld (by rintro w' ⟨s0, s1, s2, s3, s4, s5, s6, s7, s8, s9, s10, s11, s12, s13, s14, s15, s16, s17⟩; go_simp; with_reducible rfl) (h := ?_)
    refine one_ (i := 26) (N := some 46) Z28 rfl rfl (one_of HT_.out (by kernel_rfl)) (by decide) (fun K hK => ?_)
    refine goes_ Try.func24 (by kernel_rfl) rfl #[.agg #[.int .i64 ((aA aD dC).f1.f0), .slice bJr ((aA aD dC).f1.f1).length bJs, .slice bJt ((aA aD dC).f1.f2).length bJu], .agg #[.int .i64 ((aA bR dC).f1.f0), .slice bJz ((aA bR dC).f1.f1).length bJ0, .slice bJ1 ((aA bR dC).f1.f2).length bJ2]] (by rfl) rfl rfl xmp ?_
    with_reducible refine (aU.calls k1 ((aA aD dC).f1.f0) _ _ ((aA aD dC).f1.f1) _ _ ((aA aD dC).f1.f2) ((aA bR dC).f1.f0) _ _ ((aA bR dC).f1.f1) _ _ ((aA bR dC).f1.f2) true _ ?side1 ?side2 ?side3 ?side4 ?side5 ?side6 ?side7 ?side8 A13.out).mono ?_
    (case side1 => exact xcb bXz HB)
    (case side2 => exact cYg.out)
    (case side3 => exact xcb bX0 HB)
    (case side4 => exact cYh.out)
    (case side5 => exact xcb bX9 HB)
    (case side6 => exact cYi.out)
    (case side7 => exact xcb bYa HB)
    (case side8 => exact cYj.out)
    rintro e w18 ⟨rfl, hb⟩
    refine ⟨_, rfl, ?_⟩
    replace wG := xbb wG hb
    replace aFm := xbb aFm hb
    replace HB := xhl HB hb
    skip
    (try clear hb)
    (try clear iV)
    (try clear hk)
    (try clear hi)
    refine hK.out _ _ ⟨(blk_cell wG.out 0).trans rfl, (blk_cell aFm.out 0).trans rfl, (xcl HB bJy), (xcl HB bJx), (xcl HB bJw), (xcl HB bJv), (xcl HB bJ6), (xcl HB bJ5), (xcl HB bJ4), (xcl HB bJ3), (xcl HB bXy), (xcl HB bXx), (xcl HB bXw), (xcl HB bXv), (xcl HB bX8), (xcl HB bX7), (xcl HB bX6), (xcl HB bX5)⟩ (fun hHeld => ?_)
    clear hK K
    refine norm_ (a' := ?_) ?_ ?_
    rotate_left
    · show Act.put _ (some 46) _ = _
      simp only [Act.put, List.setIfInBounds_toArray, List.set_cons_zero, List.set_cons_succ, i64_w, i32_w]
      rfl
    refine pu 27 47 Z29 HT_ rfl rfl (h := ?_)
    refine pu 28 48 Z30 HT_ rfl rfl (h := ?_)
    refine done_ (done_of HT_.out (by kernel_rfl)) ?_
    try go_wp2
    go_roundg k1
    case measure => have := yS.out; omega
    case rel => exact ⟨(wrap64 (dC + 1)), xrs, H', ⟨by have := yS.out; omega⟩, xk wG, xk aFm, xb HB⟩
def zS.f (dP : Int) (eEa : Int) (dZ : List Int) (dFh : List Int) (a1 : Int) : Option (Int) := some (wrap64 (dP - a1))
set_option maxHeartbeats 8000000 in
set_option maxRecDepth 100000 in
theorem zS.calls (dP : Int) (eEa : Int) (mE : Option Addr) (mF : Nat) (dZ : List Int) (eSe : Option Addr) (eSf : Nat) (dFh : List Int) (a1 : Int) (r : Int) (w : World) (aD6 : Kd.C (Kd.int .i64) w mE dZ.length dZ) (aD5 : dZ.length ≤ mF) (fAs : Kd.C (Kd.int .u8) w eSe dFh.length dFh) (fAt : dFh.length ≤ eSf) (h : zS.f dP eEa dZ dFh a1 = some r) :
  Calls Try.prog 58 #[.agg #[.int .i64 dP, .int .i64 eEa, .slice mE dZ.length mF, .slice eSe dFh.length eSf], .int .i64 a1] w fun e w' => e = .returned (.int .i64 r) ∧ Below w.heap.size w w' := by
  have cRq := Try.underlying46
  have aF0 := aZ aD6
  have aNm := aZ aD5
  clear aD6 aD5
  have iBo := aZ fAs
  have iBp := aZ fAt
  clear fAs fAt
  have HB := aZ (Below.refl w.heap.size w)
  have H : (some (wrap64 (dP - a1))) = some r := h
  clear h
  obtain rfl := Option.some.inj H
  go_enter Try.func58, Try.ntmps58
  go_wp2_with (first | ((with_reducible refine gate_dst (N := 2) rfl ?_); refine box_event ?hg (N := 2) ?hd (cs := #[.int .i64 dP, .int .i64 eEa, .slice mE dZ.length mF, .slice eSe dFh.length eSf]) (t := 46) ?hr ?_; (case hd => rfl); (case hg => rfl); (case hr => first | (go_simp; done) | (go_simp; rfl)); intro dRy hg w3 hbox hb; have cHk := aZ (hbox); have iBq := xgh hg HB; have iBr := xgh hg HB; replace HB := xhl HB hb; clear hb hbox hg; have cVu : w3.cell? ⟨dRy, 0, none⟩ = some (.int .i64 dP) := (blk_cell cHk.out 0).trans rfl; have eB1 : w3.cell? ⟨dRy, 1, none⟩ = some (.int .i64 eEa) := (blk_cell cHk.out 1).trans rfl; have hJk : w3.cell? ⟨dRy, 2, none⟩ = some (.slice mE dZ.length mF) := (blk_cell cHk.out 2).trans rfl; have hJl : w3.cell? ⟨dRy, 3, none⟩ = some (.slice eSe dFh.length eSf) := (blk_cell cHk.out 3).trans rfl; have cVv := blk_frozen cHk.out 0; have eB2 := blk_frozen cHk.out 1; have hJm := blk_frozen cHk.out 2; have hJn := blk_frozen cHk.out 3))
  go_ret
  exact ⟨xre, xq HB⟩
def api_StoredObject_int.l0 : Nat → List (fB) → Int → Int → Int → Int → Option (Int × Bool)
  | 0, _, _, _, _, _ => none
  | k + 1, x0, x1, x8, x9, x10 => if x9 < x10 then (if 0 ≤ (wrap64 ((IntKind.u64.wrap (wrap64 (x9 + x10))) / 2)) then (if (wrap64 ((IntKind.u64.wrap (wrap64 (x9 + x10))) / 2)) < (x0.length : Int) then ((zS.f ((aA x0 (wrap64 ((IntKind.u64.wrap (wrap64 (x9 + x10))) / 2))).f0) ((aA x0 (wrap64 ((IntKind.u64.wrap (wrap64 (x9 + x10))) / 2))).f1.f0) ((aA x0 (wrap64 ((IntKind.u64.wrap (wrap64 (x9 + x10))) / 2))).f1.f1) ((aA x0 (wrap64 ((IntKind.u64.wrap (wrap64 (x9 + x10))) / 2))).f1.f2) x1).bind fun cRr => (if cRr < 0 then (api_StoredObject_int.l0 k x0 x1 x8 (wrap64 ((wrap64 ((IntKind.u64.wrap (wrap64 (x9 + x10))) / 2)) + 1)) x10) else (api_StoredObject_int.l0 k x0 x1 x8 x9 (wrap64 ((IntKind.u64.wrap (wrap64 (x9 + x10))) / 2))))) else (none)) else (none)) else (if x9 < x8 then (if 0 ≤ x9 then (if x9 < (x0.length : Int) then ((zS.f ((aA x0 x9).f0) ((aA x0 x9).f1.f0) ((aA x0 x9).f1.f1) ((aA x0 x9).f1.f2) x1).bind fun eR9 => (some (x9, (eR9 == 0)))) else (none)) else (none)) else (some (x9, false)))
def api_StoredObject_int.f (k : Nat) (l0 : List (fB)) (a1 : Int) : Option (Int × Bool) := api_StoredObject_int.l0 k l0 a1 (l0.length : Int) 0 (l0.length : Int)
theorem api_StoredObject_int.mono_l : ∀ k, (∀ y0 y1 y2 y3 y4, LeO (api_StoredObject_int.l0 k y0 y1 y2 y3 y4) (api_StoredObject_int.l0 (k + 1) y0 y1 y2 y3 y4))
  | 0 => fun _ _ _ _ _ r h => by simp [api_StoredObject_int.l0] at h
  | k + 1 => by
    have mU := api_StoredObject_int.mono_l k
    · intro y0 y1 y2 y3 y4
      unfold api_StoredObject_int.l0
      repeat' first | (with_reducible first | exact mU _ _ _ _ _ | exact LeO.refl _ | exact LeO.none _ | refine LeO.ite ?_ ?_ | refine LeO.bind ?_ (fun _ => ?_)) | exact mU _ _ _ _ _ | exact LeO.none _ | refine LeO.ite ?_ ?_ | refine LeO.bind ?_ (fun _ => ?_)
theorem api_StoredObject_int.mono : ∀ a0 a1 k, LeO (api_StoredObject_int.f k a0 a1) (api_StoredObject_int.f (k + 1) a0 a1) := by
  intro a0 a1 k
  have mU := api_StoredObject_int.mono_l k
  unfold api_StoredObject_int.f
  repeat' first | (with_reducible first | exact mU _ _ _ _ _ | exact LeO.refl _ | exact LeO.none _ | refine LeO.ite ?_ ?_ | refine LeO.bind ?_ (fun _ => ?_)) | exact mU _ _ _ _ _ | exact LeO.none _ | refine LeO.ite ?_ ?_ | refine LeO.bind ?_ (fun _ => ?_)
set_option maxHeartbeats 8000000 in
set_option maxRecDepth 100000 in
theorem api_StoredObject_int.calls (k : Nat) (A0 : Option Addr) (c0 : Nat) (l0 : List (fB)) (a1 : Int) (r1 : Int) (r2 : Bool) (w : World) (hr0 : Kd.C qL w A0 l0.length l0) (hc0 : l0.length ≤ c0) (h : api_StoredObject_int.f k l0 a1 = some (r1, r2)) :
  Calls Try.prog 57 #[.slice A0 l0.length c0, .int .i64 a1, .func (.func 58) #[] #[]] w fun e w' => e = .returned (.tuple #[.int .i64 r1, .bool r2]) ∧ Below w.heap.size w w' := by
  have cRq := Try.underlying46
  have HR0 := aZ hr0
  have HC0 := aZ hc0
  clear hr0 hc0
  have HB := aZ (Below.refl w.heap.size w)
  have H : (api_StoredObject_int.l0 k l0 a1 (l0.length : Int) 0 (l0.length : Int)) = some (r1, r2) := h
  clear h
  have H' := aZ H
  clear H
  go_enter Try.func57, Try.ntmps57
  go_wp2
  go_loopg [9, 10] k (fun kq v9 v10 w' => ∃ (aAr : Int) (jO : Int), v9 = .int .i64 aAr ∧ v10 = .int .i64 jO ∧ Aside0 (api_StoredObject_int.l0 kq l0 a1 (l0.length : Int) aAr jO = some (r1, r2)) ∧ Aside0 (kq ≤ k) ∧ Aside0 (Below w.heap.size w w'))
  case atStart => exact ⟨(0), ((l0.length : Int)), xrs, xrs, H', ⟨Nat.le_refl _⟩, xb HB⟩
  case round =>
   clear H'
   obtain ⟨aAr, jO, rfl, rfl, HA, yS, HB⟩ := hrel
   cases gk with
   | zero => exact absurd HA.out (by simp [api_StoredObject_int.l0])
   | succ k1 =>
    have H := HA.out
    clear HA
    simp only [api_StoredObject_int.l0] at H
    by_cases c3 : aAr < jO
    rotate_left
    · rw [if_neg c3] at H
      have aNk : decide (aAr < jO) = false := decide_eq_false c3
      clear c3
      by_cases c11 : aAr < (l0.length : Int)
      rotate_left
      · rw [if_neg c11] at H
        have cG6 : decide (aAr < (l0.length : Int)) = false := decide_eq_false c11
        clear c11
        simp only [Option.some.injEq, Prod.mk.injEq] at H
        obtain ⟨rfl, rfl⟩ := H
        go_wp2
        go_ret2
        exact ⟨xre, xq HB⟩

      rw [if_pos c11] at H
      have cG6 : decide (aAr < (l0.length : Int)) = true := decide_eq_true c11
      clear c11
      by_cases c12 : 0 ≤ aAr
      rotate_left
      · rw [if_neg c12] at H
        exact absurd H (by simp)
      rw [if_pos c12] at H
      have cS3 : decide (0 ≤ aAr) = true := decide_eq_true c12
      clear c12
      by_cases c13 : aAr < (l0.length : Int)
      rotate_left
      · rw [if_neg c13] at H
        exact absurd H (by simp)
      rw [if_pos c13] at H
      have bMu : decide (aAr < (l0.length : Int)) = true := decide_eq_true c13
      clear c13
      replace H := Option.bind_eq_some_iff.mp H
      obtain ⟨eR9, cCi, H⟩ := H
      replace H : (some (aAr, (eR9 == 0))) = some (r1, r2) := H
      have A14 := aZ cCi
      clear cCi
      simp only [Option.some.injEq, Prod.mk.injEq] at H
      obtain ⟨rfl, rfl⟩ := H
      have fGw : 0 ≤ (aAr : Int) := of_decide_eq_true xas
      have fGx : aAr < (l0.length : Int) := of_decide_eq_true xas
      obtain ⟨iBm, hJf, hJg, hJh, hJi, hJj, dRq, dRr, dRs, dRt, dRu, dRv, dRw, dRx⟩ := gY HR0.out aAr fGw fGx
      cases hJj
      replace dRq := xcl HB dRq
      replace dRr := xcl HB dRr
      replace dRs := xcl HB dRs
      replace dRt := xcl HB dRt
      have eSa := aZ dRv
      have eSb := aZ dRu
      clear dRv dRu
      have eSc := aZ dRx
      have eSd := aZ dRw
      clear dRx dRw
      replace fGw := eq_true fGw
      replace fGx := eq_true fGx
      go_wp2_with (first | (go_at_call 58; (with_reducible refine (zS.calls ((aA l0 aAr).f0) ((aA l0 aAr).f1.f0) _ _ ((aA l0 aAr).f1.f1) _ _ ((aA l0 aAr).f1.f2) a1 eR9 _ ?side1 ?side2 ?side3 ?side4 A14.out).mono ?_); (case side1 => exact xcb eSa HB); (case side2 => exact eSb.out); (case side3 => exact xcb eSc HB); (case side4 => exact eSd.out); rintro e w15 ⟨rfl, hb⟩; replace HB := xhl HB hb; skip; (try clear hb); (try clear iV); (try clear hk); (try clear hi)))
      go_ret2
      exact ⟨xre, xq HB⟩
    rw [if_pos c3] at H
    have aNk : decide (aAr < jO) = true := decide_eq_true c3
    clear c3
    obtain ⟨ji4, eD9⟩ : ∃ j_ : Int, (wrap64 ((IntKind.u64.wrap (wrap64 (aAr + jO))) / 2)) = j_ := ⟨_, rfl⟩
    replace H : (if 0 ≤ (ji4) then (if (ji4) < (l0.length : Int) then ((zS.f ((aA l0 (ji4)).f0) ((aA l0 (ji4)).f1.f0) ((aA l0 (ji4)).f1.f1) ((aA l0 (ji4)).f1.f2) a1).bind fun cRr => (if cRr < 0 then (api_StoredObject_int.l0 k1 l0 a1 (l0.length : Int) (wrap64 ((ji4) + 1)) jO) else (api_StoredObject_int.l0 k1 l0 a1 (l0.length : Int) aAr ji4))) else (none)) else (none)) = some (r1, r2) := by first | (rw [eD9] at H; exact H) | (simp only [eD9] at H ⊢; exact H)
    have iBn : (IntKind.i64.wrap ((IntKind.u64.wrap (wrap64 (aAr + jO))) / 2)) = ji4 := (i64_w _).trans eD9
    by_cases c5 : 0 ≤ (ji4)
    rotate_left
    · rw [if_neg c5] at H
      exact absurd H (by simp)
    rw [if_pos c5] at H
    have bAy : decide (0 ≤ (ji4)) = true := decide_eq_true c5
    clear c5
    by_cases c6 : (ji4) < (l0.length : Int)
    rotate_left
    · rw [if_neg c6] at H
      exact absurd H (by simp)
    rw [if_pos c6] at H
    have aWf : decide ((ji4) < (l0.length : Int)) = true := decide_eq_true c6
    clear c6
    replace H := Option.bind_eq_some_iff.mp H
    obtain ⟨cRr, A70, H⟩ := H
    replace H : (if cRr < 0 then (api_StoredObject_int.l0 k1 l0 a1 (l0.length : Int) (wrap64 ((ji4) + 1)) jO) else (api_StoredObject_int.l0 k1 l0 a1 (l0.length : Int) aAr ji4)) = some (r1, r2) := H
    have A7 := aZ A70
    clear A70
    by_cases c8 : cRr < 0
    rotate_left
    · rw [if_neg c8] at H
      have bTn : decide (cRr < 0) = false := decide_eq_false c8
      clear c8
      have H' := aZ H
      clear H
      have dKt : 0 ≤ ((ji4) : Int) := of_decide_eq_true xas
      have dKu : (ji4) < (l0.length : Int) := of_decide_eq_true xas
      obtain ⟨fYm, fGy, fGz, fG0, fG1, fG2, bWz, bW0, bW1, bW2, bW3, bW4, bW5, bW6⟩ := gY HR0.out (ji4) dKt dKu
      cases fG2
      replace bWz := xcl HB bWz
      replace bW0 := xcl HB bW0
      replace bW1 := xcl HB bW1
      replace bW2 := xcl HB bW2
      have cXs := aZ bW4
      have cXt := aZ bW3
      clear bW4 bW3
      have cXu := aZ bW6
      have cXv := aZ bW5
      clear bW6 bW5
      replace dKt := eq_true dKt
      replace dKu := eq_true dKu
      go_wp2_with (first | (go_at_call 58; (with_reducible refine (zS.calls ((aA l0 (ji4)).f0) ((aA l0 (ji4)).f1.f0) _ _ ((aA l0 (ji4)).f1.f1) _ _ ((aA l0 (ji4)).f1.f2) a1 cRr _ ?side1 ?side2 ?side3 ?side4 A7.out).mono ?_); (case side1 => exact xcb cXs HB); (case side2 => exact cXt.out); (case side3 => exact xcb cXu HB); (case side4 => exact cXv.out); rintro e w10 ⟨rfl, hb⟩; replace HB := xhl HB hb; skip; (try clear hb); (try clear iV); (try clear hk); (try clear hi)))
      go_roundg k1
      case measure => have := yS.out; omega
      case rel => exact ⟨(aAr), (ji4), xrs, (by first | rfl | (simp; done) | (simp only [← eD9] <;> (first | rfl | simp)) | (simp [*]; done)), H', ⟨by have := yS.out; omega⟩, xb HB⟩
    rw [if_pos c8] at H
    have bTn : decide (cRr < 0) = true := decide_eq_true c8
    clear c8
    have H' := aZ H
    clear H
    have dKt : 0 ≤ ((ji4) : Int) := of_decide_eq_true xas
    have dKu : (ji4) < (l0.length : Int) := of_decide_eq_true xas
    obtain ⟨fYm, fGy, fGz, fG0, fG1, fG2, bWz, bW0, bW1, bW2, bW3, bW4, bW5, bW6⟩ := gY HR0.out (ji4) dKt dKu
    cases fG2
    replace bWz := xcl HB bWz
    replace bW0 := xcl HB bW0
    replace bW1 := xcl HB bW1
    replace bW2 := xcl HB bW2
    have cXs := aZ bW4
    have cXt := aZ bW3
    clear bW4 bW3
    have cXu := aZ bW6
    have cXv := aZ bW5
    clear bW6 bW5
    replace dKt := eq_true dKt
    replace dKu := eq_true dKu
    go_wp2_with (first | (go_at_call 58; (with_reducible refine (zS.calls ((aA l0 (ji4)).f0) ((aA l0 (ji4)).f1.f0) _ _ ((aA l0 (ji4)).f1.f1) _ _ ((aA l0 (ji4)).f1.f2) a1 cRr _ ?side1 ?side2 ?side3 ?side4 A7.out).mono ?_); (case side1 => exact xcb cXs HB); (case side2 => exact cXt.out); (case side3 => exact xcb cXu HB); (case side4 => exact cXv.out); rintro e w9 ⟨rfl, hb⟩; replace HB := xhl HB hb; skip; (try clear hb); (try clear iV); (try clear hk); (try clear hi)))
    go_roundg k1
    case measure => have := yS.out; omega
    case rel => exact ⟨(wrap64 ((ji4) + 1)), (jO), (by first | rfl | (simp; done) | (simp only [← eD9] <;> (first | rfl | simp)) | (simp [*]; done)), xrs, H', ⟨by have := yS.out; omega⟩, xb HB⟩
def objects_find.f (k : Nat) (aD : List (fB)) (a1 : Int) : Option (Int × Bool) := (api_StoredObject_int.f k aD a1).bind fun dFg => (some (dFg.1, dFg.2))
theorem objects_find.mono : ∀ a0 a1 k, LeO (objects_find.f k a0 a1) (objects_find.f (k + 1) a0 a1) := by
  intro a0 a1 k
  unfold objects_find.f
  repeat' first | (with_reducible first | exact api_StoredObject_int.mono _ _ _ | exact LeO.refl _ | exact LeO.none _ | refine LeO.ite ?_ ?_ | refine LeO.bind ?_ (fun _ => ?_)) | exact api_StoredObject_int.mono _ _ _ | exact LeO.none _ | refine LeO.ite ?_ ?_ | refine LeO.bind ?_ (fun _ => ?_)
set_option maxHeartbeats 8000000 in
set_option maxRecDepth 100000 in
theorem objects_find.calls (k : Nat) (bP : Option Addr) (bK : Nat) (aD : List (fB)) (a1 : Int) (r1 : Int) (r2 : Bool) (w : World) (mZ : Kd.C qL w bP aD.length aD) (nA : aD.length ≤ bK) (h : objects_find.f k aD a1 = some (r1, r2)) :
  Calls Try.prog 48 #[.agg #[.slice bP aD.length bK], .int .i64 a1] w fun e w' => e = .returned (.tuple #[.int .i64 r1, .bool r2]) ∧ Below w.heap.size w w' := by
  have aP7 := Try.underlying24
  have fI := aZ mZ
  have lC := aZ nA
  clear mZ nA
  have HB := aZ (Below.refl w.heap.size w)
  have H : ((api_StoredObject_int.f k aD a1).bind fun dFg => (some (dFg.1, dFg.2))) = some (r1, r2) := h
  clear h
  replace H := Option.bind_eq_some_iff.mp H
  obtain ⟨⟨fYj, fYk⟩, A30, H⟩ := H
  replace H : (some (fYj, fYk)) = some (r1, r2) := H
  have A3 := aZ A30
  clear A30
  simp only [Option.some.injEq, Prod.mk.injEq] at H
  obtain ⟨rfl, rfl⟩ := H
  go_enter Try.func48, Try.ntmps48
  go_wp2_with (first | ((with_reducible refine gate_dst (N := 2) rfl ?_); refine box_event ?hg (N := 2) ?hd (cs := #[.slice bP aD.length bK]) (t := 24) ?hr ?_; (case hd => rfl); (case hg => rfl); (case hr => first | (go_simp; done) | (go_simp; rfl)); intro fYl hg w4 hbox hb; have dRp := aZ (hbox); have iBk := xgh hg HB; have iBl := xgh hg HB; replace HB := xhl HB hb; clear hb hbox hg; have dKs : w4.cell? ⟨fYl, 0, none⟩ = some (.slice bP aD.length bK) := (blk_cell dRp.out 0).trans rfl; have eD8 := blk_frozen dRp.out 0) | ((with_reducible refine gate_callee (f := 57) rfl ?_); refine goesL_ (some 9) rfl rfl Try.func57 (by kernel_rfl) rfl #[.slice bP aD.length bK, .int .i64 a1, .func (.func 58) #[] #[]] rfl xmp ?_; (with_reducible refine (api_StoredObject_int.calls k _ _ aD a1 fYj fYk _ ?side1 ?side2 A3.out).mono ?_); (case side1 => exact xcb fI HB); (case side2 => exact lC.out); rintro e w6 ⟨rfl, hb⟩; refine ⟨_, rfl, ?_⟩; replace dRp := xbb dRp hb; replace HB := xhl HB hb; skip; (try clear hb); (try clear iV); (try clear hk); (try clear hi)))
  go_ret2
  exact ⟨xre, xq HB⟩
def slices_Clone_int_int.f (l0 : List Int) : Option (List Int) := (some (([] : List Int) : List Int)).bind fun cOa => (if cOa.length + l0.length < 17592186044416 then (some (cOa ++ l0)) else (none))
set_option maxHeartbeats 8000000 in
set_option maxRecDepth 100000 in
theorem slices_Clone_int_int.calls (A0 : Option Addr) (c0 : Nat) (l0 : List Int) (r : List Int) (w : World) (hr0 : Kd.C (Kd.int .i64) w A0 l0.length l0) (hc0 : l0.length ≤ c0) (h : slices_Clone_int_int.f l0 = some r) :
  Calls Try.prog 63 #[.slice A0 l0.length c0] w fun e w' => ∃ v0_ : Value, e = .returned (v0_) ∧ Kd.R (Kd.int .i64) 3 w' w.heap.size (fun _ => True) v0_ r ∧ Below w.heap.size w w' := by
  by_cases hA_ : A0 = none
  · subst hA_
    have hl_ : l0 = [] := by
     rcases Nat.eq_zero_or_pos l0.length with h0_ | h0_
     · exact List.eq_nil_of_length_eq_zero h0_
     · obtain ⟨_, e_, _⟩ := hr0.2.2 h0_; cases e_
    subst hl_
    have hr_ : r = [] := by
     simp [slices_Clone_int_int.f] at h
     first | exact h | exact h.symm
    subst hr_
    clear h hr0 hc0
    have hq_ := fun (W : World) => Lib.run_eql_slice_nil (P := Try.prog) W 42 3 none 0 c0 0 0 Try.underlying42
    go_enter Try.func63, Try.ntmps63
    go_wp2
    go_ret
    exact ⟨_, rfl, Kd.R_nil _ _ _ _ _, Below.refl _ _⟩
  have hn_ : A0.isNone = false := by cases A0 <;> simp_all
  clear hA_
  have hq_ := fun (W : World) => Lib.run_eql_slice_nil (P := Try.prog) W 42 3 A0 l0.length c0 0 0 Try.underlying42
  have HR0 := aZ hr0
  have HC0 := aZ hc0
  clear hr0 hc0
  have HB := aZ (Below.refl w.heap.size w)
  have H : ((some (([] : List Int) : List Int)).bind fun cOa => (if cOa.length + l0.length < 17592186044416 then (some (cOa ++ l0)) else (none))) = some r := h
  clear h
  obtain ⟨cOa, dFi⟩ : ∃ y_ : List Int, y_ = (([] : List Int)) := ⟨_, rfl⟩
  replace H : (if cOa.length + l0.length < 17592186044416 then (some (cOa ++ l0)) else (none)) = some r := by first | (rw [dFi]; with_reducible exact H) | (have qY := (Option.bind_some _ _).symm.trans H; rw [dFi]; with_reducible exact qY) | (have qY := (Option.bind_some _ _).symm.trans H; with_reducible exact qY) | with_reducible exact H | (rw [dFi]; exact H) | exact H
  have fAy := aZ dFi
  clear dFi
  by_cases c2 : cOa.length + l0.length < 17592186044416
  rotate_left
  · rw [if_neg c2] at H
    exact absurd H (by simp)

  rw [if_pos c2] at H
  have fG4 := aZ c2
  clear c2
  obtain ⟨hJo, dFj⟩ : ∃ y_ : List Int, y_ = (cOa ++ l0) := ⟨_, rfl⟩
  replace H : (some hJo) = some r := by first | (rw [dFj]; with_reducible exact H) | (have qY := (Option.bind_some _ _).symm.trans H; rw [dFj]; with_reducible exact qY) | (have qY := (Option.bind_some _ _).symm.trans H; with_reducible exact qY) | with_reducible exact H | (rw [dFj]; exact H) | exact H
  have fYp := aZ dFj
  clear dFj
  obtain rfl := Option.some.inj H
  go_enter Try.func63, Try.ntmps63
  go_wp2_with (first | ((with_reducible refine gate_dst (N := 5) rfl ?_); refine Kd.R_lit (Kd.int .i64) _ 3 ?hg (N := 5) ?hd (xs := ([] : List Int)) (inner := []) (ok := fun _ => True) (okp := fun _ => True) ?hr ?hp (fun _ hk => hk) trivial (Below.refl _ _) (Nat.le_refl _) (by simp) ?_; (case hd => rfl); (case hg => rfl); (case hr => first | (go_simp; done) | (go_simp; rfl)); (case hp => exact (Reps.none _ _)); intro hJp w3 ho4 hb hg_ hnew_; clear hg_ hnew_; (first | rw [← fAy.out] at ho4 | (simp only [Int.reduceToNat] at ho4; rw [← fAy.out] at ho4)); have fAz := aZ (Kd.R_lower ho4 (lZ (by repeat (first | (with_reducible first | exact HB.out | apply lA | apply lN | apply lD) | exact HB.out)))); replace HB := xhl HB hb; clear hb ho4) | ((with_reducible refine gate_builtin (b := .append) (xs := #[.tmp 5, .tmp 6]) rfl ?_); at_builtin; refine Kd.R_append_rows (Kd.int .i64) (w0 := w) w.heap.size rfl (.tmp 5) (.tmp 6) 42 3 (.int .i64 0) 8 rfl Try.underlying42 info3 rfl (by decide) (by omega) hJp cOa l0 _ _ _ (fun _ => True) (fun _ => False) rfl rfl ?aO ?aR (fun _ _ h => h) (fun _ h => h.elim) ?aF ?aB ?aS ?aL ?_; (case aR => exact xcb HR0 HB); (case aB => exact (by repeat (first | (with_reducible first | exact HB.out | apply lA | apply lN | apply lD) | exact HB.out))); (case aF => exact (fun _ _ => trivial)); (case aO => exact (by (with_reducible repeat (first | apply Kd.rA | apply Kd.rN | apply Kd.rD)); exact fAz.out)); (case aS => exact (lZ (by repeat (first | (with_reducible first | exact HB.out | apply lA | apply lN | apply lD) | exact HB.out)))); (case aL => have := fG4.out; omega); intro iHm w5 ho hb hg hat; rw [← fYp.out] at ho; replace HB := aZ (hb); have fYq := aZ (ho); clear fAz; clear ho hb hg hat))
  go_ret
  exact ⟨_, xre, by (with_reducible repeat (first | apply Kd.rA | apply Kd.rN | apply Kd.rD)); exact fYq.out, xq HB⟩
def bytes_Clone.f (l0 : List Int) : Option (List Int) := (some (([] : List Int) : List Int)).bind fun cOb => (if cOb.length + l0.length < 140737488355328 then (some (cOb ++ l0)) else (none))
set_option maxHeartbeats 8000000 in
set_option maxRecDepth 100000 in
theorem bytes_Clone.calls (A0 : Option Addr) (c0 : Nat) (l0 : List Int) (r : List Int) (w : World) (hr0 : Kd.C (Kd.int .u8) w A0 l0.length l0) (hc0 : l0.length ≤ c0) (h : bytes_Clone.f l0 = some r) :
  Calls Try.prog 64 #[.slice A0 l0.length c0] w fun e w' => ∃ v0_ : Value, e = .returned (v0_) ∧ Kd.R (Kd.int .u8) 5 w' w.heap.size (fun _ => True) v0_ r ∧ Below w.heap.size w w' := by
  by_cases hA_ : A0 = none
  · subst hA_
    have hl_ : l0 = [] := by
     rcases Nat.eq_zero_or_pos l0.length with h0_ | h0_
     · exact List.eq_nil_of_length_eq_zero h0_
     · obtain ⟨_, e_, _⟩ := hr0.2.2 h0_; cases e_
    subst hl_
    have hr_ : r = [] := by
     simp [bytes_Clone.f] at h
     first | exact h | exact h.symm
    subst hr_
    clear h hr0 hc0
    have hq_ := fun (W : World) => Lib.run_eql_slice_nil (P := Try.prog) W 26 5 none 0 c0 0 0 Try.underlying26
    go_enter Try.func64, Try.ntmps64
    go_wp2
    go_ret
    exact ⟨_, rfl, Kd.R_nil _ _ _ _ _, Below.refl _ _⟩
  have hn_ : A0.isNone = false := by cases A0 <;> simp_all
  clear hA_
  have hq_ := fun (W : World) => Lib.run_eql_slice_nil (P := Try.prog) W 26 5 A0 l0.length c0 0 0 Try.underlying26
  have HR0 := aZ hr0
  have HC0 := aZ hc0
  clear hr0 hc0
  have HB := aZ (Below.refl w.heap.size w)
  have H : ((some (([] : List Int) : List Int)).bind fun cOb => (if cOb.length + l0.length < 140737488355328 then (some (cOb ++ l0)) else (none))) = some r := h
  clear h
  obtain ⟨cOb, dFk⟩ : ∃ y_ : List Int, y_ = (([] : List Int)) := ⟨_, rfl⟩
  replace H : (if cOb.length + l0.length < 140737488355328 then (some (cOb ++ l0)) else (none)) = some r := by first | (rw [dFk]; with_reducible exact H) | (have qY := (Option.bind_some _ _).symm.trans H; rw [dFk]; with_reducible exact qY) | (have qY := (Option.bind_some _ _).symm.trans H; with_reducible exact qY) | with_reducible exact H | (rw [dFk]; exact H) | exact H
  have fA0 := aZ dFk
  clear dFk
  by_cases c2 : cOb.length + l0.length < 140737488355328
  rotate_left
  · rw [if_neg c2] at H
    exact absurd H (by simp)

  rw [if_pos c2] at H
  have fG4 := aZ c2
  clear c2
  obtain ⟨hJq, dFl⟩ : ∃ y_ : List Int, y_ = (cOb ++ l0) := ⟨_, rfl⟩
  replace H : (some hJq) = some r := by first | (rw [dFl]; with_reducible exact H) | (have qY := (Option.bind_some _ _).symm.trans H; rw [dFl]; with_reducible exact qY) | (have qY := (Option.bind_some _ _).symm.trans H; with_reducible exact qY) | with_reducible exact H | (rw [dFl]; exact H) | exact H
  have fYr := aZ dFl
  clear dFl
  obtain rfl := Option.some.inj H
  go_enter Try.func64, Try.ntmps64
  go_wp2_with (first | ((with_reducible refine gate_dst (N := 5) rfl ?_); refine Kd.R_lit (Kd.int .u8) _ 5 ?hg (N := 5) ?hd (xs := ([] : List Int)) (inner := []) (ok := fun _ => True) (okp := fun _ => True) ?hr ?hp (fun _ hk => hk) trivial (Below.refl _ _) (Nat.le_refl _) (by simp) ?_; (case hd => rfl); (case hg => rfl); (case hr => first | (go_simp; done) | (go_simp; rfl)); (case hp => exact (Reps.none _ _)); intro hJr w3 ho4 hb hg_ hnew_; clear hg_ hnew_; (first | rw [← fA0.out] at ho4 | (simp only [Int.reduceToNat] at ho4; rw [← fA0.out] at ho4)); have fA1 := aZ (Kd.R_lower ho4 (lZ (by repeat (first | (with_reducible first | exact HB.out | apply lA | apply lN | apply lD) | exact HB.out)))); replace HB := xhl HB hb; clear hb ho4) | ((with_reducible refine gate_builtin (b := .append) (xs := #[.tmp 5, .tmp 6]) rfl ?_); at_builtin; refine Kd.R_append_rows (Kd.int .u8) (w0 := w) w.heap.size rfl (.tmp 5) (.tmp 6) 26 5 (.int .u8 0) 1 rfl Try.underlying26 aFk rfl (by decide) (by omega) hJr cOb l0 _ _ _ (fun _ => True) (fun _ => False) rfl rfl ?aO ?aR (fun _ _ h => h) (fun _ h => h.elim) ?aF ?aB ?aS ?aL ?_; (case aR => exact xcb HR0 HB); (case aB => exact (by repeat (first | (with_reducible first | exact HB.out | apply lA | apply lN | apply lD) | exact HB.out))); (case aF => exact (fun _ _ => trivial)); (case aO => exact (by (with_reducible repeat (first | apply Kd.rA | apply Kd.rN | apply Kd.rD)); exact fA1.out)); (case aS => exact (lZ (by repeat (first | (with_reducible first | exact HB.out | apply lA | apply lN | apply lD) | exact HB.out)))); (case aL => have := fG4.out; omega); intro iHn w5 ho hb hg hat; rw [← fYr.out] at ho; replace HB := aZ (hb); have fYs := aZ (ho); clear fA1; clear ho hb hg hat))
  go_ret
  exact ⟨_, xre, by (with_reducible repeat (first | apply Kd.rA | apply Kd.rN | apply Kd.rD)); exact fYs.out, xq HB⟩
def objects_Clone.f (dP : Int) (dA : List Int) (dZ : List Int) : Option (Int × List Int × List Int) := (slices_Clone_int_int.f dA).bind fun cN8 => ((bytes_Clone.f dZ).bind fun cN9 => (some (dP, cN8, cN9)))
def objects_Clone.T1 : Bool × List (List Nat × List Nat) := (true, [([], []), ([0], [0]), ([], []), ([2], [2]), ([3], [3]), ([], []), ([5], [5]), ([6, 4], [6]), ([1, 4, 7], [1, 4, 7]), ([8, 7, 0, 1, 2, 3, 4, 5, 6, 7, 8], [8])])
def objects_Clone.B1 : List Nat := [0, 1, 0, 4, 12, 0, 32, 124, 255, 511]
theorem objects_Clone.tab1 : rtab .any (opsOf Try.f51 1) = objects_Clone.T1 := by kernel_rfl
theorem objects_Clone.bits1 : waitsOk objects_Clone.T1.2 objects_Clone.B1 = true := by kernel_rfl
set_option maxHeartbeats 8000000 in
set_option maxRecDepth 100000 in
theorem objects_Clone.calls (dP : Int) (nK : Option Addr) (mY : Nat) (dA : List Int) (mE : Option Addr) (mF : Nat) (dZ : List Int) (r1 : Int) (r2 : List Int) (r3 : List Int) (w : World) (aFz : Kd.C (Kd.int .i64) w nK dA.length dA) (aFy : dA.length ≤ mY) (aD6 : Kd.C (Kd.int .u8) w mE dZ.length dZ) (aD5 : dZ.length ≤ mF) (h : objects_Clone.f dP dA dZ = some (r1, r2, r3)) :
  Calls Try.prog 51 #[.agg #[.int .i64 dP, .slice nK dA.length mY, .slice mE dZ.length mF]] w fun e w' => ∃ v1_ v2_ : Value, e = .returned (.agg #[.int .i64 r1, v1_, v2_]) ∧ Kd.R (Kd.int .i64) 3 w' w.heap.size (fun _ => True) v1_ r2 ∧ Kd.R (Kd.int .u8) 5 w' w.heap.size (fun _ => True) v2_ r3 ∧ Below w.heap.size w w' := by
  have aQf := Try.underlying44
  have aCl := aZ aFz
  have aIz := aZ aFy
  clear aFz aFy
  have aF0 := aZ aD6
  have aNm := aZ aD5
  clear aD6 aD5
  have HB := aZ (Below.refl w.heap.size w)
  have H : ((slices_Clone_int_int.f dA).bind fun cN8 => ((bytes_Clone.f dZ).bind fun cN9 => (some (dP, cN8, cN9)))) = some (r1, r2, r3) := h
  clear h
  replace H := Option.bind_eq_some_iff.mp H
  obtain ⟨cN8, A20, H⟩ := H
  replace H : ((bytes_Clone.f dZ).bind fun cN9 => (some (dP, cN8, cN9))) = some (r1, r2, r3) := H
  have A2 := aZ A20
  clear A20
  replace H := Option.bind_eq_some_iff.mp H
  obtain ⟨cN9, A30, H⟩ := H
  replace H : (some (dP, cN8, cN9)) = some (r1, r2, r3) := H
  have A3 := aZ A30
  clear A30
  simp only [Option.some.injEq, Prod.mk.injEq] at H
  obtain ⟨rfl, rfl, rfl⟩ := H
  go_enter Try.func51, Try.ntmps51
  try go_wp2_with (first | ((with_reducible refine gate_dst (N := 1) rfl ?_); refine box_event ?hg (N := 1) ?hd (cs := #[.int .i64 dP, .slice nK dA.length mY, .slice mE dZ.length mF]) (t := 44) ?hr ?_; (case hd => rfl); (case hg => rfl); (case hr => first | (go_simp; done) | (go_simp; rfl)); intro eEc hg w4 hbox hb; have aOm := aZ (hbox); have iBs := xgh hg HB; have fAv := xgh hg HB; replace HB := xhl HB hb; clear hb hbox hg) | ((with_reducible refine gate_dst (N := 2) rfl ?_); refine box_event ?hg (N := 2) ?hd (cs := #[.int .i64 0, .slice none 0 0, .slice none 0 0]) (t := 44) ?hr ?_; (case hd => rfl); (case hg => rfl); (case hr => first | (go_simp; done) | (go_simp; rfl)); intro aQo hg w5 hbox hb; have aWv := aZ (hbox); have iBt := xgh hg HB; have fAw := xgh hg HB; replace HB := xhl HB hb; have aCx := xnl hg aOm; have cDn := xng hg aOm; replace aOm := xbb aOm hb; clear hb hbox hg))
  replace aOm := aZ (bD aOm.out)
  replace aWv := aZ (bD aWv.out)
  replace HB := aZ (lD HB.out)
  refine start_ (n := 10) (S := fun w' => w'.cell? ⟨eEc, 0, none⟩ = some (.int .i64 dP) ∧ w'.cell? ⟨eEc, 1, none⟩ = some (.slice nK dA.length mY) ∧ w'.cell? ⟨eEc, 2, none⟩ = some (.slice mE dZ.length mF)) (ds := []) #[false, false, false, false, false, false, false, false, false, false] (by kernel_rfl) rfl rfl ⟨(blk_cell aOm.out 0).trans rfl, (blk_cell aOm.out 1).trans rfl, (blk_cell aOm.out 2).trans rfl⟩ (fun hHeld => ?_); refine with_tabW objects_Clone.tab1 objects_Clone.bits1 (fun HT_ HW_ => ?_)
  generalize w5.drew = w6 at aOm aWv HB hHeld ⊢
  refine pu 0 3 #[true, false, false, false, false, false, false, false, false, false] HT_ rfl rfl (h := ?_)
  refine pu 2 5 #[true, false, true, false, false, false, false, false, false, false] HT_ rfl rfl (h := ?_)
  refine pu 5 8 #[true, false, true, false, false, true, false, false, false, false] HT_ rfl rfl (h := ?_)
  refine tk 1 4 #[true, true, true, false, false, true, false, false, false, false] HT_ HW_ rfl rfl hHeld (by rintro w' ⟨s0, s1, s2⟩; go_simp; with_reducible rfl) (h := ?_)
  refine tk 3 6 #[true, true, true, true, false, true, false, false, false, false] HT_ HW_ rfl rfl hHeld (by rintro w' ⟨s0, s1, s2⟩; go_simp; with_reducible rfl) (h := ?_)
  refine tk 6 9 #[true, true, true, true, false, true, true, false, false, false] HT_ HW_ rfl rfl hHeld (by rintro w' ⟨s0, s1, s2⟩; go_simp; with_reducible rfl) (h := ?_)
  refine one_ (i := 4) (N := some 7) #[true, true, true, true, true, true, true, false, false, false] rfl rfl (one_of HT_.out (by kernel_rfl)) (by decide) (fun K hK => ?_)
  refine goes_ Try.func63 (by kernel_rfl) rfl #[.slice nK dA.length mY] (by rfl) rfl rfl xmp ?_
  with_reducible refine (slices_Clone_int_int.calls _ _ dA cN8 _ ?side1 ?side2 A2.out).mono ?_
  (case side1 => exact xcb aCl HB)
  (case side2 => exact aIz.out)
  rintro e w7 ⟨iHh, rfl, gZ, hb⟩
  refine ⟨_, rfl, ?_⟩
  have dRz := aZ (Kd.R_lower gZ (lZ (by repeat (first | (with_reducible first | exact HB.out | apply lA | apply lN | apply lD | refine lS ?_ fAv.out | refine lS ?_ fAw.out) | exact HB.out))))
  replace aOm := xbb aOm hb
  replace aWv := xbb aWv hb
  replace HB := xhl HB hb
  (try clear hb)
  (try clear iV)
  (try clear hk)
  (try clear hi)
  (try clear gZ)
  refine hK.out _ _ ⟨(blk_cell aOm.out 0).trans rfl, (blk_cell aOm.out 1).trans rfl, (blk_cell aOm.out 2).trans rfl⟩ (fun hHeld => ?_)
  clear hK K
  refine norm_ (a' := ?_) ?_ ?_
  rotate_left
  · show Act.put _ (some 7) _ = _
    simp only [Act.put, List.setIfInBounds_toArray, List.set_cons_zero, List.set_cons_succ, i64_w, i32_w]
    rfl
  refine one_ (i := 7) (N := some 10) #[true, true, true, true, true, true, true, true, false, false] rfl rfl (one_of HT_.out (by kernel_rfl)) (by decide) (fun K hK => ?_)
  refine goes_ Try.func64 (by kernel_rfl) rfl #[.slice mE dZ.length mF] (by rfl) rfl rfl xmp ?_
  with_reducible refine (bytes_Clone.calls _ _ dZ cN9 _ ?side1 ?side2 A3.out).mono ?_
  (case side1 => exact xcb aF0 HB)
  (case side2 => exact aNm.out)
  rintro e w8 ⟨iHi, rfl, gZ, hb⟩
  refine ⟨_, rfl, ?_⟩
  replace dRz := xR dRz hb
  have fAx := aZ (Kd.R_lower gZ (lZ (by repeat (first | (with_reducible first | exact HB.out | apply lA | apply lN | apply lD | refine lS ?_ fAv.out | refine lS ?_ fAw.out) | exact HB.out))))
  replace aOm := xbb aOm hb
  replace aWv := xbb aWv hb
  replace HB := xhl HB hb
  (try clear hb)
  (try clear iV)
  (try clear hk)
  (try clear hi)
  (try clear gZ)
  obtain ⟨Ao9, co9, eo9⟩ := Kd.R_slice fAx.out
  (first | subst eo9 | (injection eo9 with f1_ f2_ f3_; have f4_ := f1_.symm; have f5_ := f3_.symm; clear f1_ f2_ f3_; subst f4_; subst f5_))
  obtain ⟨bT9, bUa, eSg⟩ := Kd.R_slice dRz.out
  (first | subst eSg | (injection eSg with f1_ f2_ f3_; have f4_ := f1_.symm; have f5_ := f3_.symm; clear f1_ f2_ f3_; subst f4_; subst f5_))
  refine hK.out _ _ ⟨(blk_cell aOm.out 0).trans rfl, (blk_cell aOm.out 1).trans rfl, (blk_cell aOm.out 2).trans rfl⟩ (fun hHeld => ?_)
  clear hK K
  refine norm_ (a' := ?_) ?_ ?_
  rotate_left
  · show Act.put _ (some 10) _ = _
    simp only [Act.put, List.setIfInBounds_toArray, List.set_cons_zero, List.set_cons_succ, i64_w, i32_w]
    rfl
  refine pu 8 11 #[true, true, true, true, true, true, true, true, true, false] HT_ rfl rfl (h := ?_)
  refine one_ (i := 9) (N := none) #[true, true, true, true, true, true, true, true, true, true] rfl rfl (one_of HT_.out (by kernel_rfl)) (by decide) (fun K hK => ?_)
  have iHj : w8.cell? ⟨aQo, 0, none⟩ = some (.int .i64 0) := (blk_cell aWv.out 0).trans rfl
  have iBu := blk_frozen aWv.out 0
  have gXx := aCx.out
  have gXy := cDn.out
  have iHk : w8.cell? ⟨aQo, 1, none⟩ = some (.slice none 0 0) := (blk_cell aWv.out 1).trans rfl
  have iBv := blk_frozen aWv.out 1
  have gXz := aCx.out
  have gX0 := cDn.out
  have iHl : w8.cell? ⟨aQo, 2, none⟩ = some (.slice none 0 0) := (blk_cell aWv.out 2).trans rfl
  have iBw := blk_frozen aWv.out 2
  have gX1 := aCx.out
  have gX2 := cDn.out
  refine skip_ (w1 := ?_) (by rfl) rfl ?_ ?_
  rotate_left
  · go_simp
    rfl
  refine hK.out _ _ ⟨((cell_far (p := ⟨aQo, _, none⟩) aCx.out _).trans (((cell_far (p := ⟨aQo, _, none⟩) aCx.out _).trans (((cell_far (p := ⟨aQo, _, none⟩) aCx.out _).trans (hHeld.1)))))), ((cell_far (p := ⟨aQo, _, none⟩) aCx.out _).trans (((cell_far (p := ⟨aQo, _, none⟩) aCx.out _).trans (((cell_far (p := ⟨aQo, _, none⟩) aCx.out _).trans (hHeld.2.1)))))), ((cell_far (p := ⟨aQo, _, none⟩) aCx.out _).trans (((cell_far (p := ⟨aQo, _, none⟩) aCx.out _).trans (((cell_far (p := ⟨aQo, _, none⟩) aCx.out _).trans (hHeld.2.2))))))⟩ (fun hHeld => ?_)
  clear hK K
  refine done_ (done_of HT_.out (by kernel_rfl)) ?_
  try go_wp2
  refine bodyPost_ret (results_cell_row rfl _ _ aQo 44 #[.int .i64 dP, .slice bT9 cN8.length bUa, .slice Ao9 cN9.length co9] (0, 0) _ rfl (by (with_reducible repeat (first | refine bN ?_ _ | refine bD ?_ | refine bA ?_ _)); refine blk_put (cs := #[.int .i64 dP, .slice bT9 cN8.length bUa, .slice none 0 0]) ?_ 2 _ rfl; (with_reducible repeat (first | refine bN ?_ _ | refine bD ?_ | refine bA ?_ _)); refine blk_put (cs := #[.int .i64 dP, .slice none 0 0, .slice none 0 0]) ?_ 1 _ rfl; (with_reducible repeat (first | refine bN ?_ _ | refine bD ?_ | refine bA ?_ _)); refine blk_put (cs := #[.int .i64 0, .slice none 0 0, .slice none 0 0]) ?_ 0 _ rfl; (with_reducible repeat (first | refine bN ?_ _ | refine bD ?_ | refine bA ?_ _)); exact aWv.out) Try.underlying44 rfl (by kernel_rfl)) rfl ?_
  exact ⟨_, _, xre, by (with_reducible repeat (first | apply Kd.rA | apply Kd.rN | apply Kd.rD)); exact Kd.R_mono (Kd.R_far (p := ⟨aQo, 2, none⟩) (Kd.R_far (p := ⟨aQo, 1, none⟩) (Kd.R_far (p := ⟨aQo, 0, none⟩) (Kd.R_types dRz.out aWv.out (by decide)) (fun _ hk => hk.2) (.int .i64 dP)) (fun _ hk => hk.2) (.slice bT9 cN8.length bUa)) (fun _ hk => hk.2) (.slice Ao9 cN9.length co9)) (fun _ hk => trivial), by (with_reducible repeat (first | apply Kd.rA | apply Kd.rN | apply Kd.rD)); exact Kd.R_mono (Kd.R_far (p := ⟨aQo, 2, none⟩) (Kd.R_far (p := ⟨aQo, 1, none⟩) (Kd.R_far (p := ⟨aQo, 0, none⟩) (Kd.R_types fAx.out aWv.out (by decide)) (fun _ hk => hk.2) (.int .i64 dP)) (fun _ hk => hk.2) (.slice bT9 cN8.length bUa)) (fun _ hk => hk.2) (.slice Ao9 cN9.length co9)) (fun _ hk => trivial), xq HB⟩
def bH.l0 : Nat → Int → Int → List (fB) → Option (Int)
  | 0, _, _, _ => none
  | k + 1, x1, x5, cYk => if x5 < (cYk.length : Int) then (if 0 ≤ x5 then (if ((aA cYk x5).f0) = x1 then (some x5) else (bH.l0 k x1 (wrap64 (x5 + 1)) cYk)) else (none)) else (some (-1))
def bH.f (k : Nat) (aD : List (fB)) (a1 : Int) : Option (Int) := bH.l0 k a1 0 aD
theorem bH.mono_l : ∀ k, (∀ y0 y1 y2, LeO (bH.l0 k y0 y1 y2) (bH.l0 (k + 1) y0 y1 y2))
  | 0 => fun _ _ _ r h => by simp [bH.l0] at h
  | k + 1 => by
    have mU := bH.mono_l k
    · intro y0 y1 y2
      unfold bH.l0
      repeat' first | (with_reducible first | exact mU _ _ _ | exact LeO.refl _ | exact LeO.none _ | refine LeO.ite ?_ ?_ | refine LeO.bind ?_ (fun _ => ?_)) | exact mU _ _ _ | exact LeO.none _ | refine LeO.ite ?_ ?_ | refine LeO.bind ?_ (fun _ => ?_)
theorem bH.mono : ∀ a0 a1 k, LeO (bH.f k a0 a1) (bH.f (k + 1) a0 a1) := by
  intro a0 a1 k
  have mU := bH.mono_l k
  unfold bH.f
  repeat' first | (with_reducible first | exact mU _ _ _ | exact LeO.refl _ | exact LeO.none _ | refine LeO.ite ?_ ?_ | refine LeO.bind ?_ (fun _ => ?_)) | exact mU _ _ _ | exact LeO.none _ | refine LeO.ite ?_ ?_ | refine LeO.bind ?_ (fun _ => ?_)
set_option maxHeartbeats 8000000 in
set_option maxRecDepth 100000 in
theorem bH.calls (k : Nat) (bP : Option Addr) (bK : Nat) (aD : List (fB)) (a1 : Int) (r : Int) (w : World) (mZ : Kd.C qL w bP aD.length aD) (nA : aD.length ≤ bK) (h : bH.f k aD a1 = some r) :
  Calls Try.prog 27 #[.agg #[.slice bP aD.length bK], .int .i64 a1] w fun e w' => e = .returned (.int .i64 r) ∧ Below w.heap.size w w' := by
  have aP7 := Try.underlying24
  have fI := aZ mZ
  have lC := aZ nA
  clear mZ nA
  have HB := aZ (Below.refl w.heap.size w)
  have H : (bH.l0 k a1 0 aD) = some r := h
  clear h
  have H' := aZ H
  clear H
  go_enter Try.func27, Try.ntmps27
  go_wp2_with (first | ((with_reducible refine gate_dst (N := 2) rfl ?_); refine box_event ?hg (N := 2) ?hd (cs := #[.slice bP aD.length bK]) (t := 24) ?hr ?_; (case hd => rfl); (case hg => rfl); (case hr => first | (go_simp; done) | (go_simp; rfl)); intro dSy hg w3 hbox hb; have bYb := aZ (hbox); have iCd := xgh hg HB; have iCe := xgh hg HB; replace HB := xhl HB hb; clear hb hbox hg))
  go_loopg [5] k (fun kq v5 w' => ∃ (dC : Int), v5 = .int .i64 dC ∧ Aside0 (bH.l0 kq a1 dC aD = some r) ∧ Aside0 (kq ≤ k) ∧ Aside0 (w'.heap[dSy]? = some (.cells #[(.slice bP aD.length bK)] 24 (0, 0))) ∧ Aside0 (Below w.heap.size w w'))
  case atStart => exact ⟨(0), xrs, H', ⟨Nat.le_refl _⟩, xk bYb, xb HB⟩
  case round =>
   clear H'
   obtain ⟨dC, rfl, HA, yS, bYb, HB⟩ := hrel
   cases gk with
   | zero => exact absurd HA.out (by simp [bH.l0])
   | succ k1 =>
    have H := HA.out
    clear HA
    simp only [bH.l0] at H
    by_cases c4 : dC < (aD.length : Int)
    rotate_left
    · rw [if_neg c4] at H
      have aJy : decide (dC < (aD.length : Int)) = false := decide_eq_false c4
      clear c4
      obtain rfl := Option.some.inj H
      have cCg : wr.cell? ⟨dSy, 0, none⟩ = some (.slice bP aD.length bK) := (blk_cell bYb.out 0).trans rfl
      have cCh := blk_frozen bYb.out 0
      go_wp2
      go_ret
      exact ⟨xre, xq HB⟩

    rw [if_pos c4] at H
    have aJy : decide (dC < (aD.length : Int)) = true := decide_eq_true c4
    clear c4
    by_cases c5 : 0 ≤ dC
    rotate_left
    · rw [if_neg c5] at H
      exact absurd H (by simp)
    rw [if_pos c5] at H
    have bAy : decide (0 ≤ dC) = true := decide_eq_true c5
    clear c5
    by_cases c6 : ((aA aD dC).f0) = a1
    · rw [if_pos c6] at H
      have aWf : (((aA aD dC).f0) == a1) = true := beq_iff_eq.mpr c6
      have cU7 : (((aA aD dC).f0) != a1) = false := bne_eq_false_iff_eq.mpr c6
      clear c6
      obtain rfl := Option.some.inj H
      have bD1 : wr.cell? ⟨dSy, 0, none⟩ = some (.slice bP aD.length bK) := (blk_cell bYb.out 0).trans rfl
      have bIr := blk_frozen bYb.out 0
      have dLx : 0 ≤ (dC : Int) := of_decide_eq_true xas
      have dLy : dC < (aD.length : Int) := of_decide_eq_true xas
      obtain ⟨fZj, fH2, fH3, fH4, fH5, fH6, bYc, bYd, bYe, bYf, bYg, bYh, bYi, bYj⟩ := gY fI.out dC dLx dLy
      cases fH6
      replace bYc := xcl HB bYc
      replace bYd := xcl HB bYd
      replace bYe := xcl HB bYe
      replace bYf := xcl HB bYf
      have eTc := aZ bYh
      have eTd := aZ bYg
      clear bYh bYg
      have eTe := aZ bYj
      have eTf := aZ bYi
      clear bYj bYi
      replace dLx := eq_true dLx
      replace dLy := eq_true dLy
      go_wp2
      go_ret
      exact ⟨xre, xq HB⟩
    rw [if_neg c6] at H
    have aWf : (((aA aD dC).f0) == a1) = false := beq_eq_false_iff_ne.mpr c6
    have cU7 : (((aA aD dC).f0) != a1) = true := bne_iff_ne.mpr c6
    have H' := aZ H
    clear H
    have cMq : wr.cell? ⟨dSy, 0, none⟩ = some (.slice bP aD.length bK) := (blk_cell bYb.out 0).trans rfl
    have cMr := blk_frozen bYb.out 0
    have dLx : 0 ≤ (dC : Int) := of_decide_eq_true xas
    have dLy : dC < (aD.length : Int) := of_decide_eq_true xas
    obtain ⟨fZj, fH2, fH3, fH4, fH5, fH6, bYc, bYd, bYe, bYf, bYg, bYh, bYi, bYj⟩ := gY fI.out dC dLx dLy
    cases fH6
    replace bYc := xcl HB bYc
    replace bYd := xcl HB bYd
    replace bYe := xcl HB bYe
    replace bYf := xcl HB bYf
    have eTc := aZ bYh
    have eTd := aZ bYg
    clear bYh bYg
    have eTe := aZ bYj
    have eTf := aZ bYi
    clear bYj bYi
    replace dLx := eq_true dLx
    replace dLy := eq_true dLy
    go_wp2
    go_roundg k1
    case measure => have := yS.out; omega
    case rel => exact ⟨(wrap64 (dC + 1)), xrs, H', ⟨by have := yS.out; omega⟩, xk bYb, xb HB⟩

end Go.Proofs.Ytnmkmamobhkcbaa.P
