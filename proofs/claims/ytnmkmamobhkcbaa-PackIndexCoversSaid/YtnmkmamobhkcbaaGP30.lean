/- Texts of the proofs of 4 statements: what the printed functions come to, plain laws, rows (no condition beyond the statements' own). -/
import Derived.Test.YtnmkmamobhkcbaaGP0
import Derived.Test.YtnmkmamobhkcbaaGP10
import Derived.Test.YtnmkmamobhkcbaaGP12
import Derived.Test.YtnmkmamobhkcbaaGP25
namespace Go.Proofs.Ytnmkmamobhkcbaa.P
open Go.RowKit Go.Proofs.YtnmkmamobhkcbaaW.PrintWords Go.Proofs.YtnmkmamobhkcbaaW.PrintLast Go.Proofs.YtnmkmamobhkcbaaW.PrintMore
attribute [local go_sem] max2_int min2_int max_two min_two max_three min_three max_four min_four   -- for this text's walks alone
set_option linter.unusedVariables false
set_option linter.unusedSimpArgs false
section
attribute [local go_sem high] bAt
theorem xpl {p q : Prop} (h : p) (f : p → q := by (intro h_; (with_reducible repeat (first | refine bN ?_ _ | refine bD ?_ | refine bA ?_ _)); exact h_)) : q := f h
mutual
def pack_read.l0 : Nat → List Int → List (S48) → Int → Int → List (fB) → List Int → Int → Bool → Option ((List (fB)) × (List (S48)) × Int × Int)
  | 0, _, _, _, _, _, _, _, _ => none
  | k + 1, x5, x9, x64, x65, bLd, aYb, bR1, cA1 => if x65 < x64 then ((pack_reader_big.f k aYb bR1 cA1 1).bind fun eNf => ((pack_reader_big.f k aYb eNf.2.1 eNf.2.2 1).bind fun cQu => ((pack_reader_big.f k aYb cQu.2.1 cQu.2.2 2).bind fun bN8 => (pack_read.l1 k x5 x9 bR1 bN8.1 x64 x65 cQu.1 0 bLd aYb bN8.2.1 bN8.2.2 eNf.1 ([] : List Int))))) else (if cA1 = true then (if bR1 = (x5.length : Int) then ((objects_Validate.f k bLd).bind fun dH6 => (if (!(dH6.1 == 0) || (!(dH6.2 == 0))) = true then (some (([] : List (fB)), ([] : List (S48)), 1, 0)) else (some (bLd, x9, 0, 0)))) else (some (([] : List (fB)), ([] : List (S48)), 1, 0))) else (some (([] : List (fB)), ([] : List (S48)), 1, 0)))
def pack_read.l1 : Nat → List Int → List (S48) → Int → Int → Int → Int → Int → Int → List (fB) → List Int → Int → Bool → Int → List Int → Option ((List (fB)) × (List (S48)) × Int × Int)
  | 0, _, _, _, _, _, _, _, _, _, _, _, _, _, _ => none
  | k + 1, x5, x9, x11, x14, x64, x65, x78, x79, bLd, aYb, bR1, cA1, dB7, cL8 => if x79 < x78 then ((pack_reader_big.f k aYb bR1 cA1 8).bind fun eNg => (if cL8.length < 17592186044416 then (pack_read.l1 k x5 x9 x11 x14 x64 x65 x78 (wrap64 (x79 + 1)) bLd aYb eNg.2.1 eNg.2.2 dB7 (cL8 ++ [eNg.1])) else (none))) else ((pp_takeapp.f aYb bR1 cA1 x14).bind fun cUt => ((objects_Digest.f k dB7 cL8 cUt.1).bind fun cA2 => (if cUt.2.2 = true then (if (!(cA2.2.1 == 0) || (!(cA2.2.2 == 0))) = true then (some (([] : List (fB)), ([] : List (S48)), 1, 0)) else (if bLd.length < 2199023255552 then (if x9.length < 5864062014805 then (pack_read.l0 k x5 (x9 ++ [(⟨cA2.1, x11, wrap64 (cUt.2.1 - x11)⟩ : S48)]) x64 ((x65 + 1) % 256) (bLd ++ [(⟨cA2.1, (⟨dB7, cL8, cUt.1⟩ : S44)⟩ : fB)]) aYb cUt.2.1 cUt.2.2) else (none)) else (none))) else (some (([] : List (fB)), ([] : List (S48)), 1, 0)))))
end
def pack_read.f (k : Nat) (l0 : List Int) : Option ((List (fB)) × (List (S48)) × Int × Int) := if (l0.length : Int) > 4096 then (some (([] : List (fB)), ([] : List (S48)), 2, 0)) else (if (l0.length : Int) < 11 then (some (([] : List (fB)), ([] : List (S48)), 18, 0)) else (if 0 ≤ (wrap64 ((l0.length : Int) - 8)) then (if (wrap64 ((l0.length : Int) - 8)) ≤ (l0.length : Int) then ((digest_Of.f k (l0.take ((wrap64 ((l0.length : Int) - 8)) : Int).toNat)).bind fun dH7 => ((pack_number.f k ([] : List Int) dH7.1).bind fun bU4 => ((slices_Equal_byte_byte.f k bU4 (l0.drop ((wrap64 ((l0.length : Int) - 8)) : Int).toNat)).bind fun cI9 => (if cI9 = true then (if 0 < ((l0.take ((wrap64 ((l0.length : Int) - 8)) : Int).toNat).length : Int) then (if 1 < ((l0.take ((wrap64 ((l0.length : Int) - 8)) : Int).toNat).length : Int) then ((pp_and.f ((rd (l0.take ((wrap64 ((l0.length : Int) - 8)) : Int).toNat) 0) == 80) ((rd (l0.take ((wrap64 ((l0.length : Int) - 8)) : Int).toNat) 1) == 75)).bind fun bMa => ((pp_reader.f (l0.take ((wrap64 ((l0.length : Int) - 8)) : Int).toNat) 3 bMa).bind fun aCb => (if 2 < ((l0.take ((wrap64 ((l0.length : Int) - 8)) : Int).toNat).length : Int) then (pack_read.l0 k (l0.take ((wrap64 ((l0.length : Int) - 8)) : Int).toNat) ([] : List (S48)) (rd (l0.take ((wrap64 ((l0.length : Int) - 8)) : Int).toNat) 2) 0 ([] : List (fB)) aCb.1 aCb.2.1 aCb.2.2) else (none)))) else (none)) else (none)) else (some (([] : List (fB)), ([] : List (S48)), 18, 0)))))) else (none)) else (none)))
theorem pack_read.mono_l : ∀ k, (∀ y0 y1 y2 y3 y4 y5 y6 y7, LeO (pack_read.l0 k y0 y1 y2 y3 y4 y5 y6 y7) (pack_read.l0 (k + 1) y0 y1 y2 y3 y4 y5 y6 y7)) ∧ (∀ y0 y1 y2 y3 y4 y5 y6 y7 y8 y9 y10 y11 y12 y13, LeO (pack_read.l1 k y0 y1 y2 y3 y4 y5 y6 y7 y8 y9 y10 y11 y12 y13) (pack_read.l1 (k + 1) y0 y1 y2 y3 y4 y5 y6 y7 y8 y9 y10 y11 y12 y13))
  | 0 => ⟨fun _ _ _ _ _ _ _ _ r h => by simp [pack_read.l0] at h, fun _ _ _ _ _ _ _ _ _ _ _ _ _ _ r h => by simp [pack_read.l1] at h⟩
  | k + 1 => by
    obtain ⟨mU, ih1⟩ := pack_read.mono_l k
    refine ⟨?_, ?_⟩
    all_goals intros; first | unfold pack_read.l0 | unfold pack_read.l1
    all_goals repeat' first | (with_reducible first | exact mU _ _ _ _ _ _ _ _ | exact ih1 _ _ _ _ _ _ _ _ _ _ _ _ _ _ | exact digest_Of.mono _ _ | exact objects_Digest.mono _ _ _ _ | exact objects_Validate.mono _ _ | exact pack_number.mono _ _ _ | exact pack_reader_big.mono _ _ _ _ _ | exact slices_Equal_byte_byte.mono _ _ _ | exact LeO.refl _ | exact LeO.none _ | refine LeO.ite ?_ ?_ | refine LeO.bind ?_ (fun _ => ?_)) | exact mU _ _ _ _ _ _ _ _ | exact ih1 _ _ _ _ _ _ _ _ _ _ _ _ _ _ | exact digest_Of.mono _ _ | exact objects_Digest.mono _ _ _ _ | exact objects_Validate.mono _ _ | exact pack_number.mono _ _ _ | exact pack_reader_big.mono _ _ _ _ _ | exact slices_Equal_byte_byte.mono _ _ _ | exact LeO.none _ | refine LeO.ite ?_ ?_ | refine LeO.bind ?_ (fun _ => ?_)
theorem pack_read.mono : ∀ a0 k, LeO (pack_read.f k a0) (pack_read.f (k + 1) a0) := by
  intro a0 k
  obtain ⟨mU, ih1⟩ := pack_read.mono_l k
  unfold pack_read.f
  repeat' first | (with_reducible first | exact mU _ _ _ _ _ _ _ _ | exact ih1 _ _ _ _ _ _ _ _ _ _ _ _ _ _ | exact digest_Of.mono _ _ | exact objects_Digest.mono _ _ _ _ | exact objects_Validate.mono _ _ | exact pack_number.mono _ _ _ | exact pack_reader_big.mono _ _ _ _ _ | exact slices_Equal_byte_byte.mono _ _ _ | exact LeO.refl _ | exact LeO.none _ | refine LeO.ite ?_ ?_ | refine LeO.bind ?_ (fun _ => ?_)) | exact mU _ _ _ _ _ _ _ _ | exact ih1 _ _ _ _ _ _ _ _ _ _ _ _ _ _ | exact digest_Of.mono _ _ | exact objects_Digest.mono _ _ _ _ | exact objects_Validate.mono _ _ | exact pack_number.mono _ _ _ | exact pack_reader_big.mono _ _ _ _ _ | exact slices_Equal_byte_byte.mono _ _ _ | exact LeO.none _ | refine LeO.ite ?_ ?_ | refine LeO.bind ?_ (fun _ => ?_)
def pack_read.T7 : Bool × List (List Nat × List Nat) := (true, [([], []), ([0], [0]), ([], []), ([], []), ([3], [3]), ([4], [4]), ([2, 5], [2, 5]), ([1, 6, 1], [1, 6]), ([7], [7])])
def pack_read.B7 : List Nat := [0, 1, 0, 0, 8, 24, 60, 127, 255]
theorem pack_read.tab7 : rtab .any (opsOf Try.f44 7) = pack_read.T7 := by kernel_rfl
theorem pack_read.bits7 : waitsOk pack_read.T7.2 pack_read.B7 = true := by kernel_rfl
def pack_read.T18 : Bool × List (List Nat × List Nat) := (true, [([], []), ([0], [0]), ([], []), ([2], [2]), ([3], [3]), ([1, 4, 3], [1, 4]), ([0, 1, 2, 3, 4, 5], []), ([6, 5, 5, 0, 1, 2, 3, 4, 5], [5, 6])])
def pack_read.B18 : List Nat := [0, 1, 0, 4, 12, 31, 63, 127]
theorem pack_read.tab18 : rtab .any (opsOf Try.f44 18) = pack_read.T18 := by kernel_rfl
theorem pack_read.bits18 : waitsOk pack_read.T18.2 pack_read.B18 = true := by kernel_rfl
def pack_read.T20 : Bool × List (List Nat × List Nat) := (true, [([], []), ([0], [0]), ([], []), ([], []), ([2, 3], [2, 3]), ([1, 4, 4], [1, 4]), ([0, 1, 2, 3, 4, 5], []), ([6, 5, 5, 0, 1, 2, 3, 4, 5], [5, 6])])
def pack_read.B20 : List Nat := [0, 1, 0, 0, 12, 31, 63, 127]
theorem pack_read.tab20 : rtab .any (opsOf Try.f44 20) = pack_read.T20 := by kernel_rfl
theorem pack_read.bits20 : waitsOk pack_read.T20.2 pack_read.B20 = true := by kernel_rfl
theorem aM.grownJ {w0 V W : World} {g : Nat} {f0 : List Int} {f1 : Int} {f2 : Bool} {W1 : World} {row : Option Nat} (hj : Aside0 (aM w0 V g f0 f1 f2)) (h : aM w0 V g f0 f1 f2 → aM w0 W g f0 f1 f2) (hw : W.grownBy W1 row) (hne : some g ≠ row) : aM w0 W1 g f0 f1 f2 := (h hj.out).grown hw hne
set_option maxHeartbeats 8000000 in
set_option maxRecDepth 100000 in
theorem pack_read.calls (k : Nat) (A0 : Option Addr) (c0 : Nat) (l0 : List Int) (r1 : List (fB)) (r2 : List (S48)) (r3 : Int) (r4 : Int) (w : World) (hr0 : Kd.C (Kd.int .u8) w A0 l0.length l0) (hc0 : l0.length ≤ c0) (h : pack_read.f k l0 = some (r1, r2, r3, r4)) :
  Calls Try.prog 44 #[.slice A0 l0.length c0] w fun e w' => ∃ v0_ v1_ : Value, e = .returned (.tuple #[.agg #[v0_], v1_, .agg #[.int .i64 r3, .int .i64 r4]]) ∧ Kd.S qL 46 w' w.heap.size (fun _ => True) v0_ r1 ∧ Kd.R k48 48 w' w.heap.size (fun _ => True) v1_ r2 ∧ Below w.heap.size w w' := by
  have aP7 := Try.underlying24
  have aQg := Try.underlying28
  have aQf := Try.underlying44
  have cRq := Try.underlying46
  have gMm := Try.underlying48
  have HR0 := aZ hr0
  have HC0 := aZ hc0
  clear hr0 hc0
  have HB := aZ (Below.refl w.heap.size w)
  have H : (if (l0.length : Int) > 4096 then (some (([] : List (fB)), ([] : List (S48)), 2, 0)) else (if (l0.length : Int) < 11 then (some (([] : List (fB)), ([] : List (S48)), 18, 0)) else (if 0 ≤ (wrap64 ((l0.length : Int) - 8)) then (if (wrap64 ((l0.length : Int) - 8)) ≤ (l0.length : Int) then ((digest_Of.f k (l0.take ((wrap64 ((l0.length : Int) - 8)) : Int).toNat)).bind fun dH7 => ((pack_number.f k ([] : List Int) dH7.1).bind fun bU4 => ((slices_Equal_byte_byte.f k bU4 (l0.drop ((wrap64 ((l0.length : Int) - 8)) : Int).toNat)).bind fun cI9 => (if cI9 = true then (if 0 < ((l0.take ((wrap64 ((l0.length : Int) - 8)) : Int).toNat).length : Int) then (if 1 < ((l0.take ((wrap64 ((l0.length : Int) - 8)) : Int).toNat).length : Int) then ((pp_and.f ((rd (l0.take ((wrap64 ((l0.length : Int) - 8)) : Int).toNat) 0) == 80) ((rd (l0.take ((wrap64 ((l0.length : Int) - 8)) : Int).toNat) 1) == 75)).bind fun bMa => ((pp_reader.f (l0.take ((wrap64 ((l0.length : Int) - 8)) : Int).toNat) 3 bMa).bind fun aCb => (if 2 < ((l0.take ((wrap64 ((l0.length : Int) - 8)) : Int).toNat).length : Int) then (pack_read.l0 k (l0.take ((wrap64 ((l0.length : Int) - 8)) : Int).toNat) ([] : List (S48)) (rd (l0.take ((wrap64 ((l0.length : Int) - 8)) : Int).toNat) 2) 0 ([] : List (fB)) aCb.1 aCb.2.1 aCb.2.2) else (none)))) else (none)) else (none)) else (some (([] : List (fB)), ([] : List (S48)), 18, 0)))))) else (none)) else (none)))) = some (r1, r2, r3, r4) := h
  clear h
  by_cases c2 : (l0.length : Int) > 4096
  · rw [if_pos c2] at H
    have aW6 : decide (4096 < (l0.length : Int)) = true := decide_eq_true c2
    have bEc : decide (4096 < l0.length) = true := decide_eq_true (by omega)
    clear c2
    simp only [Option.some.injEq, Prod.mk.injEq] at H
    obtain ⟨rfl, rfl, rfl, rfl⟩ := H
    go_enter Try.func44, Try.ntmps44
    go_wp2_with (first | ((with_reducible refine gate_dst (N := 2) rfl ?_); (try (refine gate_guard (by rfl) ?_; dsimp only)); refine box_event ?hg (N := 2) ?hd (cs := #[.slice none 0 0]) (t := 24) ?hr ?_; (case hd => rfl); (case hg => rfl); (case hr => first | (go_simp; done) | (go_simp; rfl)); intro vZ hg w3 hbox hb; have eZ := aZ (hbox); have eNh := xgh hg HB; have sN := xgh hg HB; replace HB := xhl HB hb; clear hb hbox hg) | ((with_reducible refine gate_dst (N := 4) rfl ?_); (try (refine gate_guard (by rfl) ?_; dsimp only)); refine box_event ?hg (N := 4) ?hd (cs := #[.int .i64 0, .int .i64 0]) (t := 28) ?hr ?_; (case hd => rfl); (case hg => rfl); (case hr => first | (go_simp; done) | (go_simp; rfl)); intro sH hg w4 hbox hb; have eQ := aZ (hbox); have eNi := xgh hg HB; have sO := xgh hg HB; replace HB := xhl HB hb; have nU := xnl hg eZ; have tN := xng hg eZ; replace eZ := xbb eZ hb; clear hb hbox hg; have fYh := nU.out; have fYi := tN.out; have eD6 : w4.cell? ⟨vZ, 0, none⟩ = some (.slice none 0 0) := (blk_cell eZ.out 0).trans rfl; have fGo := blk_frozen eZ.out 0; have bD1 : w4.cell? ⟨sH, 0, none⟩ = some (.int .i64 0) := (blk_cell eQ.out 0).trans rfl; have dJo : w4.cell? ⟨sH, 1, none⟩ = some (.int .i64 0) := (blk_cell eQ.out 1).trans rfl; have bIr := blk_frozen eQ.out 0; have dJp := blk_frozen eQ.out 1))
    refine bodyPost_ret (results_list (rs := [.cell 2 24, .tmp 3, .cell 4 28]) rfl (by simp) (.cell vZ 24 #[.slice none 0 0] (0, 0) _ rfl (by refine xpl ?_; refine blk_far ?_ nU.out _; refine xpl ?_; refine blk_far ?_ nU.out _; refine xpl ?_; refine blk_put (cs := #[.slice none 0 0]) ?_ 0 _ rfl; refine xpl ?_; exact eZ.out) Try.underlying24 rfl (by kernel_rfl) (.tmp (.cell sH 28 #[.int .i64 2, .int .i64 0] (0, 0) _ rfl (by refine xpl ?_; refine blk_put (cs := #[.int .i64 2, .int .i64 0]) ?_ 1 _ rfl; refine xpl ?_; refine blk_put (cs := #[.int .i64 0, .int .i64 0]) ?_ 0 _ rfl; refine xpl ?_; refine blk_far ?_ tN.out _; refine xpl ?_; exact eQ.out) Try.underlying28 rfl (by kernel_rfl) .nil)))) rfl ?_
    exact ⟨_, _, xre, by first | exact Kd.S_nil _ _ _ _ _ | exact Kd.N_nil _ _ _ _ _ | exact Kd.V_nil _ _ _ _ _ | exact Kd.Q_nil _ _ _ _ _ | exact Kd.R_nil _ _ _ _ _, by first | exact Kd.R_nil _ _ _ _ _ | exact Kd.N_nil _ _ _ _ _ | exact Kd.V_nil _ _ _ _ _ | exact Kd.Q_nil _ _ _ _ _ | exact Kd.S_nil _ _ _ _ _, xq HB⟩
  rw [if_neg c2] at H
  have aW6 : decide (4096 < (l0.length : Int)) = false := decide_eq_false c2
  have bEc : decide (4096 < l0.length) = false := decide_eq_false (by omega)
  clear c2
  by_cases c8 : (l0.length : Int) < 11
  · rw [if_pos c8] at H
    have bTn : decide ((l0.length : Int) < 11) = true := decide_eq_true c8
    have cWk : decide (l0.length < 11) = true := decide_eq_true (by omega)
    clear c8
    simp only [Option.some.injEq, Prod.mk.injEq] at H
    obtain ⟨rfl, rfl, rfl, rfl⟩ := H
    go_enter Try.func44, Try.ntmps44
    go_wp2_with (first | ((with_reducible refine gate_dst (N := 2) rfl ?_); (try (refine gate_guard (by rfl) ?_; dsimp only)); refine box_event ?hg (N := 2) ?hd (cs := #[.slice none 0 0]) (t := 24) ?hr ?_; (case hd => rfl); (case hg => rfl); (case hr => first | (go_simp; done) | (go_simp; rfl)); intro vZ hg w9 hbox hb; have eZ := aZ (hbox); have eNh := xgh hg HB; have sN := xgh hg HB; replace HB := xhl HB hb; clear hb hbox hg) | ((with_reducible refine gate_dst (N := 4) rfl ?_); (try (refine gate_guard (by rfl) ?_; dsimp only)); refine box_event ?hg (N := 4) ?hd (cs := #[.int .i64 0, .int .i64 0]) (t := 28) ?hr ?_; (case hd => rfl); (case hg => rfl); (case hr => first | (go_simp; done) | (go_simp; rfl)); intro sH hg w10 hbox hb; have eQ := aZ (hbox); have eNi := xgh hg HB; have sO := xgh hg HB; replace HB := xhl HB hb; have nU := xnl hg eZ; have tN := xng hg eZ; replace eZ := xbb eZ hb; clear hb hbox hg; have bMj := nU.out; have bMk := tN.out; have aHh : w10.cell? ⟨vZ, 0, none⟩ = some (.slice none 0 0) := (blk_cell eZ.out 0).trans rfl; have aHi := blk_frozen eZ.out 0; have bCd : w10.cell? ⟨sH, 0, none⟩ = some (.int .i64 0) := (blk_cell eQ.out 0).trans rfl; have dPm : w10.cell? ⟨sH, 1, none⟩ = some (.int .i64 0) := (blk_cell eQ.out 1).trans rfl; have bCe := blk_frozen eQ.out 0; have dPn := blk_frozen eQ.out 1))
    refine bodyPost_ret (results_list (rs := [.cell 2 24, .tmp 3, .cell 4 28]) rfl (by simp) (.cell vZ 24 #[.slice none 0 0] (0, 0) _ rfl (by refine xpl ?_; refine blk_far ?_ nU.out _; refine xpl ?_; refine blk_far ?_ nU.out _; refine xpl ?_; refine blk_put (cs := #[.slice none 0 0]) ?_ 0 _ rfl; refine xpl ?_; exact eZ.out) Try.underlying24 rfl (by kernel_rfl) (.tmp (.cell sH 28 #[.int .i64 18, .int .i64 0] (0, 0) _ rfl (by refine xpl ?_; refine blk_put (cs := #[.int .i64 18, .int .i64 0]) ?_ 1 _ rfl; refine xpl ?_; refine blk_put (cs := #[.int .i64 0, .int .i64 0]) ?_ 0 _ rfl; refine xpl ?_; refine blk_far ?_ tN.out _; refine xpl ?_; exact eQ.out) Try.underlying28 rfl (by kernel_rfl) .nil)))) rfl ?_
    exact ⟨_, _, xre, by first | exact Kd.S_nil _ _ _ _ _ | exact Kd.N_nil _ _ _ _ _ | exact Kd.V_nil _ _ _ _ _ | exact Kd.Q_nil _ _ _ _ _ | exact Kd.R_nil _ _ _ _ _, by first | exact Kd.R_nil _ _ _ _ _ | exact Kd.N_nil _ _ _ _ _ | exact Kd.V_nil _ _ _ _ _ | exact Kd.Q_nil _ _ _ _ _ | exact Kd.S_nil _ _ _ _ _, xq HB⟩
  rw [if_neg c8] at H
  have bTn : decide ((l0.length : Int) < 11) = false := decide_eq_false c8
  have cWk : decide (l0.length < 11) = false := decide_eq_false (by omega)
  clear c8
  obtain ⟨jY, bDe⟩ : ∃ j_ : Int, (wrap64 ((l0.length : Int) - 8)) = j_ := ⟨_, rfl⟩
  replace H : (if 0 ≤ (jY) then (if (jY) ≤ (l0.length : Int) then ((digest_Of.f k (l0.take ((jY) : Int).toNat)).bind fun dH7 => ((pack_number.f k ([] : List Int) dH7.1).bind fun bU4 => ((slices_Equal_byte_byte.f k bU4 (l0.drop ((jY) : Int).toNat)).bind fun cI9 => (if cI9 = true then (if 0 < ((l0.take ((jY) : Int).toNat).length : Int) then (if 1 < ((l0.take ((jY) : Int).toNat).length : Int) then ((pp_and.f ((rd (l0.take ((jY) : Int).toNat) 0) == 80) ((rd (l0.take ((jY) : Int).toNat) 1) == 75)).bind fun bMa => ((pp_reader.f (l0.take ((jY) : Int).toNat) 3 bMa).bind fun aCb => (if 2 < ((l0.take ((jY) : Int).toNat).length : Int) then (pack_read.l0 k (l0.take ((jY) : Int).toNat) ([] : List (S48)) (rd (l0.take ((jY) : Int).toNat) 2) 0 ([] : List (fB)) aCb.1 aCb.2.1 aCb.2.2) else (none)))) else (none)) else (none)) else (some (([] : List (fB)), ([] : List (S48)), 18, 0)))))) else (none)) else (none)) = some (r1, r2, r3, r4) := by first | (rw [bDe] at H; exact H) | (simp only [bDe] at H ⊢; exact H)
  have hXj : (IntKind.i64.wrap ((l0.length : Int) - 8)) = jY := (i64_w _).trans bDe
  by_cases c15 : 0 ≤ (jY)
  rotate_left
  · rw [if_neg c15] at H
    exact absurd H (by simp)

  rw [if_pos c15] at H
  have cHn := eq_true c15
  have eMx : decide (0 ≤ (jY)) = true := decide_eq_true c15
  clear c15
  by_cases c16 : (jY) ≤ (l0.length : Int)
  rotate_left
  · rw [if_neg c16] at H
    exact absurd H (by simp)
  rw [if_pos c16] at H
  have hmx := aZ (show ((l0.take ((jY) : Int).toNat).length : Int) = max jY 0 by rw [List.length_take]; omega)
  have cMn := eq_true c16
  have fC6 : decide ((jY) ≤ (l0.length : Int)) = true := decide_eq_true c16
  clear c16
  replace H := Option.bind_eq_some_iff.mp H
  obtain ⟨⟨dN5, aMn, aN1⟩, gMn, H⟩ := H
  replace H : ((pack_number.f k ([] : List Int) dN5).bind fun bU4 => ((slices_Equal_byte_byte.f k bU4 (l0.drop ((jY) : Int).toNat)).bind fun cI9 => (if cI9 = true then (if 0 < ((l0.take ((jY) : Int).toNat).length : Int) then (if 1 < ((l0.take ((jY) : Int).toNat).length : Int) then ((pp_and.f ((rd (l0.take ((jY) : Int).toNat) 0) == 80) ((rd (l0.take ((jY) : Int).toNat) 1) == 75)).bind fun bMa => ((pp_reader.f (l0.take ((jY) : Int).toNat) 3 bMa).bind fun aCb => (if 2 < ((l0.take ((jY) : Int).toNat).length : Int) then (pack_read.l0 k (l0.take ((jY) : Int).toNat) ([] : List (S48)) (rd (l0.take ((jY) : Int).toNat) 2) 0 ([] : List (fB)) aCb.1 aCb.2.1 aCb.2.2) else (none)))) else (none)) else (none)) else (some (([] : List (fB)), ([] : List (S48)), 18, 0))))) = some (r1, r2, r3, r4) := H
  have A17 := aZ gMn
  clear gMn
  replace H := Option.bind_eq_some_iff.mp H
  obtain ⟨bU4, bW9, H⟩ := H
  replace H : ((slices_Equal_byte_byte.f k bU4 (l0.drop ((jY) : Int).toNat)).bind fun cI9 => (if cI9 = true then (if 0 < ((l0.take ((jY) : Int).toNat).length : Int) then (if 1 < ((l0.take ((jY) : Int).toNat).length : Int) then ((pp_and.f ((rd (l0.take ((jY) : Int).toNat) 0) == 80) ((rd (l0.take ((jY) : Int).toNat) 1) == 75)).bind fun bMa => ((pp_reader.f (l0.take ((jY) : Int).toNat) 3 bMa).bind fun aCb => (if 2 < ((l0.take ((jY) : Int).toNat).length : Int) then (pack_read.l0 k (l0.take ((jY) : Int).toNat) ([] : List (S48)) (rd (l0.take ((jY) : Int).toNat) 2) 0 ([] : List (fB)) aCb.1 aCb.2.1 aCb.2.2) else (none)))) else (none)) else (none)) else (some (([] : List (fB)), ([] : List (S48)), 18, 0)))) = some (r1, r2, r3, r4) := H
  have A18 := aZ bW9
  clear bW9
  have dFw := eq_true (of_decide_eq_true xas : 0 ≤ (jY))
  have dSt := eq_true (of_decide_eq_true xas : (jY) ≤ (l0.length : Int))
  replace H := Option.bind_eq_some_iff.mp H
  obtain ⟨cI9, eE9, H⟩ := H
  replace H : (if cI9 = true then (if 0 < ((l0.take ((jY) : Int).toNat).length : Int) then (if 1 < ((l0.take ((jY) : Int).toNat).length : Int) then ((pp_and.f ((rd (l0.take ((jY) : Int).toNat) 0) == 80) ((rd (l0.take ((jY) : Int).toNat) 1) == 75)).bind fun bMa => ((pp_reader.f (l0.take ((jY) : Int).toNat) 3 bMa).bind fun aCb => (if 2 < ((l0.take ((jY) : Int).toNat).length : Int) then (pack_read.l0 k (l0.take ((jY) : Int).toNat) ([] : List (S48)) (rd (l0.take ((jY) : Int).toNat) 2) 0 ([] : List (fB)) aCb.1 aCb.2.1 aCb.2.2) else (none)))) else (none)) else (none)) else (some (([] : List (fB)), ([] : List (S48)), 18, 0))) = some (r1, r2, r3, r4) := H
  have A21 := aZ eE9
  clear eE9
  by_cases c22 : cI9 = true
  rotate_left
  · replace c22 := Bool.eq_false_iff.mpr c22
    subst c22
    have H1 : (some (([] : List (fB)), ([] : List (S48)), 18, 0)) = some (r1, r2, r3, r4) := by rw [if_neg (show ¬ (false = true) by decide)] at H; exact H
    clear H
    have H := H1
    clear H1
    simp only [Option.some.injEq, Prod.mk.injEq] at H
    obtain ⟨rfl, rfl, rfl, rfl⟩ := H
    go_enter Try.func44, Try.ntmps44
    try go_wp2_with (first | ((with_reducible refine gate_dst (N := 2) rfl ?_); (try (refine gate_guard (by rfl) ?_; dsimp only)); refine box_event ?hg (N := 2) ?hd (cs := #[.slice none 0 0]) (t := 24) ?hr ?_; (case hd => rfl); (case hg => rfl); (case hr => first | (go_simp; done) | (go_simp; rfl)); intro vZ hg iLa hbox hb; have eZ := aZ (hbox); have eNh := xgh hg HB; have sN := xgh hg HB; replace HB := xhl HB hb; clear hb hbox hg) | ((with_reducible refine gate_dst (N := 4) rfl ?_); (try (refine gate_guard (by rfl) ?_; dsimp only)); refine box_event ?hg (N := 4) ?hd (cs := #[.int .i64 0, .int .i64 0]) (t := 28) ?hr ?_; (case hd => rfl); (case hg => rfl); (case hr => first | (go_simp; done) | (go_simp; rfl)); intro sH hg dZh hbox hb; have eQ := aZ (hbox); have eNi := xgh hg HB; have sO := xgh hg HB; replace HB := xhl HB hb; have nU := xnl hg eZ; have tN := xng hg eZ; replace eZ := xbb eZ hb; clear hb hbox hg; obtain ⟨i0227, eNj, _, eNk, _⟩ := info_parts aFk; obtain ⟨hEs, fC7, fC8⟩ := print_take_of (P := Try.prog) (Value.int .u8) 0 26 5 .i64 Try.underlying26 eNj eNk A0 c0 l0 (jY) (of_decide_eq_true xas) (of_decide_eq_true xas) HC0.out; have cA3 := aZ (Kd.C_of_reads (h1 := fun _ => rfl) (fC7 _ (Kd.reads_of_C HR0.out))); have dH8 := aZ fC8; clear fC7 fC8 eNj eNk) | ((with_reducible refine gate_callee (f := 40) rfl ?_); refine goesL_ (some 34) rfl rfl Try.func40 (by kernel_rfl) rfl #[.slice A0 (l0.take ((jY) : Int).toNat).length c0] rfl (by (try simp only [List.map_toArray, List.map_cons, List.map_nil]); first | done | (rw [show (l0.take ((jY) : Int).toNat).length = (jY).toNat from (by rw [List.length_take]; have h_ : ((jY) : Int) ≤ (l0.length : Int) := of_decide_eq_true xas; omega)] <;> rfl) | (simp only [bDe]; rfl) | rfl | (simp only [List.length_drop, List.length_take]; rfl)) ?_; (with_reducible refine (digest_Of.calls k _ _ (l0.take ((jY) : Int).toNat) dN5 aMn aN1 _ ?side1 ?side2 A17.out).mono ?_); (case side1 => exact xcb cA3 HB); (case side2 => exact dH8.out); rintro e cA4 ⟨rfl, hb⟩; refine ⟨_, rfl, ?_⟩; replace eZ := xbb eZ hb; replace eQ := xbb eQ hb; replace HB := xhl HB hb; skip; (try clear hb); (try clear iV); (try clear hk); (try clear hi)) | ((with_reducible refine gate_dst (N := 7) rfl ?_); (try (refine gate_guard (by rfl) ?_; dsimp only)); refine box_event ?hg (N := 7) ?hd (cs := #[.int .i64 0, .int .i64 0]) (t := 28) ?hr ?_; (case hd => rfl); (case hg => rfl); (case hr => first | (go_simp; done) | (go_simp; rfl)); intro vF hg dN6 hbox hb; have jI := aZ (hbox); have gMo := xgh hg HB; have tK := xgh hg HB; replace HB := xhl HB hb; have aMo := xnl hg eZ; have aMp := xng hg eZ; replace eZ := xbb eZ hb; have aMq := xnl hg eQ; have aMr := xng hg eQ; replace eQ := xbb eQ hb; clear hb hbox hg; have dM4 := aMp.out; have dM5 := aMo.out; have cY2 := aMr.out; have cY3 := aMq.out; have gMp : dN6.cell? ⟨vF, 0, none⟩ = some (.int .i64 0) := (blk_cell jI.out 0).trans rfl; have gMq : dN6.cell? ⟨vF, 1, none⟩ = some (.int .i64 0) := (blk_cell jI.out 1).trans rfl; have gMr := blk_frozen jI.out 0; have gMs := blk_frozen jI.out 1))
    replace eZ : Aside0 (((dN6.setCell ⟨vF, 0, none⟩ (.int .i64 aMn)).setCell ⟨vF, 1, none⟩ (.int .i64 aN1)).heap[vZ]? = some (.cells #[.slice none 0 0] 24 (0, 0))) := xk eZ
    replace eQ : Aside0 (((dN6.setCell ⟨vF, 0, none⟩ (.int .i64 aMn)).setCell ⟨vF, 1, none⟩ (.int .i64 aN1)).heap[sH]? = some (.cells #[.int .i64 0, .int .i64 0] 28 (0, 0))) := xk eQ
    replace jI : Aside0 (((dN6.setCell ⟨vF, 0, none⟩ (.int .i64 aMn)).setCell ⟨vF, 1, none⟩ (.int .i64 aN1)).heap[vF]? = some (.cells #[.int .i64 aMn, .int .i64 aN1] 28 (0, 0))) := ⟨by refine xpl ?_; refine blk_put (cs := #[.int .i64 aMn, .int .i64 0]) ?_ 1 _ rfl; refine xpl ?_; refine blk_put (cs := #[.int .i64 0, .int .i64 0]) ?_ 0 _ rfl; refine xpl ?_; exact jI.out⟩
    replace HB : Aside0 (Below w.heap.size w ((dN6.setCell ⟨vF, 0, none⟩ (.int .i64 aMn)).setCell ⟨vF, 1, none⟩ (.int .i64 aN1))) := xb HB
    generalize ((dN6.setCell ⟨vF, 0, none⟩ (.int .i64 aMn)).setCell ⟨vF, 1, none⟩ (.int .i64 aN1)) = hXk at eZ eQ jI HB ⊢
    replace eZ := aZ (bD eZ.out)
    replace eQ := aZ (bD eQ.out)
    replace jI := aZ (bD jI.out)
    replace HB := aZ (lD HB.out)
    obtain ⟨i0235, eNl, _, eNm, _⟩ := info_parts aFk
    obtain ⟨hXl, hEt, fC9, fDa⟩ := print_drop_of (P := Try.prog) (Value.int .u8) 0 26 5 .i64 Try.underlying26 eNl eNm A0 c0 l0 (jY) (of_decide_eq_true xas) (of_decide_eq_true xas) HC0.out
    have dH9 := aZ (Kd.C_of_reads (h1 := fun _ => rfl) (fC9 _ (Kd.reads_of_C HR0.out)))
    have eNo := aZ fDa
    clear fC9 fDa eNl eNm
    refine start_ (n := 9) (S := fun w' => True) (ds := []) #[false, false, false, false, false, false, false, false, false] (by kernel_rfl) rfl rfl trivial (fun hHeld => ?_); refine with_tabW pack_read.tab7 pack_read.bits7 (fun HT_ HW_ => ?_)
    generalize hXk.drew = iLb at eZ eQ jI HB dH9 hHeld ⊢
    refine pu 0 37 #[true, false, false, false, false, false, false, false, false] HT_ rfl rfl (h := ?_)
    refine pu 2 39 #[true, false, true, false, false, false, false, false, false] HT_ rfl rfl (h := ?_)
    refine pu 3 40 #[true, false, true, true, false, false, false, false, false] HT_ rfl rfl (h := ?_)
    refine pu 4 41 #[true, false, true, true, true, false, false, false, false] HT_ rfl rfl (h := ?_)
    refine pu 5 42 #[true, false, true, true, true, true, false, false, false] HT_ rfl rfl (h := ?_)
    refine pu 6 43 #[true, false, true, true, true, true, true, false, false] HT_ rfl rfl (h := ?_)
    refine one_ (i := 1) (N := some 38) #[true, true, true, true, true, true, true, false, false] rfl rfl (one_of HT_.out (by kernel_rfl)) (by decide) (fun K hK => ?_)
    refine goes_ Try.func41 (by kernel_rfl) rfl #[.slice none 0 0, .int .i64 dN5] (by rfl) rfl rfl xmp ?_
    refine (pack_number.calls k (fun k_ => some k_ = (.slice none 0 0 : Value).ownBlock) (.slice none 0 0) ([] : List Int) dN5 bU4 w _ ?side1 ?side2 A18.out).mono ?_
    (case side1 => repeat (first | (with_reducible first | exact HB.out | apply lA | apply lN | apply lD | refine lS ?_ sN.out | refine lS ?_ sO.out | refine lS ?_ tK.out) | exact HB.out))
    (case side2 => exact Kd.R_nil _ _ _ _ _)
    rintro e fSt ⟨hXm, rfl, gZ, hb, hkp⟩
    refine ⟨_, rfl, ?_⟩
    replace eZ := aZ (blk_kept (xkq eZ) hkp (fun hs_ => (fun e_ => by simp [Value.ownBlock] at e_) hs_))
    replace eQ := aZ (blk_kept (xkq eQ) hkp (fun hs_ => (fun e_ => by simp [Value.ownBlock] at e_) hs_))
    replace jI := aZ (blk_kept (xkq jI) hkp (fun hs_ => (fun e_ => by simp [Value.ownBlock] at e_) hs_))
    have bHl := aZ (Kd.R_mono (ok' := fun k_ => True) gZ (fun k_ hk_ => trivial))
    replace HB := aZ (hb)
    (try clear hb)
    (try clear hkp)
    (try clear gZ)
    obtain ⟨gMt, gMu, fDb⟩ := Kd.R_slice bHl.out
    (first | subst fDb | (injection fDb with f1_ f2_ f3_; have f4_ := f1_.symm; have f5_ := f3_.symm; clear f1_ f2_ f3_; subst f4_; subst f5_))
    refine hK.out _ _ trivial (fun hHeld => ?_)
    clear hK K
    refine norm_ (a' := ?_) ?_ ?_
    rotate_left
    · show Act.put _ (some 38) _ = _
      simp only [Act.put, List.setIfInBounds_toArray, List.set_cons_zero, List.set_cons_succ, i64_w, i32_w]
      rfl
    refine one_ (i := 7) (N := some 44) #[true, true, true, true, true, true, true, true, false] rfl rfl (one_of HT_.out (by kernel_rfl)) (by decide) (fun K hK => ?_)
    refine goes_ Try.func54 (by kernel_rfl) rfl #[.slice gMt bU4.length gMu, .slice hXl (l0.drop ((jY) : Int).toNat).length (c0 - (jY).toNat)] (by rfl) rfl rfl (by (try simp only [List.map_toArray, List.map_cons, List.map_nil]); first | done | (rw [show (l0.drop ((jY) : Int).toNat).length = (l0.length - (jY).toNat) from List.length_drop] <;> rfl) | (simp only [bDe]; rfl) | rfl | (simp only [List.length_drop, List.length_take]; rfl)) ?_
    with_reducible refine (slices_Equal_byte_byte.calls k _ _ bU4 _ _ (l0.drop ((jY) : Int).toNat) false _ ?side1 ?side2 ?side3 ?side4 A21.out).mono ?_
    (case side1 => repeat (first | exact (Kd.R_reads' bHl.out).2.2 | (with_reducible refine Kd.C_alloc ?_ _) | (with_reducible refine Kd.C_drewN ?_ _) | (with_reducible refine Kd.C_drew ?_)))
    (case side2 => exact (Kd.R_reads' bHl.out).2.1)
    (case side3 => exact xcb dH9 HB)
    (case side4 => exact eNo.out)
    rintro e w' ⟨rfl, ⟨nd, rfl⟩⟩
    refine ⟨_, rfl, ?_⟩
    refine hK.out _ _ trivial (fun hHeld => ?_)
    clear hK K
    refine norm_ (a' := ?_) ?_ ?_
    rotate_left
    · show Act.put _ (some 44) _ = _
      simp only [Act.put, List.setIfInBounds_toArray, List.set_cons_zero, List.set_cons_succ, i64_w, i32_w]
      rfl
    refine pu 8 45 #[true, true, true, true, true, true, true, true, true] HT_ rfl rfl (h := ?_)
    refine done_ (done_of HT_.out (by kernel_rfl)) ?_
    have dMb := nU.out
    have dMc := tN.out
    have gMv : fSt.cell? ⟨vZ, 0, none⟩ = some (.slice none 0 0) := (blk_cell eZ.out 0).trans rfl
    have gMw := blk_frozen eZ.out 0
    have gMx : fSt.cell? ⟨sH, 0, none⟩ = some (.int .i64 0) := (blk_cell eQ.out 0).trans rfl
    have gMy : fSt.cell? ⟨sH, 1, none⟩ = some (.int .i64 0) := (blk_cell eQ.out 1).trans rfl
    have gMz := blk_frozen eQ.out 0
    have gM0 := blk_frozen eQ.out 1
    try go_wp2
    refine bodyPost_ret (results_list (rs := [.cell 2 24, .tmp 3, .cell 4 28]) rfl (by simp) (.cell vZ 24 #[.slice none 0 0] (0, 0) _ rfl (by refine xpl ?_; refine blk_far ?_ nU.out _; refine xpl ?_; refine blk_far ?_ nU.out _; refine xpl ?_; refine blk_put (cs := #[.slice none 0 0]) ?_ 0 _ rfl; refine xpl ?_; exact eZ.out) Try.underlying24 rfl (by kernel_rfl) (.tmp (.cell sH 28 #[.int .i64 18, .int .i64 0] (0, 0) _ rfl (by refine xpl ?_; refine blk_put (cs := #[.int .i64 18, .int .i64 0]) ?_ 1 _ rfl; refine xpl ?_; refine blk_put (cs := #[.int .i64 0, .int .i64 0]) ?_ 0 _ rfl; refine xpl ?_; refine blk_far ?_ tN.out _; refine xpl ?_; exact eQ.out) Try.underlying28 rfl (by kernel_rfl) .nil)))) rfl ?_
    exact ⟨_, _, by first | rfl | (simp [errW_none, errW_some] <;> rfl) | (simp only [← bDe]; first | rfl | (simp [errW_none, errW_some] <;> rfl)) | (simp [*, errW_none, errW_some] <;> rfl), by first | exact Kd.S_nil _ _ _ _ _ | exact Kd.N_nil _ _ _ _ _ | exact Kd.V_nil _ _ _ _ _ | exact Kd.Q_nil _ _ _ _ _ | exact Kd.R_nil _ _ _ _ _, by first | exact Kd.R_nil _ _ _ _ _ | exact Kd.N_nil _ _ _ _ _ | exact Kd.V_nil _ _ _ _ _ | exact Kd.Q_nil _ _ _ _ _ | exact Kd.S_nil _ _ _ _ _, xq HB⟩
  subst c22
  have H1 : (if 0 < ((l0.take ((jY) : Int).toNat).length : Int) then (if 1 < ((l0.take ((jY) : Int).toNat).length : Int) then ((pp_and.f ((rd (l0.take ((jY) : Int).toNat) 0) == 80) ((rd (l0.take ((jY) : Int).toNat) 1) == 75)).bind fun bMa => ((pp_reader.f (l0.take ((jY) : Int).toNat) 3 bMa).bind fun aCb => (if 2 < ((l0.take ((jY) : Int).toNat).length : Int) then (pack_read.l0 k (l0.take ((jY) : Int).toNat) ([] : List (S48)) (rd (l0.take ((jY) : Int).toNat) 2) 0 ([] : List (fB)) aCb.1 aCb.2.1 aCb.2.2) else (none)))) else (none)) else (none)) = some (r1, r2, r3, r4) := by rw [if_pos rfl] at H; exact H
  clear H
  have H := H1
  clear H1
  by_cases c23 : 0 < ((l0.take ((jY) : Int).toNat).length : Int)
  rotate_left
  · rw [if_neg c23] at H
    exact absurd H (by simp)
  rw [if_pos c23] at H
  have cSh : decide (0 < ((l0.take ((jY) : Int).toNat).length : Int)) = true := decide_eq_true c23
  have eB7 : decide (0 < (l0.take ((jY) : Int).toNat).length) = true := decide_eq_true (by omega)
  clear c23
  by_cases c24 : 1 < ((l0.take ((jY) : Int).toNat).length : Int)
  rotate_left
  · rw [if_neg c24] at H
    exact absurd H (by simp)
  rw [if_pos c24] at H
  have dDu : decide (1 < ((l0.take ((jY) : Int).toNat).length : Int)) = true := decide_eq_true c24
  have eB4 : decide (1 < (l0.take ((jY) : Int).toNat).length) = true := decide_eq_true (by omega)
  clear c24
  replace H := Option.bind_eq_some_iff.mp H
  obtain ⟨bMa, cNc, H⟩ := H
  replace H : ((pp_reader.f (l0.take ((jY) : Int).toNat) 3 bMa).bind fun aCb => (if 2 < ((l0.take ((jY) : Int).toNat).length : Int) then (pack_read.l0 k (l0.take ((jY) : Int).toNat) ([] : List (S48)) (rd (l0.take ((jY) : Int).toNat) 2) 0 ([] : List (fB)) aCb.1 aCb.2.1 aCb.2.2) else (none))) = some (r1, r2, r3, r4) := H
  have A25 := aZ cNc
  clear cNc
  replace H := Option.bind_eq_some_iff.mp H
  obtain ⟨⟨yB, eAs, eAt⟩, gM1, H⟩ := H
  replace H : (if 2 < ((l0.take ((jY) : Int).toNat).length : Int) then (pack_read.l0 k (l0.take ((jY) : Int).toNat) ([] : List (S48)) (rd (l0.take ((jY) : Int).toNat) 2) 0 ([] : List (fB)) yB eAs eAt) else (none)) = some (r1, r2, r3, r4) := H
  have A26 := aZ gM1
  clear gM1
  by_cases c27 : 2 < ((l0.take ((jY) : Int).toNat).length : Int)
  rotate_left
  · rw [if_neg c27] at H
    exact absurd H (by simp)
  rw [if_pos c27] at H
  have bCi : decide (2 < ((l0.take ((jY) : Int).toNat).length : Int)) = true := decide_eq_true c27
  have cSj : decide (2 < (l0.take ((jY) : Int).toNat).length) = true := decide_eq_true (by omega)
  clear c27
  have H' := aZ H
  clear H
  go_enter Try.func44, Try.ntmps44
  try go_wp2_with (first | ((with_reducible refine gate_dst (N := 2) rfl ?_); (try (refine gate_guard (by rfl) ?_; dsimp only)); refine box_event ?hg (N := 2) ?hd (cs := #[.slice none 0 0]) (t := 24) ?hr ?_; (case hd => rfl); (case hg => rfl); (case hr => first | (go_simp; done) | (go_simp; rfl)); intro vZ hg w28 hbox hb; have eZ := aZ (hbox); have eNh := xgh hg HB; have sN := xgh hg HB; replace HB := xhl HB hb; clear hb hbox hg) | ((with_reducible refine gate_dst (N := 4) rfl ?_); (try (refine gate_guard (by rfl) ?_; dsimp only)); refine box_event ?hg (N := 4) ?hd (cs := #[.int .i64 0, .int .i64 0]) (t := 28) ?hr ?_; (case hd => rfl); (case hg => rfl); (case hr => first | (go_simp; done) | (go_simp; rfl)); intro sH hg w29 hbox hb; have eQ := aZ (hbox); have eNi := xgh hg HB; have sO := xgh hg HB; replace HB := xhl HB hb; have nU := xnl hg eZ; have tN := xng hg eZ; replace eZ := xbb eZ hb; clear hb hbox hg; obtain ⟨i030, fDc, _, fDd, _⟩ := info_parts aFk; obtain ⟨hXn, gM2, gM3⟩ := print_take_of (P := Try.prog) (Value.int .u8) 0 26 5 .i64 Try.underlying26 fDc fDd A0 c0 l0 (jY) (of_decide_eq_true xas) (of_decide_eq_true xas) HC0.out; have cA3 := aZ (Kd.C_of_reads (h1 := fun _ => rfl) (gM2 _ (Kd.reads_of_C HR0.out))); have dH8 := aZ gM3; clear gM2 gM3 fDc fDd) | ((with_reducible refine gate_callee (f := 40) rfl ?_); refine goesL_ (some 34) rfl rfl Try.func40 (by kernel_rfl) rfl #[.slice A0 (l0.take ((jY) : Int).toNat).length c0] rfl (by (try simp only [List.map_toArray, List.map_cons, List.map_nil]); first | done | (rw [show (l0.take ((jY) : Int).toNat).length = (jY).toNat from (by rw [List.length_take]; have h_ : ((jY) : Int) ≤ (l0.length : Int) := of_decide_eq_true xas; omega)] <;> rfl) | (simp only [bDe]; rfl) | rfl | (simp only [List.length_drop, List.length_take]; rfl)) ?_; (with_reducible refine (digest_Of.calls k _ _ (l0.take ((jY) : Int).toNat) dN5 aMn aN1 _ ?side1 ?side2 A17.out).mono ?_); (case side1 => exact xcb cA3 HB); (case side2 => exact dH8.out); rintro e w31 ⟨rfl, hb⟩; refine ⟨_, rfl, ?_⟩; replace eZ := xbb eZ hb; replace eQ := xbb eQ hb; replace HB := xhl HB hb; skip; (try clear hb); (try clear iV); (try clear hk); (try clear hi)) | ((with_reducible refine gate_dst (N := 7) rfl ?_); (try (refine gate_guard (by rfl) ?_; dsimp only)); refine box_event ?hg (N := 7) ?hd (cs := #[.int .i64 0, .int .i64 0]) (t := 28) ?hr ?_; (case hd => rfl); (case hg => rfl); (case hr => first | (go_simp; done) | (go_simp; rfl)); intro vF hg w32 hbox hb; have jI := aZ (hbox); have gMo := xgh hg HB; have tK := xgh hg HB; replace HB := xhl HB hb; have aMo := xnl hg eZ; have aMp := xng hg eZ; replace eZ := xbb eZ hb; have aMq := xnl hg eQ; have aMr := xng hg eQ; replace eQ := xbb eQ hb; clear hb hbox hg; have cM8 := aMp.out; have cM9 := aMo.out; have dEh := aMr.out; have dEi := aMq.out; have cLn : w32.cell? ⟨vF, 0, none⟩ = some (.int .i64 0) := (blk_cell jI.out 0).trans rfl; have dVc : w32.cell? ⟨vF, 1, none⟩ = some (.int .i64 0) := (blk_cell jI.out 1).trans rfl; have cLo := blk_frozen jI.out 0; have dVd := blk_frozen jI.out 1))
  replace eZ : Aside0 (((w32.setCell ⟨vF, 0, none⟩ (.int .i64 aMn)).setCell ⟨vF, 1, none⟩ (.int .i64 aN1)).heap[vZ]? = some (.cells #[.slice none 0 0] 24 (0, 0))) := xk eZ
  replace eQ : Aside0 (((w32.setCell ⟨vF, 0, none⟩ (.int .i64 aMn)).setCell ⟨vF, 1, none⟩ (.int .i64 aN1)).heap[sH]? = some (.cells #[.int .i64 0, .int .i64 0] 28 (0, 0))) := xk eQ
  replace jI : Aside0 (((w32.setCell ⟨vF, 0, none⟩ (.int .i64 aMn)).setCell ⟨vF, 1, none⟩ (.int .i64 aN1)).heap[vF]? = some (.cells #[.int .i64 aMn, .int .i64 aN1] 28 (0, 0))) := ⟨by refine xpl ?_; refine blk_put (cs := #[.int .i64 aMn, .int .i64 0]) ?_ 1 _ rfl; refine xpl ?_; refine blk_put (cs := #[.int .i64 0, .int .i64 0]) ?_ 0 _ rfl; refine xpl ?_; exact jI.out⟩
  replace HB : Aside0 (Below w.heap.size w ((w32.setCell ⟨vF, 0, none⟩ (.int .i64 aMn)).setCell ⟨vF, 1, none⟩ (.int .i64 aN1))) := xb HB
  generalize ((w32.setCell ⟨vF, 0, none⟩ (.int .i64 aMn)).setCell ⟨vF, 1, none⟩ (.int .i64 aN1)) = w36 at eZ eQ jI HB ⊢
  replace eZ := aZ (bD eZ.out)
  replace eQ := aZ (bD eQ.out)
  replace jI := aZ (bD jI.out)
  replace HB := aZ (lD HB.out)
  obtain ⟨i038, dIa, _, dIb, _⟩ := info_parts aFk
  obtain ⟨A38, fSu, eNq, eNr⟩ := print_drop_of (P := Try.prog) (Value.int .u8) 0 26 5 .i64 Try.underlying26 dIa dIb A0 c0 l0 (jY) (of_decide_eq_true xas) (of_decide_eq_true xas) HC0.out
  have dH9 := aZ (Kd.C_of_reads (h1 := fun _ => rfl) (eNq _ (Kd.reads_of_C HR0.out)))
  have eNo := aZ eNr
  clear eNq eNr dIa dIb
  refine start_ (n := 9) (S := fun w' => True) (ds := []) #[false, false, false, false, false, false, false, false, false] (by kernel_rfl) rfl rfl trivial (fun hHeld => ?_); refine with_tabW pack_read.tab7 pack_read.bits7 (fun HT_ HW_ => ?_)
  generalize w36.drew = w37 at eZ eQ jI HB dH9 hHeld ⊢
  refine pu 0 37 #[true, false, false, false, false, false, false, false, false] HT_ rfl rfl (h := ?_)
  refine pu 2 39 #[true, false, true, false, false, false, false, false, false] HT_ rfl rfl (h := ?_)
  refine pu 3 40 #[true, false, true, true, false, false, false, false, false] HT_ rfl rfl (h := ?_)
  refine pu 4 41 #[true, false, true, true, true, false, false, false, false] HT_ rfl rfl (h := ?_)
  refine pu 5 42 #[true, false, true, true, true, true, false, false, false] HT_ rfl rfl (h := ?_)
  refine pu 6 43 #[true, false, true, true, true, true, true, false, false] HT_ rfl rfl (h := ?_)
  refine one_ (i := 1) (N := some 38) #[true, true, true, true, true, true, true, false, false] rfl rfl (one_of HT_.out (by kernel_rfl)) (by decide) (fun K hK => ?_)
  refine goes_ Try.func41 (by kernel_rfl) rfl #[.slice none 0 0, .int .i64 dN5] (by rfl) rfl rfl xmp ?_
  refine (pack_number.calls k (fun k_ => some k_ = (.slice none 0 0 : Value).ownBlock) (.slice none 0 0) ([] : List Int) dN5 bU4 w _ ?side1 ?side2 A18.out).mono ?_
  (case side1 => repeat (first | (with_reducible first | exact HB.out | apply lA | apply lN | apply lD | refine lS ?_ sN.out | refine lS ?_ sO.out | refine lS ?_ tK.out) | exact HB.out))
  (case side2 => exact Kd.R_nil _ _ _ _ _)
  rintro e w39 ⟨hXm, rfl, gZ, hb, hkp⟩
  refine ⟨_, rfl, ?_⟩
  replace eZ := aZ (blk_kept (xkq eZ) hkp (fun hs_ => (fun e_ => by simp [Value.ownBlock] at e_) hs_))
  replace eQ := aZ (blk_kept (xkq eQ) hkp (fun hs_ => (fun e_ => by simp [Value.ownBlock] at e_) hs_))
  replace jI := aZ (blk_kept (xkq jI) hkp (fun hs_ => (fun e_ => by simp [Value.ownBlock] at e_) hs_))
  have bHl := aZ (Kd.R_mono (ok' := fun k_ => True) gZ (fun k_ hk_ => trivial))
  replace HB := aZ (hb)
  (try clear hb)
  (try clear hkp)
  (try clear gZ)
  obtain ⟨hXp, hXq, gM4⟩ := Kd.R_slice bHl.out
  (first | subst gM4 | (injection gM4 with f1_ f2_ f3_; have f4_ := f1_.symm; have f5_ := f3_.symm; clear f1_ f2_ f3_; subst f4_; subst f5_))
  refine hK.out _ _ trivial (fun hHeld => ?_)
  clear hK K
  refine norm_ (a' := ?_) ?_ ?_
  rotate_left
  · show Act.put _ (some 38) _ = _
    simp only [Act.put, List.setIfInBounds_toArray, List.set_cons_zero, List.set_cons_succ, i64_w, i32_w]
    rfl
  refine one_ (i := 7) (N := some 44) #[true, true, true, true, true, true, true, true, false] rfl rfl (one_of HT_.out (by kernel_rfl)) (by decide) (fun K hK => ?_)
  refine goes_ Try.func54 (by kernel_rfl) rfl #[.slice hXp bU4.length hXq, .slice A38 (l0.drop ((jY) : Int).toNat).length (c0 - (jY).toNat)] (by rfl) rfl rfl (by (try simp only [List.map_toArray, List.map_cons, List.map_nil]); first | done | (rw [show (l0.drop ((jY) : Int).toNat).length = (l0.length - (jY).toNat) from List.length_drop] <;> rfl) | (simp only [bDe]; rfl) | rfl | (simp only [List.length_drop, List.length_take]; rfl)) ?_
  with_reducible refine (slices_Equal_byte_byte.calls k _ _ bU4 _ _ (l0.drop ((jY) : Int).toNat) true _ ?side1 ?side2 ?side3 ?side4 A21.out).mono ?_
  (case side1 => repeat (first | exact (Kd.R_reads' bHl.out).2.2 | (with_reducible refine Kd.C_alloc ?_ _) | (with_reducible refine Kd.C_drewN ?_ _) | (with_reducible refine Kd.C_drew ?_)))
  (case side2 => exact (Kd.R_reads' bHl.out).2.1)
  (case side3 => exact xcb dH9 HB)
  (case side4 => exact eNo.out)
  rintro e w' ⟨rfl, ⟨nd, rfl⟩⟩
  refine ⟨_, rfl, ?_⟩
  refine hK.out _ _ trivial (fun hHeld => ?_)
  clear hK K
  refine norm_ (a' := ?_) ?_ ?_
  rotate_left
  · show Act.put _ (some 44) _ = _
    simp only [Act.put, List.setIfInBounds_toArray, List.set_cons_zero, List.set_cons_succ, i64_w, i32_w]
    rfl
  refine pu 8 45 #[true, true, true, true, true, true, true, true, true] HT_ rfl rfl (h := ?_)
  refine done_ (done_of HT_.out (by kernel_rfl)) ?_
  go_upto_region 10 with (first | ((with_reducible refine gate_dst (N := 8) rfl ?_); (try (refine gate_guard (by rfl) ?_; dsimp only)); refine box_event ?hg (N := 8) ?hd (cs := #[.slice none 0 0]) (t := 24) ?hr ?_; (case hd => rfl); (case hg => rfl); (case hr => first | (go_simp; done) | (go_simp; rfl)); intro aAy hg w41 hbox hb; replace bHl := xR bHl hb; have kL := aZ (hbox); have fDe := xgh hg HB; have uJ := xgh hg HB; replace HB := xhl HB hb; have zH := xnl hg eZ; have aPh := xng hg eZ; replace eZ := xbb eZ hb; have zI := xnl hg eQ; have aPi := xng hg eQ; replace eQ := xbb eQ hb; have aE6 := xnl hg jI; have bR2 := xng hg jI; replace jI := xbb jI hb; clear hb hbox hg; have bSu := aPh.out; have bSv := zH.out; have bLs := aPi.out; have bLt := zI.out; have bLo := bR2.out; have bLp := aE6.out; have bPt : w41.cell? ⟨aAy, 0, none⟩ = some (.slice none 0 0) := (blk_cell kL.out 0).trans rfl; have bPu := blk_frozen kL.out 0; have eYl : 0 ≤ (0 : Int) := (by omega); have eYm : 0 < ((l0.take ((jY) : Int).toNat).length : Int) := of_decide_eq_true xas; obtain ⟨cQv, hXt, bDf⟩ := Kd.at_int cA3.out 0 eYl eYm; cases hXt; have iE8 : (0 < (l0.take ((jY) : Int).toNat).length) = True := eq_true (by omega); (try rw [show ((0 : Int)).toNat = 0 from rfl] at bDf); (try rw [Addr.add_zero'] at bDf); have cL9 : cQv.block ≠ aAy := Nat.ne_of_lt (Nat.lt_of_lt_of_le (by have := World.block_lt_of_cell? _ _ bDf; first | rwa [add_block] at this | exact this) fDe.out); replace bDf := xcl HB bDf; replace bDf := (cell_far (p := ⟨aAy, 0, none⟩) (by first | (rw [add_block]; exact cL9) | (show (Addr.add _ _).block ≠ _; rw [add_block]; exact cL9) | exact cL9) (.slice none 0 0)).trans bDf; clear cL9; replace eYl := eq_true eYl; replace eYm := eq_true eYm; have eYn : 0 ≤ (1 : Int) := (by omega); have eYo : 1 < ((l0.take ((jY) : Int).toNat).length : Int) := of_decide_eq_true xas; obtain ⟨gM6, hXu, bDg⟩ := Kd.at_int cA3.out 1 eYn eYo; obtain rfl : cQv = gM6 := (by injection hXu); (try simp only [show (1 : Int).toNat = 1 from rfl, Nat.reduceMul, Nat.reduceEqDiff, Go.Addr.add, ↓reduceIte] at bDg); have iE9 : (1 < (l0.take ((jY) : Int).toNat).length) = True := eq_true (by omega); (try rw [show ((1 : Int)).toNat = 1 from rfl] at bDg); have cMa : cQv.block ≠ aAy := Nat.ne_of_lt (Nat.lt_of_lt_of_le (by have := World.block_lt_of_cell? _ _ bDg; first | rwa [add_block] at this | exact this) fDe.out); replace bDg := xcl HB bDg; replace bDg := (cell_far (p := ⟨aAy, 0, none⟩) (by first | (rw [add_block]; exact cMa) | (show (Addr.add _ _).block ≠ _; rw [add_block]; exact cMa) | exact cMa) (.slice none 0 0)).trans bDg; clear cMa; replace eYn := eq_true eYn; replace eYo := eq_true eYo))
  (try simp only [Act.put, List.setIfInBounds_toArray, List.set_cons_zero, List.set_cons_succ])
  go_cut [10] (fun v10 wc => ∃ (xN : Nat), v10 = .pointer (some ⟨xN, 0, none⟩) ∧ Aside0 (aM w wc xN yB eAs eAt) ∧ Aside0 (wc.heap[vZ]? = some (.cells #[.slice none 0 0] 24 (0, 0))) ∧ Aside0 (wc.heap[sH]? = some (.cells #[.int .i64 0, .int .i64 0] 28 (0, 0))) ∧ Aside0 (wc.heap[vF]? = some (.cells #[.int .i64 aMn, .int .i64 aN1] 28 (0, 0))) ∧ Aside0 (wc.heap[aAy]? = some (.cells #[.slice none 0 0] 24 (0, 0))) ∧ Aside0 (Below w.heap.size w wc))
  case first =>
    have hXr : (((rd (l0.take ((jY) : Int).toNat) 0) == 80) = true ∧ bMa = ((rd (l0.take ((jY) : Int).toNat) 1) == 75)) ∨ (((rd (l0.take ((jY) : Int).toNat) 0) == 80) = false ∧ bMa = false) := by
      have e_ : (((rd (l0.take ((jY) : Int).toNat) 0) == 80) && ((rd (l0.take ((jY) : Int).toNat) 1) == 75)) = bMa := Option.some.inj A25.out
      cases h_ : ((rd (l0.take ((jY) : Int).toNat) 0) == 80) with
      | true => exact .inl ⟨rfl, by rw [← e_, h_]; rfl⟩
      | false => exact .inr ⟨rfl, by rw [← e_, h_]; rfl⟩
    clear A25
    rcases hXr with ⟨fCj, gM5⟩ | ⟨fCj, gM5⟩
    all_goals
      subst gM5
      go_wp2_with (first | ((with_reducible refine gate_dst (N := 61) rfl ?_); (try (refine gate_guard (by rfl) ?_; dsimp only)); refine box_event ?hg (N := 61) ?hd (cs := #[.slice (some cQv) (l0.take ((jY) : Int).toNat).length c0, .int .i64 3, .bool ((rd (l0.take ((jY) : Int).toNat) 1) == 75)]) (t := 94) ?hr ?_; (case hd => rfl); (case hg => rfl); (case hr => first | (go_simp; done) | (go_simp; rfl)); intro xN hg w46 hbox iV; have hb := lT (by repeat (first | (with_reducible first | exact HB.out | apply lA | apply lN | apply lD | refine lS ?_ sN.out | refine lS ?_ sO.out | refine lS ?_ tK.out | refine lS ?_ uJ.out) | exact HB.out)) iV; obtain ⟨e1_, e2_, e3_⟩ : (l0.take ((jY) : Int).toNat) = yB ∧ (3 : Int) = eAs ∧ ((rd (l0.take ((jY) : Int).toNat) 1) == 75) = eAt := (by have h_ := A26.out; simp only [pp_reader.f, Option.some.injEq, Prod.mk.injEq] at h_; exact h_); have hi : aM w w46 xN yB eAs eAt := (by rw [← e1_, ← e2_, ← e3_]; exact ⟨_, _, hbox, (by rw [hg]; exact lZ (by repeat (first | (with_reducible first | exact HB.out | apply lA | apply lN | apply lD | refine lS ?_ sN.out | refine lS ?_ sO.out | refine lS ?_ tK.out | refine lS ?_ uJ.out) | exact HB.out))), cA3.out, dH8.out⟩); clear e1_ e2_ e3_ hbox hg; replace bHl := aZ (Kd.R_below (by (with_reducible repeat (first | apply Kd.rA | apply Kd.rN | apply Kd.rD)); exact (Kd.R_mono (Kd.R_far (p := ⟨aAy, 0, none⟩) (Kd.R_types bHl.out kL.out (by decide)) (fun _ hk => hk.2) (.slice none 0 0)) (fun _ h_ => h_.1))) iV); replace HB := aZ (hb); have dJ := aZ (hi); have gF := aZ (aM.ne_blk hi (blk_below (g := vZ) (o := .cells #[.slice none 0 0] 24 (0, 0)) ((xk eZ).out) iV) (by decide)); have aAl := aZ (Ne.symm (aM.ne_blk hi (blk_below (g := vZ) (o := .cells #[.slice none 0 0] 24 (0, 0)) ((xk eZ).out) iV) (by decide))); replace eZ := aZ (blk_below (g := vZ) (o := .cells #[.slice none 0 0] 24 (0, 0)) ((xk eZ).out) iV); have gG := aZ (aM.ne_blk hi (blk_below (g := sH) (o := .cells #[.int .i64 0, .int .i64 0] 28 (0, 0)) ((xk eQ).out) iV) (by decide)); have aAm := aZ (Ne.symm (aM.ne_blk hi (blk_below (g := sH) (o := .cells #[.int .i64 0, .int .i64 0] 28 (0, 0)) ((xk eQ).out) iV) (by decide))); replace eQ := aZ (blk_below (g := sH) (o := .cells #[.int .i64 0, .int .i64 0] 28 (0, 0)) ((xk eQ).out) iV); have iC := aZ (aM.ne_blk hi (blk_below (g := vF) (o := .cells #[.int .i64 aMn, .int .i64 aN1] 28 (0, 0)) ((xk jI).out) iV) (by decide)); have aPj := aZ (Ne.symm (aM.ne_blk hi (blk_below (g := vF) (o := .cells #[.int .i64 aMn, .int .i64 aN1] 28 (0, 0)) ((xk jI).out) iV) (by decide))); replace jI := aZ (blk_below (g := vF) (o := .cells #[.int .i64 aMn, .int .i64 aN1] 28 (0, 0)) ((xk jI).out) iV); have gL := aZ (aM.ne_blk hi (blk_below (g := aAy) (o := .cells #[.slice none 0 0] 24 (0, 0)) (by refine xpl ?_; refine blk_put (cs := #[.slice none 0 0]) ?_ 0 _ rfl; refine xpl ?_; exact kL.out) iV) (by decide)); have aE7 := aZ (Ne.symm (aM.ne_blk hi (blk_below (g := aAy) (o := .cells #[.slice none 0 0] 24 (0, 0)) (by refine xpl ?_; refine blk_put (cs := #[.slice none 0 0]) ?_ 0 _ rfl; refine xpl ?_; exact kL.out) iV) (by decide))); replace kL := aZ (blk_below (g := aAy) (o := .cells #[.slice none 0 0] 24 (0, 0)) (by refine xpl ?_; refine blk_put (cs := #[.slice none 0 0]) ?_ 0 _ rfl; refine xpl ?_; exact kL.out) iV); (try clear hb); (try clear iV); (try clear hk); (try clear hi)) | ((with_reducible refine gate_dst (N := 61) rfl ?_); (try (refine gate_guard (by rfl) ?_; dsimp only)); refine box_event ?hg (N := 61) ?hd (cs := #[.slice (some cQv) (l0.take ((jY) : Int).toNat).length c0, .int .i64 3, .bool (false)]) (t := 94) ?hr ?_; (case hd => rfl); (case hg => rfl); (case hr => first | (go_simp; done) | (go_simp; rfl)); intro xN hg w46 hbox iV; have hb := lT (by repeat (first | (with_reducible first | exact HB.out | apply lA | apply lN | apply lD | refine lS ?_ sN.out | refine lS ?_ sO.out | refine lS ?_ tK.out | refine lS ?_ uJ.out) | exact HB.out)) iV; obtain ⟨e1_, e2_, e3_⟩ : (l0.take ((jY) : Int).toNat) = yB ∧ (3 : Int) = eAs ∧ (false) = eAt := (by have h_ := A26.out; simp only [pp_reader.f, Option.some.injEq, Prod.mk.injEq] at h_; exact h_); have hi : aM w w46 xN yB eAs eAt := (by rw [← e1_, ← e2_, ← e3_]; exact ⟨_, _, hbox, (by rw [hg]; exact lZ (by repeat (first | (with_reducible first | exact HB.out | apply lA | apply lN | apply lD | refine lS ?_ sN.out | refine lS ?_ sO.out | refine lS ?_ tK.out | refine lS ?_ uJ.out) | exact HB.out))), cA3.out, dH8.out⟩); clear e1_ e2_ e3_ hbox hg; replace bHl := aZ (Kd.R_below (by (with_reducible repeat (first | apply Kd.rA | apply Kd.rN | apply Kd.rD)); exact (Kd.R_mono (Kd.R_far (p := ⟨aAy, 0, none⟩) (Kd.R_types bHl.out kL.out (by decide)) (fun _ hk => hk.2) (.slice none 0 0)) (fun _ h_ => h_.1))) iV); replace HB := aZ (hb); have dJ := aZ (hi); have gF := aZ (aM.ne_blk hi (blk_below (g := vZ) (o := .cells #[.slice none 0 0] 24 (0, 0)) ((xk eZ).out) iV) (by decide)); have aAl := aZ (Ne.symm (aM.ne_blk hi (blk_below (g := vZ) (o := .cells #[.slice none 0 0] 24 (0, 0)) ((xk eZ).out) iV) (by decide))); replace eZ := aZ (blk_below (g := vZ) (o := .cells #[.slice none 0 0] 24 (0, 0)) ((xk eZ).out) iV); have gG := aZ (aM.ne_blk hi (blk_below (g := sH) (o := .cells #[.int .i64 0, .int .i64 0] 28 (0, 0)) ((xk eQ).out) iV) (by decide)); have aAm := aZ (Ne.symm (aM.ne_blk hi (blk_below (g := sH) (o := .cells #[.int .i64 0, .int .i64 0] 28 (0, 0)) ((xk eQ).out) iV) (by decide))); replace eQ := aZ (blk_below (g := sH) (o := .cells #[.int .i64 0, .int .i64 0] 28 (0, 0)) ((xk eQ).out) iV); have iC := aZ (aM.ne_blk hi (blk_below (g := vF) (o := .cells #[.int .i64 aMn, .int .i64 aN1] 28 (0, 0)) ((xk jI).out) iV) (by decide)); have aPj := aZ (Ne.symm (aM.ne_blk hi (blk_below (g := vF) (o := .cells #[.int .i64 aMn, .int .i64 aN1] 28 (0, 0)) ((xk jI).out) iV) (by decide))); replace jI := aZ (blk_below (g := vF) (o := .cells #[.int .i64 aMn, .int .i64 aN1] 28 (0, 0)) ((xk jI).out) iV); have gL := aZ (aM.ne_blk hi (blk_below (g := aAy) (o := .cells #[.slice none 0 0] 24 (0, 0)) (by refine xpl ?_; refine blk_put (cs := #[.slice none 0 0]) ?_ 0 _ rfl; refine xpl ?_; exact kL.out) iV) (by decide)); have aE7 := aZ (Ne.symm (aM.ne_blk hi (blk_below (g := aAy) (o := .cells #[.slice none 0 0] 24 (0, 0)) (by refine xpl ?_; refine blk_put (cs := #[.slice none 0 0]) ?_ 0 _ rfl; refine xpl ?_; exact kL.out) iV) (by decide))); replace kL := aZ (blk_below (g := aAy) (o := .cells #[.slice none 0 0] 24 (0, 0)) (by refine xpl ?_; refine blk_put (cs := #[.slice none 0 0]) ?_ 0 _ rfl; refine xpl ?_; exact kL.out) iV); (try clear hb); (try clear iV); (try clear hk); (try clear hi)))
      any_goals (exfalso; have h_ := of_decide_eq_true cSj; rw [List.length_take] at h_; omega)
      go_meet
      case rel => exact ⟨_, rfl, ⟨by repeat (first | exact dJ.out | apply aM.alloc | apply aM.drewN | apply aM.drew)⟩, xk eZ, xk eQ, xk jI, xk kL, xb HB⟩
  case rest =>
    clear A25
    obtain ⟨xN, rfl, dJ, eZ, eQ, jI, kL, HB⟩ := hcut
    have gF := aZ (aM.ne_blk dJ.out eZ.out (by decide))
    have aAl := aZ (Ne.symm gF.out)
    have gG := aZ (aM.ne_blk dJ.out eQ.out (by decide))
    have aAm := aZ (Ne.symm gG.out)
    have iC := aZ (aM.ne_blk dJ.out jI.out (by decide))
    have aPj := aZ (Ne.symm iC.out)
    have gL := aZ (aM.ne_blk dJ.out kL.out (by decide))
    have aE7 := aZ (Ne.symm gL.out)
    have dIc : 0 ≤ (2 : Int) := (by omega)
    have dId : 2 < ((l0.take ((jY) : Int).toNat).length : Int) := of_decide_eq_true xas
    obtain ⟨eNs, fSv, aVr⟩ := Kd.at_int cA3.out 2 dIc dId
    obtain rfl : cQv = eNs := (by injection fSv)
    (try simp only [show (2 : Int).toNat = 2 from rfl, Nat.reduceMul, Nat.reduceEqDiff, Go.Addr.add, ↓reduceIte] at aVr)
    have gNa : (2 < (l0.take ((jY) : Int).toNat).length) = True := eq_true (by omega)
    (try rw [show ((2 : Int)).toNat = 2 from rfl] at aVr)
    replace aVr := xcl HB aVr
    replace dIc := eq_true dIc
    replace dId := eq_true dId
    try go_wp2
    any_goals (exfalso; have h_ := of_decide_eq_true cSj; rw [List.length_take] at h_; omega)
    go_loopg [9, 65] k (fun kq v9 v65 w' => ∃ (aAr : List (S48)) (aSw : Int) (pG : Int) (mX : Int) (oC : List (fB)) (lY : Int) (aU6 : Bool) (u296000 : Value), v65 = .int .u8 aSw ∧ Aside0 (pack_read.l0 kq (l0.take ((jY) : Int).toNat) aAr (rd (l0.take ((jY) : Int).toNat) 2) aSw oC yB lY aU6 = some (r1, r2, r3, r4)) ∧ Aside0 (kq ≤ k) ∧ Aside0 (Kd.R k48 48 w' w.heap.size (fun _ => True) v9 aAr) ∧ Aside0 (Kd.S qL 46 w' w.heap.size (fun _ => True) u296000 oC) ∧ Aside0 (w'.heap[vZ]? = some (.cells #[(.slice none 0 0)] 24 (0, 0))) ∧ Aside0 (w'.heap[sH]? = some (.cells #[.int .i64 pG, .int .i64 mX] 28 (0, 0))) ∧ Aside0 (w'.heap[vF]? = some (.cells #[.int .i64 aMn, .int .i64 aN1] 28 (0, 0))) ∧ Aside0 (w'.heap[aAy]? = some (.cells #[u296000] 24 (0, 0))) ∧ Aside0 (aM w w' xN yB lY aU6) ∧ Aside0 (Below w.heap.size w w'))
    case atStart => exact ⟨(([] : List (S48))), (0), (0), (0), (([] : List (fB))), (eAs), (eAt), (.slice none 0 0), xrs, H', ⟨Nat.le_refl _⟩, ⟨by first | exact Kd.R_nil _ _ _ _ _ | exact Kd.N_nil _ _ _ _ _ | exact Kd.V_nil _ _ _ _ _ | exact Kd.Q_nil _ _ _ _ _ | exact Kd.S_nil _ _ _ _ _⟩, ⟨by first | exact Kd.S_nil _ _ _ _ _ | exact Kd.N_nil _ _ _ _ _ | exact Kd.V_nil _ _ _ _ _ | exact Kd.Q_nil _ _ _ _ _ | exact Kd.R_nil _ _ _ _ _⟩, xk eZ, xk eQ, xk jI, xk kL, ⟨by repeat (first | (with_reducible first | exact dJ.out | apply aM.alloc | apply aM.drewN | apply aM.drew | apply aM.set_1 | apply aM.set_2 | refine aM.far ?_ gF.out _ | refine aM.far ?_ gG.out _ | refine aM.far ?_ iC.out _ | refine aM.far ?_ gL.out _) | exact dJ.out)⟩, ⟨by repeat (first | (with_reducible first | exact HB.out | apply lA | apply lN | apply lD | refine lS ?_ (aM.ge dJ.out) | refine lS ?_ sN.out | refine lS ?_ sO.out | refine lS ?_ tK.out | refine lS ?_ uJ.out) | exact HB.out)⟩⟩
    case round =>
     clear H'
     (try clear c2); (try clear aW6); (try clear bEc); (try clear c8); (try clear bTn); (try clear cWk); (try clear c15); (try clear cHn); (try clear eMx); (try clear c16); (try clear cMn); (try clear fC6); (try clear dFw); (try clear dSt); (try clear c22); (try clear c23); (try clear cSh); (try clear eB7); (try clear c24); (try clear dDu); (try clear eB4); (try clear c27); (try clear bCi); (try clear cSj); (try clear cLn); (try clear dVc); (try clear bPt); (try clear cLo); (try clear dVd); (try clear bPu); (try clear bDf); (try clear bDg); (try clear aVr); (try clear eYl); (try clear eYn); (try clear dIc); (try clear eYm); (try clear eYo); (try clear dId)
     obtain ⟨aAr, aSw, pG, mX, oC, lY, aU6, u296000, rfl, HA, yS, wE, dX, eZ, eQ, jI, kL, dJ, HB⟩ := hrel
     cases gk with
     | zero => exact absurd HA.out (by simp [pack_read.l0])
     | succ k1 =>
      have H := HA.out
      clear HA
      simp only [pack_read.l0] at H
      by_cases c47 : aSw < (rd (l0.take ((jY) : Int).toNat) 2)
      rotate_left
      · rw [if_neg c47] at H
        have cTu : decide (aSw < (rd (l0.take ((jY) : Int).toNat) 2)) = false := decide_eq_false c47
        clear c47
        by_cases bD3 : aU6 = true
        rotate_left
        · replace bD3 := Bool.eq_false_iff.mpr bD3
          subst bD3
          have H1 : (some (([] : List (fB)), ([] : List (S48)), 1, 0)) = some (r1, r2, r3, r4) := by rw [if_neg (show ¬ (false = true) by decide)] at H; exact H
          clear H
          have H := H1
          clear H1
          simp only [Option.some.injEq, Prod.mk.injEq] at H
          obtain ⟨rfl, rfl, rfl, rfl⟩ := H
          obtain ⟨gNb, gNc, cGf, fSw, gNd⟩ := dJ.out
          have eIs := aDb cGf
          have eIt := aDc cGf
          have gNe := aDd cGf
          have eIu := blk_frozen cGf 1
          have gNf := blk_frozen cGf 2
          clear cGf fSw
          have cY5 := nU.out
          have cY6 := tN.out
          have cY7 := aMo.out
          have cY8 := aMp.out
          have cY9 := zH.out
          have cZa := aPh.out
          have eKs := aAl.out
          have eKt := gF.out
          have gNg : wr.cell? ⟨vZ, 0, none⟩ = some (.slice none 0 0) := (blk_cell eZ.out 0).trans rfl
          have gNh := blk_frozen eZ.out 0
          have eIz := aMq.out
          have eI0 := aMr.out
          have dM2 := zI.out
          have dM3 := aPi.out
          have eMr := aAm.out
          have eMs := gG.out
          have gNi : wr.cell? ⟨sH, 0, none⟩ = some (.int .i64 pG) := (blk_cell eQ.out 0).trans rfl
          have gNj : wr.cell? ⟨sH, 1, none⟩ = some (.int .i64 mX) := (blk_cell eQ.out 1).trans rfl
          have gNk := blk_frozen eQ.out 0
          have gNl := blk_frozen eQ.out 1
          go_wp2
          refine bodyPost_ret (results_list (rs := [.cell 2 24, .tmp 3, .cell 4 28]) rfl (by simp) (.cell vZ 24 #[.slice none 0 0] (0, 0) _ rfl (by refine xpl ?_; refine blk_far ?_ nU.out _; refine xpl ?_; refine blk_far ?_ nU.out _; refine xpl ?_; refine blk_put (cs := #[.slice none 0 0]) ?_ 0 _ rfl; refine xpl ?_; exact eZ.out) Try.underlying24 rfl (by kernel_rfl) (.tmp (.cell sH 28 #[.int .i64 1, .int .i64 0] (0, 0) _ rfl (by refine xpl ?_; refine blk_put (cs := #[.int .i64 1, .int .i64 mX]) ?_ 1 _ rfl; refine xpl ?_; refine blk_put (cs := #[.int .i64 pG, .int .i64 mX]) ?_ 0 _ rfl; refine xpl ?_; refine blk_far ?_ tN.out _; refine xpl ?_; exact eQ.out) Try.underlying28 rfl (by kernel_rfl) .nil)))) rfl ?_
          exact ⟨_, _, by first | rfl | (simp [errW_none, errW_some] <;> rfl) | (simp only [← bDe]; first | rfl | (simp [errW_none, errW_some] <;> rfl)) | (simp [*, errW_none, errW_some] <;> rfl), by first | exact Kd.S_nil _ _ _ _ _ | exact Kd.N_nil _ _ _ _ _ | exact Kd.V_nil _ _ _ _ _ | exact Kd.Q_nil _ _ _ _ _ | exact Kd.R_nil _ _ _ _ _, by first | exact Kd.R_nil _ _ _ _ _ | exact Kd.N_nil _ _ _ _ _ | exact Kd.V_nil _ _ _ _ _ | exact Kd.Q_nil _ _ _ _ _ | exact Kd.S_nil _ _ _ _ _, by repeat (first | (with_reducible first | exact HB.out | apply lA | apply lN | apply lD | refine lS ?_ (aM.ge dJ.out) | refine lS ?_ sN.out | refine lS ?_ sO.out | refine lS ?_ tK.out | refine lS ?_ uJ.out) | exact HB.out)⟩
        subst bD3
        have H1 : (if lY = ((l0.take ((jY) : Int).toNat).length : Int) then ((objects_Validate.f k1 oC).bind fun dH6 => (if (!(dH6.1 == 0) || (!(dH6.2 == 0))) = true then (some (([] : List (fB)), ([] : List (S48)), 1, 0)) else (some (oC, aAr, 0, 0)))) else (some (([] : List (fB)), ([] : List (S48)), 1, 0))) = some (r1, r2, r3, r4) := by rw [if_pos rfl] at H; exact H
        clear H
        have H := H1
        clear H1
        by_cases bUo : lY = ((l0.take ((jY) : Int).toNat).length : Int)
        rotate_left
        · rw [if_neg bUo] at H
          have dMh : (lY == ((l0.take ((jY) : Int).toNat).length : Int)) = false := beq_eq_false_iff_ne.mpr bUo
          have eZy : (lY == max jY 0) = false := by rw [← hmx.out]; exact dMh
          have dMi : (lY != ((l0.take ((jY) : Int).toNat).length : Int)) = true := bne_iff_ne.mpr bUo
          have eZ6 : (lY != max jY 0) = true := by rw [← hmx.out]; exact dMi
          simp only [Option.some.injEq, Prod.mk.injEq] at H
          obtain ⟨rfl, rfl, rfl, rfl⟩ := H
          obtain ⟨gNm, gNn, cGg, fSx, gNo⟩ := dJ.out
          have eNt := aDb cGg
          have gNp := aDc cGg
          have gNq := aDd cGg
          have gNr := blk_frozen cGg 1
          have gNs := blk_frozen cGg 2
          clear cGg fSx
          have dJz := nU.out
          have dJ0 := tN.out
          have cWg := aMo.out
          have cWh := aMp.out
          have eIk := zH.out
          have eIl := aPh.out
          have dJ1 := aAl.out
          have dJ2 := gF.out
          have gNt : wr.cell? ⟨vZ, 0, none⟩ = some (.slice none 0 0) := (blk_cell eZ.out 0).trans rfl
          have gNu := blk_frozen eZ.out 0
          have eIm := aMq.out
          have eIn := aMr.out
          have eIo := zI.out
          have eIp := aPi.out
          have dMj := aAm.out
          have dMk := gG.out
          have gNv : wr.cell? ⟨sH, 0, none⟩ = some (.int .i64 pG) := (blk_cell eQ.out 0).trans rfl
          have gNw : wr.cell? ⟨sH, 1, none⟩ = some (.int .i64 mX) := (blk_cell eQ.out 1).trans rfl
          have gNx := blk_frozen eQ.out 0
          have gNy := blk_frozen eQ.out 1
          go_wp2
          refine bodyPost_ret (results_list (rs := [.cell 2 24, .tmp 3, .cell 4 28]) rfl (by simp) (.cell vZ 24 #[.slice none 0 0] (0, 0) _ rfl (by refine xpl ?_; refine blk_far ?_ nU.out _; refine xpl ?_; refine blk_far ?_ nU.out _; refine xpl ?_; refine blk_put (cs := #[.slice none 0 0]) ?_ 0 _ rfl; refine xpl ?_; exact eZ.out) Try.underlying24 rfl (by kernel_rfl) (.tmp (.cell sH 28 #[.int .i64 1, .int .i64 0] (0, 0) _ rfl (by refine xpl ?_; refine blk_put (cs := #[.int .i64 1, .int .i64 mX]) ?_ 1 _ rfl; refine xpl ?_; refine blk_put (cs := #[.int .i64 pG, .int .i64 mX]) ?_ 0 _ rfl; refine xpl ?_; refine blk_far ?_ tN.out _; refine xpl ?_; exact eQ.out) Try.underlying28 rfl (by kernel_rfl) .nil)))) rfl ?_
          exact ⟨_, _, by first | rfl | (simp [errW_none, errW_some] <;> rfl) | (simp only [← bDe]; first | rfl | (simp [errW_none, errW_some] <;> rfl)) | (simp [*, errW_none, errW_some] <;> rfl), by first | exact Kd.S_nil _ _ _ _ _ | exact Kd.N_nil _ _ _ _ _ | exact Kd.V_nil _ _ _ _ _ | exact Kd.Q_nil _ _ _ _ _ | exact Kd.R_nil _ _ _ _ _, by first | exact Kd.R_nil _ _ _ _ _ | exact Kd.N_nil _ _ _ _ _ | exact Kd.V_nil _ _ _ _ _ | exact Kd.Q_nil _ _ _ _ _ | exact Kd.S_nil _ _ _ _ _, by repeat (first | (with_reducible first | exact HB.out | apply lA | apply lN | apply lD | refine lS ?_ (aM.ge dJ.out) | refine lS ?_ sN.out | refine lS ?_ sO.out | refine lS ?_ tK.out | refine lS ?_ uJ.out) | exact HB.out)⟩
        rw [if_pos bUo] at H
        have dMh : (lY == ((l0.take ((jY) : Int).toNat).length : Int)) = true := beq_iff_eq.mpr bUo
        have eZy : (lY == max jY 0) = true := by rw [← hmx.out]; exact dMh
        have dMi : (lY != ((l0.take ((jY) : Int).toNat).length : Int)) = false := bne_eq_false_iff_eq.mpr bUo
        have eZ6 : (lY != max jY 0) = false := by rw [← hmx.out]; exact dMi
        clear bUo
        replace H := Option.bind_eq_some_iff.mp H
        obtain ⟨⟨eAu, eAv⟩, dGs, H⟩ := H
        replace H : (if (!(eAu == 0) || (!(eAv == 0))) = true then (some (([] : List (fB)), ([] : List (S48)), 1, 0)) else (some (oC, aAr, 0, 0))) = some (r1, r2, r3, r4) := H
        have eUv := aZ dGs
        clear dGs
        by_cases eAw : (!(eAu == 0) || (!(eAv == 0))) = true
        · rw [if_pos eAw] at H
          have fSy : (!(eAu == 0) || (!(eAv == 0))) = true := eAw
          clear eAw
          simp only [Option.some.injEq, Prod.mk.injEq] at H
          obtain ⟨rfl, rfl, rfl, rfl⟩ := H
          obtain ⟨gNz, gN0, cGh, fSz, gN1⟩ := dJ.out
          have gN2 := aDb cGh
          have gN3 := aDc cGh
          have gN4 := aDd cGh
          have gN5 := blk_frozen cGh 1
          have gN6 := blk_frozen cGh 2
          clear cGh fSz
          have cZd := aPh.out
          have cZe := zH.out
          have cZf := aPi.out
          have cZg := zI.out
          have cN1 := bR2.out
          have cN2 := aE6.out
          have cN3 := aE7.out
          have cN4 := gL.out
          have dGt : wr.cell? ⟨aAy, 0, none⟩ = some (u296000) := (blk_cell kL.out 0).trans rfl
          have dGu := blk_frozen kL.out 0
          obtain ⟨iFa, iFb, gN7⟩ := Kd.S_slice dX.out
          subst gN7
          go_wp2_with (first | (go_at_call 32; (with_reducible refine (objects_Validate.calls k1 _ _ oC eAu eAv _ ?side1 ?side2 eUv.out).mono ?_); (case side1 => repeat (first | exact (Kd.S_reads' dX.out).2.2 | (with_reducible refine Kd.C_alloc ?_ _) | (with_reducible refine Kd.C_drewN ?_ _) | (with_reducible refine Kd.C_drew ?_))); (case side2 => exact (Kd.S_reads' dX.out).2.1); rintro e eYp ⟨rfl, hb⟩; replace wE := xR wE hb; replace dX := xS dX hb; replace eZ := xbb eZ hb; replace eQ := xbb eQ hb; replace jI := xbb jI hb; replace kL := xbb kL hb; replace HB := aZ (lT (by repeat (first | (with_reducible first | exact HB.out | apply lA | apply lN | apply lD | refine lS ?_ (aM.ge dJ.out) | refine lS ?_ sN.out | refine lS ?_ sO.out | refine lS ?_ tK.out | refine lS ?_ uJ.out) | exact HB.out)) hb); replace dJ := aZ (aM.below (by repeat (first | (with_reducible first | exact dJ.out | apply aM.alloc | apply aM.drewN | apply aM.drew | apply aM.set_1 | apply aM.set_2 | refine aM.far ?_ gF.out _ | refine aM.far ?_ gG.out _ | refine aM.far ?_ iC.out _ | refine aM.far ?_ gL.out _) | exact dJ.out)) hb); (try clear hb); (try clear iV); (try clear hk); (try clear hi); have eI7 := nU.out; have eI8 := tN.out; have dKk := aMo.out; have dKl := aMp.out; have cXi := aAl.out; have cXj := gF.out; have eI9 : eYp.cell? ⟨vZ, 0, none⟩ = some (.slice none 0 0) := (blk_cell eZ.out 0).trans rfl; have eJa := blk_frozen eZ.out 0; have dKm := aMq.out; have dKn := aMr.out; have dMl := aAm.out; have dMm := gG.out; have gN8 : eYp.cell? ⟨sH, 0, none⟩ = some (.int .i64 pG) := (blk_cell eQ.out 0).trans rfl; have gN9 : eYp.cell? ⟨sH, 1, none⟩ = some (.int .i64 mX) := (blk_cell eQ.out 1).trans rfl; have gOa := blk_frozen eQ.out 0; have gOb := blk_frozen eQ.out 1))
          refine bodyPost_ret (results_list (rs := [.cell 2 24, .tmp 3, .cell 4 28]) rfl (by simp) (.cell vZ 24 #[.slice none 0 0] (0, 0) _ rfl (by refine xpl ?_; refine blk_far ?_ nU.out _; refine xpl ?_; refine blk_far ?_ nU.out _; refine xpl ?_; refine blk_put (cs := #[.slice none 0 0]) ?_ 0 _ rfl; refine xpl ?_; exact eZ.out) Try.underlying24 rfl (by kernel_rfl) (.tmp (.cell sH 28 #[.int .i64 1, .int .i64 0] (0, 0) _ rfl (by refine xpl ?_; refine blk_put (cs := #[.int .i64 1, .int .i64 mX]) ?_ 1 _ rfl; refine xpl ?_; refine blk_put (cs := #[.int .i64 pG, .int .i64 mX]) ?_ 0 _ rfl; refine xpl ?_; refine blk_far ?_ tN.out _; refine xpl ?_; exact eQ.out) Try.underlying28 rfl (by kernel_rfl) .nil)))) rfl ?_
          exact ⟨_, _, by first | rfl | (simp [errW_none, errW_some] <;> rfl) | (simp only [← bDe]; first | rfl | (simp [errW_none, errW_some] <;> rfl)) | (simp [*, errW_none, errW_some] <;> rfl), by first | exact Kd.S_nil _ _ _ _ _ | exact Kd.N_nil _ _ _ _ _ | exact Kd.V_nil _ _ _ _ _ | exact Kd.Q_nil _ _ _ _ _ | exact Kd.R_nil _ _ _ _ _, by first | exact Kd.R_nil _ _ _ _ _ | exact Kd.N_nil _ _ _ _ _ | exact Kd.V_nil _ _ _ _ _ | exact Kd.Q_nil _ _ _ _ _ | exact Kd.S_nil _ _ _ _ _, by repeat (first | (with_reducible first | exact HB.out | apply lA | apply lN | apply lD | refine lS ?_ (aM.ge dJ.out) | refine lS ?_ sN.out | refine lS ?_ sO.out | refine lS ?_ tK.out | refine lS ?_ uJ.out) | exact HB.out)⟩
        rw [if_neg eAw] at H
        have fSy : (!(eAu == 0) || (!(eAv == 0))) = false := by simpa using eAw
        clear eAw
        simp only [Option.some.injEq, Prod.mk.injEq] at H
        obtain ⟨rfl, rfl, rfl, rfl⟩ := H
        obtain ⟨gOc, gOd, cGi, fS0, gOe⟩ := dJ.out
        have eJb := aDb cGi
        have gOf := aDc cGi
        have gOg := aDd cGi
        have gOh := blk_frozen cGi 1
        have gOi := blk_frozen cGi 2
        clear cGi fS0
        have cXm := aPh.out
        have cXn := zH.out
        have dMn := aPi.out
        have dMo := zI.out
        have eKl := bR2.out
        have eKm := aE6.out
        have eKn := aE7.out
        have eKo := gL.out
        have gOj : wr.cell? ⟨aAy, 0, none⟩ = some (u296000) := (blk_cell kL.out 0).trans rfl
        have gOk := blk_frozen kL.out 0
        obtain ⟨dXc, dXd, gOl⟩ := Kd.S_slice dX.out
        subst gOl
        go_wp2_with (first | (go_at_call 32; (with_reducible refine (objects_Validate.calls k1 _ _ oC eAu eAv _ ?side1 ?side2 eUv.out).mono ?_); (case side1 => repeat (first | exact (Kd.S_reads' dX.out).2.2 | (with_reducible refine Kd.C_alloc ?_ _) | (with_reducible refine Kd.C_drewN ?_ _) | (with_reducible refine Kd.C_drew ?_))); (case side2 => exact (Kd.S_reads' dX.out).2.1); rintro e cIq ⟨rfl, hb⟩; replace wE := xR wE hb; replace dX := xS dX hb; replace eZ := xbb eZ hb; replace eQ := xbb eQ hb; replace jI := xbb jI hb; replace kL := xbb kL hb; replace HB := aZ (lT (by repeat (first | (with_reducible first | exact HB.out | apply lA | apply lN | apply lD | refine lS ?_ (aM.ge dJ.out) | refine lS ?_ sN.out | refine lS ?_ sO.out | refine lS ?_ tK.out | refine lS ?_ uJ.out) | exact HB.out)) hb); replace dJ := aZ (aM.below (by repeat (first | (with_reducible first | exact dJ.out | apply aM.alloc | apply aM.drewN | apply aM.drew | apply aM.set_1 | apply aM.set_2 | refine aM.far ?_ gF.out _ | refine aM.far ?_ gG.out _ | refine aM.far ?_ iC.out _ | refine aM.far ?_ gL.out _) | exact dJ.out)) hb); (try clear hb); (try clear iV); (try clear hk); (try clear hi); have eJc : cIq.cell? ⟨aAy, 0, none⟩ = some (.slice dXc oC.length dXd) := (blk_cell kL.out 0).trans rfl; have eJd := blk_frozen kL.out 0; have cWe := nU.out; have cWf := tN.out; have fPs := aMo.out; have fPt := aMp.out; have fPu := aAl.out; have fPv := gF.out; have cO9 : cIq.cell? ⟨vZ, 0, none⟩ = some (.slice none 0 0) := (blk_cell eZ.out 0).trans rfl; have cPa := blk_frozen eZ.out 0; have fPw := aMq.out; have fPx := aMr.out; have hXv := aAm.out; have hXw := gG.out; have gOm : cIq.cell? ⟨sH, 0, none⟩ = some (.int .i64 pG) := (blk_cell eQ.out 0).trans rfl; have gOn : cIq.cell? ⟨sH, 1, none⟩ = some (.int .i64 mX) := (blk_cell eQ.out 1).trans rfl; have gOo := blk_frozen eQ.out 0; have gOp := blk_frozen eQ.out 1))
        refine bodyPost_ret (results_list (rs := [.cell 2 24, .tmp 3, .cell 4 28]) rfl (by simp) (.cell vZ 24 #[.slice dXc oC.length dXd] (0, 0) _ rfl (by refine xpl ?_; refine blk_far ?_ nU.out _; refine xpl ?_; refine blk_far ?_ nU.out _; refine xpl ?_; refine blk_put (cs := #[.slice none 0 0]) ?_ 0 _ rfl; refine xpl ?_; exact eZ.out) Try.underlying24 rfl (by kernel_rfl) (.tmp (.cell sH 28 #[.int .i64 0, .int .i64 0] (0, 0) _ rfl (by refine xpl ?_; refine blk_put (cs := #[.int .i64 0, .int .i64 mX]) ?_ 1 _ rfl; refine xpl ?_; refine blk_put (cs := #[.int .i64 pG, .int .i64 mX]) ?_ 0 _ rfl; refine xpl ?_; refine blk_far ?_ tN.out _; refine xpl ?_; exact eQ.out) Try.underlying28 rfl (by kernel_rfl) .nil)))) rfl ?_
        exact ⟨_, _, by first | rfl | (simp [errW_none, errW_some] <;> rfl) | (simp only [← bDe]; first | rfl | (simp [errW_none, errW_some] <;> rfl)) | (simp [*, errW_none, errW_some] <;> rfl), by (with_reducible repeat (first | apply Kd.S_alloc | apply Kd.S_drewN | apply Kd.S_drew)); exact Kd.S_mono (Kd.S_far (p := ⟨sH, 1, none⟩) (Kd.S_far (p := ⟨sH, 0, none⟩) (Kd.S_far (p := ⟨vZ, 0, none⟩) (Kd.S_types (Kd.S_types dX.out eZ.out (by decide)) eQ.out (by decide)) (fun _ hk => hk.1.2) (.slice dXc oC.length dXd)) (fun _ hk => hk.2) (.int .i64 0)) (fun _ hk => hk.2) (.int .i64 0)) (fun _ hk => trivial), by (with_reducible repeat (first | apply Kd.rA | apply Kd.rN | apply Kd.rD)); exact Kd.R_mono (Kd.R_far (p := ⟨sH, 1, none⟩) (Kd.R_far (p := ⟨sH, 0, none⟩) (Kd.R_far (p := ⟨vZ, 0, none⟩) (Kd.R_types (Kd.R_types wE.out eZ.out (by decide)) eQ.out (by decide)) (fun _ hk => hk.1.2) (.slice dXc oC.length dXd)) (fun _ hk => hk.2) (.int .i64 0)) (fun _ hk => hk.2) (.int .i64 0)) (fun _ hk => trivial), by repeat (first | (with_reducible first | exact HB.out | apply lA | apply lN | apply lD | refine lS ?_ (aM.ge dJ.out) | refine lS ?_ sN.out | refine lS ?_ sO.out | refine lS ?_ tK.out | refine lS ?_ uJ.out) | exact HB.out)⟩
      rw [if_pos c47] at H
      have cTu : decide (aSw < (rd (l0.take ((jY) : Int).toNat) 2)) = true := decide_eq_true c47
      clear c47
      replace H := Option.bind_eq_some_iff.mp H
      obtain ⟨⟨aAz, dN7, dN8⟩, cPs, H⟩ := H
      replace H : ((pack_reader_big.f k1 yB dN7 dN8 1).bind fun cQu => ((pack_reader_big.f k1 yB cQu.2.1 cQu.2.2 2).bind fun bN8 => (pack_read.l1 k1 (l0.take ((jY) : Int).toNat) aAr lY bN8.1 (rd (l0.take ((jY) : Int).toNat) 2) aSw cQu.1 0 oC yB bN8.2.1 bN8.2.2 aAz ([] : List Int)))) = some (r1, r2, r3, r4) := H
      have A48 := aZ cPs
      clear cPs
      replace H := Option.bind_eq_some_iff.mp H
      obtain ⟨⟨dB8, eNu, eNv⟩, eM4, H⟩ := H
      replace H : ((pack_reader_big.f k1 yB eNu eNv 2).bind fun bN8 => (pack_read.l1 k1 (l0.take ((jY) : Int).toNat) aAr lY bN8.1 (rd (l0.take ((jY) : Int).toNat) 2) aSw dB8 0 oC yB bN8.2.1 bN8.2.2 aAz ([] : List Int))) = some (r1, r2, r3, r4) := H
      have A49 := aZ eM4
      clear eM4
      replace H := Option.bind_eq_some_iff.mp H
      obtain ⟨⟨cQw, fS1, fS2⟩, gOq, H⟩ := H
      replace H : (pack_read.l1 k1 (l0.take ((jY) : Int).toNat) aAr lY cQw (rd (l0.take ((jY) : Int).toNat) 2) aSw dB8 0 oC yB fS1 fS2 aAz ([] : List Int)) = some (r1, r2, r3, r4) := H
      have A50 := aZ gOq
      clear gOq
      have H' := aZ H
      clear H
      obtain ⟨hEu, hEv, cUu, gOr, hEw⟩ := dJ.out
      have bXd := aDb cUu
      have dB2 := aDc cUu
      have eYq := aDd cUu
      have dB3 := blk_frozen cUu 1
      have eYr := blk_frozen cUu 2
      clear cUu gOr
      go_wp2_with (first | ((with_reducible refine gate_callee (f := 55) rfl ?_); refine goesL_ (some 72) rfl rfl Try.func55 (by kernel_rfl) rfl #[.pointer (some ⟨xN, 0, none⟩), .int .i64 1] rfl xmp ?_; (with_reducible refine (pack_reader_big.calls k1 xN yB lY aU6 1 aAz dN7 dN8 w _ ?side1 ?side2 A48.out).mono ?_); (case side1 => repeat (first | (with_reducible first | exact dJ.out | apply aM.alloc | apply aM.drewN | apply aM.drew | apply aM.set_1 | apply aM.set_2 | refine aM.far ?_ gF.out _ | refine aM.far ?_ gG.out _ | refine aM.far ?_ iC.out _ | refine aM.far ?_ gL.out _) | exact dJ.out)); (case side2 => repeat (first | (with_reducible first | exact HB.out | apply lA | apply lN | apply lD | refine lS ?_ (aM.ge dJ.out) | refine lS ?_ sN.out | refine lS ?_ sO.out | refine lS ?_ tK.out | refine lS ?_ uJ.out) | exact HB.out)); rintro e w52 ⟨rfl, hi, hb, hk⟩; refine ⟨_, rfl, ?_⟩; replace wE := aZ (Kd.R_mono (Kd.R_keep (aM.apart (show aM w _ xN yB lY aU6 from by repeat (first | (with_reducible first | exact dJ.out | apply aM.alloc | apply aM.drewN | apply aM.drew | apply aM.set_1 | apply aM.set_2 | refine aM.far ?_ gF.out _ | refine aM.far ?_ gG.out _ | refine aM.far ?_ iC.out _ | refine aM.far ?_ gL.out _) | exact dJ.out)) (by (with_reducible repeat (first | apply Kd.rA | apply Kd.rN | apply Kd.rD)); exact wE.out) (by decide)) hk (fun _ h => h.2)) (fun _ h => h.1)); replace dX := aZ (Kd.S_mono (Kd.S_keep (aM.apartS (show aM w _ xN yB lY aU6 from by repeat (first | (with_reducible first | exact dJ.out | apply aM.alloc | apply aM.drewN | apply aM.drew | apply aM.set_1 | apply aM.set_2 | refine aM.far ?_ gF.out _ | refine aM.far ?_ gG.out _ | refine aM.far ?_ iC.out _ | refine aM.far ?_ gL.out _) | exact dJ.out)) (by (with_reducible repeat (first | apply Kd.S_alloc | apply Kd.S_drewN | apply Kd.S_drew)); exact dX.out) (by decide)) hk (fun _ h => h.2)) (fun _ h => h.1)); replace eZ := aZ (KeepBut.blk hk (g' := vZ) (o := .cells #[.slice none 0 0] 24 (0, 0)) (xkq eZ) aAl.out (by simp)); replace eQ := aZ (KeepBut.blk hk (g' := sH) (o := .cells #[.int .i64 pG, .int .i64 mX] 28 (0, 0)) (xkq eQ) aAm.out (by simp)); replace jI := aZ (KeepBut.blk hk (g' := vF) (o := .cells #[.int .i64 aMn, .int .i64 aN1] 28 (0, 0)) (xkq jI) aPj.out (by simp)); replace kL := aZ (KeepBut.blk hk (g' := aAy) (o := .cells #[u296000] 24 (0, 0)) (xkq kL) aE7.out (by simp)); replace HB := aZ (hb); replace dJ := aZ (hi); (try clear hb); (try clear iV); (try clear hk); (try clear hi)) | ((with_reducible refine gate_dst (N := 12) rfl ?_); (try (refine gate_guard (by rfl) ?_; dsimp only)); refine box_event ?hg (N := 12) ?hd (cs := #[.int .i64 0, .slice none 0 0, .slice none 0 0]) (t := 44) ?hr ?_; (case hd => rfl); (case hg => rfl); (case hr => first | (go_simp; done) | (go_simp; rfl)); intro nD hg w53 hbox hb; replace wE := xR wE hb; replace dX := xS dX hb; have fQ := aZ (hbox); have iFc := aZ ((by rw [hg]; exact (lZ (by repeat (first | (with_reducible first | exact HB.out | apply lA | apply lN | apply lD | refine lS ?_ (aM.ge dJ.out) | refine lS ?_ sN.out | refine lS ?_ sO.out | refine lS ?_ tK.out | refine lS ?_ uJ.out) | exact HB.out))) : w.heap.size ≤ nD)); have aA0 := aZ ((by rw [hg]; exact (lZ (by repeat (first | (with_reducible first | exact HB.out | apply lA | apply lN | apply lD | refine lS ?_ (aM.ge dJ.out) | refine lS ?_ sN.out | refine lS ?_ sO.out | refine lS ?_ tK.out | refine lS ?_ uJ.out) | exact HB.out))) : w.heap.size ≤ nD)); replace HB := aZ (lT (by repeat (first | (with_reducible first | exact HB.out | apply lA | apply lN | apply lD | refine lS ?_ (aM.ge dJ.out) | refine lS ?_ sN.out | refine lS ?_ sO.out | refine lS ?_ tK.out | refine lS ?_ uJ.out) | exact HB.out)) hb); have aE8 := xnl hg eZ; have aPk := xng hg eZ; replace eZ := xbb eZ hb; have aE9 := xnl hg eQ; have aPl := xng hg eQ; replace eQ := xbb eQ hb; have aFa := xnl hg jI; have aPm := xng hg jI; replace jI := xbb jI hb; have aFb := xnl hg kL; have aMs := xng hg kL; replace kL := xbb kL hb; have jF := aZ ((by rw [hg]; exact Nat.ne_of_lt (aM.lt (show aM w _ xN yB dN7 dN8 from by repeat (first | (with_reducible first | exact dJ.out | apply aM.alloc | apply aM.drewN | apply aM.drew | apply aM.set_1 | apply aM.set_2 | refine aM.far ?_ gF.out _ | refine aM.far ?_ gG.out _ | refine aM.far ?_ iC.out _ | refine aM.far ?_ gL.out _) | exact dJ.out))) : xN ≠ nD)); have aB2 := aZ ((by rw [hg]; exact Nat.ne_of_gt (aM.lt (show aM w _ xN yB dN7 dN8 from by repeat (first | (with_reducible first | exact dJ.out | apply aM.alloc | apply aM.drewN | apply aM.drew | apply aM.set_1 | apply aM.set_2 | refine aM.far ?_ gF.out _ | refine aM.far ?_ gG.out _ | refine aM.far ?_ iC.out _ | refine aM.far ?_ gL.out _) | exact dJ.out))) : nD ≠ xN)); replace dJ := aZ (aM.below (by repeat (first | (with_reducible first | exact dJ.out | apply aM.alloc | apply aM.drewN | apply aM.drew | apply aM.set_1 | apply aM.set_2 | refine aM.far ?_ gF.out _ | refine aM.far ?_ gG.out _ | refine aM.far ?_ iC.out _ | refine aM.far ?_ gL.out _) | exact dJ.out)) hb); clear hb hbox hg; have bCg := aPk.out; have bCh := aE8.out; have bNa := aPl.out; have bNb := aE9.out; have dFe := aPm.out; have dFf := aFa.out; have cN6 := aMs.out; have cN7 := aFb.out; have cHr := aB2.out; have cHs := jF.out; have cK5 : w53.cell? ⟨nD, 0, none⟩ = some (.int .i64 0) := (blk_cell fQ.out 0).trans rfl; have cK6 : w53.cell? ⟨nD, 1, none⟩ = some (.slice none 0 0) := (blk_cell fQ.out 1).trans rfl; have dRl : w53.cell? ⟨nD, 2, none⟩ = some (.slice none 0 0) := (blk_cell fQ.out 2).trans rfl; have cK7 := blk_frozen fQ.out 0; have cK8 := blk_frozen fQ.out 1; have dRm := blk_frozen fQ.out 2) | ((with_reducible refine gate_callee (f := 55) rfl ?_); refine goesL_ (some 75) rfl rfl Try.func55 (by kernel_rfl) rfl #[.pointer (some ⟨xN, 0, none⟩), .int .i64 1] rfl xmp ?_; (with_reducible refine (pack_reader_big.calls k1 xN yB dN7 dN8 1 dB8 eNu eNv w _ ?side1 ?side2 A49.out).mono ?_); (case side1 => repeat (first | (with_reducible first | exact dJ.out | apply aM.alloc | apply aM.drewN | apply aM.drew | apply aM.set_1 | apply aM.set_2 | refine aM.far ?_ gF.out _ | refine aM.far ?_ gG.out _ | refine aM.far ?_ iC.out _ | refine aM.far ?_ gL.out _ | refine aM.far ?_ jF.out _) | exact dJ.out)); (case side2 => repeat (first | (with_reducible first | exact HB.out | apply lA | apply lN | apply lD | refine lS ?_ (aM.ge dJ.out) | refine lS ?_ sN.out | refine lS ?_ sO.out | refine lS ?_ tK.out | refine lS ?_ uJ.out | refine lS ?_ aA0.out) | exact HB.out)); rintro e w60 ⟨rfl, hi, hb, hk⟩; refine ⟨_, rfl, ?_⟩; replace wE := aZ (Kd.R_mono (Kd.R_keep (aM.apart (show aM w _ xN yB dN7 dN8 from by repeat (first | (with_reducible first | exact dJ.out | apply aM.alloc | apply aM.drewN | apply aM.drew | apply aM.set_1 | apply aM.set_2 | refine aM.far ?_ gF.out _ | refine aM.far ?_ gG.out _ | refine aM.far ?_ iC.out _ | refine aM.far ?_ gL.out _ | refine aM.far ?_ jF.out _) | exact dJ.out)) (by (with_reducible repeat (first | apply Kd.rA | apply Kd.rN | apply Kd.rD)); exact (Kd.R_mono (Kd.R_far (p := ⟨nD, 2, none⟩) (Kd.R_far (p := ⟨nD, 1, none⟩) (Kd.R_far (p := ⟨nD, 0, none⟩) (Kd.R_types wE.out fQ.out (by decide)) (fun _ hk => hk.2) (.int .i64 aAz)) (fun _ hk => hk.2) (.slice none 0 0)) (fun _ hk => hk.2) (.slice none 0 0)) (fun _ h_ => h_.1))) (by decide)) hk (fun _ h => h.2)) (fun _ h => h.1)); replace dX := aZ (Kd.S_mono (Kd.S_keep (aM.apartS (show aM w _ xN yB dN7 dN8 from by repeat (first | (with_reducible first | exact dJ.out | apply aM.alloc | apply aM.drewN | apply aM.drew | apply aM.set_1 | apply aM.set_2 | refine aM.far ?_ gF.out _ | refine aM.far ?_ gG.out _ | refine aM.far ?_ iC.out _ | refine aM.far ?_ gL.out _ | refine aM.far ?_ jF.out _) | exact dJ.out)) (by (with_reducible repeat (first | apply Kd.S_alloc | apply Kd.S_drewN | apply Kd.S_drew)); exact (Kd.S_mono (Kd.S_far (p := ⟨nD, 2, none⟩) (Kd.S_far (p := ⟨nD, 1, none⟩) (Kd.S_far (p := ⟨nD, 0, none⟩) (Kd.S_types dX.out fQ.out (by decide)) (fun _ hk => hk.2) (.int .i64 aAz)) (fun _ hk => hk.2) (.slice none 0 0)) (fun _ hk => hk.2) (.slice none 0 0)) (fun _ h_ => h_.1))) (by decide)) hk (fun _ h => h.2)) (fun _ h => h.1)); replace eZ := aZ (KeepBut.blk hk (g' := vZ) (o := .cells #[.slice none 0 0] 24 (0, 0)) ((xk eZ).out) aAl.out (by simp)); replace eQ := aZ (KeepBut.blk hk (g' := sH) (o := .cells #[.int .i64 pG, .int .i64 mX] 28 (0, 0)) ((xk eQ).out) aAm.out (by simp)); replace jI := aZ (KeepBut.blk hk (g' := vF) (o := .cells #[.int .i64 aMn, .int .i64 aN1] 28 (0, 0)) ((xk jI).out) aPj.out (by simp)); replace kL := aZ (KeepBut.blk hk (g' := aAy) (o := .cells #[u296000] 24 (0, 0)) ((xk kL).out) aE7.out (by simp)); replace fQ := aZ (KeepBut.blk hk (g' := nD) (o := .cells #[.int .i64 aAz, .slice none 0 0, .slice none 0 0] 44 (0, 0)) (by refine xpl ?_; refine blk_put (cs := #[.int .i64 aAz, .slice none 0 0, .slice none 0 0]) ?_ 2 _ rfl; refine xpl ?_; refine blk_put (cs := #[.int .i64 aAz, .slice none 0 0, .slice none 0 0]) ?_ 1 _ rfl; refine xpl ?_; refine blk_put (cs := #[.int .i64 0, .slice none 0 0, .slice none 0 0]) ?_ 0 _ rfl; refine xpl ?_; exact fQ.out) aB2.out (by simp)); replace HB := aZ (hb); replace dJ := aZ (hi); (try clear hb); (try clear iV); (try clear hk); (try clear hi)) | ((with_reducible refine gate_callee (f := 55) rfl ?_); refine goesL_ (some 77) rfl rfl Try.func55 (by kernel_rfl) rfl #[.pointer (some ⟨xN, 0, none⟩), .int .i64 2] rfl xmp ?_; (with_reducible refine (pack_reader_big.calls k1 xN yB eNu eNv 2 cQw fS1 fS2 w _ ?side1 ?side2 A50.out).mono ?_); (case side1 => repeat (first | (with_reducible first | exact dJ.out | apply aM.alloc | apply aM.drewN | apply aM.drew | apply aM.set_1 | apply aM.set_2 | refine aM.far ?_ gF.out _ | refine aM.far ?_ gG.out _ | refine aM.far ?_ iC.out _ | refine aM.far ?_ gL.out _ | refine aM.far ?_ jF.out _) | exact dJ.out)); (case side2 => repeat (first | (with_reducible first | exact HB.out | apply lA | apply lN | apply lD | refine lS ?_ (aM.ge dJ.out) | refine lS ?_ sN.out | refine lS ?_ sO.out | refine lS ?_ tK.out | refine lS ?_ uJ.out | refine lS ?_ aA0.out) | exact HB.out)); rintro e w61 ⟨rfl, hi, hb, hk⟩; refine ⟨_, rfl, ?_⟩; replace wE := aZ (Kd.R_mono (Kd.R_keep (aM.apart (show aM w _ xN yB eNu eNv from by repeat (first | (with_reducible first | exact dJ.out | apply aM.alloc | apply aM.drewN | apply aM.drew | apply aM.set_1 | apply aM.set_2 | refine aM.far ?_ gF.out _ | refine aM.far ?_ gG.out _ | refine aM.far ?_ iC.out _ | refine aM.far ?_ gL.out _ | refine aM.far ?_ jF.out _) | exact dJ.out)) (by (with_reducible repeat (first | apply Kd.rA | apply Kd.rN | apply Kd.rD)); exact wE.out) (by decide)) hk (fun _ h => h.2)) (fun _ h => h.1)); replace dX := aZ (Kd.S_mono (Kd.S_keep (aM.apartS (show aM w _ xN yB eNu eNv from by repeat (first | (with_reducible first | exact dJ.out | apply aM.alloc | apply aM.drewN | apply aM.drew | apply aM.set_1 | apply aM.set_2 | refine aM.far ?_ gF.out _ | refine aM.far ?_ gG.out _ | refine aM.far ?_ iC.out _ | refine aM.far ?_ gL.out _ | refine aM.far ?_ jF.out _) | exact dJ.out)) (by (with_reducible repeat (first | apply Kd.S_alloc | apply Kd.S_drewN | apply Kd.S_drew)); exact dX.out) (by decide)) hk (fun _ h => h.2)) (fun _ h => h.1)); replace eZ := aZ (KeepBut.blk hk (g' := vZ) (o := .cells #[.slice none 0 0] 24 (0, 0)) (xkq eZ) aAl.out (by simp)); replace eQ := aZ (KeepBut.blk hk (g' := sH) (o := .cells #[.int .i64 pG, .int .i64 mX] 28 (0, 0)) (xkq eQ) aAm.out (by simp)); replace jI := aZ (KeepBut.blk hk (g' := vF) (o := .cells #[.int .i64 aMn, .int .i64 aN1] 28 (0, 0)) (xkq jI) aPj.out (by simp)); replace kL := aZ (KeepBut.blk hk (g' := aAy) (o := .cells #[u296000] 24 (0, 0)) (xkq kL) aE7.out (by simp)); replace fQ := aZ (KeepBut.blk hk (g' := nD) (o := .cells #[.int .i64 aAz, .slice none 0 0, .slice none 0 0] 44 (0, 0)) (xkq fQ) aB2.out (by simp)); replace HB := aZ (hb); replace dJ := aZ (hi); (try clear hb); (try clear iV); (try clear hk); (try clear hi)))
      go_loopg [79] k1 (fun kq v79 w' => ∃ (cA5 : Int) (uX : Int) (uY : Bool) (kU : List Int) (u310001 : Value), v79 = .int .i64 cA5 ∧ Aside0 (pack_read.l1 kq (l0.take ((jY) : Int).toNat) aAr lY cQw (rd (l0.take ((jY) : Int).toNat) 2) aSw dB8 cA5 oC yB uX uY aAz kU = some (r1, r2, r3, r4)) ∧ Aside0 (kq ≤ k1) ∧ Aside0 (Kd.R k48 48 w' w.heap.size (fun _ => True) u9 aAr) ∧ Aside0 (Kd.S qL 46 w' w.heap.size (fun k_ => some k_ ≠ (u310001 : Value).ownBlock) u296000 oC) ∧ Aside0 (Kd.R (Kd.int .i64) 3 w' w.heap.size (fun _ => True) u310001 kU) ∧ Aside0 (w'.heap[vZ]? = some (.cells #[(.slice none 0 0)] 24 (0, 0))) ∧ Aside0 (w'.heap[sH]? = some (.cells #[.int .i64 pG, .int .i64 mX] 28 (0, 0))) ∧ Aside0 (w'.heap[vF]? = some (.cells #[.int .i64 aMn, .int .i64 aN1] 28 (0, 0))) ∧ Aside0 (w'.heap[aAy]? = some (.cells #[u296000] 24 (0, 0))) ∧ Aside0 (w'.heap[nD]? = some (.cells #[.int .i64 aAz, u310001, (.slice none 0 0)] 44 (0, 0))) ∧ Aside0 (aM w w' xN yB uX uY) ∧ Aside0 (Below w.heap.size w w'))
      case atStart => exact ⟨(0), (fS1), (fS2), (([] : List Int)), (.slice none 0 0), xrs, H', ⟨Nat.le_refl _⟩, ⟨by (with_reducible repeat (first | apply Kd.rA | apply Kd.rN | apply Kd.rD)); exact wE.out⟩, ⟨by (with_reducible repeat (first | apply Kd.S_alloc | apply Kd.S_drewN | apply Kd.S_drew)); exact Kd.S_mono dX.out (fun _ hk => (by simp [Value.ownBlock]))⟩, ⟨by first | exact Kd.R_nil _ _ _ _ _ | exact Kd.N_nil _ _ _ _ _ | exact Kd.V_nil _ _ _ _ _ | exact Kd.Q_nil _ _ _ _ _ | exact Kd.S_nil _ _ _ _ _⟩, xk eZ, xk eQ, xk jI, xk kL, xk fQ, ⟨by repeat (first | (with_reducible first | exact dJ.out | apply aM.alloc | apply aM.drewN | apply aM.drew | apply aM.set_1 | apply aM.set_2 | refine aM.far ?_ gF.out _ | refine aM.far ?_ gG.out _ | refine aM.far ?_ iC.out _ | refine aM.far ?_ gL.out _ | refine aM.far ?_ jF.out _) | exact dJ.out)⟩, ⟨by repeat (first | (with_reducible first | exact HB.out | apply lA | apply lN | apply lD | refine lS ?_ (aM.ge dJ.out) | refine lS ?_ sN.out | refine lS ?_ sO.out | refine lS ?_ tK.out | refine lS ?_ uJ.out | refine lS ?_ aA0.out) | exact HB.out)⟩⟩
      case round =>
       clear H'
       (try clear c47); (try clear cTu); (try clear bXd); (try clear dB2); (try clear eYq); (try clear cK5); (try clear cK6); (try clear dRl); (try clear dB3); (try clear eYr); (try clear cK7); (try clear cK8); (try clear dRm)
       obtain ⟨cA5, uX, uY, kU, u310001, rfl, HA, HK2, wE, dX, gK, eZ, eQ, jI, kL, fQ, dJ, HB⟩ := hrel
       cases gk with
       | zero => exact absurd HA.out (by simp [pack_read.l1])
       | succ k2 =>
        have H := HA.out
        clear HA
        simp only [pack_read.l1] at H
        by_cases c62 : cA5 < dB8
        · rw [if_pos c62] at H
          have gOs : decide (cA5 < dB8) = true := decide_eq_true c62
          clear c62
          replace H := Option.bind_eq_some_iff.mp H
          obtain ⟨⟨eNw, eYs, eYt⟩, gOt, H⟩ := H
          replace H : (if kU.length < 17592186044416 then (pack_read.l1 k2 (l0.take ((jY) : Int).toNat) aAr lY cQw (rd (l0.take ((jY) : Int).toNat) 2) aSw dB8 (wrap64 (cA5 + 1)) oC yB eYs eYt aAz (kU ++ [eNw])) else (none)) = some (r1, r2, r3, r4) := H
          have A63 := aZ gOt
          clear gOt
          by_cases c64 : kU.length < 17592186044416
          rotate_left
          · rw [if_neg c64] at H
            exact absurd H (by simp)
          rw [if_pos c64] at H
          have gOu := aZ c64
          clear c64
          obtain ⟨eAx, dIe⟩ : ∃ y_ : List Int, y_ = (kU ++ [eNw]) := ⟨_, rfl⟩
          replace H : (pack_read.l1 k2 (l0.take ((jY) : Int).toNat) aAr lY cQw (rd (l0.take ((jY) : Int).toNat) 2) aSw dB8 (wrap64 (cA5 + 1)) oC yB eYs eYt aAz eAx) = some (r1, r2, r3, r4) := by first | (rw [dIe]; with_reducible exact H) | (have qY := (Option.bind_some _ _).symm.trans H; rw [dIe]; with_reducible exact qY) | (have qY := (Option.bind_some _ _).symm.trans H; with_reducible exact qY) | with_reducible exact H | (rw [dIe]; exact H) | exact H
          have gOv := aZ dIe
          clear dIe
          have H' := aZ H
          clear H
          try go_wp2
          replace wE := aZ (Kd.rD wE.out)
          replace dX := aZ (Kd.S_drew dX.out)
          replace gK := aZ (Kd.rD gK.out)
          replace eZ := aZ (bD eZ.out)
          replace eQ := aZ (bD eQ.out)
          replace jI := aZ (bD jI.out)
          replace kL := aZ (bD kL.out)
          replace fQ := aZ (bD fQ.out)
          replace dJ := aZ (aM.drew dJ.out)
          replace HB := aZ (lD HB.out)
          refine start_ (n := 8) (S := fun w' => w'.cell? ⟨nD, 0, none⟩ = some (.int .i64 aAz) ∧ w'.cell? ⟨nD, 1, none⟩ = some (u310001) ∧ w'.cell? ⟨nD, 2, none⟩ = some (.slice none 0 0)) (ds := [7]) #[false, false, false, false, false, false, false, false] (by kernel_rfl) rfl rfl ⟨(blk_cell fQ.out 0).trans rfl, (blk_cell fQ.out 1).trans rfl, (blk_cell fQ.out 2).trans rfl⟩ (fun hHeld => ?_); refine with_tabW pack_read.tab18 pack_read.bits18 (fun HT_ HW_ => ?_)
          generalize wr.drew = w65 at wE dX gK eZ eQ jI kL fQ dJ HB hHeld ⊢
          refine pu 0 81 #[true, false, false, false, false, false, false, false] HT_ rfl rfl (h := ?_)
          refine pu 2 83 #[true, false, true, false, false, false, false, false] HT_ rfl rfl (h := ?_)
          refine tk 1 82 #[true, true, true, false, false, false, false, false] HT_ HW_ rfl rfl hHeld (by rintro w' ⟨s0, s1, s2⟩; go_simp; with_reducible rfl) (h := ?_)
          refine one_ (i := 3) (N := some 84) #[true, true, true, true, false, false, false, false] rfl rfl (one_of HT_.out (by kernel_rfl)) (by decide) (fun K hK => ?_)
          refine goes_ Try.func55 (by kernel_rfl) rfl #[.pointer (some ⟨xN, 0, none⟩), .int .i64 8] (by rfl) rfl rfl xmp ?_
          with_reducible refine (pack_reader_big.calls k2 xN yB uX uY 8 eNw eYs eYt w _ ?side1 ?side2 A63.out).mono ?_
          (case side1 => repeat (first | (with_reducible first | exact dJ.out | apply aM.alloc | apply aM.drewN | apply aM.drew | apply aM.set_1 | apply aM.set_2 | refine aM.far ?_ gF.out _ | refine aM.far ?_ gG.out _ | refine aM.far ?_ iC.out _ | refine aM.far ?_ gL.out _ | refine aM.far ?_ jF.out _) | exact dJ.out))
          (case side2 => repeat (first | (with_reducible first | exact HB.out | apply lA | apply lN | apply lD | refine lS ?_ (aM.ge dJ.out) | refine lS ?_ sN.out | refine lS ?_ sO.out | refine lS ?_ tK.out | refine lS ?_ uJ.out | refine lS ?_ aA0.out) | exact HB.out))
          rintro e w66 ⟨rfl, hi, hb, hk⟩
          refine ⟨_, rfl, ?_⟩
          replace wE := aZ (Kd.R_mono (Kd.R_keep (aM.apart (show aM w _ xN yB uX uY from by repeat (first | (with_reducible first | exact dJ.out | apply aM.alloc | apply aM.drewN | apply aM.drew | apply aM.set_1 | apply aM.set_2 | refine aM.far ?_ gF.out _ | refine aM.far ?_ gG.out _ | refine aM.far ?_ iC.out _ | refine aM.far ?_ gL.out _ | refine aM.far ?_ jF.out _) | exact dJ.out)) (by (with_reducible repeat (first | apply Kd.rA | apply Kd.rN | apply Kd.rD)); exact wE.out) (by decide)) hk (fun _ h => h.2)) (fun _ h => h.1))
          replace dX := aZ (Kd.S_mono (Kd.S_keep (aM.apartS (show aM w _ xN yB uX uY from by repeat (first | (with_reducible first | exact dJ.out | apply aM.alloc | apply aM.drewN | apply aM.drew | apply aM.set_1 | apply aM.set_2 | refine aM.far ?_ gF.out _ | refine aM.far ?_ gG.out _ | refine aM.far ?_ iC.out _ | refine aM.far ?_ gL.out _ | refine aM.far ?_ jF.out _) | exact dJ.out)) (by (with_reducible repeat (first | apply Kd.S_alloc | apply Kd.S_drewN | apply Kd.S_drew)); exact dX.out) (by decide)) hk (fun _ h => h.2)) (fun _ h => h.1))
          replace gK := aZ (Kd.R_mono (Kd.R_keep (aM.apart (show aM w _ xN yB uX uY from by repeat (first | (with_reducible first | exact dJ.out | apply aM.alloc | apply aM.drewN | apply aM.drew | apply aM.set_1 | apply aM.set_2 | refine aM.far ?_ gF.out _ | refine aM.far ?_ gG.out _ | refine aM.far ?_ iC.out _ | refine aM.far ?_ gL.out _ | refine aM.far ?_ jF.out _) | exact dJ.out)) (by (with_reducible repeat (first | apply Kd.rA | apply Kd.rN | apply Kd.rD)); exact gK.out) (by decide)) hk (fun _ h => h.2)) (fun _ h => h.1))
          replace eZ := aZ (KeepBut.blk hk (g' := vZ) (o := .cells #[.slice none 0 0] 24 (0, 0)) (xkq eZ) aAl.out (by simp))
          replace eQ := aZ (KeepBut.blk hk (g' := sH) (o := .cells #[.int .i64 pG, .int .i64 mX] 28 (0, 0)) (xkq eQ) aAm.out (by simp))
          replace jI := aZ (KeepBut.blk hk (g' := vF) (o := .cells #[.int .i64 aMn, .int .i64 aN1] 28 (0, 0)) (xkq jI) aPj.out (by simp))
          replace kL := aZ (KeepBut.blk hk (g' := aAy) (o := .cells #[u296000] 24 (0, 0)) (xkq kL) aE7.out (by simp))
          replace fQ := aZ (KeepBut.blk hk (g' := nD) (o := .cells #[.int .i64 aAz, u310001, .slice none 0 0] 44 (0, 0)) (xkq fQ) aB2.out (by simp))
          replace HB := aZ (hb)
          replace dJ := aZ (hi)
          (try clear hb)
          (try clear iV)
          (try clear hk)
          (try clear hi)
          refine hK.out _ _ ⟨(blk_cell fQ.out 0).trans rfl, (blk_cell fQ.out 1).trans rfl, (blk_cell fQ.out 2).trans rfl⟩ (fun hHeld => ?_)
          clear hK K
          refine norm_ (a' := ?_) ?_ ?_
          rotate_left
          · show Act.put _ (some 84) _ = _
            simp only [Act.put, List.setIfInBounds_toArray, List.set_cons_zero, List.set_cons_succ, i64_w, i32_w]
            rfl
          refine one_ (i := 4) (N := some 85) #[true, true, true, true, true, false, false, false] rfl rfl (one_of HT_.out (by kernel_rfl)) (by decide) (fun K hK => ?_)
          refine value_ (w1 := ?_) (v := ?_) (by rfl) rfl ?_ ?_
          rotate_left 2
          · go_simp
            constructor
            · rfl
            · rfl
          refine hK.out _ _ ⟨(blk_cell (bA fQ.out _) 0).trans rfl, (blk_cell (bA fQ.out _) 1).trans rfl, (blk_cell (bA fQ.out _) 2).trans rfl⟩ (fun hHeld => ?_)
          clear hK K
          refine norm_ (a' := ?_) ?_ ?_
          rotate_left
          · show Act.put _ (some 85) _ = _
            simp only [Act.put, List.setIfInBounds_toArray, List.set_cons_zero, List.set_cons_succ, i64_w, i32_w]
            rfl
          refine one_ (i := 5) (N := some 86) #[true, true, true, true, true, true, false, false] rfl rfl (one_of HT_.out (by kernel_rfl)) (by decide) (fun K hK => ?_)
          refine Kd.R_append_step (Kd.int .i64) (w0 := w) w.heap.size (by rfl) (.tmp 82) (.tmp 85) 42 3 (.int .i64 0) 8 rfl Try.underlying42 info3 rfl (by decide) (by omega) u310001 kU eNw [.int .i64 eNw] (fun _ => True) (fun _ => False) rfl rfl ?aP (fun _ hk => hk.elim) ?aF ?aO ?aB ?aS ?aL ?_
          (case aP => exact rfl)
          (case aB => exact (by repeat (first | (with_reducible first | exact HB.out | apply lA | apply lN | apply lD | refine lS ?_ (aM.ge dJ.out) | refine lS ?_ sN.out | refine lS ?_ sO.out | refine lS ?_ tK.out | refine lS ?_ uJ.out | refine lS ?_ aA0.out) | exact HB.out)))
          (case aF => exact (fun _ _ => trivial))
          (case aO => exact (by (with_reducible repeat (first | apply Kd.rA | apply Kd.rN | apply Kd.rD)); exact gK.out))
          (case aS => exact (lZ (by repeat (first | (with_reducible first | exact HB.out | apply lA | apply lN | apply lD | refine lS ?_ (aM.ge dJ.out) | refine lS ?_ sN.out | refine lS ?_ sO.out | refine lS ?_ tK.out | refine lS ?_ uJ.out | refine lS ?_ aA0.out) | exact HB.out))))
          (case aL => have := gOu.out; omega)
          intro iLf w67 ho hb hg hat
          rw [← gOv.out] at ho
          replace wE := aZ (Kd.R_over' (by (with_reducible repeat (first | apply Kd.rA | apply Kd.rN | apply Kd.rD)); exact wE.out) (Kd.R_typed (by (with_reducible repeat (first | apply Kd.rA | apply Kd.rN | apply Kd.rD)); exact gK.out)) (by decide) hg)
          replace dX := aZ (Kd.S_after (ok := (fun _ => True)) (by (with_reducible repeat (first | apply Kd.S_alloc | apply Kd.S_drewN | apply Kd.S_drew)); exact Kd.S_mono dX.out (fun _ hk => ⟨trivial, hk⟩)) hg hat)
          replace eZ := aZ (blk_grown (g := vZ) (o := .cells #[.slice none 0 0] 24 (0, 0)) (xkq eZ) hg (Kd.R_ne gK.out eZ.out (by decide)))
          replace eQ := aZ (blk_grown (g := sH) (o := .cells #[.int .i64 pG, .int .i64 mX] 28 (0, 0)) (xkq eQ) hg (Kd.R_ne gK.out eQ.out (by decide)))
          replace jI := aZ (blk_grown (g := vF) (o := .cells #[.int .i64 aMn, .int .i64 aN1] 28 (0, 0)) (xkq jI) hg (Kd.R_ne gK.out jI.out (by decide)))
          replace kL := aZ (blk_grown (g := aAy) (o := .cells #[u296000] 24 (0, 0)) (xkq kL) hg (Kd.R_ne gK.out kL.out (by decide)))
          replace fQ := aZ (blk_grown (g := nD) (o := .cells #[.int .i64 aAz, u310001, .slice none 0 0] 44 (0, 0)) (xkq fQ) hg (Kd.R_ne gK.out fQ.out (by decide)))
          replace dJ := aZ (aM.grownJ dJ (by intro h_; repeat (first | (with_reducible first | exact h_ | apply aM.alloc | apply aM.drewN | apply aM.drew | apply aM.set_1 | apply aM.set_2 | refine aM.far ?_ gF.out _ | refine aM.far ?_ gG.out _ | refine aM.far ?_ iC.out _ | refine aM.far ?_ gL.out _ | refine aM.far ?_ jF.out _) | exact h_)) hg (aM.own_ne dJ.out gK.out (by decide)))
          replace HB := aZ (hb)
          have fDf := aZ (ho)
          clear gK
          clear ho hb hg hat
          obtain ⟨bHf, bHg, eAe⟩ := Kd.R_slice fDf.out
          (first | subst eAe | (injection eAe with f1_ f2_ f3_; have f4_ := f1_.symm; have f5_ := f3_.symm; clear f1_ f2_ f3_; subst f4_; subst f5_))
          refine hK.out _ _ ⟨(blk_cell fQ.out 0).trans rfl, (blk_cell fQ.out 1).trans rfl, (blk_cell fQ.out 2).trans rfl⟩ (fun hHeld => ?_)
          clear hK K
          refine norm_ (a' := ?_) ?_ ?_
          rotate_left
          · show Act.put _ (some 86) _ = _
            simp only [Act.put, List.setIfInBounds_toArray, List.set_cons_zero, List.set_cons_succ, i64_w, i32_w]
            rfl
          refine pu 6 87 #[true, true, true, true, true, true, true, false] HT_ rfl rfl (h := ?_)
          refine last_ (i := 7) (N := none) #[true, true, true, true, true, true, true, true] rfl rfl (one_of HT_.out (by kernel_rfl)) (by decide) (fun K hK => ?_)
          have iLg : w67.cell? ⟨nD, 1, none⟩ = some (u310001) := (blk_cell fQ.out 1).trans rfl
          have iFd := blk_frozen fQ.out 1
          have hEy := aE8.out
          have hEz := aE9.out
          have hE3 := aFa.out
          have hE4 := aFb.out
          have hE5 := aPk.out
          have hE6 := aPl.out
          have hE7 := aPm.out
          have hE8 := aMs.out
          refine skip_ (w1 := ?_) (by rfl) rfl ?_ ?_
          rotate_left
          · go_simp
            rfl
          refine hK.out _ _ ?_
          clear hK K
          refine done_ (done_of HT_.out (by kernel_rfl)) ?_
          try go_wp2
          go_roundg k2
          case measure => have := yS.out; have := HK2.out; omega
          case rel => exact ⟨(wrap64 (cA5 + 1)), (eYs), (eYt), (eAx), (.slice bHf eAx.length bHg), xrs, H', ⟨by have := yS.out; have := HK2.out; omega⟩, ⟨by (with_reducible repeat (first | apply Kd.rA | apply Kd.rN | apply Kd.rD)); exact Kd.R_mono (Kd.R_far (p := ⟨nD, 1, none⟩) (Kd.R_types wE.out fQ.out (by decide)) (fun _ hk => hk.2) (.slice bHf eAx.length bHg)) (fun _ hk => trivial)⟩, ⟨by (with_reducible repeat (first | apply Kd.S_alloc | apply Kd.S_drewN | apply Kd.S_drew)); exact Kd.S_mono (Kd.S_far (p := ⟨nD, 1, none⟩) (Kd.S_types dX.out fQ.out (by decide)) (fun _ hk => hk.2) (.slice bHf eAx.length bHg)) (fun _ hk => hk.1.2)⟩, ⟨by (with_reducible repeat (first | apply Kd.rA | apply Kd.rN | apply Kd.rD)); exact Kd.R_mono (Kd.R_far (p := ⟨nD, 1, none⟩) (Kd.R_types fDf.out fQ.out (by decide)) (fun _ hk => hk.2) (.slice bHf eAx.length bHg)) (fun _ hk => trivial)⟩, xk eZ, xk eQ, xk jI, xk kL, ⟨by refine xpl ?_; refine blk_put (cs := #[.int .i64 aAz, u310001, .slice none 0 0]) ?_ 1 _ rfl; refine xpl ?_; exact fQ.out⟩, ⟨by repeat (first | (with_reducible first | exact dJ.out | apply aM.alloc | apply aM.drewN | apply aM.drew | apply aM.set_1 | apply aM.set_2 | refine aM.far ?_ gF.out _ | refine aM.far ?_ gG.out _ | refine aM.far ?_ iC.out _ | refine aM.far ?_ gL.out _ | refine aM.far ?_ jF.out _) | exact dJ.out)⟩, ⟨by repeat (first | (with_reducible first | exact HB.out | apply lA | apply lN | apply lD | refine lS ?_ (aM.ge dJ.out) | refine lS ?_ sN.out | refine lS ?_ sO.out | refine lS ?_ tK.out | refine lS ?_ uJ.out | refine lS ?_ aA0.out) | exact HB.out)⟩⟩
        rw [if_neg c62] at H
        have gOs : decide (cA5 < dB8) = false := decide_eq_false c62
        clear c62
        replace H := Option.bind_eq_some_iff.mp H
        obtain ⟨⟨yQ, aU7, eNx⟩, eFa, H⟩ := H
        replace H : ((objects_Digest.f k2 aAz kU yQ).bind fun cA2 => (if eNx = true then (if (!(cA2.2.1 == 0) || (!(cA2.2.2 == 0))) = true then (some (([] : List (fB)), ([] : List (S48)), 1, 0)) else (if oC.length < 2199023255552 then (if aAr.length < 5864062014805 then (pack_read.l0 k2 (l0.take ((jY) : Int).toNat) (aAr ++ [(⟨cA2.1, lY, wrap64 (aU7 - lY)⟩ : S48)]) (rd (l0.take ((jY) : Int).toNat) 2) ((aSw + 1) % 256) (oC ++ [(⟨cA2.1, (⟨aAz, kU, yQ⟩ : S44)⟩ : fB)]) yB aU7 eNx) else (none)) else (none))) else (some (([] : List (fB)), ([] : List (S48)), 1, 0)))) = some (r1, r2, r3, r4) := H
        have A70 := aZ eFa
        clear eFa
        replace H := Option.bind_eq_some_iff.mp H
        obtain ⟨⟨bSj, bMb, bN9⟩, eFc, H⟩ := H
        replace H : (if eNx = true then (if (!(bMb == 0) || (!(bN9 == 0))) = true then (some (([] : List (fB)), ([] : List (S48)), 1, 0)) else (if oC.length < 2199023255552 then (if aAr.length < 5864062014805 then (pack_read.l0 k2 (l0.take ((jY) : Int).toNat) (aAr ++ [(⟨bSj, lY, wrap64 (aU7 - lY)⟩ : S48)]) (rd (l0.take ((jY) : Int).toNat) 2) ((aSw + 1) % 256) (oC ++ [(⟨bSj, (⟨aAz, kU, yQ⟩ : S44)⟩ : fB)]) yB aU7 eNx) else (none)) else (none))) else (some (([] : List (fB)), ([] : List (S48)), 1, 0))) = some (r1, r2, r3, r4) := H
        have A71 := aZ eFc
        clear eFc
        by_cases c72 : eNx = true
        rotate_left
        · replace c72 := Bool.eq_false_iff.mpr c72
          subst c72
          have H1 : (some (([] : List (fB)), ([] : List (S48)), 1, 0)) = some (r1, r2, r3, r4) := by rw [if_neg (show ¬ (false = true) by decide)] at H; exact H
          clear H
          have H := H1
          clear H1
          simp only [Option.some.injEq, Prod.mk.injEq] at H
          obtain ⟨rfl, rfl, rfl, rfl⟩ := H
          try go_wp2
          replace wE := aZ (Kd.rD wE.out)
          replace dX := aZ (Kd.S_drew dX.out)
          replace gK := aZ (Kd.rD gK.out)
          replace eZ := aZ (bD eZ.out)
          replace eQ := aZ (bD eQ.out)
          replace jI := aZ (bD jI.out)
          replace kL := aZ (bD kL.out)
          replace fQ := aZ (bD fQ.out)
          replace dJ := aZ (aM.drew dJ.out)
          replace HB := aZ (lD HB.out)
          refine start_ (n := 8) (S := fun w' => w'.cell? ⟨nD, 2, none⟩ = some (.slice none 0 0)) (ds := [7]) #[false, false, false, false, false, false, false, false] (by kernel_rfl) rfl rfl ((blk_cell fQ.out 2).trans rfl) (fun hHeld => ?_); refine with_tabW pack_read.tab20 pack_read.bits20 (fun HT_ HW_ => ?_)
          generalize wr.drew = eTp at wE dX gK eZ eQ jI kL fQ dJ HB hHeld ⊢
          refine pu 0 89 #[true, false, false, false, false, false, false, false] HT_ rfl rfl (h := ?_)
          refine pu 2 91 #[true, false, true, false, false, false, false, false] HT_ rfl rfl (h := ?_)
          refine pu 3 92 #[true, false, true, true, false, false, false, false] HT_ rfl rfl (h := ?_)
          refine tk 1 90 #[true, true, true, true, false, false, false, false] HT_ HW_ rfl rfl hHeld (by intro w' s2; go_simp; with_reducible rfl) (h := ?_)
          refine one_ (i := 4) (N := some 93) #[true, true, true, true, true, false, false, false] rfl rfl (one_of HT_.out (by kernel_rfl)) (by decide) (fun K hK => ?_)
          refine goes_ Try.func56 (by kernel_rfl) rfl #[.pointer (some ⟨xN, 0, none⟩), .int .i64 cQw] (by rfl) rfl rfl xmp ?_
          with_reducible refine (pack_reader_take.calls xN yB uX uY cQw yQ aU7 false w _ ?side1 ?side2 A70.out).mono ?_
          (case side1 => repeat (first | (with_reducible first | exact dJ.out | apply aM.alloc | apply aM.drewN | apply aM.drew | apply aM.set_1 | apply aM.set_2 | refine aM.far ?_ gF.out _ | refine aM.far ?_ gG.out _ | refine aM.far ?_ iC.out _ | refine aM.far ?_ gL.out _ | refine aM.far ?_ jF.out _) | exact dJ.out))
          (case side2 => repeat (first | (with_reducible first | exact HB.out | apply lA | apply lN | apply lD | refine lS ?_ (aM.ge dJ.out) | refine lS ?_ sN.out | refine lS ?_ sO.out | refine lS ?_ tK.out | refine lS ?_ uJ.out | refine lS ?_ aA0.out) | exact HB.out))
          rintro e wT ⟨At_, ct_, rfl, hle_, hm_, hC_, hiT, hbT, hkT⟩
          refine ⟨_, rfl, ?_⟩
          have bkT := KeepBut.blk hkT (g' := nD) (o := .cells #[.int .i64 aAz, u310001, .slice none 0 0] 44 (0, 0)) (xkq fQ) aB2.out (by simp)
          refine hK.out _ _ ((blk_cell bkT 2).trans rfl) (fun hHeld => ?_)
          clear hK K
          refine norm_ (a' := ?_) ?_ ?_
          rotate_left
          · show Act.put _ (some 93) _ = _
            simp only [Act.put, List.setIfInBounds_toArray, List.set_cons_zero, List.set_cons_succ, i64_w, i32_w]
            rfl
          refine one_ (i := 5) (N := some 94) #[true, true, true, true, true, true, false, false] rfl rfl (one_of HT_.out (by kernel_rfl)) (by decide) (fun K hK => ?_)
          refine Kd.R_append_rows_step (Kd.int .u8) (w0 := wT) wT.heap.size (by rfl) (.tmp 90) (.tmp 93) 26 5 (.int .u8 0) 1 rfl Try.underlying26 aFk rfl (by decide) (by omega) (.slice none 0 0) ([] : List Int) yQ _ _ _ (fun _ => True) (fun _ => False) rfl rfl (Kd.R_nil _ _ _ _ _) (Kd.C_below hC_ hbT) (fun _ _ h => h) (fun _ h => h.elim) (fun _ _ => trivial) (Below.refl _ _) (Nat.le_refl _) (by simp only [List.length_nil]; omega) ?_
          intro eNy bUj gZ cA6 hg_ hat_
          replace gZ : Kd.R (Kd.int .u8) 5 bUj eTp.heap.size (fun _ => True) eNy yQ := Kd.R_lower gZ hkT.1
          have hi := aM.below hiT cA6
          have hb := lT hbT cA6
          have hk := KeepBut.trans hkT (KeepBut.of_below cA6 xN none) (.inl rfl)
          clear hiT hbT hkT hC_ hle_ hm_ cA6 hg_ hat_ bkT hHeld
          replace wE := aZ (Kd.R_mono (Kd.R_keep (aM.apart (show aM w _ xN yB uX uY from by repeat (first | (with_reducible first | exact dJ.out | apply aM.alloc | apply aM.drewN | apply aM.drew | apply aM.set_1 | apply aM.set_2 | refine aM.far ?_ gF.out _ | refine aM.far ?_ gG.out _ | refine aM.far ?_ iC.out _ | refine aM.far ?_ gL.out _ | refine aM.far ?_ jF.out _) | exact dJ.out)) (by (with_reducible repeat (first | apply Kd.rA | apply Kd.rN | apply Kd.rD)); exact wE.out) (by decide)) hk (fun _ h => h.2)) (fun _ h => h.1))
          replace dX := aZ (Kd.S_mono (Kd.S_told (Kd.S_oldK (aM.apartS (show aM w _ xN yB uX uY from by repeat (first | (with_reducible first | exact dJ.out | apply aM.alloc | apply aM.drewN | apply aM.drew | apply aM.set_1 | apply aM.set_2 | refine aM.far ?_ gF.out _ | refine aM.far ?_ gG.out _ | refine aM.far ?_ iC.out _ | refine aM.far ?_ gL.out _ | refine aM.far ?_ jF.out _) | exact dJ.out)) (by (with_reducible repeat (first | apply Kd.S_alloc | apply Kd.S_drewN | apply Kd.S_drew)); exact dX.out) (by decide)) hk) (Kd.R_base gZ)) (fun _ h_ => h_.1))
          replace gK := aZ (Kd.R_mono (Kd.R_keep (aM.apart (show aM w _ xN yB uX uY from by repeat (first | (with_reducible first | exact dJ.out | apply aM.alloc | apply aM.drewN | apply aM.drew | apply aM.set_1 | apply aM.set_2 | refine aM.far ?_ gF.out _ | refine aM.far ?_ gG.out _ | refine aM.far ?_ iC.out _ | refine aM.far ?_ gL.out _ | refine aM.far ?_ jF.out _) | exact dJ.out)) (by (with_reducible repeat (first | apply Kd.rA | apply Kd.rN | apply Kd.rD)); exact gK.out) (by decide)) hk (fun _ h => h.2)) (fun _ h => h.1))
          replace eZ := aZ (KeepBut.blk hk (g' := vZ) (o := .cells #[.slice none 0 0] 24 (0, 0)) (xkq eZ) aAl.out (by simp))
          replace eQ := aZ (KeepBut.blk hk (g' := sH) (o := .cells #[.int .i64 pG, .int .i64 mX] 28 (0, 0)) (xkq eQ) aAm.out (by simp))
          replace jI := aZ (KeepBut.blk hk (g' := vF) (o := .cells #[.int .i64 aMn, .int .i64 aN1] 28 (0, 0)) (xkq jI) aPj.out (by simp))
          replace kL := aZ (KeepBut.blk hk (g' := aAy) (o := .cells #[u296000] 24 (0, 0)) (xkq kL) aE7.out (by simp))
          replace fQ := aZ (KeepBut.blk hk (g' := nD) (o := .cells #[.int .i64 aAz, u310001, .slice none 0 0] 44 (0, 0)) (xkq fQ) aB2.out (by simp))
          have aEe := aZ (Kd.R_lower gZ (lZ (by repeat (first | (with_reducible first | exact HB.out | apply lA | apply lN | apply lD | refine lS ?_ (aM.ge dJ.out) | refine lS ?_ sN.out | refine lS ?_ sO.out | refine lS ?_ tK.out | refine lS ?_ uJ.out | refine lS ?_ aA0.out) | exact HB.out))))
          replace HB := aZ (hb)
          replace dJ := aZ (hi)
          (try clear hb)
          (try clear iV)
          (try clear hk)
          (try clear hi)
          (try clear gZ)
          obtain ⟨aSs, aO7, dU2⟩ := Kd.R_slice aEe.out
          (first | subst dU2 | (injection dU2 with f1_ f2_ f3_; have f4_ := f1_.symm; have f5_ := f3_.symm; clear f1_ f2_ f3_; subst f4_; subst f5_))
          refine hK.out _ _ ((blk_cell fQ.out 2).trans rfl) (fun hHeld => ?_)
          clear hK K
          refine norm_ (a' := ?_) ?_ ?_
          rotate_left
          · show Act.put _ (some 94) _ = _
            simp only [Act.put, List.setIfInBounds_toArray, List.set_cons_zero, List.set_cons_succ, i64_w, i32_w]
            rfl
          refine pu 6 95 #[true, true, true, true, true, true, true, false] HT_ rfl rfl (h := ?_)
          refine last_ (i := 7) (N := none) #[true, true, true, true, true, true, true, true] rfl rfl (one_of HT_.out (by kernel_rfl)) (by decide) (fun K hK => ?_)
          have iFe : bUj.cell? ⟨nD, 2, none⟩ = some (.slice none 0 0) := (blk_cell fQ.out 2).trans rfl
          have hXx := blk_frozen fQ.out 2
          have gOw := aE8.out
          have gOx := aE9.out
          have gOy := aFa.out
          have gOz := aFb.out
          have gO0 := aPk.out
          have gO1 := aPl.out
          have gO2 := aPm.out
          have gO3 := aMs.out
          refine skip_ (w1 := ?_) (by rfl) rfl ?_ ?_
          rotate_left
          · go_simp
            rfl
          refine hK.out _ _ ?_
          clear hK K
          refine done_ (done_of HT_.out (by kernel_rfl)) ?_
          have cNn := aPk.out
          have cNo := aE8.out
          have cNp := aPl.out
          have cNq := aE9.out
          have bT4 := aPm.out
          have bT5 := aFa.out
          have cO2 := aMs.out
          have cO3 := aFb.out
          have bT6 := aB2.out
          have bT7 := jF.out
          have eG2 : bUj.cell? ⟨nD, 0, none⟩ = some (.int .i64 aAz) := (blk_cell fQ.out 0).trans rfl
          have gO4 : bUj.cell? ⟨nD, 1, none⟩ = some (u310001) := (blk_cell fQ.out 1).trans rfl
          have gO5 : bUj.cell? ⟨nD, 2, none⟩ = some (.slice none 0 0) := (blk_cell fQ.out 2).trans rfl
          have eG3 := blk_frozen fQ.out 0
          have gO6 := blk_frozen fQ.out 1
          have gO7 := blk_frozen fQ.out 2
          obtain ⟨eNz, dXe, gO8⟩ := Kd.R_slice gK.out
          subst gO8
          try go_wp2_with (first | ((with_reducible refine gate_callee (f := 29) rfl ?_); refine goesL_ (some 98) rfl rfl Try.func29 (by kernel_rfl) rfl #[.agg #[.int .i64 aAz, .slice eNz kU.length dXe, .slice aSs yQ.length aO7]] rfl xmp ?_; (with_reducible refine (objects_Digest.calls k2 aAz _ _ kU _ _ yQ bSj bMb bN9 _ ?side1 ?side2 ?side3 ?side4 A71.out).mono ?_); (case side1 => refine (Kd.R_reads' (e := 3) (base := w.heap.size) (ok := fun k_ => True) (n := kU.length) (c := dXe) ?_).2.2; exact (by (with_reducible repeat (first | apply Kd.rA | apply Kd.rN | apply Kd.rD)); exact (Kd.R_mono (Kd.R_far (p := ⟨nD, 2, none⟩) (Kd.R_types gK.out fQ.out (by decide)) (fun _ hk => hk.2) (.slice aSs yQ.length aO7)) (fun _ h_ => h_.1)))); (case side2 => exact (Kd.R_reads' gK.out).2.1); (case side3 => refine (Kd.R_reads' (e := 5) (base := w.heap.size) (ok := fun k_ => True) (n := yQ.length) (c := aO7) ?_).2.2; exact (by (with_reducible repeat (first | apply Kd.rA | apply Kd.rN | apply Kd.rD)); exact (Kd.R_mono (Kd.R_far (p := ⟨nD, 2, none⟩) (Kd.R_types aEe.out fQ.out (by decide)) (fun _ hk => hk.2) (.slice aSs yQ.length aO7)) (fun _ h_ => h_.1)))); (case side4 => exact (Kd.R_reads' aEe.out).2.1); rintro e iLh ⟨rfl, hb⟩; refine ⟨_, rfl, ?_⟩; replace wE := aZ (Kd.R_below (by (with_reducible repeat (first | apply Kd.rA | apply Kd.rN | apply Kd.rD)); exact (Kd.R_mono (Kd.R_far (p := ⟨nD, 2, none⟩) (Kd.R_types wE.out fQ.out (by decide)) (fun _ hk => hk.2) (.slice aSs yQ.length aO7)) (fun _ h_ => h_.1))) hb); replace dX := aZ (Kd.S_below (by (with_reducible repeat (first | apply Kd.S_alloc | apply Kd.S_drewN | apply Kd.S_drew)); exact (Kd.S_mono (Kd.S_far (p := ⟨nD, 2, none⟩) (Kd.S_types dX.out fQ.out (by decide)) (fun _ hk => hk.2) (.slice aSs yQ.length aO7)) (fun _ h_ => h_.1))) hb); replace gK := aZ (Kd.R_below (by (with_reducible repeat (first | apply Kd.rA | apply Kd.rN | apply Kd.rD)); exact (Kd.R_mono (Kd.R_far (p := ⟨nD, 2, none⟩) (Kd.R_types gK.out fQ.out (by decide)) (fun _ hk => hk.2) (.slice aSs yQ.length aO7)) (fun _ h_ => h_.1))) hb); replace aEe := aZ (Kd.R_below (by (with_reducible repeat (first | apply Kd.rA | apply Kd.rN | apply Kd.rD)); exact (Kd.R_mono (Kd.R_far (p := ⟨nD, 2, none⟩) (Kd.R_types aEe.out fQ.out (by decide)) (fun _ hk => hk.2) (.slice aSs yQ.length aO7)) (fun _ h_ => h_.1))) hb); replace eZ := xbb eZ hb; replace eQ := xbb eQ hb; replace jI := xbb jI hb; replace kL := xbb kL hb; replace fQ := aZ (blk_below (g := nD) (o := .cells #[.int .i64 aAz, .slice eNz kU.length dXe, .slice aSs yQ.length aO7] 44 (0, 0)) (by refine xpl ?_; refine blk_put (cs := #[.int .i64 aAz, .slice eNz kU.length dXe, .slice none 0 0]) ?_ 2 _ rfl; refine xpl ?_; exact fQ.out) hb); replace HB := aZ (lT (by repeat (first | (with_reducible first | exact HB.out | apply lA | apply lN | apply lD | refine lS ?_ (aM.ge dJ.out) | refine lS ?_ sN.out | refine lS ?_ sO.out | refine lS ?_ tK.out | refine lS ?_ uJ.out | refine lS ?_ aA0.out) | exact HB.out)) hb); replace dJ := aZ (aM.below (show aM w (bUj.setCell ⟨nD, 2, none⟩ (.slice aSs yQ.length aO7)) xN yB aU7 false from by repeat (first | (with_reducible first | exact dJ.out | apply aM.alloc | apply aM.drewN | apply aM.drew | apply aM.set_1 | apply aM.set_2 | refine aM.far ?_ gF.out _ | refine aM.far ?_ gG.out _ | refine aM.far ?_ iC.out _ | refine aM.far ?_ gL.out _ | refine aM.far ?_ jF.out _) | exact dJ.out)) hb); (try clear hb); (try clear iV); (try clear hk); (try clear hi)) | ((with_reducible refine gate_dst (N := 16) rfl ?_); (try (refine gate_guard (by rfl) ?_; dsimp only)); refine box_event ?hg (N := 16) ?hd (cs := #[.int .i64 0, .int .i64 0]) (t := 28) ?hr ?_; (case hd => rfl); (case hg => rfl); (case hr => first | (go_simp; done) | (go_simp; rfl)); intro zY hg bUz hbox hb; replace wE := xR wE hb; replace dX := xS dX hb; replace gK := xR gK hb; replace aEe := xR aEe hb; have aCo := aZ (hbox); have fDg := aZ ((by rw [hg]; exact (lZ (by repeat (first | (with_reducible first | exact HB.out | apply lA | apply lN | apply lD | refine lS ?_ (aM.ge dJ.out) | refine lS ?_ sN.out | refine lS ?_ sO.out | refine lS ?_ tK.out | refine lS ?_ uJ.out | refine lS ?_ aA0.out) | exact HB.out))) : w.heap.size ≤ zY)); have bTe := aZ ((by rw [hg]; exact (lZ (by repeat (first | (with_reducible first | exact HB.out | apply lA | apply lN | apply lD | refine lS ?_ (aM.ge dJ.out) | refine lS ?_ sN.out | refine lS ?_ sO.out | refine lS ?_ tK.out | refine lS ?_ uJ.out | refine lS ?_ aA0.out) | exact HB.out))) : w.heap.size ≤ zY)); replace HB := aZ (lT (by repeat (first | (with_reducible first | exact HB.out | apply lA | apply lN | apply lD | refine lS ?_ (aM.ge dJ.out) | refine lS ?_ sN.out | refine lS ?_ sO.out | refine lS ?_ tK.out | refine lS ?_ uJ.out | refine lS ?_ aA0.out) | exact HB.out)) hb); have aMt := xnl hg eZ; have bHm := xng hg eZ; replace eZ := xbb eZ hb; have aMu := xnl hg eQ; have bHn := xng hg eQ; replace eQ := xbb eQ hb; have bHo := xnl hg jI; have bHp := xng hg jI; replace jI := xbb jI hb; have bHq := xnl hg kL; have bAl := xng hg kL; replace kL := xbb kL hb; have bHr := xnl hg fQ; have bHs := xng hg fQ; replace fQ := xbb fQ hb; have aMv := aZ ((by rw [hg]; exact Nat.ne_of_lt (aM.lt (show aM w _ xN yB aU7 false from by repeat (first | (with_reducible first | exact dJ.out | apply aM.alloc | apply aM.drewN | apply aM.drew | apply aM.set_1 | apply aM.set_2 | refine aM.far ?_ gF.out _ | refine aM.far ?_ gG.out _ | refine aM.far ?_ iC.out _ | refine aM.far ?_ gL.out _ | refine aM.far ?_ jF.out _) | exact dJ.out))) : xN ≠ zY)); have bHt := aZ ((by rw [hg]; exact Nat.ne_of_gt (aM.lt (show aM w _ xN yB aU7 false from by repeat (first | (with_reducible first | exact dJ.out | apply aM.alloc | apply aM.drewN | apply aM.drew | apply aM.set_1 | apply aM.set_2 | refine aM.far ?_ gF.out _ | refine aM.far ?_ gG.out _ | refine aM.far ?_ iC.out _ | refine aM.far ?_ gL.out _ | refine aM.far ?_ jF.out _) | exact dJ.out))) : zY ≠ xN)); replace dJ := aZ (aM.below (by repeat (first | (with_reducible first | exact dJ.out | apply aM.alloc | apply aM.drewN | apply aM.drew | apply aM.set_1 | apply aM.set_2 | refine aM.far ?_ gF.out _ | refine aM.far ?_ gG.out _ | refine aM.far ?_ iC.out _ | refine aM.far ?_ gL.out _ | refine aM.far ?_ jF.out _) | exact dJ.out)) hb); clear hb hbox hg; have cYn := bHm.out; have cYo := aMt.out; have cNv := bHn.out; have cNw := aMu.out; have dKa := bHp.out; have dKb := bHo.out; have cNx := bAl.out; have cNy := bHq.out; have cDj := bHs.out; have cDk := bHr.out; have cOr := bHt.out; have cOs := aMv.out; have eG6 : bUz.cell? ⟨zY, 0, none⟩ = some (.int .i64 0) := (blk_cell aCo.out 0).trans rfl; have gO9 : bUz.cell? ⟨zY, 1, none⟩ = some (.int .i64 0) := (blk_cell aCo.out 1).trans rfl; have eG7 := blk_frozen aCo.out 0; have gPa := blk_frozen aCo.out 1; obtain ⟨gPb, gPc, cGj, fS3, gPd⟩ := dJ.out; have gPe := aDb cGj; have gPf := aDc cGj; have gPg := aDd cGj; have gPh := blk_frozen cGj 1; have gPi := blk_frozen cGj 2; clear cGj fS3; have cO4 := nU.out; have cO5 := tN.out; have dM7 := aMo.out; have dM8 := aMp.out; have dKe := zH.out; have dKf := aPh.out; have eDp := aAl.out; have eDq := gF.out; have dGb : bUz.cell? ⟨vZ, 0, none⟩ = some (.slice none 0 0) := (blk_cell eZ.out 0).trans rfl; have dGc := blk_frozen eZ.out 0; have cDl := aMq.out; have cDm := aMr.out; have cXg := zI.out; have cXh := aPi.out; have eDr := aAm.out; have eDs := gG.out; have cNz : bUz.cell? ⟨sH, 0, none⟩ = some (.int .i64 pG) := (blk_cell eQ.out 0).trans rfl; have gPj : bUz.cell? ⟨sH, 1, none⟩ = some (.int .i64 mX) := (blk_cell eQ.out 1).trans rfl; have cN0 := blk_frozen eQ.out 0; have gPk := blk_frozen eQ.out 1))
          refine bodyPost_ret (results_list (rs := [.cell 2 24, .tmp 3, .cell 4 28]) rfl (by simp) (.cell vZ 24 #[.slice none 0 0] (0, 0) _ rfl (by refine xpl ?_; refine blk_far ?_ nU.out _; refine xpl ?_; refine blk_far ?_ nU.out _; refine xpl ?_; refine blk_put (cs := #[.slice none 0 0]) ?_ 0 _ rfl; refine xpl ?_; refine blk_far ?_ aMt.out _; refine xpl ?_; refine blk_far ?_ aMt.out _; refine xpl ?_; exact eZ.out) Try.underlying24 rfl (by kernel_rfl) (.tmp (.cell sH 28 #[.int .i64 1, .int .i64 0] (0, 0) _ rfl (by refine xpl ?_; refine blk_put (cs := #[.int .i64 1, .int .i64 mX]) ?_ 1 _ rfl; refine xpl ?_; refine blk_put (cs := #[.int .i64 pG, .int .i64 mX]) ?_ 0 _ rfl; refine xpl ?_; refine blk_far ?_ tN.out _; refine xpl ?_; refine blk_far ?_ aMu.out _; refine xpl ?_; refine blk_far ?_ aMu.out _; refine xpl ?_; exact eQ.out) Try.underlying28 rfl (by kernel_rfl) .nil)))) rfl ?_
          exact ⟨_, _, by first | rfl | (simp [errW_none, errW_some] <;> rfl) | (simp only [← bDe]; first | rfl | (simp [errW_none, errW_some] <;> rfl)) | (simp [*, errW_none, errW_some] <;> rfl), by first | exact Kd.S_nil _ _ _ _ _ | exact Kd.N_nil _ _ _ _ _ | exact Kd.V_nil _ _ _ _ _ | exact Kd.Q_nil _ _ _ _ _ | exact Kd.R_nil _ _ _ _ _, by first | exact Kd.R_nil _ _ _ _ _ | exact Kd.N_nil _ _ _ _ _ | exact Kd.V_nil _ _ _ _ _ | exact Kd.Q_nil _ _ _ _ _ | exact Kd.S_nil _ _ _ _ _, by repeat (first | (with_reducible first | exact HB.out | apply lA | apply lN | apply lD | refine lS ?_ (aM.ge dJ.out) | refine lS ?_ sN.out | refine lS ?_ sO.out | refine lS ?_ tK.out | refine lS ?_ uJ.out | refine lS ?_ aA0.out | refine lS ?_ bTe.out) | exact HB.out)⟩
        subst c72
        have H1 : (if (!(bMb == 0) || (!(bN9 == 0))) = true then (some (([] : List (fB)), ([] : List (S48)), 1, 0)) else (if oC.length < 2199023255552 then (if aAr.length < 5864062014805 then (pack_read.l0 k2 (l0.take ((jY) : Int).toNat) (aAr ++ [(⟨bSj, lY, wrap64 (aU7 - lY)⟩ : S48)]) (rd (l0.take ((jY) : Int).toNat) 2) ((aSw + 1) % 256) (oC ++ [(⟨bSj, (⟨aAz, kU, yQ⟩ : S44)⟩ : fB)]) yB aU7 true) else (none)) else (none))) = some (r1, r2, r3, r4) := by rw [if_pos rfl] at H; exact H
        clear H
        have H := H1
        clear H1
        by_cases c73 : (!(bMb == 0) || (!(bN9 == 0))) = true
        · rw [if_pos c73] at H
          have gPl : (!(bMb == 0) || (!(bN9 == 0))) = true := c73
          clear c73
          simp only [Option.some.injEq, Prod.mk.injEq] at H
          obtain ⟨rfl, rfl, rfl, rfl⟩ := H
          try go_wp2
          replace wE := aZ (Kd.rD wE.out)
          replace dX := aZ (Kd.S_drew dX.out)
          replace gK := aZ (Kd.rD gK.out)
          replace eZ := aZ (bD eZ.out)
          replace eQ := aZ (bD eQ.out)
          replace jI := aZ (bD jI.out)
          replace kL := aZ (bD kL.out)
          replace fQ := aZ (bD fQ.out)
          replace dJ := aZ (aM.drew dJ.out)
          replace HB := aZ (lD HB.out)
          refine start_ (n := 8) (S := fun w' => w'.cell? ⟨nD, 2, none⟩ = some (.slice none 0 0)) (ds := [7]) #[false, false, false, false, false, false, false, false] (by kernel_rfl) rfl rfl ((blk_cell fQ.out 2).trans rfl) (fun hHeld => ?_); refine with_tabW pack_read.tab20 pack_read.bits20 (fun HT_ HW_ => ?_)
          generalize wr.drew = w74 at wE dX gK eZ eQ jI kL fQ dJ HB hHeld ⊢
          refine pu 0 89 #[true, false, false, false, false, false, false, false] HT_ rfl rfl (h := ?_)
          refine pu 2 91 #[true, false, true, false, false, false, false, false] HT_ rfl rfl (h := ?_)
          refine pu 3 92 #[true, false, true, true, false, false, false, false] HT_ rfl rfl (h := ?_)
          refine tk 1 90 #[true, true, true, true, false, false, false, false] HT_ HW_ rfl rfl hHeld (by intro w' s2; go_simp; with_reducible rfl) (h := ?_)
          refine one_ (i := 4) (N := some 93) #[true, true, true, true, true, false, false, false] rfl rfl (one_of HT_.out (by kernel_rfl)) (by decide) (fun K hK => ?_)
          refine goes_ Try.func56 (by kernel_rfl) rfl #[.pointer (some ⟨xN, 0, none⟩), .int .i64 cQw] (by rfl) rfl rfl xmp ?_
          with_reducible refine (pack_reader_take.calls xN yB uX uY cQw yQ aU7 true w _ ?side1 ?side2 A70.out).mono ?_
          (case side1 => repeat (first | (with_reducible first | exact dJ.out | apply aM.alloc | apply aM.drewN | apply aM.drew | apply aM.set_1 | apply aM.set_2 | refine aM.far ?_ gF.out _ | refine aM.far ?_ gG.out _ | refine aM.far ?_ iC.out _ | refine aM.far ?_ gL.out _ | refine aM.far ?_ jF.out _) | exact dJ.out))
          (case side2 => repeat (first | (with_reducible first | exact HB.out | apply lA | apply lN | apply lD | refine lS ?_ (aM.ge dJ.out) | refine lS ?_ sN.out | refine lS ?_ sO.out | refine lS ?_ tK.out | refine lS ?_ uJ.out | refine lS ?_ aA0.out) | exact HB.out))
          rintro e wT ⟨At_, ct_, rfl, hle_, hm_, hC_, hiT, hbT, hkT⟩
          refine ⟨_, rfl, ?_⟩
          have bkT := KeepBut.blk hkT (g' := nD) (o := .cells #[.int .i64 aAz, u310001, .slice none 0 0] 44 (0, 0)) (xkq fQ) aB2.out (by simp)
          refine hK.out _ _ ((blk_cell bkT 2).trans rfl) (fun hHeld => ?_)
          clear hK K
          refine norm_ (a' := ?_) ?_ ?_
          rotate_left
          · show Act.put _ (some 93) _ = _
            simp only [Act.put, List.setIfInBounds_toArray, List.set_cons_zero, List.set_cons_succ, i64_w, i32_w]
            rfl
          refine one_ (i := 5) (N := some 94) #[true, true, true, true, true, true, false, false] rfl rfl (one_of HT_.out (by kernel_rfl)) (by decide) (fun K hK => ?_)
          refine Kd.R_append_rows_step (Kd.int .u8) (w0 := wT) wT.heap.size (by rfl) (.tmp 90) (.tmp 93) 26 5 (.int .u8 0) 1 rfl Try.underlying26 aFk rfl (by decide) (by omega) (.slice none 0 0) ([] : List Int) yQ _ _ _ (fun _ => True) (fun _ => False) rfl rfl (Kd.R_nil _ _ _ _ _) (Kd.C_below hC_ hbT) (fun _ _ h => h) (fun _ h => h.elim) (fun _ _ => trivial) (Below.refl _ _) (Nat.le_refl _) (by simp only [List.length_nil]; omega) ?_
          intro eNy w75 gZ cA6 hg_ hat_
          replace gZ : Kd.R (Kd.int .u8) 5 w75 w74.heap.size (fun _ => True) eNy yQ := Kd.R_lower gZ hkT.1
          have hi := aM.below hiT cA6
          have hb := lT hbT cA6
          have hk := KeepBut.trans hkT (KeepBut.of_below cA6 xN none) (.inl rfl)
          clear hiT hbT hkT hC_ hle_ hm_ cA6 hg_ hat_ bkT hHeld
          replace wE := aZ (Kd.R_mono (Kd.R_keep (aM.apart (show aM w _ xN yB uX uY from by repeat (first | (with_reducible first | exact dJ.out | apply aM.alloc | apply aM.drewN | apply aM.drew | apply aM.set_1 | apply aM.set_2 | refine aM.far ?_ gF.out _ | refine aM.far ?_ gG.out _ | refine aM.far ?_ iC.out _ | refine aM.far ?_ gL.out _ | refine aM.far ?_ jF.out _) | exact dJ.out)) (by (with_reducible repeat (first | apply Kd.rA | apply Kd.rN | apply Kd.rD)); exact wE.out) (by decide)) hk (fun _ h => h.2)) (fun _ h => h.1))
          replace dX := aZ (Kd.S_mono (Kd.S_told (Kd.S_oldK (aM.apartS (show aM w _ xN yB uX uY from by repeat (first | (with_reducible first | exact dJ.out | apply aM.alloc | apply aM.drewN | apply aM.drew | apply aM.set_1 | apply aM.set_2 | refine aM.far ?_ gF.out _ | refine aM.far ?_ gG.out _ | refine aM.far ?_ iC.out _ | refine aM.far ?_ gL.out _ | refine aM.far ?_ jF.out _) | exact dJ.out)) (by (with_reducible repeat (first | apply Kd.S_alloc | apply Kd.S_drewN | apply Kd.S_drew)); exact dX.out) (by decide)) hk) (Kd.R_base gZ)) (fun _ h_ => h_.1))
          replace gK := aZ (Kd.R_mono (Kd.R_keep (aM.apart (show aM w _ xN yB uX uY from by repeat (first | (with_reducible first | exact dJ.out | apply aM.alloc | apply aM.drewN | apply aM.drew | apply aM.set_1 | apply aM.set_2 | refine aM.far ?_ gF.out _ | refine aM.far ?_ gG.out _ | refine aM.far ?_ iC.out _ | refine aM.far ?_ gL.out _ | refine aM.far ?_ jF.out _) | exact dJ.out)) (by (with_reducible repeat (first | apply Kd.rA | apply Kd.rN | apply Kd.rD)); exact gK.out) (by decide)) hk (fun _ h => h.2)) (fun _ h => h.1))
          replace eZ := aZ (KeepBut.blk hk (g' := vZ) (o := .cells #[.slice none 0 0] 24 (0, 0)) (xkq eZ) aAl.out (by simp))
          replace eQ := aZ (KeepBut.blk hk (g' := sH) (o := .cells #[.int .i64 pG, .int .i64 mX] 28 (0, 0)) (xkq eQ) aAm.out (by simp))
          replace jI := aZ (KeepBut.blk hk (g' := vF) (o := .cells #[.int .i64 aMn, .int .i64 aN1] 28 (0, 0)) (xkq jI) aPj.out (by simp))
          replace kL := aZ (KeepBut.blk hk (g' := aAy) (o := .cells #[u296000] 24 (0, 0)) (xkq kL) aE7.out (by simp))
          replace fQ := aZ (KeepBut.blk hk (g' := nD) (o := .cells #[.int .i64 aAz, u310001, .slice none 0 0] 44 (0, 0)) (xkq fQ) aB2.out (by simp))
          have aEe := aZ (Kd.R_lower gZ (lZ (by repeat (first | (with_reducible first | exact HB.out | apply lA | apply lN | apply lD | refine lS ?_ (aM.ge dJ.out) | refine lS ?_ sN.out | refine lS ?_ sO.out | refine lS ?_ tK.out | refine lS ?_ uJ.out | refine lS ?_ aA0.out) | exact HB.out))))
          replace HB := aZ (hb)
          replace dJ := aZ (hi)
          (try clear hb)
          (try clear iV)
          (try clear hk)
          (try clear hi)
          (try clear gZ)
          obtain ⟨bUq, bSd, eJr⟩ := Kd.R_slice aEe.out
          (first | subst eJr | (injection eJr with f1_ f2_ f3_; have f4_ := f1_.symm; have f5_ := f3_.symm; clear f1_ f2_ f3_; subst f4_; subst f5_))
          refine hK.out _ _ ((blk_cell fQ.out 2).trans rfl) (fun hHeld => ?_)
          clear hK K
          refine norm_ (a' := ?_) ?_ ?_
          rotate_left
          · show Act.put _ (some 94) _ = _
            simp only [Act.put, List.setIfInBounds_toArray, List.set_cons_zero, List.set_cons_succ, i64_w, i32_w]
            rfl
          refine pu 6 95 #[true, true, true, true, true, true, true, false] HT_ rfl rfl (h := ?_)
          refine last_ (i := 7) (N := none) #[true, true, true, true, true, true, true, true] rfl rfl (one_of HT_.out (by kernel_rfl)) (by decide) (fun K hK => ?_)
          have hLg : w75.cell? ⟨nD, 2, none⟩ = some (.slice none 0 0) := (blk_cell fQ.out 2).trans rfl
          have gDo := blk_frozen fQ.out 2
          have eU7 := aE8.out
          have eU8 := aE9.out
          have eU9 := aFa.out
          have hE9 := aFb.out
          have eVa := aPk.out
          have eVb := aPl.out
          have eVc := aPm.out
          have hFa := aMs.out
          refine skip_ (w1 := ?_) (by rfl) rfl ?_ ?_
          rotate_left
          · go_simp
            rfl
          refine hK.out _ _ ?_
          clear hK K
          refine done_ (done_of HT_.out (by kernel_rfl)) ?_
          have dG6 := aPk.out
          have dG7 := aE8.out
          have cHg := aPl.out
          have cHh := aE9.out
          have bWn := aPm.out
          have bWo := aFa.out
          have cNd := aMs.out
          have cNe := aFb.out
          have cNf := aB2.out
          have cNg := jF.out
          have cXq : w75.cell? ⟨nD, 0, none⟩ = some (.int .i64 aAz) := (blk_cell fQ.out 0).trans rfl
          have dRb : w75.cell? ⟨nD, 1, none⟩ = some (u310001) := (blk_cell fQ.out 1).trans rfl
          have eRv : w75.cell? ⟨nD, 2, none⟩ = some (.slice none 0 0) := (blk_cell fQ.out 2).trans rfl
          have cXr := blk_frozen fQ.out 0
          have dRc := blk_frozen fQ.out 1
          have eRw := blk_frozen fQ.out 2
          obtain ⟨eYu, eN0, fS4⟩ := Kd.R_slice gK.out
          subst fS4
          try go_wp2_with (first | ((with_reducible refine gate_callee (f := 29) rfl ?_); refine goesL_ (some 98) rfl rfl Try.func29 (by kernel_rfl) rfl #[.agg #[.int .i64 aAz, .slice eYu kU.length eN0, .slice bUq yQ.length bSd]] rfl xmp ?_; (with_reducible refine (objects_Digest.calls k2 aAz _ _ kU _ _ yQ bSj bMb bN9 _ ?side1 ?side2 ?side3 ?side4 A71.out).mono ?_); (case side1 => refine (Kd.R_reads' (e := 3) (base := w.heap.size) (ok := fun k_ => True) (n := kU.length) (c := eN0) ?_).2.2; exact (by (with_reducible repeat (first | apply Kd.rA | apply Kd.rN | apply Kd.rD)); exact (Kd.R_mono (Kd.R_far (p := ⟨nD, 2, none⟩) (Kd.R_types gK.out fQ.out (by decide)) (fun _ hk => hk.2) (.slice bUq yQ.length bSd)) (fun _ h_ => h_.1)))); (case side2 => exact (Kd.R_reads' gK.out).2.1); (case side3 => refine (Kd.R_reads' (e := 5) (base := w.heap.size) (ok := fun k_ => True) (n := yQ.length) (c := bSd) ?_).2.2; exact (by (with_reducible repeat (first | apply Kd.rA | apply Kd.rN | apply Kd.rD)); exact (Kd.R_mono (Kd.R_far (p := ⟨nD, 2, none⟩) (Kd.R_types aEe.out fQ.out (by decide)) (fun _ hk => hk.2) (.slice bUq yQ.length bSd)) (fun _ h_ => h_.1)))); (case side4 => exact (Kd.R_reads' aEe.out).2.1); rintro e w85 ⟨rfl, hb⟩; refine ⟨_, rfl, ?_⟩; replace wE := aZ (Kd.R_below (by (with_reducible repeat (first | apply Kd.rA | apply Kd.rN | apply Kd.rD)); exact (Kd.R_mono (Kd.R_far (p := ⟨nD, 2, none⟩) (Kd.R_types wE.out fQ.out (by decide)) (fun _ hk => hk.2) (.slice bUq yQ.length bSd)) (fun _ h_ => h_.1))) hb); replace dX := aZ (Kd.S_below (by (with_reducible repeat (first | apply Kd.S_alloc | apply Kd.S_drewN | apply Kd.S_drew)); exact (Kd.S_mono (Kd.S_far (p := ⟨nD, 2, none⟩) (Kd.S_types dX.out fQ.out (by decide)) (fun _ hk => hk.2) (.slice bUq yQ.length bSd)) (fun _ h_ => h_.1))) hb); replace gK := aZ (Kd.R_below (by (with_reducible repeat (first | apply Kd.rA | apply Kd.rN | apply Kd.rD)); exact (Kd.R_mono (Kd.R_far (p := ⟨nD, 2, none⟩) (Kd.R_types gK.out fQ.out (by decide)) (fun _ hk => hk.2) (.slice bUq yQ.length bSd)) (fun _ h_ => h_.1))) hb); replace aEe := aZ (Kd.R_below (by (with_reducible repeat (first | apply Kd.rA | apply Kd.rN | apply Kd.rD)); exact (Kd.R_mono (Kd.R_far (p := ⟨nD, 2, none⟩) (Kd.R_types aEe.out fQ.out (by decide)) (fun _ hk => hk.2) (.slice bUq yQ.length bSd)) (fun _ h_ => h_.1))) hb); replace eZ := xbb eZ hb; replace eQ := xbb eQ hb; replace jI := xbb jI hb; replace kL := xbb kL hb; replace fQ := aZ (blk_below (g := nD) (o := .cells #[.int .i64 aAz, .slice eYu kU.length eN0, .slice bUq yQ.length bSd] 44 (0, 0)) (by refine xpl ?_; refine blk_put (cs := #[.int .i64 aAz, .slice eYu kU.length eN0, .slice none 0 0]) ?_ 2 _ rfl; refine xpl ?_; exact fQ.out) hb); replace HB := aZ (lT (by repeat (first | (with_reducible first | exact HB.out | apply lA | apply lN | apply lD | refine lS ?_ (aM.ge dJ.out) | refine lS ?_ sN.out | refine lS ?_ sO.out | refine lS ?_ tK.out | refine lS ?_ uJ.out | refine lS ?_ aA0.out) | exact HB.out)) hb); replace dJ := aZ (aM.below (show aM w (w75.setCell ⟨nD, 2, none⟩ (.slice bUq yQ.length bSd)) xN yB aU7 true from by repeat (first | (with_reducible first | exact dJ.out | apply aM.alloc | apply aM.drewN | apply aM.drew | apply aM.set_1 | apply aM.set_2 | refine aM.far ?_ gF.out _ | refine aM.far ?_ gG.out _ | refine aM.far ?_ iC.out _ | refine aM.far ?_ gL.out _ | refine aM.far ?_ jF.out _) | exact dJ.out)) hb); (try clear hb); (try clear iV); (try clear hk); (try clear hi)) | ((with_reducible refine gate_dst (N := 16) rfl ?_); (try (refine gate_guard (by rfl) ?_; dsimp only)); refine box_event ?hg (N := 16) ?hd (cs := #[.int .i64 0, .int .i64 0]) (t := 28) ?hr ?_; (case hd => rfl); (case hg => rfl); (case hr => first | (go_simp; done) | (go_simp; rfl)); intro zY hg w86 hbox hb; replace wE := xR wE hb; replace dX := xS dX hb; replace gK := xR gK hb; replace aEe := xR aEe hb; have aCo := aZ (hbox); have fDg := aZ ((by rw [hg]; exact (lZ (by repeat (first | (with_reducible first | exact HB.out | apply lA | apply lN | apply lD | refine lS ?_ (aM.ge dJ.out) | refine lS ?_ sN.out | refine lS ?_ sO.out | refine lS ?_ tK.out | refine lS ?_ uJ.out | refine lS ?_ aA0.out) | exact HB.out))) : w.heap.size ≤ zY)); have bTe := aZ ((by rw [hg]; exact (lZ (by repeat (first | (with_reducible first | exact HB.out | apply lA | apply lN | apply lD | refine lS ?_ (aM.ge dJ.out) | refine lS ?_ sN.out | refine lS ?_ sO.out | refine lS ?_ tK.out | refine lS ?_ uJ.out | refine lS ?_ aA0.out) | exact HB.out))) : w.heap.size ≤ zY)); replace HB := aZ (lT (by repeat (first | (with_reducible first | exact HB.out | apply lA | apply lN | apply lD | refine lS ?_ (aM.ge dJ.out) | refine lS ?_ sN.out | refine lS ?_ sO.out | refine lS ?_ tK.out | refine lS ?_ uJ.out | refine lS ?_ aA0.out) | exact HB.out)) hb); have aMt := xnl hg eZ; have bHm := xng hg eZ; replace eZ := xbb eZ hb; have aMu := xnl hg eQ; have bHn := xng hg eQ; replace eQ := xbb eQ hb; have bHo := xnl hg jI; have bHp := xng hg jI; replace jI := xbb jI hb; have bHq := xnl hg kL; have bAl := xng hg kL; replace kL := xbb kL hb; have bHr := xnl hg fQ; have bHs := xng hg fQ; replace fQ := xbb fQ hb; have aMv := aZ ((by rw [hg]; exact Nat.ne_of_lt (aM.lt (show aM w _ xN yB aU7 true from by repeat (first | (with_reducible first | exact dJ.out | apply aM.alloc | apply aM.drewN | apply aM.drew | apply aM.set_1 | apply aM.set_2 | refine aM.far ?_ gF.out _ | refine aM.far ?_ gG.out _ | refine aM.far ?_ iC.out _ | refine aM.far ?_ gL.out _ | refine aM.far ?_ jF.out _) | exact dJ.out))) : xN ≠ zY)); have bHt := aZ ((by rw [hg]; exact Nat.ne_of_gt (aM.lt (show aM w _ xN yB aU7 true from by repeat (first | (with_reducible first | exact dJ.out | apply aM.alloc | apply aM.drewN | apply aM.drew | apply aM.set_1 | apply aM.set_2 | refine aM.far ?_ gF.out _ | refine aM.far ?_ gG.out _ | refine aM.far ?_ iC.out _ | refine aM.far ?_ gL.out _ | refine aM.far ?_ jF.out _) | exact dJ.out))) : zY ≠ xN)); replace dJ := aZ (aM.below (by repeat (first | (with_reducible first | exact dJ.out | apply aM.alloc | apply aM.drewN | apply aM.drew | apply aM.set_1 | apply aM.set_2 | refine aM.far ?_ gF.out _ | refine aM.far ?_ gG.out _ | refine aM.far ?_ iC.out _ | refine aM.far ?_ gL.out _ | refine aM.far ?_ jF.out _) | exact dJ.out)) hb); clear hb hbox hg; have cOk := bHm.out; have cOl := aMt.out; have cOm := bHn.out; have cOn := aMu.out; have cOo := bHp.out; have cOp := bHo.out; have bYr := bAl.out; have bYs := bHq.out; have bWj := bHs.out; have bWk := bHr.out; have cSz := bHt.out; have cS0 := aMv.out; have dUe : w86.cell? ⟨zY, 0, none⟩ = some (.int .i64 0) := (blk_cell aCo.out 0).trans rfl; have hFb : w86.cell? ⟨zY, 1, none⟩ = some (.int .i64 0) := (blk_cell aCo.out 1).trans rfl; have dUf := blk_frozen aCo.out 0; have hFc := blk_frozen aCo.out 1; obtain ⟨hFd, hFe, cUv, gPn, hFh⟩ := dJ.out; have cLr := aDb cUv; have eYv := aDc cUv; have eYw := aDd cUv; have eYx := blk_frozen cUv 1; have eYy := blk_frozen cUv 2; clear cUv gPn; have dQn := nU.out; have dQo := tN.out; have dQp := aMo.out; have dQq := aMp.out; have dF0 := zH.out; have dF1 := aPh.out; have dTm := aAl.out; have dTn := gF.out; have cYq : w86.cell? ⟨vZ, 0, none⟩ = some (.slice none 0 0) := (blk_cell eZ.out 0).trans rfl; have cYr := blk_frozen eZ.out 0; have cD4 := aMq.out; have cD5 := aMr.out; have bUr := zI.out; have bUs := aPi.out; have bUm := aAm.out; have bUn := gG.out; have cPg : w86.cell? ⟨sH, 0, none⟩ = some (.int .i64 pG) := (blk_cell eQ.out 0).trans rfl; have eLw : w86.cell? ⟨sH, 1, none⟩ = some (.int .i64 mX) := (blk_cell eQ.out 1).trans rfl; have cPh := blk_frozen eQ.out 0; have eLx := blk_frozen eQ.out 1))
          refine bodyPost_ret (results_list (rs := [.cell 2 24, .tmp 3, .cell 4 28]) rfl (by simp) (.cell vZ 24 #[.slice none 0 0] (0, 0) _ rfl (by refine xpl ?_; refine blk_far ?_ nU.out _; refine xpl ?_; refine blk_far ?_ nU.out _; refine xpl ?_; refine blk_put (cs := #[.slice none 0 0]) ?_ 0 _ rfl; refine xpl ?_; refine blk_far ?_ aMt.out _; refine xpl ?_; refine blk_far ?_ aMt.out _; refine xpl ?_; exact eZ.out) Try.underlying24 rfl (by kernel_rfl) (.tmp (.cell sH 28 #[.int .i64 1, .int .i64 0] (0, 0) _ rfl (by refine xpl ?_; refine blk_put (cs := #[.int .i64 1, .int .i64 mX]) ?_ 1 _ rfl; refine xpl ?_; refine blk_put (cs := #[.int .i64 pG, .int .i64 mX]) ?_ 0 _ rfl; refine xpl ?_; refine blk_far ?_ tN.out _; refine xpl ?_; refine blk_far ?_ aMu.out _; refine xpl ?_; refine blk_far ?_ aMu.out _; refine xpl ?_; exact eQ.out) Try.underlying28 rfl (by kernel_rfl) .nil)))) rfl ?_
          exact ⟨_, _, by first | rfl | (simp [errW_none, errW_some] <;> rfl) | (simp only [← bDe]; first | rfl | (simp [errW_none, errW_some] <;> rfl)) | (simp [*, errW_none, errW_some] <;> rfl), by first | exact Kd.S_nil _ _ _ _ _ | exact Kd.N_nil _ _ _ _ _ | exact Kd.V_nil _ _ _ _ _ | exact Kd.Q_nil _ _ _ _ _ | exact Kd.R_nil _ _ _ _ _, by first | exact Kd.R_nil _ _ _ _ _ | exact Kd.N_nil _ _ _ _ _ | exact Kd.V_nil _ _ _ _ _ | exact Kd.Q_nil _ _ _ _ _ | exact Kd.S_nil _ _ _ _ _, by repeat (first | (with_reducible first | exact HB.out | apply lA | apply lN | apply lD | refine lS ?_ (aM.ge dJ.out) | refine lS ?_ sN.out | refine lS ?_ sO.out | refine lS ?_ tK.out | refine lS ?_ uJ.out | refine lS ?_ aA0.out | refine lS ?_ bTe.out) | exact HB.out)⟩
        rw [if_neg c73] at H
        have gPl : (!(bMb == 0) || (!(bN9 == 0))) = false := by simpa using c73
        clear c73
        by_cases eYz : oC.length < 2199023255552
        rotate_left
        · rw [if_neg eYz] at H
          exact absurd H (by simp)
        rw [if_pos eYz] at H
        have fS5 := aZ eYz
        clear eYz
        obtain ⟨dIf, dIg⟩ : ∃ y_ : List (fB), y_ = (oC ++ [(⟨bSj, (⟨aAz, kU, yQ⟩ : S44)⟩ : fB)]) := ⟨_, rfl⟩
        replace H : (if aAr.length < 5864062014805 then (pack_read.l0 k2 (l0.take ((jY) : Int).toNat) (aAr ++ [(⟨bSj, lY, wrap64 (aU7 - lY)⟩ : S48)]) (rd (l0.take ((jY) : Int).toNat) 2) ((aSw + 1) % 256) dIf yB aU7 true) else (none)) = some (r1, r2, r3, r4) := by first | (rw [dIg]; with_reducible exact H) | (have qY := (Option.bind_some _ _).symm.trans H; rw [dIg]; with_reducible exact qY) | (have qY := (Option.bind_some _ _).symm.trans H; with_reducible exact qY) | with_reducible exact H | (rw [dIg]; exact H) | exact H
        have gPo := aZ dIg
        clear dIg
        by_cases eY0 : aAr.length < 5864062014805
        rotate_left
        · rw [if_neg eY0] at H
          exact absurd H (by simp)
        rw [if_pos eY0] at H
        have fS6 := aZ eY0
        clear eY0
        obtain ⟨gPp, dIh⟩ : ∃ y_ : List (S48), y_ = (aAr ++ [(⟨bSj, lY, wrap64 (aU7 - lY)⟩ : S48)]) := ⟨_, rfl⟩
        replace H : (pack_read.l0 k2 (l0.take ((jY) : Int).toNat) gPp (rd (l0.take ((jY) : Int).toNat) 2) ((aSw + 1) % 256) dIf yB aU7 true) = some (r1, r2, r3, r4) := by first | (rw [dIh]; with_reducible exact H) | (have qY := (Option.bind_some _ _).symm.trans H; rw [dIh]; with_reducible exact qY) | (have qY := (Option.bind_some _ _).symm.trans H; with_reducible exact qY) | with_reducible exact H | (rw [dIh]; exact H) | exact H
        have gPq := aZ dIh
        clear dIh
        have H' := aZ H
        clear H
        try go_wp2
        replace wE := aZ (Kd.rD wE.out)
        replace dX := aZ (Kd.S_drew dX.out)
        replace gK := aZ (Kd.rD gK.out)
        replace eZ := aZ (bD eZ.out)
        replace eQ := aZ (bD eQ.out)
        replace jI := aZ (bD jI.out)
        replace kL := aZ (bD kL.out)
        replace fQ := aZ (bD fQ.out)
        replace dJ := aZ (aM.drew dJ.out)
        replace HB := aZ (lD HB.out)
        refine start_ (n := 8) (S := fun w' => w'.cell? ⟨nD, 2, none⟩ = some (.slice none 0 0)) (ds := [7]) #[false, false, false, false, false, false, false, false] (by kernel_rfl) rfl rfl ((blk_cell fQ.out 2).trans rfl) (fun hHeld => ?_); refine with_tabW pack_read.tab20 pack_read.bits20 (fun HT_ HW_ => ?_)
        generalize wr.drew = fXs at wE dX gK eZ eQ jI kL fQ dJ HB hHeld ⊢
        refine pu 0 89 #[true, false, false, false, false, false, false, false] HT_ rfl rfl (h := ?_)
        refine pu 2 91 #[true, false, true, false, false, false, false, false] HT_ rfl rfl (h := ?_)
        refine pu 3 92 #[true, false, true, true, false, false, false, false] HT_ rfl rfl (h := ?_)
        refine tk 1 90 #[true, true, true, true, false, false, false, false] HT_ HW_ rfl rfl hHeld (by intro w' s2; go_simp; with_reducible rfl) (h := ?_)
        refine one_ (i := 4) (N := some 93) #[true, true, true, true, true, false, false, false] rfl rfl (one_of HT_.out (by kernel_rfl)) (by decide) (fun K hK => ?_)
        refine goes_ Try.func56 (by kernel_rfl) rfl #[.pointer (some ⟨xN, 0, none⟩), .int .i64 cQw] (by rfl) rfl rfl xmp ?_
        with_reducible refine (pack_reader_take.calls xN yB uX uY cQw yQ aU7 true w _ ?side1 ?side2 A70.out).mono ?_
        (case side1 => repeat (first | (with_reducible first | exact dJ.out | apply aM.alloc | apply aM.drewN | apply aM.drew | apply aM.set_1 | apply aM.set_2 | refine aM.far ?_ gF.out _ | refine aM.far ?_ gG.out _ | refine aM.far ?_ iC.out _ | refine aM.far ?_ gL.out _ | refine aM.far ?_ jF.out _) | exact dJ.out))
        (case side2 => repeat (first | (with_reducible first | exact HB.out | apply lA | apply lN | apply lD | refine lS ?_ (aM.ge dJ.out) | refine lS ?_ sN.out | refine lS ?_ sO.out | refine lS ?_ tK.out | refine lS ?_ uJ.out | refine lS ?_ aA0.out) | exact HB.out))
        rintro e wT ⟨At_, ct_, rfl, hle_, hm_, hC_, hiT, hbT, hkT⟩
        refine ⟨_, rfl, ?_⟩
        have bkT := KeepBut.blk hkT (g' := nD) (o := .cells #[.int .i64 aAz, u310001, .slice none 0 0] 44 (0, 0)) (xkq fQ) aB2.out (by simp)
        refine hK.out _ _ ((blk_cell bkT 2).trans rfl) (fun hHeld => ?_)
        clear hK K
        refine norm_ (a' := ?_) ?_ ?_
        rotate_left
        · show Act.put _ (some 93) _ = _
          simp only [Act.put, List.setIfInBounds_toArray, List.set_cons_zero, List.set_cons_succ, i64_w, i32_w]
          rfl
        refine one_ (i := 5) (N := some 94) #[true, true, true, true, true, true, false, false] rfl rfl (one_of HT_.out (by kernel_rfl)) (by decide) (fun K hK => ?_)
        refine Kd.R_append_rows_step (Kd.int .u8) (w0 := wT) wT.heap.size (by rfl) (.tmp 90) (.tmp 93) 26 5 (.int .u8 0) 1 rfl Try.underlying26 aFk rfl (by decide) (by omega) (.slice none 0 0) ([] : List Int) yQ _ _ _ (fun _ => True) (fun _ => False) rfl rfl (Kd.R_nil _ _ _ _ _) (Kd.C_below hC_ hbT) (fun _ _ h => h) (fun _ h => h.elim) (fun _ _ => trivial) (Below.refl _ _) (Nat.le_refl _) (by simp only [List.length_nil]; omega) ?_
        intro eNy dNv gZ cA6 hg_ hat_
        replace gZ : Kd.R (Kd.int .u8) 5 dNv fXs.heap.size (fun _ => True) eNy yQ := Kd.R_lower gZ hkT.1
        have hi := aM.below hiT cA6
        have hb := lT hbT cA6
        have hk := KeepBut.trans hkT (KeepBut.of_below cA6 xN none) (.inl rfl)
        clear hiT hbT hkT hC_ hle_ hm_ cA6 hg_ hat_ bkT hHeld
        replace wE := aZ (Kd.R_mono (Kd.R_keep (aM.apart (show aM w _ xN yB uX uY from by repeat (first | (with_reducible first | exact dJ.out | apply aM.alloc | apply aM.drewN | apply aM.drew | apply aM.set_1 | apply aM.set_2 | refine aM.far ?_ gF.out _ | refine aM.far ?_ gG.out _ | refine aM.far ?_ iC.out _ | refine aM.far ?_ gL.out _ | refine aM.far ?_ jF.out _) | exact dJ.out)) (by (with_reducible repeat (first | apply Kd.rA | apply Kd.rN | apply Kd.rD)); exact wE.out) (by decide)) hk (fun _ h => h.2)) (fun _ h => h.1))
        replace dX := aZ (Kd.S_mono (Kd.S_told (Kd.S_oldK (aM.apartS (show aM w _ xN yB uX uY from by repeat (first | (with_reducible first | exact dJ.out | apply aM.alloc | apply aM.drewN | apply aM.drew | apply aM.set_1 | apply aM.set_2 | refine aM.far ?_ gF.out _ | refine aM.far ?_ gG.out _ | refine aM.far ?_ iC.out _ | refine aM.far ?_ gL.out _ | refine aM.far ?_ jF.out _) | exact dJ.out)) (by (with_reducible repeat (first | apply Kd.S_alloc | apply Kd.S_drewN | apply Kd.S_drew)); exact dX.out) (by decide)) hk) (Kd.R_base gZ)) (fun _ h_ => h_.1))
        replace gK := aZ (Kd.R_mono (Kd.R_keep (aM.apart (show aM w _ xN yB uX uY from by repeat (first | (with_reducible first | exact dJ.out | apply aM.alloc | apply aM.drewN | apply aM.drew | apply aM.set_1 | apply aM.set_2 | refine aM.far ?_ gF.out _ | refine aM.far ?_ gG.out _ | refine aM.far ?_ iC.out _ | refine aM.far ?_ gL.out _ | refine aM.far ?_ jF.out _) | exact dJ.out)) (by (with_reducible repeat (first | apply Kd.rA | apply Kd.rN | apply Kd.rD)); exact gK.out) (by decide)) hk (fun _ h => h.2)) (fun _ h => h.1))
        replace eZ := aZ (KeepBut.blk hk (g' := vZ) (o := .cells #[.slice none 0 0] 24 (0, 0)) (xkq eZ) aAl.out (by simp))
        replace eQ := aZ (KeepBut.blk hk (g' := sH) (o := .cells #[.int .i64 pG, .int .i64 mX] 28 (0, 0)) (xkq eQ) aAm.out (by simp))
        replace jI := aZ (KeepBut.blk hk (g' := vF) (o := .cells #[.int .i64 aMn, .int .i64 aN1] 28 (0, 0)) (xkq jI) aPj.out (by simp))
        replace kL := aZ (KeepBut.blk hk (g' := aAy) (o := .cells #[u296000] 24 (0, 0)) (xkq kL) aE7.out (by simp))
        replace fQ := aZ (KeepBut.blk hk (g' := nD) (o := .cells #[.int .i64 aAz, u310001, .slice none 0 0] 44 (0, 0)) (xkq fQ) aB2.out (by simp))
        have aEe := aZ (Kd.R_lower gZ (lZ (by repeat (first | (with_reducible first | exact HB.out | apply lA | apply lN | apply lD | refine lS ?_ (aM.ge dJ.out) | refine lS ?_ sN.out | refine lS ?_ sO.out | refine lS ?_ tK.out | refine lS ?_ uJ.out | refine lS ?_ aA0.out) | exact HB.out))))
        replace HB := aZ (hb)
        replace dJ := aZ (hi)
        (try clear hb)
        (try clear iV)
        (try clear hk)
        (try clear hi)
        (try clear gZ)
        obtain ⟨aWy, aV9, fDh⟩ := Kd.R_slice aEe.out
        (first | subst fDh | (injection fDh with f1_ f2_ f3_; have f4_ := f1_.symm; have f5_ := f3_.symm; clear f1_ f2_ f3_; subst f4_; subst f5_))
        refine hK.out _ _ ((blk_cell fQ.out 2).trans rfl) (fun hHeld => ?_)
        clear hK K
        refine norm_ (a' := ?_) ?_ ?_
        rotate_left
        · show Act.put _ (some 94) _ = _
          simp only [Act.put, List.setIfInBounds_toArray, List.set_cons_zero, List.set_cons_succ, i64_w, i32_w]
          rfl
        refine pu 6 95 #[true, true, true, true, true, true, true, false] HT_ rfl rfl (h := ?_)
        refine last_ (i := 7) (N := none) #[true, true, true, true, true, true, true, true] rfl rfl (one_of HT_.out (by kernel_rfl)) (by decide) (fun K hK => ?_)
        have iFf : dNv.cell? ⟨nD, 2, none⟩ = some (.slice none 0 0) := (blk_cell fQ.out 2).trans rfl
        have hXy := blk_frozen fQ.out 2
        have gPr := aE8.out
        have gPs := aE9.out
        have gPt := aFa.out
        have gPu := aFb.out
        have gPv := aPk.out
        have gPw := aPl.out
        have gPx := aPm.out
        have gPy := aMs.out
        refine skip_ (w1 := ?_) (by rfl) rfl ?_ ?_
        rotate_left
        · go_simp
          rfl
        refine hK.out _ _ ?_
        clear hK K
        refine done_ (done_of HT_.out (by kernel_rfl)) ?_
        have bTp := aPk.out
        have bTq := aE8.out
        have bTr := aPl.out
        have bTs := aE9.out
        have bTt := aPm.out
        have bTu := aFa.out
        have cC7 := aMs.out
        have cC8 := aFb.out
        have bUk := aB2.out
        have bUl := jF.out
        have bYt : dNv.cell? ⟨nD, 0, none⟩ = some (.int .i64 aAz) := (blk_cell fQ.out 0).trans rfl
        have dIi : dNv.cell? ⟨nD, 1, none⟩ = some (u310001) := (blk_cell fQ.out 1).trans rfl
        have gPz : dNv.cell? ⟨nD, 2, none⟩ = some (.slice none 0 0) := (blk_cell fQ.out 2).trans rfl
        have bYu := blk_frozen fQ.out 0
        have dIj := blk_frozen fQ.out 1
        have gP0 := blk_frozen fQ.out 2
        obtain ⟨aF7, aEy, dGx⟩ := Kd.R_slice gK.out
        subst dGx
        try go_wp2_with (first | ((with_reducible refine gate_callee (f := 29) rfl ?_); refine goesL_ (some 98) rfl rfl Try.func29 (by kernel_rfl) rfl #[.agg #[.int .i64 aAz, .slice aF7 kU.length aEy, .slice aWy yQ.length aV9]] rfl xmp ?_; (with_reducible refine (objects_Digest.calls k2 aAz _ _ kU _ _ yQ bSj bMb bN9 _ ?side1 ?side2 ?side3 ?side4 A71.out).mono ?_); (case side1 => refine (Kd.R_reads' (e := 3) (base := w.heap.size) (ok := fun k_ => True) (n := kU.length) (c := aEy) ?_).2.2; exact (by (with_reducible repeat (first | apply Kd.rA | apply Kd.rN | apply Kd.rD)); exact (Kd.R_mono (Kd.R_far (p := ⟨nD, 2, none⟩) (Kd.R_types gK.out fQ.out (by decide)) (fun _ hk => hk.2) (.slice aWy yQ.length aV9)) (fun _ h_ => h_.1)))); (case side2 => exact (Kd.R_reads' gK.out).2.1); (case side3 => refine (Kd.R_reads' (e := 5) (base := w.heap.size) (ok := fun k_ => True) (n := yQ.length) (c := aV9) ?_).2.2; exact (by (with_reducible repeat (first | apply Kd.rA | apply Kd.rN | apply Kd.rD)); exact (Kd.R_mono (Kd.R_far (p := ⟨nD, 2, none⟩) (Kd.R_types aEe.out fQ.out (by decide)) (fun _ hk => hk.2) (.slice aWy yQ.length aV9)) (fun _ h_ => h_.1)))); (case side4 => exact (Kd.R_reads' aEe.out).2.1); rintro e eUs ⟨rfl, hb⟩; refine ⟨_, rfl, ?_⟩; replace wE := aZ (Kd.R_below (by (with_reducible repeat (first | apply Kd.rA | apply Kd.rN | apply Kd.rD)); exact (Kd.R_mono (Kd.R_far (p := ⟨nD, 2, none⟩) (Kd.R_types wE.out fQ.out (by decide)) (fun _ hk => hk.2) (.slice aWy yQ.length aV9)) (fun _ h_ => h_.1))) hb); replace dX := aZ (Kd.S_below (by (with_reducible repeat (first | apply Kd.S_alloc | apply Kd.S_drewN | apply Kd.S_drew)); exact (Kd.S_mono (Kd.S_far (p := ⟨nD, 2, none⟩) (Kd.S_types dX.out fQ.out (by decide)) (fun _ hk => hk.2) (.slice aWy yQ.length aV9)) (fun _ h_ => h_.1))) hb); replace gK := aZ (Kd.R_below (by (with_reducible repeat (first | apply Kd.rA | apply Kd.rN | apply Kd.rD)); exact (Kd.R_mono (Kd.R_far (p := ⟨nD, 2, none⟩) (Kd.R_types gK.out fQ.out (by decide)) (fun _ hk => hk.2) (.slice aWy yQ.length aV9)) (fun _ h_ => h_.1))) hb); replace aEe := aZ (Kd.R_below (by (with_reducible repeat (first | apply Kd.rA | apply Kd.rN | apply Kd.rD)); exact (Kd.R_mono (Kd.R_far (p := ⟨nD, 2, none⟩) (Kd.R_types aEe.out fQ.out (by decide)) (fun _ hk => hk.2) (.slice aWy yQ.length aV9)) (fun _ h_ => h_.1))) hb); replace eZ := xbb eZ hb; replace eQ := xbb eQ hb; replace jI := xbb jI hb; replace kL := xbb kL hb; replace fQ := aZ (blk_below (g := nD) (o := .cells #[.int .i64 aAz, .slice aF7 kU.length aEy, .slice aWy yQ.length aV9] 44 (0, 0)) (by refine xpl ?_; refine blk_put (cs := #[.int .i64 aAz, .slice aF7 kU.length aEy, .slice none 0 0]) ?_ 2 _ rfl; refine xpl ?_; exact fQ.out) hb); replace HB := aZ (lT (by repeat (first | (with_reducible first | exact HB.out | apply lA | apply lN | apply lD | refine lS ?_ (aM.ge dJ.out) | refine lS ?_ sN.out | refine lS ?_ sO.out | refine lS ?_ tK.out | refine lS ?_ uJ.out | refine lS ?_ aA0.out) | exact HB.out)) hb); replace dJ := aZ (aM.below (show aM w (dNv.setCell ⟨nD, 2, none⟩ (.slice aWy yQ.length aV9)) xN yB aU7 true from by repeat (first | (with_reducible first | exact dJ.out | apply aM.alloc | apply aM.drewN | apply aM.drew | apply aM.set_1 | apply aM.set_2 | refine aM.far ?_ gF.out _ | refine aM.far ?_ gG.out _ | refine aM.far ?_ iC.out _ | refine aM.far ?_ gL.out _ | refine aM.far ?_ jF.out _) | exact dJ.out)) hb); (try clear hb); (try clear iV); (try clear hk); (try clear hi)) | ((with_reducible refine gate_dst (N := 16) rfl ?_); (try (refine gate_guard (by rfl) ?_; dsimp only)); refine box_event ?hg (N := 16) ?hd (cs := #[.int .i64 0, .int .i64 0]) (t := 28) ?hr ?_; (case hd => rfl); (case hg => rfl); (case hr => first | (go_simp; done) | (go_simp; rfl)); intro zY hg fS7 hbox hb; replace wE := xR wE hb; replace dX := xS dX hb; replace gK := xR gK hb; replace aEe := xR aEe hb; have aCo := aZ (hbox); have fDg := aZ ((by rw [hg]; exact (lZ (by repeat (first | (with_reducible first | exact HB.out | apply lA | apply lN | apply lD | refine lS ?_ (aM.ge dJ.out) | refine lS ?_ sN.out | refine lS ?_ sO.out | refine lS ?_ tK.out | refine lS ?_ uJ.out | refine lS ?_ aA0.out) | exact HB.out))) : w.heap.size ≤ zY)); have bTe := aZ ((by rw [hg]; exact (lZ (by repeat (first | (with_reducible first | exact HB.out | apply lA | apply lN | apply lD | refine lS ?_ (aM.ge dJ.out) | refine lS ?_ sN.out | refine lS ?_ sO.out | refine lS ?_ tK.out | refine lS ?_ uJ.out | refine lS ?_ aA0.out) | exact HB.out))) : w.heap.size ≤ zY)); replace HB := aZ (lT (by repeat (first | (with_reducible first | exact HB.out | apply lA | apply lN | apply lD | refine lS ?_ (aM.ge dJ.out) | refine lS ?_ sN.out | refine lS ?_ sO.out | refine lS ?_ tK.out | refine lS ?_ uJ.out | refine lS ?_ aA0.out) | exact HB.out)) hb); have aMt := xnl hg eZ; have bHm := xng hg eZ; replace eZ := xbb eZ hb; have aMu := xnl hg eQ; have bHn := xng hg eQ; replace eQ := xbb eQ hb; have bHo := xnl hg jI; have bHp := xng hg jI; replace jI := xbb jI hb; have bHq := xnl hg kL; have bAl := xng hg kL; replace kL := xbb kL hb; have bHr := xnl hg fQ; have bHs := xng hg fQ; replace fQ := xbb fQ hb; have aMv := aZ ((by rw [hg]; exact Nat.ne_of_lt (aM.lt (show aM w _ xN yB aU7 true from by repeat (first | (with_reducible first | exact dJ.out | apply aM.alloc | apply aM.drewN | apply aM.drew | apply aM.set_1 | apply aM.set_2 | refine aM.far ?_ gF.out _ | refine aM.far ?_ gG.out _ | refine aM.far ?_ iC.out _ | refine aM.far ?_ gL.out _ | refine aM.far ?_ jF.out _) | exact dJ.out))) : xN ≠ zY)); have bHt := aZ ((by rw [hg]; exact Nat.ne_of_gt (aM.lt (show aM w _ xN yB aU7 true from by repeat (first | (with_reducible first | exact dJ.out | apply aM.alloc | apply aM.drewN | apply aM.drew | apply aM.set_1 | apply aM.set_2 | refine aM.far ?_ gF.out _ | refine aM.far ?_ gG.out _ | refine aM.far ?_ iC.out _ | refine aM.far ?_ gL.out _ | refine aM.far ?_ jF.out _) | exact dJ.out))) : zY ≠ xN)); replace dJ := aZ (aM.below (by repeat (first | (with_reducible first | exact dJ.out | apply aM.alloc | apply aM.drewN | apply aM.drew | apply aM.set_1 | apply aM.set_2 | refine aM.far ?_ gF.out _ | refine aM.far ?_ gG.out _ | refine aM.far ?_ iC.out _ | refine aM.far ?_ gL.out _ | refine aM.far ?_ jF.out _) | exact dJ.out)) hb); clear hb hbox hg; have bTx := bHm.out; have bTy := aMt.out; have cD2 := bHn.out; have cD3 := aMu.out; have cO6 := bHp.out; have cO7 := bHo.out; have bM2 := bAl.out; have bM3 := bHq.out; have cNl := bHs.out; have cNm := bHr.out; have cDb := bHt.out; have cDc := aMv.out; have eKy : fS7.cell? ⟨zY, 0, none⟩ = some (.int .i64 0) := (blk_cell aCo.out 0).trans rfl; have gP1 : fS7.cell? ⟨zY, 1, none⟩ = some (.int .i64 0) := (blk_cell aCo.out 1).trans rfl; have eKz := blk_frozen aCo.out 0; have gP2 := blk_frozen aCo.out 1) | ((with_reducible refine gate_store (t := 28) (p := 16) rfl ?_); refine store_event (t := 28) (p := 16) (v := ?vo_w126) (w1 := ((fS7.setCell ⟨zY, 0, none⟩ (.int .i64 bMb)).setCell ⟨zY, 1, none⟩ (.int .i64 bN9))) ?hg ?ho ?hn ?hr ?_; (case ho => rfl); (case hg => rfl); (case hn => rfl); (case hr => first | (go_simp; done) | (go_simp; rfl)); intro bSk hw; replace wE : Aside0 (Kd.R k48 48 bSk w.heap.size (fun _ => True) u9 aAr) := ⟨(by rw [hw]; exact (by (with_reducible repeat (first | apply Kd.rA | apply Kd.rN | apply Kd.rD)); exact Kd.R_mono (Kd.R_far (p := ⟨zY, 1, none⟩) (Kd.R_far (p := ⟨zY, 0, none⟩) (Kd.R_types wE.out aCo.out (by decide)) (fun _ hk => hk.2) (.int .i64 bMb)) (fun _ hk => hk.2) (.int .i64 bN9)) (fun _ hk => trivial)))⟩; replace dX : Aside0 (Kd.S qL 46 bSk w.heap.size (fun k_ => some k_ ≠ (.slice aF7 kU.length aEy : Value).ownBlock ∧ some k_ ≠ (.slice aWy yQ.length aV9 : Value).ownBlock) u296000 oC) := ⟨(by rw [hw]; exact (by (with_reducible repeat (first | apply Kd.S_alloc | apply Kd.S_drewN | apply Kd.S_drew)); exact Kd.S_mono (Kd.S_far (p := ⟨zY, 1, none⟩) (Kd.S_far (p := ⟨zY, 0, none⟩) (Kd.S_types dX.out aCo.out (by decide)) (fun _ hk => hk.2) (.int .i64 bMb)) (fun _ hk => hk.2) (.int .i64 bN9)) (fun _ hk => ⟨hk.1.1, hk.1.2⟩)))⟩; replace gK : Aside0 (Kd.R (Kd.int .i64) 3 bSk w.heap.size (fun _ => True) (.slice aF7 kU.length aEy) kU) := ⟨(by rw [hw]; exact (by (with_reducible repeat (first | apply Kd.rA | apply Kd.rN | apply Kd.rD)); exact Kd.R_mono (Kd.R_far (p := ⟨zY, 1, none⟩) (Kd.R_far (p := ⟨zY, 0, none⟩) (Kd.R_types gK.out aCo.out (by decide)) (fun _ hk => hk.2) (.int .i64 bMb)) (fun _ hk => hk.2) (.int .i64 bN9)) (fun _ hk => trivial)))⟩; replace aEe : Aside0 (Kd.R (Kd.int .u8) 5 bSk w.heap.size (fun _ => True) (.slice aWy yQ.length aV9) yQ) := ⟨(by rw [hw]; exact (by (with_reducible repeat (first | apply Kd.rA | apply Kd.rN | apply Kd.rD)); exact Kd.R_mono (Kd.R_far (p := ⟨zY, 1, none⟩) (Kd.R_far (p := ⟨zY, 0, none⟩) (Kd.R_types aEe.out aCo.out (by decide)) (fun _ hk => hk.2) (.int .i64 bMb)) (fun _ hk => hk.2) (.int .i64 bN9)) (fun _ hk => trivial)))⟩; replace eZ := xsB eZ hw; replace eQ := xsB eQ hw; replace jI := xsB jI hw; replace kL := xsB kL hw; replace fQ := xsB fQ hw; replace aCo : Aside0 (bSk.heap[zY]? = some (.cells #[.int .i64 bMb, .int .i64 bN9] 28 (0, 0))) := ⟨(by rw [hw]; exact (by refine xpl ?_; refine blk_put (cs := #[.int .i64 bMb, .int .i64 0]) ?_ 1 _ rfl; refine xpl ?_; refine blk_put (cs := #[.int .i64 0, .int .i64 0]) ?_ 0 _ rfl; refine xpl ?_; exact aCo.out))⟩; replace HB : Aside0 (Below w.heap.size w bSk) := ⟨(by rw [hw]; exact (by repeat (first | (with_reducible first | exact HB.out | apply lA | apply lN | apply lD | refine lS ?_ (aM.ge dJ.out) | refine lS ?_ sN.out | refine lS ?_ sO.out | refine lS ?_ tK.out | refine lS ?_ uJ.out | refine lS ?_ aA0.out | refine lS ?_ bTe.out) | exact HB.out)))⟩; replace dJ : Aside0 (aM w bSk xN yB aU7 true) := ⟨(by rw [hw]; exact (by repeat (first | (with_reducible first | exact dJ.out | apply aM.alloc | apply aM.drewN | apply aM.drew | apply aM.set_1 | apply aM.set_2 | refine aM.far ?_ gF.out _ | refine aM.far ?_ gG.out _ | refine aM.far ?_ iC.out _ | refine aM.far ?_ gL.out _ | refine aM.far ?_ jF.out _ | refine aM.far ?_ aMv.out _) | exact dJ.out)))⟩; clear hw; obtain ⟨gP3, gP4, cGk, fS8, gP5⟩ := dJ.out; have gP6 := aDb cGk; have gP7 := aDc cGk; have gP8 := aDd cGk; have gP9 := blk_frozen cGk 1; have gQa := blk_frozen cGk 2; clear cGk fS8; have bA3 : bSk.cell? ⟨zY, 0, none⟩ = some (.int .i64 bMb) := (blk_cell aCo.out 0).trans rfl; have bFe : bSk.cell? ⟨zY, 1, none⟩ = some (.int .i64 bN9) := (blk_cell aCo.out 1).trans rfl; have bA4 := blk_frozen aCo.out 0; have bFf := blk_frozen aCo.out 1; have cW6 := aPh.out; have cW7 := zH.out; have cDf := aPi.out; have cDg := zI.out; have cW8 := bR2.out; have cW9 := aE6.out; have bT1 := aE7.out; have bT2 := gL.out; have dGh : bSk.cell? ⟨aAy, 0, none⟩ = some (u296000) := (blk_cell kL.out 0).trans rfl; have dGi := blk_frozen kL.out 0; have dE3 : bSk.cell? ⟨nD, 0, none⟩ = some (.int .i64 aAz) := (blk_cell fQ.out 0).trans rfl; have gQb : bSk.cell? ⟨nD, 1, none⟩ = some (.slice aF7 kU.length aEy) := (blk_cell fQ.out 1).trans rfl; have gQc : bSk.cell? ⟨nD, 2, none⟩ = some (.slice aWy yQ.length aV9) := (blk_cell fQ.out 2).trans rfl; have dE4 := blk_frozen fQ.out 0; have gQd := blk_frozen fQ.out 1; have gQe := blk_frozen fQ.out 2) | ((with_reducible refine gate_builtin (b := .append) (xs := #[.tmp 114, .tmp 118]) rfl ?_); (try (refine gate_guard (by rfl) ?_; dsimp only)); at_builtin; refine Kd.S_append qL (w0 := w) w.heap.size rfl (.tmp 114) (.tmp 118) 22 46 (.agg #[(.int .i64 0), (.int .i64 0), (.slice none 0 0), (.slice none 0 0)]) 64 rfl Try.underlying22 aNg rfl (by decide) (by omega) u296000 oC (⟨bSj, (⟨aAz, kU, yQ⟩ : S44)⟩ : fB) [.int .i64 bSj, .int .i64 aAz, .slice aF7 kU.length aEy, .slice aWy yQ.length aV9] (fun _ => True) (fun k_ => some k_ = (.slice aF7 kU.length aEy : Value).ownBlock ∨ some k_ = (.slice aWy yQ.length aV9 : Value).ownBlock) rfl rfl ?aP (fun k_ hk_ => hk_.elim (fun h_ => ((Kd.R_mono (ok' := fun k_ => ((fun _ => True)) k_ ∧ some k_ ≠ (u296000 : Value).ownBlock) (Kd.R_apart' (gK.out) (Kd.S_typed dX.out) (by decide)) (fun k_ hk => ⟨trivial, hk.2⟩))).1 k_ h_.symm) (fun h_ => ((Kd.R_mono (ok' := fun k_ => ((fun _ => True)) k_ ∧ some k_ ≠ (u296000 : Value).ownBlock) (Kd.R_apart' (aEe.out) (Kd.S_typed dX.out) (by decide)) (fun k_ hk => ⟨trivial, hk.2⟩))).1 k_ h_.symm)) ?aF ?aO ?aB ?aS ?aL ?_; (case aP => exact cJg _ _ _ (⟨bSj, (⟨aAz, kU, yQ⟩ : S44)⟩ : fB) (Kd.R_mono (Kd.R_tight rfl (Kd.R_mono (ok' := fun k_ => ((fun _ => True)) k_ ∧ some k_ ≠ (u296000 : Value).ownBlock) (Kd.R_apart' (gK.out) (Kd.S_typed dX.out) (by decide)) (fun k_ hk => ⟨trivial, hk.2⟩))) (fun _ h_ => Or.inl h_)) (Kd.R_mono (Kd.R_tight rfl (Kd.R_mono (ok' := fun k_ => ((fun _ => True)) k_ ∧ some k_ ≠ (u296000 : Value).ownBlock) (Kd.R_apart' (aEe.out) (Kd.S_typed dX.out) (by decide)) (fun k_ hk => ⟨trivial, hk.2⟩))) (fun _ h_ => Or.inr (h_)))); (case aB => exact (by repeat (first | (with_reducible first | exact HB.out | apply lA | apply lN | apply lD | refine lS ?_ (aM.ge dJ.out) | refine lS ?_ sN.out | refine lS ?_ sO.out | refine lS ?_ tK.out | refine lS ?_ uJ.out | refine lS ?_ aA0.out | refine lS ?_ bTe.out) | exact HB.out))); (case aF => exact (fun _ _ => trivial)); (case aO => exact (by (with_reducible repeat (first | apply Kd.S_alloc | apply Kd.S_drewN | apply Kd.S_drew)); exact Kd.S_mono dX.out (fun k_ hk => ⟨trivial, fun e_ => e_.elim (fun h_ => hk.1 h_) (fun h_ => hk.2 h_)⟩))); (case aS => exact (lZ (by repeat (first | (with_reducible first | exact HB.out | apply lA | apply lN | apply lD | refine lS ?_ (aM.ge dJ.out) | refine lS ?_ sN.out | refine lS ?_ sO.out | refine lS ?_ tK.out | refine lS ?_ uJ.out | refine lS ?_ aA0.out | refine lS ?_ bTe.out) | exact HB.out)))); (case aL => have := fS5.out; omega); intro iLi gQf ho hb hg hat; rw [← gPo.out] at ho; replace wE := aZ (Kd.R_over' (by (with_reducible repeat (first | apply Kd.rA | apply Kd.rN | apply Kd.rD)); exact wE.out) (Kd.S_typed (by (with_reducible repeat (first | apply Kd.S_alloc | apply Kd.S_drewN | apply Kd.S_drew)); exact dX.out)) (by decide) hg); replace eZ := aZ (blk_grown (g := vZ) (o := .cells #[.slice none 0 0] 24 (0, 0)) (xkq eZ) hg (Kd.S_ne dX.out eZ.out (by decide))); replace eQ := aZ (blk_grown (g := sH) (o := .cells #[.int .i64 pG, .int .i64 mX] 28 (0, 0)) (xkq eQ) hg (Kd.S_ne dX.out eQ.out (by decide))); replace jI := aZ (blk_grown (g := vF) (o := .cells #[.int .i64 aMn, .int .i64 aN1] 28 (0, 0)) (xkq jI) hg (Kd.S_ne dX.out jI.out (by decide))); replace kL := aZ (blk_grown (g := aAy) (o := .cells #[u296000] 24 (0, 0)) (xkq kL) hg (Kd.S_ne dX.out kL.out (by decide))); replace fQ := aZ (blk_grown (g := nD) (o := .cells #[.int .i64 aAz, .slice aF7 kU.length aEy, .slice aWy yQ.length aV9] 44 (0, 0)) (xkq fQ) hg (Kd.S_ne dX.out fQ.out (by decide))); replace dJ := aZ (aM.grownJ dJ (by intro h_; repeat (first | (with_reducible first | exact h_ | apply aM.alloc | apply aM.drewN | apply aM.drew | apply aM.set_1 | apply aM.set_2 | refine aM.far ?_ gF.out _ | refine aM.far ?_ gG.out _ | refine aM.far ?_ iC.out _ | refine aM.far ?_ gL.out _ | refine aM.far ?_ jF.out _ | refine aM.far ?_ aMv.out _) | exact h_)) hg (aM.own_neS dJ.out dX.out (by decide))); replace aCo := aZ (blk_grown (g := zY) (o := .cells #[.int .i64 bMb, .int .i64 bN9] 28 (0, 0)) (xkq aCo) hg (Kd.S_ne dX.out aCo.out (by decide))); replace HB := aZ (hb); have dXf := aZ (ho); clear dX; clear aEe; clear gK; clear ho hb hg hat; obtain ⟨cUw, cUx, dXg⟩ := Kd.S_slice dXf.out; subst dXg; have gQg : gQf.cell? ⟨aAy, 0, none⟩ = some (u296000) := (blk_cell kL.out 0).trans rfl; have gQh := blk_frozen kL.out 0; obtain ⟨gQi, gQj, cGl, fS9, gQk⟩ := dJ.out; have eK0 := aDb cGl; have eK1 := aDc cGl; have eK2 := aDd cGl; have eK3 := blk_frozen cGl 1; have eK4 := blk_frozen cGl 2; clear cGl fS9) | ((with_reducible refine gate_builtin (b := .append) (xs := #[.tmp 121, .tmp 131]) rfl ?_); (try (refine gate_guard (by rfl) ?_; dsimp only)); at_builtin; refine Kd.R_append k48 (w0 := w) w.heap.size rfl (.tmp 121) (.tmp 131) 39 48 (.agg #[(.int .i64 0), (.int .i64 0), (.int .i64 0)]) 24 rfl Try.underlying39 eBq rfl (by decide) (by omega) u9 aAr (⟨bSj, lY, wrap64 (aU7 - lY)⟩ : S48) [.int .i64 bSj, .int .i64 lY, .int .i64 (wrap64 (aU7 - lY))] (fun _ => True) (fun _ => False) rfl (by first | (go_simp; done) | (go_simp; rfl)) ?aP (fun _ hk => hk.elim) ?aF ?aO ?aB ?aS ?aL ?_; (case aP => exact dOt _ _ _ (⟨bSj, lY, wrap64 (aU7 - lY)⟩ : S48)); (case aB => exact (by repeat (first | (with_reducible first | exact HB.out | apply lA | apply lN | apply lD | refine lS ?_ (aM.ge dJ.out) | refine lS ?_ sN.out | refine lS ?_ sO.out | refine lS ?_ tK.out | refine lS ?_ uJ.out | refine lS ?_ aA0.out | refine lS ?_ bTe.out) | exact HB.out))); (case aF => exact (fun _ _ => trivial)); (case aO => exact (by (with_reducible repeat (first | apply Kd.rA | apply Kd.rN | apply Kd.rD)); exact Kd.R_mono (Kd.R_far (p := ⟨aAy, 0, none⟩) (Kd.R_types wE.out kL.out (by decide)) (fun _ hk => hk.2) (.slice cUw dIf.length cUx)) (fun _ hk => trivial))); (case aS => exact (lZ (by repeat (first | (with_reducible first | exact HB.out | apply lA | apply lN | apply lD | refine lS ?_ (aM.ge dJ.out) | refine lS ?_ sN.out | refine lS ?_ sO.out | refine lS ?_ tK.out | refine lS ?_ uJ.out | refine lS ?_ aA0.out | refine lS ?_ bTe.out) | exact HB.out)))); (case aL => have := fS6.out; omega); intro iLj cR1 ho hb hg hat; rw [← gPq.out] at ho; replace eZ := aZ (blk_grown (g := vZ) (o := .cells #[.slice none 0 0] 24 (0, 0)) ((xk eZ).out) hg (Kd.R_ne wE.out eZ.out (by decide))); replace eQ := aZ (blk_grown (g := sH) (o := .cells #[.int .i64 pG, .int .i64 mX] 28 (0, 0)) ((xk eQ).out) hg (Kd.R_ne wE.out eQ.out (by decide))); replace jI := aZ (blk_grown (g := vF) (o := .cells #[.int .i64 aMn, .int .i64 aN1] 28 (0, 0)) ((xk jI).out) hg (Kd.R_ne wE.out jI.out (by decide))); replace fQ := aZ (blk_grown (g := nD) (o := .cells #[.int .i64 aAz, .slice aF7 kU.length aEy, .slice aWy yQ.length aV9] 44 (0, 0)) ((xk fQ).out) hg (Kd.R_ne wE.out fQ.out (by decide))); replace dJ := aZ (aM.grownJ dJ (by intro h_; repeat (first | (with_reducible first | exact h_ | apply aM.alloc | apply aM.drewN | apply aM.drew | apply aM.set_1 | apply aM.set_2 | refine aM.far ?_ gF.out _ | refine aM.far ?_ gG.out _ | refine aM.far ?_ iC.out _ | refine aM.far ?_ gL.out _ | refine aM.far ?_ jF.out _ | refine aM.far ?_ aMv.out _) | exact h_)) hg (aM.own_ne dJ.out wE.out (by decide))); replace aCo := aZ (blk_grown (g := zY) (o := .cells #[.int .i64 bMb, .int .i64 bN9] 28 (0, 0)) ((xk aCo).out) hg (Kd.R_ne wE.out aCo.out (by decide))); replace dXf := aZ (Kd.S_over' (by (with_reducible repeat (first | apply Kd.S_alloc | apply Kd.S_drewN | apply Kd.S_drew)); exact (Kd.S_mono (Kd.S_far (p := ⟨aAy, 0, none⟩) (Kd.S_types dXf.out kL.out (by decide)) (fun _ hk => hk.2) (.slice cUw dIf.length cUx)) (fun _ h_ => h_.1))) (Kd.R_typed (by (with_reducible repeat (first | apply Kd.rA | apply Kd.rN | apply Kd.rD)); exact (Kd.R_mono (Kd.R_far (p := ⟨aAy, 0, none⟩) (Kd.R_types wE.out kL.out (by decide)) (fun _ hk => hk.2) (.slice cUw dIf.length cUx)) (fun _ h_ => h_.1)))) (by decide) hg); replace kL := aZ (blk_grown (g := aAy) (o := .cells #[.slice cUw dIf.length cUx] 24 (0, 0)) (by refine xpl ?_; refine blk_put (cs := #[u296000]) ?_ 0 _ rfl; refine xpl ?_; exact kL.out) hg (Kd.R_ne wE.out kL.out (by decide))); replace HB := aZ (hb); have gQl := aZ (ho); clear wE; clear ho hb hg hat))
        go_roundg k2
        case measure => have := yS.out; have := HK2.out; omega
        case rel => exact ⟨(gPp), ((aSw + 1) % 256), (pG), (mX), (dIf), (aU7), (true), (.slice cUw dIf.length cUx), xrs, H', ⟨by have := yS.out; have := HK2.out; omega⟩, ⟨by (with_reducible repeat (first | apply Kd.rA | apply Kd.rN | apply Kd.rD)); exact gQl.out⟩, ⟨by (with_reducible repeat (first | apply Kd.S_alloc | apply Kd.S_drewN | apply Kd.S_drew)); exact dXf.out⟩, xk eZ, xk eQ, xk jI, xk kL, ⟨by repeat (first | (with_reducible first | exact dJ.out | apply aM.alloc | apply aM.drewN | apply aM.drew | apply aM.set_1 | apply aM.set_2 | refine aM.far ?_ gF.out _ | refine aM.far ?_ gG.out _ | refine aM.far ?_ iC.out _ | refine aM.far ?_ gL.out _ | refine aM.far ?_ jF.out _ | refine aM.far ?_ aMv.out _) | exact dJ.out)⟩, ⟨by repeat (first | (with_reducible first | exact HB.out | apply lA | apply lN | apply lD | refine lS ?_ (aM.ge dJ.out) | refine lS ?_ sN.out | refine lS ?_ sO.out | refine lS ?_ tK.out | refine lS ?_ uJ.out | refine lS ?_ aA0.out | refine lS ?_ bTe.out) | exact HB.out)⟩⟩
end

end Go.Proofs.Ytnmkmamobhkcbaa.P
