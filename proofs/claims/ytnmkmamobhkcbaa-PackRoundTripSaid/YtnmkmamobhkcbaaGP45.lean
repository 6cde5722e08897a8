/- Texts of the proofs of PackReadMatchesSpec, PackRoundTrip: what the printed functions come to, plain laws, rows (no condition beyond the statements' own). -/
import Derived.Test.YtnmkmamobhkcbaaGP0
import Derived.Test.YtnmkmamobhkcbaaGP31
import Derived.Test.YtnmkmamobhkcbaaGP44
namespace Go.Proofs.Ytnmkmamobhkcbaa.P
open Go.RowKit Go.Proofs.YtnmkmamobhkcbaaW.PrintWords Go.Proofs.YtnmkmamobhkcbaaW.PrintLast Go.Proofs.YtnmkmamobhkcbaaW.PrintMore
attribute [local go_sem] max2_int min2_int max_two min_two max_three min_three max_four min_four   -- for this text's walks alone
set_option linter.unusedVariables false
set_option linter.unusedSimpArgs false
section
attribute [local go_sem high] bAt
def pack_Lookup.f (k : Nat) (l0 : List Int) (a1 : Int) : Option (Int × List Int × List Int × Int × Int) := (pack_Read.f k l0).bind fun bOn => (if (!(bOn.2.1 == 0) || (!(bOn.2.2 == 0))) = true then (some (0, ([] : List Int), ([] : List Int), bOn.2.1, bOn.2.2)) else ((objects_Get.f k bOn.1 a1).bind fun aWe => (some (aWe.1, aWe.2.1, aWe.2.2.1, aWe.2.2.2.1, aWe.2.2.2.2))))
theorem pack_Lookup.mono : ∀ a0 a1 k, LeO (pack_Lookup.f k a0 a1) (pack_Lookup.f (k + 1) a0 a1) := by
  intro a0 a1 k
  unfold pack_Lookup.f
  repeat' first | (with_reducible first | exact objects_Get.mono _ _ _ | exact pack_Read.mono _ _ | exact LeO.refl _ | exact LeO.none _ | refine LeO.ite ?_ ?_ | refine LeO.bind ?_ (fun _ => ?_)) | exact objects_Get.mono _ _ _ | exact pack_Read.mono _ _ | exact LeO.none _ | refine LeO.ite ?_ ?_ | refine LeO.bind ?_ (fun _ => ?_)
set_option maxHeartbeats 8000000 in
set_option maxRecDepth 100000 in
theorem pack_Lookup.calls (k : Nat) (A0 : Option Addr) (c0 : Nat) (l0 : List Int) (a1 : Int) (r1 : Int) (r2 : List Int) (r3 : List Int) (r4 : Int) (r5 : Int) (w : World) (hr0 : Kd.C (Kd.int .u8) w A0 l0.length l0) (hc0 : l0.length ≤ c0) (h : pack_Lookup.f k l0 a1 = some (r1, r2, r3, r4, r5)) :
  Calls Try.prog 23 #[.slice A0 l0.length c0, .int .i64 a1] w fun e w' => ∃ v1_ v2_ : Value, e = .returned (.tuple #[.agg #[.int .i64 r1, v1_, v2_], .agg #[.int .i64 r4, .int .i64 r5]]) ∧ Kd.R (Kd.int .i64) 3 w' w.heap.size (fun _ => True) v1_ r2 ∧ Kd.R (Kd.int .u8) 5 w' w.heap.size (fun _ => True) v2_ r3 ∧ Below w.heap.size w w' := by
  have aQf := Try.underlying44
  have aQg := Try.underlying28
  have aP7 := Try.underlying24
  have HR0 := aZ hr0
  have HC0 := aZ hc0
  clear hr0 hc0
  have HB := aZ (Below.refl w.heap.size w)
  have H : ((pack_Read.f k l0).bind fun bOn => (if (!(bOn.2.1 == 0) || (!(bOn.2.2 == 0))) = true then (some (0, ([] : List Int), ([] : List Int), bOn.2.1, bOn.2.2)) else ((objects_Get.f k bOn.1 a1).bind fun aWe => (some (aWe.1, aWe.2.1, aWe.2.2.1, aWe.2.2.2.1, aWe.2.2.2.2))))) = some (r1, r2, r3, r4, r5) := h
  clear h
  replace H := Option.bind_eq_some_iff.mp H
  obtain ⟨⟨bId, aYg, bD5⟩, A30, H⟩ := H
  replace H : (if (!(aYg == 0) || (!(bD5 == 0))) = true then (some (0, ([] : List Int), ([] : List Int), aYg, bD5)) else ((objects_Get.f k bId a1).bind fun aWe => (some (aWe.1, aWe.2.1, aWe.2.2.1, aWe.2.2.2.1, aWe.2.2.2.2)))) = some (r1, r2, r3, r4, r5) := H
  have A3 := aZ A30
  clear A30
  by_cases c4 : (!(aYg == 0) || (!(bD5 == 0))) = true
  rotate_left
  · rw [if_neg c4] at H
    have aJy : (!(aYg == 0) || (!(bD5 == 0))) = false := by simpa using c4
    clear c4
    replace H := Option.bind_eq_some_iff.mp H
    obtain ⟨⟨dOh, eA5, eOj, eA6, eOk⟩, cNc, H⟩ := H
    replace H : (some (dOh, eA5, eOj, eA6, eOk)) = some (r1, r2, r3, r4, r5) := H
    have A25 := aZ cNc
    clear cNc
    simp only [Option.some.injEq, Prod.mk.injEq] at H
    obtain ⟨rfl, rfl, rfl, rfl, rfl⟩ := H
    go_enter Try.func23, Try.ntmps23
    go_wp2_with (first | ((with_reducible refine gate_dst (N := 4) rfl ?_); refine box_event ?hg (N := 4) ?hd (cs := #[.int .i64 0, .slice none 0 0, .slice none 0 0]) (t := 44) ?hr ?_; (case hd => rfl); (case hg => rfl); (case hr => first | (go_simp; done) | (go_simp; rfl)); intro aNe hg w26 hbox hb; have sQ := aZ (hbox); have gRa := xgh hg HB; have dIp := xgh hg HB; replace HB := xhl HB hb; clear hb hbox hg) | ((with_reducible refine gate_dst (N := 5) rfl ?_); refine box_event ?hg (N := 5) ?hd (cs := #[.int .i64 0, .int .i64 0]) (t := 28) ?hr ?_; (case hd => rfl); (case hg => rfl); (case hr => first | (go_simp; done) | (go_simp; rfl)); intro aW0 hg w27 hbox hb; have xA := aZ (hbox); have gRb := xgh hg HB; have dIq := xgh hg HB; replace HB := xhl HB hb; have aFf := xnl hg sQ; have aB3 := xng hg sQ; replace sQ := xbb sQ hb; clear hb hbox hg) | ((with_reducible refine gate_callee (f := 20) rfl ?_); refine goesL_ (some 10) rfl rfl Try.func20 (by kernel_rfl) rfl #[.slice A0 l0.length c0] rfl xmp ?_; (with_reducible refine (pack_Read.calls k _ _ l0 bId aYg bD5 _ ?side1 ?side2 A3.out).mono ?_); (case side1 => exact xcb HR0 HB); (case side2 => exact HC0.out); rintro e w28 ⟨hYz, rfl, gZ, hb⟩; refine ⟨_, rfl, ?_⟩; have aN3 := aZ (Kd.S_lower gZ (lZ (by repeat (first | (with_reducible first | exact HB.out | apply lA | apply lN | apply lD | refine lS ?_ dIp.out | refine lS ?_ dIq.out) | exact HB.out)))); replace sQ := xbb sQ hb; replace xA := xbb xA hb; replace HB := xhl HB hb; (try clear hb); (try clear iV); (try clear hk); (try clear hi); (try clear gZ)) | ((with_reducible refine gate_dst (N := 6) rfl ?_); refine box_event ?hg (N := 6) ?hd (cs := #[.slice none 0 0]) (t := 24) ?hr ?_; (case hd => rfl); (case hg => rfl); (case hr => first | (go_simp; done) | (go_simp; rfl)); intro bBt hg w29 hbox hb; replace aN3 := xS aN3 hb; have aIo := aZ (hbox); have gRc := xgh hg HB; have eOl := xgh hg HB; replace HB := xhl HB hb; have bAo := xnl hg sQ; have bAp := xng hg sQ; replace sQ := xbb sQ hb; have bIe := xnl hg xA; have bIf := xng hg xA; replace xA := xbb xA hb; clear hb hbox hg) | ((with_reducible refine gate_dst (N := 7) rfl ?_); refine box_event ?hg (N := 7) ?hd (cs := #[.int .i64 0, .int .i64 0]) (t := 28) ?hr ?_; (case hd => rfl); (case hg => rfl); (case hr => first | (go_simp; done) | (go_simp; rfl)); intro aDy hg w30 hbox hb; replace aN3 := xS aN3 hb; have aNf := aZ (hbox); have gRd := xgh hg HB; have eOm := xgh hg HB; replace HB := xhl HB hb; have bAq := xnl hg sQ; have aDe := xng hg sQ; replace sQ := xbb sQ hb; have bIg := xnl hg xA; have aMx := xng hg xA; replace xA := xbb xA hb; have aVe := xnl hg aIo; have bIh := xng hg aIo; replace aIo := xbb aIo hb; clear hb hbox hg; obtain ⟨dKv, dFm, fG5⟩ := Kd.S_slice aN3.out; subst fG5; have dEl := bAp.out; have dEm := bAo.out; have cM8 := bIf.out; have cM9 := bIe.out; have dEh := aVe.out; have dEi := bIh.out; have cLn : w30.cell? ⟨bBt, 0, none⟩ = some (.slice none 0 0) := (blk_cell aIo.out 0).trans rfl; have cLo := blk_frozen aIo.out 0; have cG0 := aDe.out; have cG1 := bAq.out; have bV1 := aMx.out; have bV2 := bIg.out; have bB6 : w30.cell? ⟨aDy, 0, none⟩ = some (.int .i64 0) := (blk_cell aNf.out 0).trans rfl; have bB7 : w30.cell? ⟨aDy, 1, none⟩ = some (.int .i64 0) := (blk_cell aNf.out 1).trans rfl; have bB8 := blk_frozen aNf.out 0; have bB9 := blk_frozen aNf.out 1) | ((with_reducible refine gate_callee (f := 36) rfl ?_); refine goesL_ (some 20) rfl rfl Try.func36 (by kernel_rfl) rfl #[.agg #[.slice dKv bId.length dFm], .int .i64 a1] rfl xmp ?_; (with_reducible refine (objects_Get.calls k _ _ bId a1 dOh eA5 eOj eA6 eOk _ ?side1 ?side2 A25.out).mono ?_); (case side1 => refine (Kd.S_reads' (e := 46) (base := w.heap.size) (ok := fun k_ => True) (n := bId.length) (c := dFm) ?_).2.2; exact (by (with_reducible repeat (first | apply Kd.S_alloc | apply Kd.S_drewN | apply Kd.S_drew)); exact (Kd.S_mono (Kd.S_mono (Kd.S_far (p := ⟨aDy, 1, none⟩) (Kd.S_far (p := ⟨aDy, 0, none⟩) (Kd.S_far (p := ⟨bBt, 0, none⟩) (Kd.S_types (Kd.S_types aN3.out aIo.out (by decide)) aNf.out (by decide)) (fun _ hk => hk.1.2) (.slice dKv bId.length dFm)) (fun _ hk => hk.2) (.int .i64 aYg)) (fun _ hk => hk.2) (.int .i64 bD5)) (fun _ h_ => h_.1)) (fun _ h_ => h_.1)))); (case side2 => exact (Kd.S_reads' aN3.out).2.1); rintro e w39 ⟨iMa, iMb, rfl, gZ, ho1, hb⟩; refine ⟨_, rfl, ?_⟩; replace aN3 := aZ (Kd.S_mono (Kd.S_told (Kd.S_told (Kd.S_old (by (with_reducible repeat (first | apply Kd.S_alloc | apply Kd.S_drewN | apply Kd.S_drew)); exact (Kd.S_mono (Kd.S_mono (Kd.S_far (p := ⟨aDy, 1, none⟩) (Kd.S_far (p := ⟨aDy, 0, none⟩) (Kd.S_far (p := ⟨bBt, 0, none⟩) (Kd.S_types (Kd.S_types aN3.out aIo.out (by decide)) aNf.out (by decide)) (fun _ hk => hk.1.2) (.slice dKv bId.length dFm)) (fun _ hk => hk.2) (.int .i64 aYg)) (fun _ hk => hk.2) (.int .i64 bD5)) (fun _ h_ => h_.1)) (fun _ h_ => h_.1))) hb) (Kd.R_base gZ)) (Kd.R_base ho1)) (fun _ h_ => h_.1)); have fDt := aZ (Kd.R_lower gZ (lZ (by repeat (first | (with_reducible first | exact HB.out | apply lA | apply lN | apply lD | refine lS ?_ dIp.out | refine lS ?_ dIq.out | refine lS ?_ eOl.out | refine lS ?_ eOm.out) | exact HB.out)))); have fDu := aZ (Kd.R_lower ho1 (lZ (by repeat (first | (with_reducible first | exact HB.out | apply lA | apply lN | apply lD | refine lS ?_ dIp.out | refine lS ?_ dIq.out | refine lS ?_ eOl.out | refine lS ?_ eOm.out) | exact HB.out)))); replace sQ := xbb sQ hb; replace xA := xbb xA hb; replace aIo := aZ (blk_below (g := bBt) (o := .cells #[.slice dKv bId.length dFm] 24 (0, 0)) (by refine xpl ?_; refine blk_far ?_ aVe.out _; refine xpl ?_; refine blk_far ?_ aVe.out _; refine xpl ?_; refine blk_put (cs := #[.slice none 0 0]) ?_ 0 _ rfl; refine xpl ?_; exact aIo.out) hb); replace aNf := aZ (blk_below (g := aDy) (o := .cells #[.int .i64 aYg, .int .i64 bD5] 28 (0, 0)) (by refine xpl ?_; refine blk_put (cs := #[.int .i64 aYg, .int .i64 0]) ?_ 1 _ rfl; refine xpl ?_; refine blk_put (cs := #[.int .i64 0, .int .i64 0]) ?_ 0 _ rfl; refine xpl ?_; refine blk_far ?_ bIh.out _; refine xpl ?_; exact aNf.out) hb); replace HB := xhl HB hb; (try clear hb); (try clear iV); (try clear hk); (try clear hi); (try clear gZ); (try clear ho1); have cMh := aFf.out; have cMi := aB3.out; have cKd : w39.cell? ⟨aNe, 0, none⟩ = some (.int .i64 0) := (blk_cell sQ.out 0).trans rfl; have dPq : w39.cell? ⟨aNe, 1, none⟩ = some (.slice none 0 0) := (blk_cell sQ.out 1).trans rfl; have hFw : w39.cell? ⟨aNe, 2, none⟩ = some (.slice none 0 0) := (blk_cell sQ.out 2).trans rfl; have cKe := blk_frozen sQ.out 0; have dPr := blk_frozen sQ.out 1; have hFx := blk_frozen sQ.out 2; obtain ⟨aHe, aFw, eM1⟩ := Kd.R_slice fDt.out; subst eM1; obtain ⟨eYa, cQj, fSk⟩ := Kd.R_slice fDu.out; subst fSk; have cWq : w39.cell? ⟨aW0, 0, none⟩ = some (.int .i64 0) := (blk_cell xA.out 0).trans rfl; have cWs : w39.cell? ⟨aW0, 1, none⟩ = some (.int .i64 0) := (blk_cell xA.out 1).trans rfl; have cWt := blk_frozen xA.out 0; have cWu := blk_frozen xA.out 1))
    refine bodyPost_ret (results_cc rfl _ _ aNe aW0 44 28 #[.int .i64 dOh, .slice aHe eA5.length aFw, .slice eYa eOj.length cQj] #[.int .i64 eA6, .int .i64 eOk] (0, 0) (0, 0) _ _ rfl (by refine xpl ?_; refine blk_far ?_ aFf.out _; refine xpl ?_; refine blk_far ?_ aFf.out _; refine xpl ?_; refine blk_put (cs := #[.int .i64 dOh, .slice aHe eA5.length aFw, .slice none 0 0]) ?_ 2 _ rfl; refine xpl ?_; refine blk_put (cs := #[.int .i64 dOh, .slice none 0 0, .slice none 0 0]) ?_ 1 _ rfl; refine xpl ?_; refine blk_put (cs := #[.int .i64 0, .slice none 0 0, .slice none 0 0]) ?_ 0 _ rfl; refine xpl ?_; exact sQ.out) Try.underlying44 rfl (by kernel_rfl) rfl (by refine xpl ?_; refine blk_put (cs := #[.int .i64 eA6, .int .i64 0]) ?_ 1 _ rfl; refine xpl ?_; refine blk_put (cs := #[.int .i64 0, .int .i64 0]) ?_ 0 _ rfl; refine xpl ?_; refine blk_far ?_ aB3.out _; refine xpl ?_; refine blk_far ?_ aB3.out _; refine xpl ?_; refine blk_far ?_ aB3.out _; refine xpl ?_; exact xA.out) Try.underlying28 rfl (by kernel_rfl)) rfl ?_
    exact ⟨_, _, xre, by (with_reducible repeat (first | apply Kd.rA | apply Kd.rN | apply Kd.rD)); exact Kd.R_mono (Kd.R_far (p := ⟨aW0, 1, none⟩) (Kd.R_far (p := ⟨aW0, 0, none⟩) (Kd.R_far (p := ⟨aNe, 2, none⟩) (Kd.R_far (p := ⟨aNe, 1, none⟩) (Kd.R_far (p := ⟨aNe, 0, none⟩) (Kd.R_types (Kd.R_types fDt.out sQ.out (by decide)) xA.out (by decide)) (fun _ hk => hk.1.2) (.int .i64 dOh)) (fun _ hk => hk.1.2) (.slice aHe eA5.length aFw)) (fun _ hk => hk.1.2) (.slice eYa eOj.length cQj)) (fun _ hk => hk.2) (.int .i64 eA6)) (fun _ hk => hk.2) (.int .i64 eOk)) (fun _ hk => trivial), by (with_reducible repeat (first | apply Kd.rA | apply Kd.rN | apply Kd.rD)); exact Kd.R_mono (Kd.R_far (p := ⟨aW0, 1, none⟩) (Kd.R_far (p := ⟨aW0, 0, none⟩) (Kd.R_far (p := ⟨aNe, 2, none⟩) (Kd.R_far (p := ⟨aNe, 1, none⟩) (Kd.R_far (p := ⟨aNe, 0, none⟩) (Kd.R_types (Kd.R_types fDu.out sQ.out (by decide)) xA.out (by decide)) (fun _ hk => hk.1.2) (.int .i64 dOh)) (fun _ hk => hk.1.2) (.slice aHe eA5.length aFw)) (fun _ hk => hk.1.2) (.slice eYa eOj.length cQj)) (fun _ hk => hk.2) (.int .i64 eA6)) (fun _ hk => hk.2) (.int .i64 eOk)) (fun _ hk => trivial), xq HB⟩

  rw [if_pos c4] at H
  have aJy : (!(aYg == 0) || (!(bD5 == 0))) = true := c4
  clear c4
  simp only [Option.some.injEq, Prod.mk.injEq] at H
  obtain ⟨rfl, rfl, rfl, rfl, rfl⟩ := H
  go_enter Try.func23, Try.ntmps23
  try go_wp2_with (first | ((with_reducible refine gate_dst (N := 4) rfl ?_); refine box_event ?hg (N := 4) ?hd (cs := #[.int .i64 0, .slice none 0 0, .slice none 0 0]) (t := 44) ?hr ?_; (case hd => rfl); (case hg => rfl); (case hr => first | (go_simp; done) | (go_simp; rfl)); intro aNe hg w5 hbox hb; have sQ := aZ (hbox); have gRa := xgh hg HB; have dIp := xgh hg HB; replace HB := xhl HB hb; clear hb hbox hg) | ((with_reducible refine gate_dst (N := 5) rfl ?_); refine box_event ?hg (N := 5) ?hd (cs := #[.int .i64 0, .int .i64 0]) (t := 28) ?hr ?_; (case hd => rfl); (case hg => rfl); (case hr => first | (go_simp; done) | (go_simp; rfl)); intro aW0 hg w6 hbox hb; have xA := aZ (hbox); have gRb := xgh hg HB; have dIq := xgh hg HB; replace HB := xhl HB hb; have aFf := xnl hg sQ; have aB3 := xng hg sQ; replace sQ := xbb sQ hb; clear hb hbox hg) | ((with_reducible refine gate_callee (f := 20) rfl ?_); refine goesL_ (some 10) rfl rfl Try.func20 (by kernel_rfl) rfl #[.slice A0 l0.length c0] rfl xmp ?_; (with_reducible refine (pack_Read.calls k _ _ l0 bId aYg bD5 _ ?side1 ?side2 A3.out).mono ?_); (case side1 => exact xcb HR0 HB); (case side2 => exact HC0.out); rintro e w7 ⟨hYz, rfl, gZ, hb⟩; refine ⟨_, rfl, ?_⟩; have aN3 := aZ (Kd.S_lower gZ (lZ (by repeat (first | (with_reducible first | exact HB.out | apply lA | apply lN | apply lD | refine lS ?_ dIp.out | refine lS ?_ dIq.out) | exact HB.out)))); replace sQ := xbb sQ hb; replace xA := xbb xA hb; replace HB := xhl HB hb; (try clear hb); (try clear iV); (try clear hk); (try clear hi); (try clear gZ)) | ((with_reducible refine gate_dst (N := 6) rfl ?_); refine box_event ?hg (N := 6) ?hd (cs := #[.slice none 0 0]) (t := 24) ?hr ?_; (case hd => rfl); (case hg => rfl); (case hr => first | (go_simp; done) | (go_simp; rfl)); intro bBt hg w8 hbox hb; replace aN3 := xS aN3 hb; have aIo := aZ (hbox); have gRc := xgh hg HB; have eOl := xgh hg HB; replace HB := xhl HB hb; have bAo := xnl hg sQ; have bAp := xng hg sQ; replace sQ := xbb sQ hb; have bIe := xnl hg xA; have bIf := xng hg xA; replace xA := xbb xA hb; clear hb hbox hg) | ((with_reducible refine gate_dst (N := 7) rfl ?_); refine box_event ?hg (N := 7) ?hd (cs := #[.int .i64 0, .int .i64 0]) (t := 28) ?hr ?_; (case hd => rfl); (case hg => rfl); (case hr => first | (go_simp; done) | (go_simp; rfl)); intro aDy hg w9 hbox hb; replace aN3 := xS aN3 hb; have aNf := aZ (hbox); have gRd := xgh hg HB; have eOm := xgh hg HB; replace HB := xhl HB hb; have bAq := xnl hg sQ; have aDe := xng hg sQ; replace sQ := xbb sQ hb; have bIg := xnl hg xA; have aMx := xng hg xA; replace xA := xbb xA hb; have aVe := xnl hg aIo; have bIh := xng hg aIo; replace aIo := xbb aIo hb; clear hb hbox hg; obtain ⟨bT9, bUa, eSg⟩ := Kd.S_slice aN3.out; subst eSg; have bMj := bAp.out; have bMk := bAo.out; have dPk := bIf.out; have dPl := bIe.out; have bS1 := aVe.out; have bS2 := bIh.out; have aQl : w9.cell? ⟨bBt, 0, none⟩ = some (.slice none 0 0) := (blk_cell aIo.out 0).trans rfl; have aQm := blk_frozen aIo.out 0; have bVv := aDe.out; have bVw := bAq.out; have dEj := aMx.out; have dEk := bIg.out; have bIy : w9.cell? ⟨aDy, 0, none⟩ = some (.int .i64 0) := (blk_cell aNf.out 0).trans rfl; have cVx : w9.cell? ⟨aDy, 1, none⟩ = some (.int .i64 0) := (blk_cell aNf.out 1).trans rfl; have bIz := blk_frozen aNf.out 0; have cVy := blk_frozen aNf.out 1))
  replace aN3 : Aside0 (Kd.S qL 46 (((w9.setCell ⟨bBt, 0, none⟩ (.slice bT9 bId.length bUa)).setCell ⟨aDy, 0, none⟩ (.int .i64 aYg)).setCell ⟨aDy, 1, none⟩ (.int .i64 bD5)) w.heap.size (fun _ => True) (.slice bT9 bId.length bUa) bId) := ⟨by (with_reducible repeat (first | apply Kd.S_alloc | apply Kd.S_drewN | apply Kd.S_drew)); exact Kd.S_mono (Kd.S_far (p := ⟨aDy, 1, none⟩) (Kd.S_far (p := ⟨aDy, 0, none⟩) (Kd.S_far (p := ⟨bBt, 0, none⟩) (Kd.S_types (Kd.S_types aN3.out aIo.out (by decide)) aNf.out (by decide)) (fun _ hk => hk.1.2) (.slice bT9 bId.length bUa)) (fun _ hk => hk.2) (.int .i64 aYg)) (fun _ hk => hk.2) (.int .i64 bD5)) (fun _ hk => trivial)⟩
  replace sQ : Aside0 ((((w9.setCell ⟨bBt, 0, none⟩ (.slice bT9 bId.length bUa)).setCell ⟨aDy, 0, none⟩ (.int .i64 aYg)).setCell ⟨aDy, 1, none⟩ (.int .i64 bD5)).heap[aNe]? = some (.cells #[.int .i64 0, .slice none 0 0, .slice none 0 0] 44 (0, 0))) := xk sQ
  replace xA : Aside0 ((((w9.setCell ⟨bBt, 0, none⟩ (.slice bT9 bId.length bUa)).setCell ⟨aDy, 0, none⟩ (.int .i64 aYg)).setCell ⟨aDy, 1, none⟩ (.int .i64 bD5)).heap[aW0]? = some (.cells #[.int .i64 0, .int .i64 0] 28 (0, 0))) := xk xA
  replace aIo : Aside0 ((((w9.setCell ⟨bBt, 0, none⟩ (.slice bT9 bId.length bUa)).setCell ⟨aDy, 0, none⟩ (.int .i64 aYg)).setCell ⟨aDy, 1, none⟩ (.int .i64 bD5)).heap[bBt]? = some (.cells #[.slice bT9 bId.length bUa] 24 (0, 0))) := ⟨by refine xpl ?_; refine blk_far ?_ aVe.out _; refine xpl ?_; refine blk_far ?_ aVe.out _; refine xpl ?_; refine blk_put (cs := #[.slice none 0 0]) ?_ 0 _ rfl; refine xpl ?_; exact aIo.out⟩
  replace aNf : Aside0 ((((w9.setCell ⟨bBt, 0, none⟩ (.slice bT9 bId.length bUa)).setCell ⟨aDy, 0, none⟩ (.int .i64 aYg)).setCell ⟨aDy, 1, none⟩ (.int .i64 bD5)).heap[aDy]? = some (.cells #[.int .i64 aYg, .int .i64 bD5] 28 (0, 0))) := ⟨by refine xpl ?_; refine blk_put (cs := #[.int .i64 aYg, .int .i64 0]) ?_ 1 _ rfl; refine xpl ?_; refine blk_put (cs := #[.int .i64 0, .int .i64 0]) ?_ 0 _ rfl; refine xpl ?_; refine blk_far ?_ bIh.out _; refine xpl ?_; exact aNf.out⟩
  replace HB : Aside0 (Below w.heap.size w (((w9.setCell ⟨bBt, 0, none⟩ (.slice bT9 bId.length bUa)).setCell ⟨aDy, 0, none⟩ (.int .i64 aYg)).setCell ⟨aDy, 1, none⟩ (.int .i64 bD5))) := xb HB
  generalize (((w9.setCell ⟨bBt, 0, none⟩ (.slice bT9 bId.length bUa)).setCell ⟨aDy, 0, none⟩ (.int .i64 aYg)).setCell ⟨aDy, 1, none⟩ (.int .i64 bD5)) = w18 at aN3 sQ xA aIo aNf HB ⊢
  replace aN3 := aZ (Kd.S_drew aN3.out)
  replace sQ := aZ (bD sQ.out)
  replace xA := aZ (bD xA.out)
  replace aIo := aZ (bD aIo.out)
  replace aNf := aZ (bD aNf.out)
  replace HB := aZ (lD HB.out)
  refine start_ (n := 4) (S := fun w' => w'.cell? ⟨aDy, 0, none⟩ = some (.int .i64 aYg) ∧ w'.cell? ⟨aDy, 1, none⟩ = some (.int .i64 bD5)) (ds := []) #[false, false, false, false] (by kernel_rfl) rfl rfl ⟨(blk_cell aNf.out 0).trans rfl, (blk_cell aNf.out 1).trans rfl⟩ (fun hHeld => ?_)
  generalize w18.drew = w19 at aN3 sQ xA aIo aNf HB hHeld ⊢
  refine pure_ (i := 0) (N := some 16) (v := ?_) (a' := ?_) #[true, false, false, false] rfl rfl (by kernel_rfl) (fun _ _ _ h => h) (Or.inl ⟨by rfl, ?_⟩) ?_ ?_
  rotate_left
  · intro w'
    go_simp
    with_reducible rfl
  rotate_left
  · simp only [Act.put, List.setIfInBounds_toArray, List.set_cons_zero, List.set_cons_succ, i64_w, i32_w]
    rfl
  refine take_ (i := 1) (N := some 17) (v := ?_) (a' := ?_) #[true, true, false, false] rfl rfl (by kernel_rfl) (fun _ _ _ h => h) (Or.inl ⟨by rfl, ?_⟩) hHeld ?_ ?_
  rotate_left
  · rintro w' ⟨s0, s1⟩
    go_simp
    with_reducible rfl
  rotate_left
  · simp only [Act.put, List.setIfInBounds_toArray, List.set_cons_zero, List.set_cons_succ, i64_w, i32_w]
    rfl
  refine one_ (i := 2) (N := none) #[true, true, true, false] rfl rfl (by kernel_rfl) (by decide) (fun K hK => ?_)
  have fZ5 : w19.cell? ⟨aNe, 0, none⟩ = some (.int .i64 0) := (blk_cell sQ.out 0).trans rfl
  have fBm := blk_frozen sQ.out 0
  have hFy := aB3.out
  have dTo := bAp.out
  have dTp := aDe.out
  have hFz := aFf.out
  have dTq := bAo.out
  have dTr := bAq.out
  have hKm : w19.cell? ⟨aNe, 1, none⟩ = some (.slice none 0 0) := (blk_cell sQ.out 1).trans rfl
  have fZ6 := blk_frozen sQ.out 1
  have hF0 := aB3.out
  have eT3 := bAp.out
  have eT4 := aDe.out
  have hF3 := aFf.out
  have eT5 := bAo.out
  have eT6 := bAq.out
  have fXm : w19.cell? ⟨aNe, 2, none⟩ = some (.slice none 0 0) := (blk_cell sQ.out 2).trans rfl
  have fAk := blk_frozen sQ.out 2
  have dP9 := aB3.out
  have hF4 := bAp.out
  have dQa := aDe.out
  have dQb := aFf.out
  have hF5 := bAo.out
  have dQc := bAq.out
  refine skip_ (w1 := ?_) (by rfl) rfl ?_ ?_
  rotate_left
  · go_simp
    rfl
  refine hK.out _ _ ⟨((cell_far (p := ⟨aNe, _, none⟩) aDe.out _).trans (((cell_far (p := ⟨aNe, _, none⟩) aDe.out _).trans (((cell_far (p := ⟨aNe, _, none⟩) aDe.out _).trans (hHeld.1)))))), ((cell_far (p := ⟨aNe, _, none⟩) aDe.out _).trans (((cell_far (p := ⟨aNe, _, none⟩) aDe.out _).trans (((cell_far (p := ⟨aNe, _, none⟩) aDe.out _).trans (hHeld.2))))))⟩ (fun hHeld => ?_)
  clear hK K
  refine one_ (i := 3) (N := none) #[true, true, true, true] rfl rfl (by kernel_rfl) (by decide) (fun K hK => ?_)
  have fXn : w19.cell? ⟨aW0, 0, none⟩ = some (.int .i64 0) := (blk_cell xA.out 0).trans rfl
  have fAl := blk_frozen xA.out 0
  have dQd := aFf.out
  have eQ7 := bIf.out
  have eT7 := aMx.out
  have dQe := aB3.out
  have eQ9 := bIe.out
  have eT8 := bIg.out
  have hIv : w19.cell? ⟨aW0, 1, none⟩ = some (.int .i64 0) := (blk_cell xA.out 1).trans rfl
  have fXo := blk_frozen xA.out 1
  have eRa := aFf.out
  have eRb := bIf.out
  have hF6 := aMx.out
  have eRc := aB3.out
  have eRd := bIe.out
  have hF7 := bIg.out
  refine skip_ (w1 := ?_) (by rfl) rfl ?_ ?_
  rotate_left
  · go_simp
    rfl
  refine hK.out _ _ ⟨((cell_far (p := ⟨aW0, _, none⟩) aMx.out _).trans (((cell_far (p := ⟨aW0, _, none⟩) aMx.out _).trans (hHeld.1)))), ((cell_far (p := ⟨aW0, _, none⟩) aMx.out _).trans (((cell_far (p := ⟨aW0, _, none⟩) aMx.out _).trans (hHeld.2))))⟩ (fun hHeld => ?_)
  clear hK K
  refine done_ (by kernel_rfl) ?_
  try go_wp2
  refine bodyPost_ret (results_cc rfl _ _ aNe aW0 44 28 #[.int .i64 0, .slice none 0 0, .slice none 0 0] #[.int .i64 aYg, .int .i64 bD5] (0, 0) (0, 0) _ _ rfl (by refine xpl ?_; refine blk_far ?_ aFf.out _; refine xpl ?_; refine blk_far ?_ aFf.out _; refine xpl ?_; refine blk_put (cs := #[.int .i64 0, .slice none 0 0, .slice none 0 0]) ?_ 2 _ rfl; refine xpl ?_; refine blk_put (cs := #[.int .i64 0, .slice none 0 0, .slice none 0 0]) ?_ 1 _ rfl; refine xpl ?_; refine blk_put (cs := #[.int .i64 0, .slice none 0 0, .slice none 0 0]) ?_ 0 _ rfl; refine xpl ?_; exact sQ.out) Try.underlying44 rfl (by kernel_rfl) rfl (by refine xpl ?_; refine blk_put (cs := #[.int .i64 aYg, .int .i64 0]) ?_ 1 _ rfl; refine xpl ?_; refine blk_put (cs := #[.int .i64 0, .int .i64 0]) ?_ 0 _ rfl; refine xpl ?_; refine blk_far ?_ aB3.out _; refine xpl ?_; refine blk_far ?_ aB3.out _; refine xpl ?_; refine blk_far ?_ aB3.out _; refine xpl ?_; exact xA.out) Try.underlying28 rfl (by kernel_rfl)) rfl ?_
  exact ⟨_, _, xre, by first | exact Kd.R_nil _ _ _ _ _ | exact Kd.N_nil _ _ _ _ _ | exact Kd.V_nil _ _ _ _ _ | exact Kd.Q_nil _ _ _ _ _ | exact Kd.S_nil _ _ _ _ _, by first | exact Kd.R_nil _ _ _ _ _ | exact Kd.N_nil _ _ _ _ _ | exact Kd.V_nil _ _ _ _ _ | exact Kd.Q_nil _ _ _ _ _ | exact Kd.S_nil _ _ _ _ _, xq HB⟩
end

end Go.Proofs.Ytnmkmamobhkcbaa.P
