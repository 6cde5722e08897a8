/- Part 4 of 4 of the proof of ObjectsDigestMatchesSpec: what the printed functions come to, and the row (no condition beyond the statement's own). -/
import Derived.Test.YtnmkmamobhkcbaaC3
import Derived.Test.YtnmkmamobhkcbaaOpen
import Derived.Test.YtnmkmamobhkcbaaWWords
import Derived.IntWalk
import Derived.Laws.Bits64b
import Derived.Test.YtnmkmamobhkcbaaRows
import Derived.WalkKit
import Derived.ProofKit
import Derived.OpenShut
import Derived.ShutString
import Derived.ChangeOld
import Derived.Below
import Derived.SizedLaws
import Derived.Carry
namespace Go.Proofs.Ytnmkmamobhkcbaa.P
open Go.RowKit Go.Proofs.YtnmkmamobhkcbaaW.PrintWords Go.Proofs.YtnmkmamobhkcbaaW.PrintLast Go.Proofs.YtnmkmamobhkcbaaW.PrintMore
attribute [local go_sem] max2_int min2_int max_two min_two max_three min_three max_four min_four   -- for this text's walks alone
set_option linter.unusedVariables false
set_option linter.unusedSimpArgs false
def e8.f (k : Nat)  : Option (Bool) := (some (([7] : List Int) : List Int)).bind fun O1 => ((objects_Digest.f k 1 ([] : List Int) O1).bind fun ak0 => ((objects_Put.f k ([] : List (r9)) 1 ([] : List Int) O1).bind fun K3 => ((objects_Has.f k K3.1 K3.2.1).bind fun aa4 => (if ak0.2.1 = 0 then (if K3.2.2.1 = 0 then (if aa4.2.1 = 0 then (if ak0.1 = 17106956 then (if K3.2.1 = ak0.1 then (if aa4.1 = true then (some ((K3.1.length : Int) == 1)) else (some false)) else (some false)) else (some false)) else (some false)) else (some false)) else (some false)))))
theorem e8.mono : ∀ k, LeO (e8.f k ) (e8.f (k + 1) ) := by
  intro  k
  unfold e8.f
  repeat' first | (with_reducible first | exact objects_Digest.mono _ _ _ _ | exact objects_Has.mono _ _ _ | exact objects_Put.mono _ _ _ _ _ | exact LeO.refl _ | exact LeO.none _ | refine LeO.ite ?_ ?_ | refine LeO.bind ?_ (fun _ => ?_)) | exact objects_Digest.mono _ _ _ _ | exact objects_Has.mono _ _ _ | exact objects_Put.mono _ _ _ _ _ | exact LeO.none _ | refine LeO.ite ?_ ?_ | refine LeO.bind ?_ (fun _ => ?_)
set_option maxHeartbeats 8000000 in
set_option maxRecDepth 100000 in
theorem e8.calls (k : Nat)  (r : Bool) (w : World) (h : e8.f k  = some r) :
  Calls Try.prog 28 #[] w fun e w' => e = .returned (.bool r) ∧ Below w.heap.size w w' := by
  have aw1 := Try.underlying44
  have aH5 := Try.underlying28
  have aU3 := Try.underlying24
  have HB := aZ (Below.refl w.heap.size w)
  have H : ((some (([7] : List Int) : List Int)).bind fun O1 => ((objects_Digest.f k 1 ([] : List Int) O1).bind fun ak0 => ((objects_Put.f k ([] : List (r9)) 1 ([] : List Int) O1).bind fun K3 => ((objects_Has.f k K3.1 K3.2.1).bind fun aa4 => (if ak0.2.1 = 0 then (if K3.2.2.1 = 0 then (if aa4.2.1 = 0 then (if ak0.1 = 17106956 then (if K3.2.1 = ak0.1 then (if aa4.1 = true then (some ((K3.1.length : Int) == 1)) else (some false)) else (some false)) else (some false)) else (some false)) else (some false)) else (some false)))))) = some r := h
  clear h
  obtain ⟨O1, aW0⟩ : ∃ y_ : List Int, y_ = (([7] : List Int)) := ⟨_, rfl⟩
  replace H : ((objects_Digest.f k 1 ([] : List Int) O1).bind fun ak0 => ((objects_Put.f k ([] : List (r9)) 1 ([] : List Int) O1).bind fun K3 => ((objects_Has.f k K3.1 K3.2.1).bind fun aa4 => (if ak0.2.1 = 0 then (if K3.2.2.1 = 0 then (if aa4.2.1 = 0 then (if ak0.1 = 17106956 then (if K3.2.1 = ak0.1 then (if aa4.1 = true then (some ((K3.1.length : Int) == 1)) else (some false)) else (some false)) else (some false)) else (some false)) else (some false)) else (some false))))) = some r := by first | (rw [aW0]; with_reducible exact H) | (have P7 := (Option.bind_some _ _).symm.trans H; rw [aW0]; with_reducible exact P7) | (have P7 := (Option.bind_some _ _).symm.trans H; with_reducible exact P7) | with_reducible exact H | (rw [aW0]; exact H) | exact H
  have bo0 := aZ aW0
  clear aW0
  replace H := Option.bind_eq_some_iff.mp H
  obtain ⟨⟨aq8, ad7, aA9⟩, A10, H⟩ := H
  replace H : ((objects_Put.f k ([] : List (r9)) 1 ([] : List Int) O1).bind fun K3 => ((objects_Has.f k K3.1 K3.2.1).bind fun aa4 => (if ad7 = 0 then (if K3.2.2.1 = 0 then (if aa4.2.1 = 0 then (if aq8 = 17106956 then (if K3.2.1 = aq8 then (if aa4.1 = true then (some ((K3.1.length : Int) == 1)) else (some false)) else (some false)) else (some false)) else (some false)) else (some false)) else (some false)))) = some r := H
  have A1 := aZ A10
  clear A10
  replace H := Option.bind_eq_some_iff.mp H
  obtain ⟨⟨ab4, aB0, ae9, aB1⟩, A20, H⟩ := H
  replace H : ((objects_Has.f k ab4 aB0).bind fun aa4 => (if ad7 = 0 then (if ae9 = 0 then (if aa4.2.1 = 0 then (if aq8 = 17106956 then (if aB0 = aq8 then (if aa4.1 = true then (some ((ab4.length : Int) == 1)) else (some false)) else (some false)) else (some false)) else (some false)) else (some false)) else (some false))) = some r := H
  have A2 := aZ A20
  clear A20
  replace H := Option.bind_eq_some_iff.mp H
  obtain ⟨⟨cg0, bq4, cD4⟩, A30, H⟩ := H
  replace H : (if ad7 = 0 then (if ae9 = 0 then (if bq4 = 0 then (if aq8 = 17106956 then (if aB0 = aq8 then (if cg0 = true then (some ((ab4.length : Int) == 1)) else (some false)) else (some false)) else (some false)) else (some false)) else (some false)) else (some false)) = some r := H
  have A3 := aZ A30
  clear A30
  by_cases hall_ : (ad7 = 0) ∧ (ae9 = 0) ∧ (bq4 = 0) ∧ (aq8 = 17106956) ∧ (aB0 = aq8) ∧ (cg0 = true)
  case' neg =>
    go_enter Try.func28, Try.ntmps28
    go_wp2_with (first | ((with_reducible refine gate_dst (N := 9) rfl ?_); (try (refine gate_guard (by rfl) ?_; dsimp only)); refine Kd.R_lit (Kd.int .u8) _ 5 ?hg (N := 9) ?hd (xs := ([7] : List Int)) (inner := [.int .u8 7]) (ok := fun _ => True) (okp := fun _ => True) ?hr ?hp (fun _ hk => hk) trivial (Below.refl _ _) (Nat.le_refl _) (by simp) ?_; (case hd => rfl); (case hg => rfl); (case hr => first | (go_simp; done) | (go_simp; rfl)); (case hp => exact (Reps.one (show Kd.M (Kd.int .u8) _ _ _ 7 [.int .u8 7] from rfl) (Reps.none _ _))); intro dF9 ed8 aW1 hb hg_ hnew_; clear hg_ hnew_; (first | rw [← bo0.out] at aW1 | (simp only [Int.reduceToNat] at aW1; rw [← bo0.out] at aW1)); have o1 := aZ (Kd.R_lower aW1 (lZ (by repeat (first | (with_reducible first | exact HB.out | apply lA | apply lN | apply lD) | exact HB.out)))); replace HB := xhl HB hb; clear hb aW1; obtain ⟨aG7, aq9, cD5⟩ := Kd.R_slice o1.out; subst cD5) | ((with_reducible refine gate_dst (N := 1) rfl ?_); (try (refine gate_guard (by rfl) ?_; dsimp only)); refine box_event ?hg (N := 1) ?hd (cs := #[.int .i64 0, .slice none 0 0, .slice none 0 0]) (t := 44) ?hr ?_; (case hd => rfl); (case hg => rfl); (case hr => first | (go_simp; done) | (go_simp; rfl)); intro F5 hg cg1 hbox hb; replace o1 := xR o1 hb; have j5 := aZ (hbox); have cD6 := xgh hg HB; have bx9 := xgh hg HB; replace HB := xhl HB hb; clear hb hbox hg; have cD7 : cg1.cell? ⟨F5, 0, none⟩ = some (.int .i64 0) := (blk_cell j5.out 0).trans rfl; have cD8 : cg1.cell? ⟨F5, 1, none⟩ = some (.slice none 0 0) := (blk_cell j5.out 1).trans rfl; have cD9 : cg1.cell? ⟨F5, 2, none⟩ = some (.slice none 0 0) := (blk_cell j5.out 2).trans rfl; have cE0 := blk_frozen j5.out 0; have cE1 := blk_frozen j5.out 1; have cE2 := blk_frozen j5.out 2) | ((with_reducible refine gate_callee (f := 29) rfl ?_); refine goesL_ (some 13) rfl rfl Try.func29 (by kernel_rfl) rfl #[.agg #[.int .i64 1, .slice none 0 0, .slice aG7 O1.length aq9]] rfl xmp ?_; (refine (objects_Digest.calls k 1 _ _ ([] : List Int) _ _ O1 aq8 ad7 aA9 _ ?side1 ?side2 ?side3 ?side4 A1.out).mono ?_); (case side1 => exact Kd.C_nil _ _); (case side2 => exact Nat.le_refl _); (case side3 => refine (Kd.R_reads' (e := 5) (base := w.heap.size) (ok := fun k_ => True) (n := O1.length) (c := aq9) ?_).2.2; exact (by (with_reducible repeat (first | apply Kd.rA | apply Kd.rN | apply Kd.rD)); exact (Kd.R_mono (Kd.R_far (p := ⟨F5, 2, none⟩) (Kd.R_far (p := ⟨F5, 1, none⟩) (Kd.R_far (p := ⟨F5, 0, none⟩) (Kd.R_types o1.out j5.out (by decide)) (fun _ hk => hk.2) (.int .i64 1)) (fun _ hk => hk.2) (.slice none 0 0)) (fun _ hk => hk.2) (.slice aG7 O1.length aq9)) (fun _ h_ => h_.1)))); (case side4 => exact (Kd.R_reads' o1.out).2.1); rintro e ed9 ⟨rfl, hb⟩; refine ⟨_, rfl, ?_⟩; replace o1 := aZ (Kd.R_below (by (with_reducible repeat (first | apply Kd.rA | apply Kd.rN | apply Kd.rD)); exact (Kd.R_mono (Kd.R_far (p := ⟨F5, 2, none⟩) (Kd.R_far (p := ⟨F5, 1, none⟩) (Kd.R_far (p := ⟨F5, 0, none⟩) (Kd.R_types o1.out j5.out (by decide)) (fun _ hk => hk.2) (.int .i64 1)) (fun _ hk => hk.2) (.slice none 0 0)) (fun _ hk => hk.2) (.slice aG7 O1.length aq9)) (fun _ h_ => h_.1))) hb); replace j5 := aZ (blk_below (g := F5) (o := .cells #[.int .i64 1, .slice none 0 0, .slice aG7 O1.length aq9] 44 (0, 0)) (by (with_reducible repeat (first | refine bN ?_ _ | refine bD ?_ | refine bA ?_ _)); refine blk_put (cs := #[.int .i64 1, .slice none 0 0, .slice none 0 0]) ?_ 2 _ rfl; (with_reducible repeat (first | refine bN ?_ _ | refine bD ?_ | refine bA ?_ _)); refine blk_put (cs := #[.int .i64 1, .slice none 0 0, .slice none 0 0]) ?_ 1 _ rfl; (with_reducible repeat (first | refine bN ?_ _ | refine bD ?_ | refine bA ?_ _)); refine blk_put (cs := #[.int .i64 0, .slice none 0 0, .slice none 0 0]) ?_ 0 _ rfl; (with_reducible repeat (first | refine bN ?_ _ | refine bD ?_ | refine bA ?_ _)); exact j5.out) hb); replace HB := xhl HB hb; (try clear hb); (try clear H3); (try clear hk); (try clear hi)) | ((with_reducible refine gate_dst (N := 3) rfl ?_); (try (refine gate_guard (by rfl) ?_; dsimp only)); refine box_event ?hg (N := 3) ?hd (cs := #[.int .i64 0, .int .i64 0]) (t := 28) ?hr ?_; (case hd => rfl); (case hg => rfl); (case hr => first | (go_simp; done) | (go_simp; rfl)); intro K4 hg by0 hbox hb; replace o1 := xR o1 hb; have l9 := aZ (hbox); have cE3 := xgh hg HB; have by1 := xgh hg HB; replace HB := xhl HB hb; have ax6 := xnl hg j5; have ax7 := xng hg j5; replace j5 := xbb j5 hb; clear hb hbox hg; have dG0 := ax7.out; have dG1 := ax6.out; have cE4 : by0.cell? ⟨K4, 0, none⟩ = some (.int .i64 0) := (blk_cell l9.out 0).trans rfl; have cE5 : by0.cell? ⟨K4, 1, none⟩ = some (.int .i64 0) := (blk_cell l9.out 1).trans rfl; have cE6 := blk_frozen l9.out 0; have cE7 := blk_frozen l9.out 1; have cE8 : by0.cell? ⟨F5, 0, none⟩ = some (.int .i64 1) := (blk_cell j5.out 0).trans rfl; have cE9 : by0.cell? ⟨F5, 1, none⟩ = some (.slice none 0 0) := (blk_cell j5.out 1).trans rfl; have cF0 : by0.cell? ⟨F5, 2, none⟩ = some (.slice aG7 O1.length aq9) := (blk_cell j5.out 2).trans rfl; have cF1 := blk_frozen j5.out 0; have cF2 := blk_frozen j5.out 1; have cF3 := blk_frozen j5.out 2) | ((with_reducible refine gate_callee (f := 33) rfl ?_); refine goesL_ (some 19) rfl rfl Try.func33 (by kernel_rfl) rfl #[.agg #[.slice none 0 0], .agg #[.int .i64 1, .slice none 0 0, .slice aG7 O1.length aq9]] rfl xmp ?_; (refine (objects_Put.calls k _ _ ([] : List (r9)) 1 _ _ ([] : List Int) _ _ O1 ab4 aB0 ae9 aB1 _ ?side1 ?side2 ?side3 ?side4 ?side5 ?side6 A2.out).mono ?_); (case side1 => exact Kd.C_nil _ _); (case side2 => exact Nat.le_refl _); (case side3 => exact Kd.C_nil _ _); (case side4 => exact Nat.le_refl _); (case side5 => refine (Kd.R_reads' (e := 5) (base := w.heap.size) (ok := fun k_ => True) (n := O1.length) (c := aq9) ?_).2.2; exact (by (with_reducible repeat (first | apply Kd.rA | apply Kd.rN | apply Kd.rD)); exact (Kd.R_mono (Kd.R_far (p := ⟨K4, 1, none⟩) (Kd.R_far (p := ⟨K4, 0, none⟩) (Kd.R_types o1.out l9.out (by decide)) (fun _ hk => hk.2) (.int .i64 ad7)) (fun _ hk => hk.2) (.int .i64 aA9)) (fun _ h_ => h_.1)))); (case side6 => exact (Kd.R_reads' o1.out).2.1); rintro e ee0 ⟨dG2, rfl, ho0, hb⟩; refine ⟨_, rfl, ?_⟩; have K5 := aZ (Kd.S_lower (Kd.S_new' ho0 (Kd.R_lt (by (with_reducible repeat (first | apply Kd.rA | apply Kd.rN | apply Kd.rD)); exact (Kd.R_mono (Kd.R_far (p := ⟨K4, 1, none⟩) (Kd.R_far (p := ⟨K4, 0, none⟩) (Kd.R_types o1.out l9.out (by decide)) (fun _ hk => hk.2) (.int .i64 ad7)) (fun _ hk => hk.2) (.int .i64 aA9)) (fun _ h_ => h_.1))))) (lZ (by repeat (first | (with_reducible first | exact HB.out | apply lA | apply lN | apply lD | refine lS ?_ bx9.out | refine lS ?_ by1.out) | exact HB.out)))); replace o1 := aZ (Kd.R_below (by (with_reducible repeat (first | apply Kd.rA | apply Kd.rN | apply Kd.rD)); exact (Kd.R_mono (Kd.R_far (p := ⟨K4, 1, none⟩) (Kd.R_far (p := ⟨K4, 0, none⟩) (Kd.R_types o1.out l9.out (by decide)) (fun _ hk => hk.2) (.int .i64 ad7)) (fun _ hk => hk.2) (.int .i64 aA9)) (fun _ h_ => h_.1))) hb); replace j5 := xbb j5 hb; replace l9 := aZ (blk_below (g := K4) (o := .cells #[.int .i64 ad7, .int .i64 aA9] 28 (0, 0)) (by (with_reducible repeat (first | refine bN ?_ _ | refine bD ?_ | refine bA ?_ _)); refine blk_put (cs := #[.int .i64 ad7, .int .i64 0]) ?_ 1 _ rfl; (with_reducible repeat (first | refine bN ?_ _ | refine bD ?_ | refine bA ?_ _)); refine blk_put (cs := #[.int .i64 0, .int .i64 0]) ?_ 0 _ rfl; (with_reducible repeat (first | refine bN ?_ _ | refine bD ?_ | refine bA ?_ _)); exact l9.out) hb); replace HB := xhl HB hb; (try clear hb); (try clear H3); (try clear hk); (try clear hi); (try clear ho0)) | ((with_reducible refine gate_dst (N := 4) rfl ?_); (try (refine gate_guard (by rfl) ?_; dsimp only)); refine box_event ?hg (N := 4) ?hd (cs := #[.slice none 0 0]) (t := 24) ?hr ?_; (case hd => rfl); (case hg => rfl); (case hr => first | (go_simp; done) | (go_simp; rfl)); intro ai0 hg ee1 hbox hb; replace o1 := xR o1 hb; replace K5 := xS K5 hb; have u7 := aZ (hbox); have cF4 := xgh hg HB; have cF5 := xgh hg HB; replace HB := xhl HB hb; have ax8 := xnl hg j5; have ax9 := xng hg j5; replace j5 := xbb j5 hb; have ay0 := xnl hg l9; have ay1 := xng hg l9; replace l9 := xbb l9 hb; clear hb hbox hg) | ((with_reducible refine gate_dst (N := 6) rfl ?_); (try (refine gate_guard (by rfl) ?_; dsimp only)); refine box_event ?hg (N := 6) ?hd (cs := #[.int .i64 0, .int .i64 0]) (t := 28) ?hr ?_; (case hd => rfl); (case hg => rfl); (case hr => first | (go_simp; done) | (go_simp; rfl)); intro K6 hg cg2 hbox hb; replace o1 := xR o1 hb; replace K5 := xS K5 hb; have u4 := aZ (hbox); have cF6 := xgh hg HB; have cF7 := xgh hg HB; replace HB := xhl HB hb; have ay2 := xnl hg j5; have ay3 := xng hg j5; replace j5 := xbb j5 hb; have ay4 := xnl hg l9; have ay5 := xng hg l9; replace l9 := xbb l9 hb; have U1 := xnl hg u7; have ad8 := xng hg u7; replace u7 := xbb u7 hb; clear hb hbox hg; obtain ⟨aW2, aK3, cF8⟩ := Kd.S_slice K5.out; subst cF8; have dG3 := ax9.out; have dG4 := ax8.out; have dG5 := ay1.out; have dG6 := ay0.out; have dG7 := U1.out; have dG8 := ad8.out; have cF9 : cg2.cell? ⟨ai0, 0, none⟩ = some (.slice none 0 0) := (blk_cell u7.out 0).trans rfl; have cG0 := blk_frozen u7.out 0; have dG9 := ay3.out; have dH0 := ay2.out; have dH1 := ay5.out; have dH2 := ay4.out; have cG1 : cg2.cell? ⟨K6, 0, none⟩ = some (.int .i64 0) := (blk_cell u4.out 0).trans rfl; have cG2 : cg2.cell? ⟨K6, 1, none⟩ = some (.int .i64 0) := (blk_cell u4.out 1).trans rfl; have cG3 := blk_frozen u4.out 0; have cG4 := blk_frozen u4.out 1) | ((with_reducible refine gate_callee (f := 35) rfl ?_); refine goesL_ (some 26) rfl rfl Try.func35 (by kernel_rfl) rfl #[.agg #[.slice aW2 ab4.length aK3], .int .i64 aB0] rfl xmp ?_; (with_reducible refine (objects_Has.calls k _ _ ab4 aB0 cg0 bq4 cD4 _ ?side1 ?side2 A3.out).mono ?_); (case side1 => refine (Kd.S_reads' (e := 46) (base := w.heap.size) (ok := fun k_ => (True ∧ some k_ ≠ (.slice aG7 O1.length aq9 : Value).ownBlock)) (n := ab4.length) (c := aK3) ?_).2.2; exact (by (with_reducible repeat (first | apply Kd.S_alloc | apply Kd.S_drewN | apply Kd.S_drew)); exact (Kd.S_mono (Kd.S_mono (Kd.S_far (p := ⟨K6, 1, none⟩) (Kd.S_far (p := ⟨K6, 0, none⟩) (Kd.S_far (p := ⟨ai0, 0, none⟩) (Kd.S_types (Kd.S_types K5.out u7.out (by decide)) u4.out (by decide)) (fun _ hk => hk.1.2) (.slice aW2 ab4.length aK3)) (fun _ hk => hk.2) (.int .i64 ae9)) (fun _ hk => hk.2) (.int .i64 aB1)) (fun _ h_ => h_.1)) (fun _ h_ => h_.1)))); (case side2 => exact (Kd.S_reads' K5.out).2.1); rintro e ee2 ⟨rfl, hb⟩; refine ⟨_, rfl, ?_⟩; replace o1 := aZ (Kd.R_below (by (with_reducible repeat (first | apply Kd.rA | apply Kd.rN | apply Kd.rD)); exact (Kd.R_mono (Kd.R_mono (Kd.R_far (p := ⟨K6, 1, none⟩) (Kd.R_far (p := ⟨K6, 0, none⟩) (Kd.R_far (p := ⟨ai0, 0, none⟩) (Kd.R_types (Kd.R_types o1.out u7.out (by decide)) u4.out (by decide)) (fun _ hk => hk.1.2) (.slice aW2 ab4.length aK3)) (fun _ hk => hk.2) (.int .i64 ae9)) (fun _ hk => hk.2) (.int .i64 aB1)) (fun _ h_ => h_.1)) (fun _ h_ => h_.1))) hb); replace K5 := aZ (Kd.S_below (by (with_reducible repeat (first | apply Kd.S_alloc | apply Kd.S_drewN | apply Kd.S_drew)); exact (Kd.S_mono (Kd.S_mono (Kd.S_far (p := ⟨K6, 1, none⟩) (Kd.S_far (p := ⟨K6, 0, none⟩) (Kd.S_far (p := ⟨ai0, 0, none⟩) (Kd.S_types (Kd.S_types K5.out u7.out (by decide)) u4.out (by decide)) (fun _ hk => hk.1.2) (.slice aW2 ab4.length aK3)) (fun _ hk => hk.2) (.int .i64 ae9)) (fun _ hk => hk.2) (.int .i64 aB1)) (fun _ h_ => h_.1)) (fun _ h_ => h_.1))) hb); replace j5 := xbb j5 hb; replace l9 := xbb l9 hb; replace u7 := aZ (blk_below (g := ai0) (o := .cells #[.slice aW2 ab4.length aK3] 24 (0, 0)) (by (with_reducible repeat (first | refine bN ?_ _ | refine bD ?_ | refine bA ?_ _)); refine blk_far ?_ U1.out _; (with_reducible repeat (first | refine bN ?_ _ | refine bD ?_ | refine bA ?_ _)); refine blk_far ?_ U1.out _; (with_reducible repeat (first | refine bN ?_ _ | refine bD ?_ | refine bA ?_ _)); refine blk_put (cs := #[.slice none 0 0]) ?_ 0 _ rfl; (with_reducible repeat (first | refine bN ?_ _ | refine bD ?_ | refine bA ?_ _)); exact u7.out) hb); replace u4 := aZ (blk_below (g := K6) (o := .cells #[.int .i64 ae9, .int .i64 aB1] 28 (0, 0)) (by (with_reducible repeat (first | refine bN ?_ _ | refine bD ?_ | refine bA ?_ _)); refine blk_put (cs := #[.int .i64 ae9, .int .i64 0]) ?_ 1 _ rfl; (with_reducible repeat (first | refine bN ?_ _ | refine bD ?_ | refine bA ?_ _)); refine blk_put (cs := #[.int .i64 0, .int .i64 0]) ?_ 0 _ rfl; (with_reducible repeat (first | refine bN ?_ _ | refine bD ?_ | refine bA ?_ _)); refine blk_far ?_ ad8.out _; (with_reducible repeat (first | refine bN ?_ _ | refine bD ?_ | refine bA ?_ _)); exact u4.out) hb); replace HB := xhl HB hb; (try clear hb); (try clear H3); (try clear hk); (try clear hi)) | ((with_reducible refine gate_dst (N := 8) rfl ?_); (try (refine gate_guard (by rfl) ?_; dsimp only)); refine box_event ?hg (N := 8) ?hd (cs := #[.int .i64 0, .int .i64 0]) (t := 28) ?hr ?_; (case hd => rfl); (case hg => rfl); (case hr => first | (go_simp; done) | (go_simp; rfl)); intro aW3 hg bq5 hbox hb; replace o1 := xR o1 hb; replace K5 := xS K5 hb; have ar0 := aZ (hbox); have cG5 := xgh hg HB; have cG6 := xgh hg HB; replace HB := xhl HB hb; have ay6 := xnl hg j5; have ay7 := xng hg j5; replace j5 := xbb j5 hb; have ay8 := xnl hg l9; have ay9 := xng hg l9; replace l9 := xbb l9 hb; have az0 := xnl hg u7; have az1 := xng hg u7; replace u7 := xbb u7 hb; have az2 := xnl hg u4; have az3 := xng hg u4; replace u4 := xbb u4 hb; clear hb hbox hg; have bU6 := ay7.out; have bU7 := ay6.out; have bX4 := ay9.out; have bX5 := ay8.out; have bX6 := az1.out; have bX7 := az0.out; have bX8 := az3.out; have bX9 := az2.out; have aO2 : bq5.cell? ⟨aW3, 0, none⟩ = some (.int .i64 0) := (blk_cell ar0.out 0).trans rfl; have bM6 : bq5.cell? ⟨aW3, 1, none⟩ = some (.int .i64 0) := (blk_cell ar0.out 1).trans rfl; have aO3 := blk_frozen ar0.out 0; have bM7 := blk_frozen ar0.out 1; have dc8 : bq5.cell? ⟨K4, 0, none⟩ = some (.int .i64 ad7) := (blk_cell l9.out 0).trans rfl; have dc9 : bq5.cell? ⟨K4, 1, none⟩ = some (.int .i64 aA9) := (blk_cell l9.out 1).trans rfl; have dd0 := blk_frozen l9.out 0; have dd1 := blk_frozen l9.out 1; have dd2 : bq5.cell? ⟨K6, 0, none⟩ = some (.int .i64 ae9) := (blk_cell u4.out 0).trans rfl; have dd3 : bq5.cell? ⟨K6, 1, none⟩ = some (.int .i64 aB1) := (blk_cell u4.out 1).trans rfl; have dd4 := blk_frozen u4.out 0; have dd5 := blk_frozen u4.out 1))
    all_goals
     first
     | exact absurd ⟨by first | assumption | omega, by first | assumption | omega, by first | assumption | omega, by first | assumption | omega, by first | assumption | omega, by first | assumption | omega⟩ hall_
     | (go_ret
        repeat' (split at H)
        all_goals first
         | (exfalso; first | contradiction | omega | fail)
         | (obtain rfl := Option.some.inj H; exact ⟨xre, xq HB⟩)
         | (exfalso; simp_all; done)
         | fail)
     | fail
  obtain ⟨c4, c5, c6, c7, c8, c9⟩ := hall_
  rw [if_pos c4] at H
  have Y8 : (ad7 == 0) = true := beq_iff_eq.mpr c4
  have aR3 : (ad7 != 0) = false := bne_eq_false_iff_eq.mpr c4
  clear c4
  rw [if_pos c5] at H
  have aK8 : (ae9 == 0) = true := beq_iff_eq.mpr c5
  have ee3 : (ae9 != 0) = false := bne_eq_false_iff_eq.mpr c5
  clear c5
  rw [if_pos c6] at H
  have Y9 : (bq4 == 0) = true := beq_iff_eq.mpr c6
  have aR4 : (bq4 != 0) = false := bne_eq_false_iff_eq.mpr c6
  clear c6
  rw [if_pos c7] at H
  have aS2 : (aq8 == 17106956) = true := beq_iff_eq.mpr c7
  have bM8 : (aq8 != 17106956) = false := bne_eq_false_iff_eq.mpr c7
  clear c7
  rw [if_pos c8] at H
  have bs9 : (aB0 == aq8) = true := beq_iff_eq.mpr c8
  have cx1 : (aB0 != aq8) = false := bne_eq_false_iff_eq.mpr c8
  clear c8
  subst c9
  have H1 : (some ((ab4.length : Int) == 1)) = some r := by rw [if_pos rfl] at H; exact H
  clear H
  have H := H1
  clear H1
  obtain rfl := Option.some.inj H
  go_enter Try.func28, Try.ntmps28
  go_wp2_with (first | ((with_reducible refine gate_dst (N := 9) rfl ?_); (try (refine gate_guard (by rfl) ?_; dsimp only)); refine Kd.R_lit (Kd.int .u8) _ 5 ?hg (N := 9) ?hd (xs := ([7] : List Int)) (inner := [.int .u8 7]) (ok := fun _ => True) (okp := fun _ => True) ?hr ?hp (fun _ hk => hk) trivial (Below.refl _ _) (Nat.le_refl _) (by simp) ?_; (case hd => rfl); (case hg => rfl); (case hr => first | (go_simp; done) | (go_simp; rfl)); (case hp => exact (Reps.one (show Kd.M (Kd.int .u8) _ _ _ 7 [.int .u8 7] from rfl) (Reps.none _ _))); intro dF9 w10 by2 hb hg_ hnew_; clear hg_ hnew_; (first | rw [← bo0.out] at by2 | (simp only [Int.reduceToNat] at by2; rw [← bo0.out] at by2)); have o1 := aZ (Kd.R_lower by2 (lZ (by repeat (first | (with_reducible first | exact HB.out | apply lA | apply lN | apply lD) | exact HB.out)))); replace HB := xhl HB hb; clear hb by2; obtain ⟨aZ5, aO5, dH3⟩ := Kd.R_slice o1.out; subst dH3) | ((with_reducible refine gate_dst (N := 1) rfl ?_); (try (refine gate_guard (by rfl) ?_; dsimp only)); refine box_event ?hg (N := 1) ?hd (cs := #[.int .i64 0, .slice none 0 0, .slice none 0 0]) (t := 44) ?hr ?_; (case hd => rfl); (case hg => rfl); (case hr => first | (go_simp; done) | (go_simp; rfl)); intro F5 hg w13 hbox hb; replace o1 := xR o1 hb; have j5 := aZ (hbox); have cD6 := xgh hg HB; have bx9 := xgh hg HB; replace HB := xhl HB hb; clear hb hbox hg; have dd6 : w13.cell? ⟨F5, 0, none⟩ = some (.int .i64 0) := (blk_cell j5.out 0).trans rfl; have dd7 : w13.cell? ⟨F5, 1, none⟩ = some (.slice none 0 0) := (blk_cell j5.out 1).trans rfl; have dd8 : w13.cell? ⟨F5, 2, none⟩ = some (.slice none 0 0) := (blk_cell j5.out 2).trans rfl; have dd9 := blk_frozen j5.out 0; have de0 := blk_frozen j5.out 1; have de1 := blk_frozen j5.out 2) | ((with_reducible refine gate_callee (f := 29) rfl ?_); refine goesL_ (some 13) rfl rfl Try.func29 (by kernel_rfl) rfl #[.agg #[.int .i64 1, .slice none 0 0, .slice aZ5 O1.length aO5]] rfl xmp ?_; (refine (objects_Digest.calls k 1 _ _ ([] : List Int) _ _ O1 aq8 ad7 aA9 _ ?side1 ?side2 ?side3 ?side4 A1.out).mono ?_); (case side1 => exact Kd.C_nil _ _); (case side2 => exact Nat.le_refl _); (case side3 => refine (Kd.R_reads' (e := 5) (base := w.heap.size) (ok := fun k_ => True) (n := O1.length) (c := aO5) ?_).2.2; exact (by (with_reducible repeat (first | apply Kd.rA | apply Kd.rN | apply Kd.rD)); exact (Kd.R_mono (Kd.R_far (p := ⟨F5, 2, none⟩) (Kd.R_far (p := ⟨F5, 1, none⟩) (Kd.R_far (p := ⟨F5, 0, none⟩) (Kd.R_types o1.out j5.out (by decide)) (fun _ hk => hk.2) (.int .i64 1)) (fun _ hk => hk.2) (.slice none 0 0)) (fun _ hk => hk.2) (.slice aZ5 O1.length aO5)) (fun _ h_ => h_.1)))); (case side4 => exact (Kd.R_reads' o1.out).2.1); rintro e w15 ⟨rfl, hb⟩; refine ⟨_, rfl, ?_⟩; replace o1 := aZ (Kd.R_below (by (with_reducible repeat (first | apply Kd.rA | apply Kd.rN | apply Kd.rD)); exact (Kd.R_mono (Kd.R_far (p := ⟨F5, 2, none⟩) (Kd.R_far (p := ⟨F5, 1, none⟩) (Kd.R_far (p := ⟨F5, 0, none⟩) (Kd.R_types o1.out j5.out (by decide)) (fun _ hk => hk.2) (.int .i64 1)) (fun _ hk => hk.2) (.slice none 0 0)) (fun _ hk => hk.2) (.slice aZ5 O1.length aO5)) (fun _ h_ => h_.1))) hb); replace j5 := aZ (blk_below (g := F5) (o := .cells #[.int .i64 1, .slice none 0 0, .slice aZ5 O1.length aO5] 44 (0, 0)) (by (with_reducible repeat (first | refine bN ?_ _ | refine bD ?_ | refine bA ?_ _)); refine blk_put (cs := #[.int .i64 1, .slice none 0 0, .slice none 0 0]) ?_ 2 _ rfl; (with_reducible repeat (first | refine bN ?_ _ | refine bD ?_ | refine bA ?_ _)); refine blk_put (cs := #[.int .i64 1, .slice none 0 0, .slice none 0 0]) ?_ 1 _ rfl; (with_reducible repeat (first | refine bN ?_ _ | refine bD ?_ | refine bA ?_ _)); refine blk_put (cs := #[.int .i64 0, .slice none 0 0, .slice none 0 0]) ?_ 0 _ rfl; (with_reducible repeat (first | refine bN ?_ _ | refine bD ?_ | refine bA ?_ _)); exact j5.out) hb); replace HB := xhl HB hb; (try clear hb); (try clear H3); (try clear hk); (try clear hi)) | ((with_reducible refine gate_dst (N := 3) rfl ?_); (try (refine gate_guard (by rfl) ?_; dsimp only)); refine box_event ?hg (N := 3) ?hd (cs := #[.int .i64 0, .int .i64 0]) (t := 28) ?hr ?_; (case hd => rfl); (case hg => rfl); (case hr => first | (go_simp; done) | (go_simp; rfl)); intro K4 hg w16 hbox hb; replace o1 := xR o1 hb; have l9 := aZ (hbox); have cE3 := xgh hg HB; have by1 := xgh hg HB; replace HB := xhl HB hb; have ax6 := xnl hg j5; have ax7 := xng hg j5; replace j5 := xbb j5 hb; clear hb hbox hg; have bu6 := ax7.out; have bu7 := ax6.out; have bD7 : w16.cell? ⟨K4, 0, none⟩ = some (.int .i64 0) := (blk_cell l9.out 0).trans rfl; have bD8 : w16.cell? ⟨K4, 1, none⟩ = some (.int .i64 0) := (blk_cell l9.out 1).trans rfl; have bD9 := blk_frozen l9.out 0; have bE0 := blk_frozen l9.out 1; have aM6 : w16.cell? ⟨F5, 0, none⟩ = some (.int .i64 1) := (blk_cell j5.out 0).trans rfl; have aM7 : w16.cell? ⟨F5, 1, none⟩ = some (.slice none 0 0) := (blk_cell j5.out 1).trans rfl; have bh3 : w16.cell? ⟨F5, 2, none⟩ = some (.slice aZ5 O1.length aO5) := (blk_cell j5.out 2).trans rfl; have aM8 := blk_frozen j5.out 0; have aM9 := blk_frozen j5.out 1; have bh4 := blk_frozen j5.out 2) | ((with_reducible refine gate_callee (f := 33) rfl ?_); refine goesL_ (some 19) rfl rfl Try.func33 (by kernel_rfl) rfl #[.agg #[.slice none 0 0], .agg #[.int .i64 1, .slice none 0 0, .slice aZ5 O1.length aO5]] rfl xmp ?_; (refine (objects_Put.calls k _ _ ([] : List (r9)) 1 _ _ ([] : List Int) _ _ O1 ab4 aB0 ae9 aB1 _ ?side1 ?side2 ?side3 ?side4 ?side5 ?side6 A2.out).mono ?_); (case side1 => exact Kd.C_nil _ _); (case side2 => exact Nat.le_refl _); (case side3 => exact Kd.C_nil _ _); (case side4 => exact Nat.le_refl _); (case side5 => refine (Kd.R_reads' (e := 5) (base := w.heap.size) (ok := fun k_ => True) (n := O1.length) (c := aO5) ?_).2.2; exact (by (with_reducible repeat (first | apply Kd.rA | apply Kd.rN | apply Kd.rD)); exact (Kd.R_mono (Kd.R_far (p := ⟨K4, 1, none⟩) (Kd.R_far (p := ⟨K4, 0, none⟩) (Kd.R_types o1.out l9.out (by decide)) (fun _ hk => hk.2) (.int .i64 ad7)) (fun _ hk => hk.2) (.int .i64 aA9)) (fun _ h_ => h_.1)))); (case side6 => exact (Kd.R_reads' o1.out).2.1); rintro e w20 ⟨dG2, rfl, ho0, hb⟩; refine ⟨_, rfl, ?_⟩; have K5 := aZ (Kd.S_lower (Kd.S_new' ho0 (Kd.R_lt (by (with_reducible repeat (first | apply Kd.rA | apply Kd.rN | apply Kd.rD)); exact (Kd.R_mono (Kd.R_far (p := ⟨K4, 1, none⟩) (Kd.R_far (p := ⟨K4, 0, none⟩) (Kd.R_types o1.out l9.out (by decide)) (fun _ hk => hk.2) (.int .i64 ad7)) (fun _ hk => hk.2) (.int .i64 aA9)) (fun _ h_ => h_.1))))) (lZ (by repeat (first | (with_reducible first | exact HB.out | apply lA | apply lN | apply lD | refine lS ?_ bx9.out | refine lS ?_ by1.out) | exact HB.out)))); replace o1 := aZ (Kd.R_below (by (with_reducible repeat (first | apply Kd.rA | apply Kd.rN | apply Kd.rD)); exact (Kd.R_mono (Kd.R_far (p := ⟨K4, 1, none⟩) (Kd.R_far (p := ⟨K4, 0, none⟩) (Kd.R_types o1.out l9.out (by decide)) (fun _ hk => hk.2) (.int .i64 ad7)) (fun _ hk => hk.2) (.int .i64 aA9)) (fun _ h_ => h_.1))) hb); replace j5 := xbb j5 hb; replace l9 := aZ (blk_below (g := K4) (o := .cells #[.int .i64 ad7, .int .i64 aA9] 28 (0, 0)) (by (with_reducible repeat (first | refine bN ?_ _ | refine bD ?_ | refine bA ?_ _)); refine blk_put (cs := #[.int .i64 ad7, .int .i64 0]) ?_ 1 _ rfl; (with_reducible repeat (first | refine bN ?_ _ | refine bD ?_ | refine bA ?_ _)); refine blk_put (cs := #[.int .i64 0, .int .i64 0]) ?_ 0 _ rfl; (with_reducible repeat (first | refine bN ?_ _ | refine bD ?_ | refine bA ?_ _)); exact l9.out) hb); replace HB := xhl HB hb; (try clear hb); (try clear H3); (try clear hk); (try clear hi); (try clear ho0)) | ((with_reducible refine gate_dst (N := 4) rfl ?_); (try (refine gate_guard (by rfl) ?_; dsimp only)); refine box_event ?hg (N := 4) ?hd (cs := #[.slice none 0 0]) (t := 24) ?hr ?_; (case hd => rfl); (case hg => rfl); (case hr => first | (go_simp; done) | (go_simp; rfl)); intro ai0 hg w21 hbox hb; replace o1 := xR o1 hb; replace K5 := xS K5 hb; have u7 := aZ (hbox); have cF4 := xgh hg HB; have cF5 := xgh hg HB; replace HB := xhl HB hb; have ax8 := xnl hg j5; have ax9 := xng hg j5; replace j5 := xbb j5 hb; have ay0 := xnl hg l9; have ay1 := xng hg l9; replace l9 := xbb l9 hb; clear hb hbox hg) | ((with_reducible refine gate_dst (N := 6) rfl ?_); (try (refine gate_guard (by rfl) ?_; dsimp only)); refine box_event ?hg (N := 6) ?hd (cs := #[.int .i64 0, .int .i64 0]) (t := 28) ?hr ?_; (case hd => rfl); (case hg => rfl); (case hr => first | (go_simp; done) | (go_simp; rfl)); intro K6 hg w22 hbox hb; replace o1 := xR o1 hb; replace K5 := xS K5 hb; have u4 := aZ (hbox); have cF6 := xgh hg HB; have cF7 := xgh hg HB; replace HB := xhl HB hb; have ay2 := xnl hg j5; have ay3 := xng hg j5; replace j5 := xbb j5 hb; have ay4 := xnl hg l9; have ay5 := xng hg l9; replace l9 := xbb l9 hb; have U1 := xnl hg u7; have ad8 := xng hg u7; replace u7 := xbb u7 hb; clear hb hbox hg; obtain ⟨aO1, aI2, bI2⟩ := Kd.S_slice K5.out; subst bI2; have bt2 := ax9.out; have bt3 := ax8.out; have bu8 := ay1.out; have bu9 := ay0.out; have bx7 := U1.out; have bx8 := ad8.out; have aE4 : w22.cell? ⟨ai0, 0, none⟩ = some (.slice none 0 0) := (blk_cell u7.out 0).trans rfl; have aE5 := blk_frozen u7.out 0; have bT2 := ay3.out; have bT3 := ay2.out; have bQ6 := ay5.out; have bQ7 := ay4.out; have aL4 : w22.cell? ⟨K6, 0, none⟩ = some (.int .i64 0) := (blk_cell u4.out 0).trans rfl; have be1 : w22.cell? ⟨K6, 1, none⟩ = some (.int .i64 0) := (blk_cell u4.out 1).trans rfl; have aL5 := blk_frozen u4.out 0; have be2 := blk_frozen u4.out 1) | ((with_reducible refine gate_callee (f := 35) rfl ?_); refine goesL_ (some 26) rfl rfl Try.func35 (by kernel_rfl) rfl #[.agg #[.slice aO1 ab4.length aI2], .int .i64 aB0] rfl xmp ?_; (with_reducible refine (objects_Has.calls k _ _ ab4 aB0 true bq4 cD4 _ ?side1 ?side2 A3.out).mono ?_); (case side1 => refine (Kd.S_reads' (e := 46) (base := w.heap.size) (ok := fun k_ => (True ∧ some k_ ≠ (.slice aZ5 O1.length aO5 : Value).ownBlock)) (n := ab4.length) (c := aI2) ?_).2.2; exact (by (with_reducible repeat (first | apply Kd.S_alloc | apply Kd.S_drewN | apply Kd.S_drew)); exact (Kd.S_mono (Kd.S_mono (Kd.S_far (p := ⟨K6, 1, none⟩) (Kd.S_far (p := ⟨K6, 0, none⟩) (Kd.S_far (p := ⟨ai0, 0, none⟩) (Kd.S_types (Kd.S_types K5.out u7.out (by decide)) u4.out (by decide)) (fun _ hk => hk.1.2) (.slice aO1 ab4.length aI2)) (fun _ hk => hk.2) (.int .i64 ae9)) (fun _ hk => hk.2) (.int .i64 aB1)) (fun _ h_ => h_.1)) (fun _ h_ => h_.1)))); (case side2 => exact (Kd.S_reads' K5.out).2.1); rintro e w31 ⟨rfl, hb⟩; refine ⟨_, rfl, ?_⟩; replace o1 := aZ (Kd.R_below (by (with_reducible repeat (first | apply Kd.rA | apply Kd.rN | apply Kd.rD)); exact (Kd.R_mono (Kd.R_mono (Kd.R_far (p := ⟨K6, 1, none⟩) (Kd.R_far (p := ⟨K6, 0, none⟩) (Kd.R_far (p := ⟨ai0, 0, none⟩) (Kd.R_types (Kd.R_types o1.out u7.out (by decide)) u4.out (by decide)) (fun _ hk => hk.1.2) (.slice aO1 ab4.length aI2)) (fun _ hk => hk.2) (.int .i64 ae9)) (fun _ hk => hk.2) (.int .i64 aB1)) (fun _ h_ => h_.1)) (fun _ h_ => h_.1))) hb); replace K5 := aZ (Kd.S_below (by (with_reducible repeat (first | apply Kd.S_alloc | apply Kd.S_drewN | apply Kd.S_drew)); exact (Kd.S_mono (Kd.S_mono (Kd.S_far (p := ⟨K6, 1, none⟩) (Kd.S_far (p := ⟨K6, 0, none⟩) (Kd.S_far (p := ⟨ai0, 0, none⟩) (Kd.S_types (Kd.S_types K5.out u7.out (by decide)) u4.out (by decide)) (fun _ hk => hk.1.2) (.slice aO1 ab4.length aI2)) (fun _ hk => hk.2) (.int .i64 ae9)) (fun _ hk => hk.2) (.int .i64 aB1)) (fun _ h_ => h_.1)) (fun _ h_ => h_.1))) hb); replace j5 := xbb j5 hb; replace l9 := xbb l9 hb; replace u7 := aZ (blk_below (g := ai0) (o := .cells #[.slice aO1 ab4.length aI2] 24 (0, 0)) (by (with_reducible repeat (first | refine bN ?_ _ | refine bD ?_ | refine bA ?_ _)); refine blk_far ?_ U1.out _; (with_reducible repeat (first | refine bN ?_ _ | refine bD ?_ | refine bA ?_ _)); refine blk_far ?_ U1.out _; (with_reducible repeat (first | refine bN ?_ _ | refine bD ?_ | refine bA ?_ _)); refine blk_put (cs := #[.slice none 0 0]) ?_ 0 _ rfl; (with_reducible repeat (first | refine bN ?_ _ | refine bD ?_ | refine bA ?_ _)); exact u7.out) hb); replace u4 := aZ (blk_below (g := K6) (o := .cells #[.int .i64 ae9, .int .i64 aB1] 28 (0, 0)) (by (with_reducible repeat (first | refine bN ?_ _ | refine bD ?_ | refine bA ?_ _)); refine blk_put (cs := #[.int .i64 ae9, .int .i64 0]) ?_ 1 _ rfl; (with_reducible repeat (first | refine bN ?_ _ | refine bD ?_ | refine bA ?_ _)); refine blk_put (cs := #[.int .i64 0, .int .i64 0]) ?_ 0 _ rfl; (with_reducible repeat (first | refine bN ?_ _ | refine bD ?_ | refine bA ?_ _)); refine blk_far ?_ ad8.out _; (with_reducible repeat (first | refine bN ?_ _ | refine bD ?_ | refine bA ?_ _)); exact u4.out) hb); replace HB := xhl HB hb; (try clear hb); (try clear H3); (try clear hk); (try clear hi)) | ((with_reducible refine gate_dst (N := 8) rfl ?_); (try (refine gate_guard (by rfl) ?_; dsimp only)); refine box_event ?hg (N := 8) ?hd (cs := #[.int .i64 0, .int .i64 0]) (t := 28) ?hr ?_; (case hd => rfl); (case hg => rfl); (case hr => first | (go_simp; done) | (go_simp; rfl)); intro aW3 hg w32 hbox hb; replace o1 := xR o1 hb; replace K5 := xS K5 hb; have ar0 := aZ (hbox); have cG5 := xgh hg HB; have cG6 := xgh hg HB; replace HB := xhl HB hb; have ay6 := xnl hg j5; have ay7 := xng hg j5; replace j5 := xbb j5 hb; have ay8 := xnl hg l9; have ay9 := xng hg l9; replace l9 := xbb l9 hb; have az0 := xnl hg u7; have az1 := xng hg u7; replace u7 := xbb u7 hb; have az2 := xnl hg u4; have az3 := xng hg u4; replace u4 := xbb u4 hb; clear hb hbox hg; have cx7 := ay7.out; have cx8 := ay6.out; have dU6 := ay9.out; have dU7 := ay8.out; have bT5 := az1.out; have bT6 := az0.out; have bV0 := az3.out; have bV1 := az2.out; have bM9 : w32.cell? ⟨aW3, 0, none⟩ = some (.int .i64 0) := (blk_cell ar0.out 0).trans rfl; have bN0 : w32.cell? ⟨aW3, 1, none⟩ = some (.int .i64 0) := (blk_cell ar0.out 1).trans rfl; have bN1 := blk_frozen ar0.out 0; have bN2 := blk_frozen ar0.out 1; have aD1 : w32.cell? ⟨K4, 0, none⟩ = some (.int .i64 ad7) := (blk_cell l9.out 0).trans rfl; have aD2 : w32.cell? ⟨K4, 1, none⟩ = some (.int .i64 aA9) := (blk_cell l9.out 1).trans rfl; have aD3 := blk_frozen l9.out 0; have aD4 := blk_frozen l9.out 1; have de2 : w32.cell? ⟨K6, 0, none⟩ = some (.int .i64 ae9) := (blk_cell u4.out 0).trans rfl; have de3 : w32.cell? ⟨K6, 1, none⟩ = some (.int .i64 aB1) := (blk_cell u4.out 1).trans rfl; have de4 := blk_frozen u4.out 0; have de5 := blk_frozen u4.out 1; have bN3 : w32.cell? ⟨ai0, 0, none⟩ = some (.slice aO1 ab4.length aI2) := (blk_cell u7.out 0).trans rfl; have bN4 := blk_frozen u7.out 0))
  go_ret
  exact ⟨xre, xq HB⟩
section
attribute [local go_sem high] aR2
def changeforgelaw3_ObjectsDigestMatchesSpec.f (k : Nat) (d8 : Int) (b9 : List Int) (e0 : List Int) : Option (Bool) := (e8.f k).bind fun bq6 => (if bq6 = true then ((objects_Digest.f k d8 b9 e0).bind fun K7 => ((a8.f k d8 b9 e0).bind fun Q4 => (if Q4.1 = 0 then (if K7.2.1 = 0 then ((b3.f k d8 b9 e0).bind fun ar1 => (some (K7.1 == ar1))) else (some false)) else (if (K7.2.1 == Q4.1 && (K7.2.2 == Q4.2)) = true then (some (K7.1 == 0)) else (some false))))) else (some false))
theorem changeforgelaw3_ObjectsDigestMatchesSpec.mono : ∀ a0 a1 a2 k, LeO (changeforgelaw3_ObjectsDigestMatchesSpec.f k a0 a1 a2) (changeforgelaw3_ObjectsDigestMatchesSpec.f (k + 1) a0 a1 a2) := by
  intro a0 a1 a2 k
  unfold changeforgelaw3_ObjectsDigestMatchesSpec.f
  repeat' first | (with_reducible first | exact e8.mono _ | exact b3.mono _ _ _ _ | exact a8.mono _ _ _ _ | exact objects_Digest.mono _ _ _ _ | exact LeO.refl _ | exact LeO.none _ | refine LeO.ite ?_ ?_ | refine LeO.bind ?_ (fun _ => ?_)) | exact e8.mono _ | exact b3.mono _ _ _ _ | exact a8.mono _ _ _ _ | exact objects_Digest.mono _ _ _ _ | exact LeO.none _ | refine LeO.ite ?_ ?_ | refine LeO.bind ?_ (fun _ => ?_)
set_option maxHeartbeats 8000000 in
set_option maxRecDepth 100000 in
theorem changeforgelaw3_ObjectsDigestMatchesSpec.calls (k : Nat) (d8 : Int) (i9 : Option Addr) (i5 : Nat) (b9 : List Int) (i1 : Option Addr) (i3 : Nat) (e0 : List Int) (r : Bool) (w : World) (F9 : Kd.C (Kd.int .i64) w i9 b9.length b9) (G0 : b9.length ≤ i5) (D9 : Kd.C (Kd.int .u8) w i1 e0.length e0) (E0 : e0.length ≤ i3) (h : changeforgelaw3_ObjectsDigestMatchesSpec.f k d8 b9 e0 = some r) :
  Calls Try.prog 8 #[.agg #[.int .i64 d8, .slice i9 b9.length i5, .slice i1 e0.length i3]] w fun e w' => e = .returned (.bool r) ∧ Below w.heap.size w w' := by
  have aw1 := Try.underlying44
  have aH5 := Try.underlying28
  have C4 := aZ F9
  have J6 := aZ G0
  clear F9 G0
  have G3 := aZ D9
  have N5 := aZ E0
  clear D9 E0
  have HB := aZ (Below.refl w.heap.size w)
  have H : ((e8.f k).bind fun bq6 => (if bq6 = true then ((objects_Digest.f k d8 b9 e0).bind fun K7 => ((a8.f k d8 b9 e0).bind fun Q4 => (if Q4.1 = 0 then (if K7.2.1 = 0 then ((b3.f k d8 b9 e0).bind fun ar1 => (some (K7.1 == ar1))) else (some false)) else (if (K7.2.1 == Q4.1 && (K7.2.2 == Q4.2)) = true then (some (K7.1 == 0)) else (some false))))) else (some false))) = some r := h
  clear h
  replace H := Option.bind_eq_some_iff.mp H
  obtain ⟨bq6, A20, H⟩ := H
  replace H : (if bq6 = true then ((objects_Digest.f k d8 b9 e0).bind fun K7 => ((a8.f k d8 b9 e0).bind fun Q4 => (if Q4.1 = 0 then (if K7.2.1 = 0 then ((b3.f k d8 b9 e0).bind fun ar1 => (some (K7.1 == ar1))) else (some false)) else (if (K7.2.1 == Q4.1 && (K7.2.2 == Q4.2)) = true then (some (K7.1 == 0)) else (some false))))) else (some false)) = some r := H
  have A2 := aZ A20
  clear A20
  by_cases c3 : bq6 = true
  rotate_left
  · replace c3 := Bool.eq_false_iff.mpr c3
    subst c3
    have H1 : (some false) = some r := by rw [if_neg (show ¬ (false = true) by decide)] at H; exact H
    clear H
    have H := H1
    clear H1
    obtain rfl := Option.some.inj H
    go_enter Try.func8, Try.ntmps8
    go_wp2_with (first | ((with_reducible refine gate_dst (N := 1) rfl ?_); refine box_event ?hg (N := 1) ?hd (cs := #[.int .i64 d8, .slice i9 b9.length i5, .slice i1 e0.length i3]) (t := 44) ?hr ?_; (case hd => rfl); (case hg => rfl); (case hr => first | (go_simp; done) | (go_simp; rfl)); intro C3 hg w68 hbox hb; have f5 := aZ (hbox); have bo1 := xgh hg HB; have aa5 := xgh hg HB; replace HB := xhl HB hb; clear hb hbox hg) | ((with_reducible refine gate_callee (f := 28) rfl ?_); refine goesL_ (some 6) rfl rfl Try.func28 (by kernel_rfl) rfl #[] rfl xmp ?_; (with_reducible refine (e8.calls k  false _ A2.out).mono ?_); rintro e w69 ⟨rfl, hb⟩; refine ⟨_, rfl, ?_⟩; replace f5 := xbb f5 hb; replace HB := xhl HB hb; skip; (try clear hb); (try clear H3); (try clear hk); (try clear hi)))
    go_ret
    exact ⟨xre, xq HB⟩

  subst c3
  have H1 : ((objects_Digest.f k d8 b9 e0).bind fun K7 => ((a8.f k d8 b9 e0).bind fun Q4 => (if Q4.1 = 0 then (if K7.2.1 = 0 then ((b3.f k d8 b9 e0).bind fun ar1 => (some (K7.1 == ar1))) else (some false)) else (if (K7.2.1 == Q4.1 && (K7.2.2 == Q4.2)) = true then (some (K7.1 == 0)) else (some false))))) = some r := by rw [if_pos rfl] at H; exact H
  clear H
  have H := H1
  clear H1
  replace H := Option.bind_eq_some_iff.mp H
  obtain ⟨⟨aO6, N4, Z0⟩, A40, H⟩ := H
  replace H : ((a8.f k d8 b9 e0).bind fun Q4 => (if Q4.1 = 0 then (if N4 = 0 then ((b3.f k d8 b9 e0).bind fun ar1 => (some (aO6 == ar1))) else (some false)) else (if (N4 == Q4.1 && (Z0 == Q4.2)) = true then (some (aO6 == 0)) else (some false)))) = some r := H
  have A4 := aZ A40
  clear A40
  replace H := Option.bind_eq_some_iff.mp H
  obtain ⟨⟨ab5, ar2⟩, A50, H⟩ := H
  replace H : (if ab5 = 0 then (if N4 = 0 then ((b3.f k d8 b9 e0).bind fun ar1 => (some (aO6 == ar1))) else (some false)) else (if (N4 == ab5 && (Z0 == ar2)) = true then (some (aO6 == 0)) else (some false))) = some r := H
  have A5 := aZ A50
  clear A50
  by_cases c6 : ab5 = 0
  rotate_left
  · rw [if_neg c6] at H
    have Y9 : (ab5 == 0) = false := beq_eq_false_iff_ne.mpr c6
    have aR4 : (ab5 != 0) = true := bne_iff_ne.mpr c6
    by_cases c39 : (N4 == ab5 && (Z0 == ar2)) = true
    · rw [if_pos c39] at H
      have bt7 : (N4 == ab5 && (Z0 == ar2)) = true := c39
      (try (have cG7 : decide (N4 = ab5 && (Z0 == ar2)) = true := by simpa using c39))
      (try (have cG8 : (N4 == ab5 && (Z0 == ar2)) = true := by simpa using c39))
      clear c39
      obtain rfl := Option.some.inj H
      go_enter Try.func8, Try.ntmps8
      go_wp2_with (first | ((with_reducible refine gate_dst (N := 1) rfl ?_); refine box_event ?hg (N := 1) ?hd (cs := #[.int .i64 d8, .slice i9 b9.length i5, .slice i1 e0.length i3]) (t := 44) ?hr ?_; (case hd => rfl); (case hg => rfl); (case hr => first | (go_simp; done) | (go_simp; rfl)); intro C3 hg w40 hbox hb; have f5 := aZ (hbox); have bo1 := xgh hg HB; have aa5 := xgh hg HB; replace HB := xhl HB hb; clear hb hbox hg) | ((with_reducible refine gate_callee (f := 28) rfl ?_); refine goesL_ (some 6) rfl rfl Try.func28 (by kernel_rfl) rfl #[] rfl xmp ?_; (with_reducible refine (e8.calls k  true _ A2.out).mono ?_); rintro e w41 ⟨rfl, hb⟩; refine ⟨_, rfl, ?_⟩; replace f5 := xbb f5 hb; replace HB := xhl HB hb; skip; (try clear hb); (try clear H3); (try clear hk); (try clear hi); have bg3 : w41.cell? ⟨C3, 0, none⟩ = some (.int .i64 d8) := (blk_cell f5.out 0).trans rfl; have bg4 : w41.cell? ⟨C3, 1, none⟩ = some (.slice i9 b9.length i5) := (blk_cell f5.out 1).trans rfl; have bg5 : w41.cell? ⟨C3, 2, none⟩ = some (.slice i1 e0.length i3) := (blk_cell f5.out 2).trans rfl; have bg6 := blk_frozen f5.out 0; have bg7 := blk_frozen f5.out 1; have bg8 := blk_frozen f5.out 2) | ((with_reducible refine gate_callee (f := 29) rfl ?_); refine goesL_ (some 10) rfl rfl Try.func29 (by kernel_rfl) rfl #[.agg #[.int .i64 d8, .slice i9 b9.length i5, .slice i1 e0.length i3]] rfl xmp ?_; (with_reducible refine (objects_Digest.calls k d8 _ _ b9 _ _ e0 aO6 N4 Z0 _ ?side1 ?side2 ?side3 ?side4 A4.out).mono ?_); (case side1 => exact xcb C4 HB); (case side2 => exact J6.out); (case side3 => exact xcb G3 HB); (case side4 => exact N5.out); rintro e w43 ⟨rfl, hb⟩; refine ⟨_, rfl, ?_⟩; replace f5 := xbb f5 hb; replace HB := xhl HB hb; skip; (try clear hb); (try clear H3); (try clear hk); (try clear hi)) | ((with_reducible refine gate_dst (N := 4) rfl ?_); refine box_event ?hg (N := 4) ?hd (cs := #[.int .i64 0, .int .i64 0]) (t := 28) ?hr ?_; (case hd => rfl); (case hg => rfl); (case hr => first | (go_simp; done) | (go_simp; rfl)); intro K8 hg w44 hbox hb; have k5 := aZ (hbox); have by3 := xgh hg HB; have ad9 := xgh hg HB; replace HB := xhl HB hb; have U2 := xnl hg f5; have U3 := xng hg f5; replace f5 := xbb f5 hb; clear hb hbox hg; have dU8 := U3.out; have dU9 := U2.out; have de7 : w44.cell? ⟨K8, 0, none⟩ = some (.int .i64 0) := (blk_cell k5.out 0).trans rfl; have de8 : w44.cell? ⟨K8, 1, none⟩ = some (.int .i64 0) := (blk_cell k5.out 1).trans rfl; have de9 := blk_frozen k5.out 0; have df0 := blk_frozen k5.out 1; have aM0 : w44.cell? ⟨C3, 0, none⟩ = some (.int .i64 d8) := (blk_cell f5.out 0).trans rfl; have bg9 : w44.cell? ⟨C3, 1, none⟩ = some (.slice i9 b9.length i5) := (blk_cell f5.out 1).trans rfl; have df1 : w44.cell? ⟨C3, 2, none⟩ = some (.slice i1 e0.length i3) := (blk_cell f5.out 2).trans rfl; have aM1 := blk_frozen f5.out 0; have bh0 := blk_frozen f5.out 1; have df2 := blk_frozen f5.out 2) | ((with_reducible refine gate_callee (f := 30) rfl ?_); refine goesL_ (some 14) rfl rfl Try.func30 (by kernel_rfl) rfl #[.agg #[.int .i64 d8, .slice i9 b9.length i5, .slice i1 e0.length i3]] rfl xmp ?_; (with_reducible refine (a8.calls k d8 _ _ b9 _ _ e0 ab5 ar2 _ ?side1 ?side2 ?side3 ?side4 A5.out).mono ?_); (case side1 => exact Kd.C_below C4.out (by repeat (first | (with_reducible first | exact HB.out | apply lA | apply lN | apply lD | refine lS ?_ aa5.out | refine lS ?_ ad9.out) | exact HB.out))); (case side2 => exact J6.out); (case side3 => exact Kd.C_below G3.out (by repeat (first | (with_reducible first | exact HB.out | apply lA | apply lN | apply lD | refine lS ?_ aa5.out | refine lS ?_ ad9.out) | exact HB.out))); (case side4 => exact N5.out); rintro e w48 ⟨rfl, hb⟩; refine ⟨_, rfl, ?_⟩; replace f5 := xbb f5 hb; replace k5 := aZ (blk_below (g := K8) (o := .cells #[.int .i64 N4, .int .i64 Z0] 28 (0, 0)) (by (with_reducible repeat (first | refine bN ?_ _ | refine bD ?_ | refine bA ?_ _)); refine blk_put (cs := #[.int .i64 N4, .int .i64 0]) ?_ 1 _ rfl; (with_reducible repeat (first | refine bN ?_ _ | refine bD ?_ | refine bA ?_ _)); refine blk_put (cs := #[.int .i64 0, .int .i64 0]) ?_ 0 _ rfl; (with_reducible repeat (first | refine bN ?_ _ | refine bD ?_ | refine bA ?_ _)); exact k5.out) hb); replace HB := xhl HB hb; (try clear hb); (try clear H3); (try clear hk); (try clear hi)) | ((with_reducible refine gate_dst (N := 5) rfl ?_); refine box_event ?hg (N := 5) ?hd (cs := #[.int .i64 0, .int .i64 0]) (t := 28) ?hr ?_; (case hd => rfl); (case hg => rfl); (case hr => first | (go_simp; done) | (go_simp; rfl)); intro ai1 hg w49 hbox hb; have N7 := aZ (hbox); have by4 := xgh hg HB; have aW4 := xgh hg HB; replace HB := xhl HB hb; have U4 := xnl hg f5; have U5 := xng hg f5; replace f5 := xbb f5 hb; have U6 := xnl hg k5; have U7 := xng hg k5; replace k5 := xbb k5 hb; clear hb hbox hg; have bv9 := U5.out; have bw0 := U4.out; have bU8 := U7.out; have bU9 := U6.out; have bi8 : w49.cell? ⟨ai1, 0, none⟩ = some (.int .i64 0) := (blk_cell N7.out 0).trans rfl; have bi9 : w49.cell? ⟨ai1, 1, none⟩ = some (.int .i64 0) := (blk_cell N7.out 1).trans rfl; have bj0 := blk_frozen N7.out 0; have bj1 := blk_frozen N7.out 1; have df3 : w49.cell? ⟨K8, 0, none⟩ = some (.int .i64 N4) := (blk_cell k5.out 0).trans rfl; have df4 : w49.cell? ⟨K8, 1, none⟩ = some (.int .i64 Z0) := (blk_cell k5.out 1).trans rfl; have df5 := blk_frozen k5.out 0; have df6 := blk_frozen k5.out 1))
      go_ret
      exact ⟨xre, xq HB⟩
    rw [if_neg c39] at H
    have bt7 : (N4 == ab5 && (Z0 == ar2)) = false := by simpa using c39
    (try (have cG7 : decide (N4 = ab5 && (Z0 == ar2)) = false := by simpa using c39))
    (try (have cG8 : (N4 == ab5 && (Z0 == ar2)) = false := by simpa using c39))
    (try (have dV1 : ¬ (N4 = ab5 && (Z0 == ar2)) := by simpa using c39))
    clear c39
    obtain rfl := Option.some.inj H
    go_enter Try.func8, Try.ntmps8
    go_wp2_with (first | ((with_reducible refine gate_dst (N := 1) rfl ?_); refine box_event ?hg (N := 1) ?hd (cs := #[.int .i64 d8, .slice i9 b9.length i5, .slice i1 e0.length i3]) (t := 44) ?hr ?_; (case hd => rfl); (case hg => rfl); (case hr => first | (go_simp; done) | (go_simp; rfl)); intro C3 hg w54 hbox hb; have f5 := aZ (hbox); have bo1 := xgh hg HB; have aa5 := xgh hg HB; replace HB := xhl HB hb; clear hb hbox hg) | ((with_reducible refine gate_callee (f := 28) rfl ?_); refine goesL_ (some 6) rfl rfl Try.func28 (by kernel_rfl) rfl #[] rfl xmp ?_; (with_reducible refine (e8.calls k  true _ A2.out).mono ?_); rintro e w55 ⟨rfl, hb⟩; refine ⟨_, rfl, ?_⟩; replace f5 := xbb f5 hb; replace HB := xhl HB hb; skip; (try clear hb); (try clear H3); (try clear hk); (try clear hi); have bN5 : w55.cell? ⟨C3, 0, none⟩ = some (.int .i64 d8) := (blk_cell f5.out 0).trans rfl; have bN6 : w55.cell? ⟨C3, 1, none⟩ = some (.slice i9 b9.length i5) := (blk_cell f5.out 1).trans rfl; have df7 : w55.cell? ⟨C3, 2, none⟩ = some (.slice i1 e0.length i3) := (blk_cell f5.out 2).trans rfl; have bN7 := blk_frozen f5.out 0; have bN8 := blk_frozen f5.out 1; have df8 := blk_frozen f5.out 2) | ((with_reducible refine gate_callee (f := 29) rfl ?_); refine goesL_ (some 10) rfl rfl Try.func29 (by kernel_rfl) rfl #[.agg #[.int .i64 d8, .slice i9 b9.length i5, .slice i1 e0.length i3]] rfl xmp ?_; (with_reducible refine (objects_Digest.calls k d8 _ _ b9 _ _ e0 aO6 N4 Z0 _ ?side1 ?side2 ?side3 ?side4 A4.out).mono ?_); (case side1 => exact xcb C4 HB); (case side2 => exact J6.out); (case side3 => exact xcb G3 HB); (case side4 => exact N5.out); rintro e w57 ⟨rfl, hb⟩; refine ⟨_, rfl, ?_⟩; replace f5 := xbb f5 hb; replace HB := xhl HB hb; skip; (try clear hb); (try clear H3); (try clear hk); (try clear hi)) | ((with_reducible refine gate_dst (N := 4) rfl ?_); refine box_event ?hg (N := 4) ?hd (cs := #[.int .i64 0, .int .i64 0]) (t := 28) ?hr ?_; (case hd => rfl); (case hg => rfl); (case hr => first | (go_simp; done) | (go_simp; rfl)); intro K8 hg w58 hbox hb; have k5 := aZ (hbox); have by3 := xgh hg HB; have ad9 := xgh hg HB; replace HB := xhl HB hb; have U2 := xnl hg f5; have U3 := xng hg f5; replace f5 := xbb f5 hb; clear hb hbox hg; have dV3 := U3.out; have dV4 := U2.out; have df9 : w58.cell? ⟨K8, 0, none⟩ = some (.int .i64 0) := (blk_cell k5.out 0).trans rfl; have dg0 : w58.cell? ⟨K8, 1, none⟩ = some (.int .i64 0) := (blk_cell k5.out 1).trans rfl; have dg1 := blk_frozen k5.out 0; have dg2 := blk_frozen k5.out 1; have bF8 : w58.cell? ⟨C3, 0, none⟩ = some (.int .i64 d8) := (blk_cell f5.out 0).trans rfl; have dg3 : w58.cell? ⟨C3, 1, none⟩ = some (.slice i9 b9.length i5) := (blk_cell f5.out 1).trans rfl; have dg4 : w58.cell? ⟨C3, 2, none⟩ = some (.slice i1 e0.length i3) := (blk_cell f5.out 2).trans rfl; have bF9 := blk_frozen f5.out 0; have dg5 := blk_frozen f5.out 1; have dg6 := blk_frozen f5.out 2) | ((with_reducible refine gate_callee (f := 30) rfl ?_); refine goesL_ (some 14) rfl rfl Try.func30 (by kernel_rfl) rfl #[.agg #[.int .i64 d8, .slice i9 b9.length i5, .slice i1 e0.length i3]] rfl xmp ?_; (with_reducible refine (a8.calls k d8 _ _ b9 _ _ e0 ab5 ar2 _ ?side1 ?side2 ?side3 ?side4 A5.out).mono ?_); (case side1 => exact Kd.C_below C4.out (by repeat (first | (with_reducible first | exact HB.out | apply lA | apply lN | apply lD | refine lS ?_ aa5.out | refine lS ?_ ad9.out) | exact HB.out))); (case side2 => exact J6.out); (case side3 => exact Kd.C_below G3.out (by repeat (first | (with_reducible first | exact HB.out | apply lA | apply lN | apply lD | refine lS ?_ aa5.out | refine lS ?_ ad9.out) | exact HB.out))); (case side4 => exact N5.out); rintro e w62 ⟨rfl, hb⟩; refine ⟨_, rfl, ?_⟩; replace f5 := xbb f5 hb; replace k5 := aZ (blk_below (g := K8) (o := .cells #[.int .i64 N4, .int .i64 Z0] 28 (0, 0)) (by (with_reducible repeat (first | refine bN ?_ _ | refine bD ?_ | refine bA ?_ _)); refine blk_put (cs := #[.int .i64 N4, .int .i64 0]) ?_ 1 _ rfl; (with_reducible repeat (first | refine bN ?_ _ | refine bD ?_ | refine bA ?_ _)); refine blk_put (cs := #[.int .i64 0, .int .i64 0]) ?_ 0 _ rfl; (with_reducible repeat (first | refine bN ?_ _ | refine bD ?_ | refine bA ?_ _)); exact k5.out) hb); replace HB := xhl HB hb; (try clear hb); (try clear H3); (try clear hk); (try clear hi)) | ((with_reducible refine gate_dst (N := 5) rfl ?_); refine box_event ?hg (N := 5) ?hd (cs := #[.int .i64 0, .int .i64 0]) (t := 28) ?hr ?_; (case hd => rfl); (case hg => rfl); (case hr => first | (go_simp; done) | (go_simp; rfl)); intro ai1 hg w63 hbox hb; have N7 := aZ (hbox); have by4 := xgh hg HB; have aW4 := xgh hg HB; replace HB := xhl HB hb; have U4 := xnl hg f5; have U5 := xng hg f5; replace f5 := xbb f5 hb; have U6 := xnl hg k5; have U7 := xng hg k5; replace k5 := xbb k5 hb; clear hb hbox hg; have bU6 := U5.out; have bU7 := U4.out; have bX4 := U7.out; have bX5 := U6.out; have dg7 : w63.cell? ⟨ai1, 0, none⟩ = some (.int .i64 0) := (blk_cell N7.out 0).trans rfl; have dg8 : w63.cell? ⟨ai1, 1, none⟩ = some (.int .i64 0) := (blk_cell N7.out 1).trans rfl; have dg9 := blk_frozen N7.out 0; have dh0 := blk_frozen N7.out 1; have dh1 : w63.cell? ⟨K8, 0, none⟩ = some (.int .i64 N4) := (blk_cell k5.out 0).trans rfl; have dh2 : w63.cell? ⟨K8, 1, none⟩ = some (.int .i64 Z0) := (blk_cell k5.out 1).trans rfl; have dh3 := blk_frozen k5.out 0; have dh4 := blk_frozen k5.out 1))
    go_ret
    exact ⟨xre, xq HB⟩
  rw [if_pos c6] at H
  have Y9 : (ab5 == 0) = true := beq_iff_eq.mpr c6
  have aR4 : (ab5 != 0) = false := bne_eq_false_iff_eq.mpr c6
  clear c6
  by_cases c7 : N4 = 0
  rotate_left
  · rw [if_neg c7] at H
    have aS2 : (N4 == 0) = false := beq_eq_false_iff_ne.mpr c7
    have bM8 : (N4 != 0) = true := bne_iff_ne.mpr c7
    obtain rfl := Option.some.inj H
    go_enter Try.func8, Try.ntmps8
    go_wp2_with (first | ((with_reducible refine gate_dst (N := 1) rfl ?_); refine box_event ?hg (N := 1) ?hd (cs := #[.int .i64 d8, .slice i9 b9.length i5, .slice i1 e0.length i3]) (t := 44) ?hr ?_; (case hd => rfl); (case hg => rfl); (case hr => first | (go_simp; done) | (go_simp; rfl)); intro C3 hg w25 hbox hb; have f5 := aZ (hbox); have bo1 := xgh hg HB; have aa5 := xgh hg HB; replace HB := xhl HB hb; clear hb hbox hg) | ((with_reducible refine gate_callee (f := 28) rfl ?_); refine goesL_ (some 6) rfl rfl Try.func28 (by kernel_rfl) rfl #[] rfl xmp ?_; (with_reducible refine (e8.calls k  true _ A2.out).mono ?_); rintro e w26 ⟨rfl, hb⟩; refine ⟨_, rfl, ?_⟩; replace f5 := xbb f5 hb; replace HB := xhl HB hb; skip; (try clear hb); (try clear H3); (try clear hk); (try clear hi); have aE4 : w26.cell? ⟨C3, 0, none⟩ = some (.int .i64 d8) := (blk_cell f5.out 0).trans rfl; have bM4 : w26.cell? ⟨C3, 1, none⟩ = some (.slice i9 b9.length i5) := (blk_cell f5.out 1).trans rfl; have dh5 : w26.cell? ⟨C3, 2, none⟩ = some (.slice i1 e0.length i3) := (blk_cell f5.out 2).trans rfl; have aE5 := blk_frozen f5.out 0; have bM5 := blk_frozen f5.out 1; have dh6 := blk_frozen f5.out 2) | ((with_reducible refine gate_callee (f := 29) rfl ?_); refine goesL_ (some 10) rfl rfl Try.func29 (by kernel_rfl) rfl #[.agg #[.int .i64 d8, .slice i9 b9.length i5, .slice i1 e0.length i3]] rfl xmp ?_; (with_reducible refine (objects_Digest.calls k d8 _ _ b9 _ _ e0 aO6 N4 Z0 _ ?side1 ?side2 ?side3 ?side4 A4.out).mono ?_); (case side1 => exact xcb C4 HB); (case side2 => exact J6.out); (case side3 => exact xcb G3 HB); (case side4 => exact N5.out); rintro e w28 ⟨rfl, hb⟩; refine ⟨_, rfl, ?_⟩; replace f5 := xbb f5 hb; replace HB := xhl HB hb; skip; (try clear hb); (try clear H3); (try clear hk); (try clear hi)) | ((with_reducible refine gate_dst (N := 4) rfl ?_); refine box_event ?hg (N := 4) ?hd (cs := #[.int .i64 0, .int .i64 0]) (t := 28) ?hr ?_; (case hd => rfl); (case hg => rfl); (case hr => first | (go_simp; done) | (go_simp; rfl)); intro K8 hg w29 hbox hb; have k5 := aZ (hbox); have by3 := xgh hg HB; have ad9 := xgh hg HB; replace HB := xhl HB hb; have U2 := xnl hg f5; have U3 := xng hg f5; replace f5 := xbb f5 hb; clear hb hbox hg; have bv0 := U3.out; have bv1 := U2.out; have bh6 : w29.cell? ⟨K8, 0, none⟩ = some (.int .i64 0) := (blk_cell k5.out 0).trans rfl; have bE2 : w29.cell? ⟨K8, 1, none⟩ = some (.int .i64 0) := (blk_cell k5.out 1).trans rfl; have bh7 := blk_frozen k5.out 0; have bE3 := blk_frozen k5.out 1; have aC9 : w29.cell? ⟨C3, 0, none⟩ = some (.int .i64 d8) := (blk_cell f5.out 0).trans rfl; have aL6 : w29.cell? ⟨C3, 1, none⟩ = some (.slice i9 b9.length i5) := (blk_cell f5.out 1).trans rfl; have be9 : w29.cell? ⟨C3, 2, none⟩ = some (.slice i1 e0.length i3) := (blk_cell f5.out 2).trans rfl; have aD0 := blk_frozen f5.out 0; have aL7 := blk_frozen f5.out 1; have bf0 := blk_frozen f5.out 2) | ((with_reducible refine gate_callee (f := 30) rfl ?_); refine goesL_ (some 14) rfl rfl Try.func30 (by kernel_rfl) rfl #[.agg #[.int .i64 d8, .slice i9 b9.length i5, .slice i1 e0.length i3]] rfl xmp ?_; (with_reducible refine (a8.calls k d8 _ _ b9 _ _ e0 ab5 ar2 _ ?side1 ?side2 ?side3 ?side4 A5.out).mono ?_); (case side1 => exact Kd.C_below C4.out (by repeat (first | (with_reducible first | exact HB.out | apply lA | apply lN | apply lD | refine lS ?_ aa5.out | refine lS ?_ ad9.out) | exact HB.out))); (case side2 => exact J6.out); (case side3 => exact Kd.C_below G3.out (by repeat (first | (with_reducible first | exact HB.out | apply lA | apply lN | apply lD | refine lS ?_ aa5.out | refine lS ?_ ad9.out) | exact HB.out))); (case side4 => exact N5.out); rintro e w33 ⟨rfl, hb⟩; refine ⟨_, rfl, ?_⟩; replace f5 := xbb f5 hb; replace k5 := aZ (blk_below (g := K8) (o := .cells #[.int .i64 N4, .int .i64 Z0] 28 (0, 0)) (by (with_reducible repeat (first | refine bN ?_ _ | refine bD ?_ | refine bA ?_ _)); refine blk_put (cs := #[.int .i64 N4, .int .i64 0]) ?_ 1 _ rfl; (with_reducible repeat (first | refine bN ?_ _ | refine bD ?_ | refine bA ?_ _)); refine blk_put (cs := #[.int .i64 0, .int .i64 0]) ?_ 0 _ rfl; (with_reducible repeat (first | refine bN ?_ _ | refine bD ?_ | refine bA ?_ _)); exact k5.out) hb); replace HB := xhl HB hb; (try clear hb); (try clear H3); (try clear hk); (try clear hi)) | ((with_reducible refine gate_dst (N := 5) rfl ?_); refine box_event ?hg (N := 5) ?hd (cs := #[.int .i64 0, .int .i64 0]) (t := 28) ?hr ?_; (case hd => rfl); (case hg => rfl); (case hr => first | (go_simp; done) | (go_simp; rfl)); intro ai1 hg w34 hbox hb; have N7 := aZ (hbox); have by4 := xgh hg HB; have aW4 := xgh hg HB; replace HB := xhl HB hb; have U4 := xnl hg f5; have U5 := xng hg f5; replace f5 := xbb f5 hb; have U6 := xnl hg k5; have U7 := xng hg k5; replace k5 := xbb k5 hb; clear hb hbox hg; have bT5 := U5.out; have bT6 := U4.out; have bV0 := U7.out; have bV1 := U6.out; have bM9 : w34.cell? ⟨ai1, 0, none⟩ = some (.int .i64 0) := (blk_cell N7.out 0).trans rfl; have bN0 : w34.cell? ⟨ai1, 1, none⟩ = some (.int .i64 0) := (blk_cell N7.out 1).trans rfl; have bN1 := blk_frozen N7.out 0; have bN2 := blk_frozen N7.out 1; have aD1 : w34.cell? ⟨K8, 0, none⟩ = some (.int .i64 N4) := (blk_cell k5.out 0).trans rfl; have aD2 : w34.cell? ⟨K8, 1, none⟩ = some (.int .i64 Z0) := (blk_cell k5.out 1).trans rfl; have aD3 := blk_frozen k5.out 0; have aD4 := blk_frozen k5.out 1))
    go_ret
    exact ⟨xre, xq HB⟩
  rw [if_pos c7] at H
  have aS2 : (N4 == 0) = true := beq_iff_eq.mpr c7
  have bM8 : (N4 != 0) = false := bne_eq_false_iff_eq.mpr c7
  clear c7
  replace H := Option.bind_eq_some_iff.mp H
  obtain ⟨ar1, A80, H⟩ := H
  replace H : (some (aO6 == ar1)) = some r := H
  have A8 := aZ A80
  clear A80
  obtain rfl := Option.some.inj H
  go_enter Try.func8, Try.ntmps8
  go_wp2_with (first | ((with_reducible refine gate_dst (N := 1) rfl ?_); refine box_event ?hg (N := 1) ?hd (cs := #[.int .i64 d8, .slice i9 b9.length i5, .slice i1 e0.length i3]) (t := 44) ?hr ?_; (case hd => rfl); (case hg => rfl); (case hr => first | (go_simp; done) | (go_simp; rfl)); intro C3 hg w9 hbox hb; have f5 := aZ (hbox); have bo1 := xgh hg HB; have aa5 := xgh hg HB; replace HB := xhl HB hb; clear hb hbox hg) | ((with_reducible refine gate_callee (f := 28) rfl ?_); refine goesL_ (some 6) rfl rfl Try.func28 (by kernel_rfl) rfl #[] rfl xmp ?_; (with_reducible refine (e8.calls k  true _ A2.out).mono ?_); rintro e w10 ⟨rfl, hb⟩; refine ⟨_, rfl, ?_⟩; replace f5 := xbb f5 hb; replace HB := xhl HB hb; skip; (try clear hb); (try clear H3); (try clear hk); (try clear hi); have aN3 : w10.cell? ⟨C3, 0, none⟩ = some (.int .i64 d8) := (blk_cell f5.out 0).trans rfl; have bJ1 : w10.cell? ⟨C3, 1, none⟩ = some (.slice i9 b9.length i5) := (blk_cell f5.out 1).trans rfl; have bJ2 : w10.cell? ⟨C3, 2, none⟩ = some (.slice i1 e0.length i3) := (blk_cell f5.out 2).trans rfl; have aN4 := blk_frozen f5.out 0; have bJ3 := blk_frozen f5.out 1; have bJ4 := blk_frozen f5.out 2) | ((with_reducible refine gate_callee (f := 29) rfl ?_); refine goesL_ (some 10) rfl rfl Try.func29 (by kernel_rfl) rfl #[.agg #[.int .i64 d8, .slice i9 b9.length i5, .slice i1 e0.length i3]] rfl xmp ?_; (with_reducible refine (objects_Digest.calls k d8 _ _ b9 _ _ e0 aO6 N4 Z0 _ ?side1 ?side2 ?side3 ?side4 A4.out).mono ?_); (case side1 => exact xcb C4 HB); (case side2 => exact J6.out); (case side3 => exact xcb G3 HB); (case side4 => exact N5.out); rintro e w12 ⟨rfl, hb⟩; refine ⟨_, rfl, ?_⟩; replace f5 := xbb f5 hb; replace HB := xhl HB hb; skip; (try clear hb); (try clear H3); (try clear hk); (try clear hi)) | ((with_reducible refine gate_dst (N := 4) rfl ?_); refine box_event ?hg (N := 4) ?hd (cs := #[.int .i64 0, .int .i64 0]) (t := 28) ?hr ?_; (case hd => rfl); (case hg => rfl); (case hr => first | (go_simp; done) | (go_simp; rfl)); intro K8 hg w13 hbox hb; have k5 := aZ (hbox); have by3 := xgh hg HB; have ad9 := xgh hg HB; replace HB := xhl HB hb; have U2 := xnl hg f5; have U3 := xng hg f5; replace f5 := xbb f5 hb; clear hb hbox hg; have cx4 := U3.out; have cx5 := U2.out; have bI7 : w13.cell? ⟨K8, 0, none⟩ = some (.int .i64 0) := (blk_cell k5.out 0).trans rfl; have bI8 : w13.cell? ⟨K8, 1, none⟩ = some (.int .i64 0) := (blk_cell k5.out 1).trans rfl; have bI9 := blk_frozen k5.out 0; have bJ0 := blk_frozen k5.out 1; have ao2 : w13.cell? ⟨C3, 0, none⟩ = some (.int .i64 d8) := (blk_cell f5.out 0).trans rfl; have aB7 : w13.cell? ⟨C3, 1, none⟩ = some (.slice i9 b9.length i5) := (blk_cell f5.out 1).trans rfl; have aB8 : w13.cell? ⟨C3, 2, none⟩ = some (.slice i1 e0.length i3) := (blk_cell f5.out 2).trans rfl; have ao3 := blk_frozen f5.out 0; have aB9 := blk_frozen f5.out 1; have aC0 := blk_frozen f5.out 2) | ((with_reducible refine gate_callee (f := 30) rfl ?_); refine goesL_ (some 14) rfl rfl Try.func30 (by kernel_rfl) rfl #[.agg #[.int .i64 d8, .slice i9 b9.length i5, .slice i1 e0.length i3]] rfl xmp ?_; (with_reducible refine (a8.calls k d8 _ _ b9 _ _ e0 ab5 ar2 _ ?side1 ?side2 ?side3 ?side4 A5.out).mono ?_); (case side1 => exact Kd.C_below C4.out (by repeat (first | (with_reducible first | exact HB.out | apply lA | apply lN | apply lD | refine lS ?_ aa5.out | refine lS ?_ ad9.out) | exact HB.out))); (case side2 => exact J6.out); (case side3 => exact Kd.C_below G3.out (by repeat (first | (with_reducible first | exact HB.out | apply lA | apply lN | apply lD | refine lS ?_ aa5.out | refine lS ?_ ad9.out) | exact HB.out))); (case side4 => exact N5.out); rintro e w17 ⟨rfl, hb⟩; refine ⟨_, rfl, ?_⟩; replace f5 := xbb f5 hb; replace k5 := aZ (blk_below (g := K8) (o := .cells #[.int .i64 N4, .int .i64 Z0] 28 (0, 0)) (by (with_reducible repeat (first | refine bN ?_ _ | refine bD ?_ | refine bA ?_ _)); refine blk_put (cs := #[.int .i64 N4, .int .i64 0]) ?_ 1 _ rfl; (with_reducible repeat (first | refine bN ?_ _ | refine bD ?_ | refine bA ?_ _)); refine blk_put (cs := #[.int .i64 0, .int .i64 0]) ?_ 0 _ rfl; (with_reducible repeat (first | refine bN ?_ _ | refine bD ?_ | refine bA ?_ _)); exact k5.out) hb); replace HB := xhl HB hb; (try clear hb); (try clear H3); (try clear hk); (try clear hi)) | ((with_reducible refine gate_dst (N := 5) rfl ?_); refine box_event ?hg (N := 5) ?hd (cs := #[.int .i64 0, .int .i64 0]) (t := 28) ?hr ?_; (case hd => rfl); (case hg => rfl); (case hr => first | (go_simp; done) | (go_simp; rfl)); intro ai1 hg w18 hbox hb; have N7 := aZ (hbox); have by4 := xgh hg HB; have aW4 := xgh hg HB; replace HB := xhl HB hb; have U4 := xnl hg f5; have U5 := xng hg f5; replace f5 := xbb f5 hb; have U6 := xnl hg k5; have U7 := xng hg k5; replace k5 := xbb k5 hb; clear hb hbox hg; have aS3 := U5.out; have aS4 := U4.out; have cH0 := U7.out; have cH1 := U6.out; have aC5 : w18.cell? ⟨ai1, 0, none⟩ = some (.int .i64 0) := (blk_cell N7.out 0).trans rfl; have aC6 : w18.cell? ⟨ai1, 1, none⟩ = some (.int .i64 0) := (blk_cell N7.out 1).trans rfl; have aC7 := blk_frozen N7.out 0; have aC8 := blk_frozen N7.out 1; have bn8 : w18.cell? ⟨K8, 0, none⟩ = some (.int .i64 N4) := (blk_cell k5.out 0).trans rfl; have bN9 : w18.cell? ⟨K8, 1, none⟩ = some (.int .i64 Z0) := (blk_cell k5.out 1).trans rfl; have bn9 := blk_frozen k5.out 0; have bO0 := blk_frozen k5.out 1; have dh7 : w18.cell? ⟨C3, 0, none⟩ = some (.int .i64 d8) := (blk_cell f5.out 0).trans rfl; have dh8 : w18.cell? ⟨C3, 1, none⟩ = some (.slice i9 b9.length i5) := (blk_cell f5.out 1).trans rfl; have dh9 : w18.cell? ⟨C3, 2, none⟩ = some (.slice i1 e0.length i3) := (blk_cell f5.out 2).trans rfl; have di0 := blk_frozen f5.out 0; have di1 := blk_frozen f5.out 1; have di2 := blk_frozen f5.out 2) | (go_at_call 31; (with_reducible refine (b3.calls k d8 _ _ b9 _ _ e0 ar1 _ ?side1 ?side2 ?side3 ?side4 A8.out).mono ?_); (case side1 => exact Kd.C_below C4.out (by repeat (first | (with_reducible first | exact HB.out | apply lA | apply lN | apply lD | refine lS ?_ aa5.out | refine lS ?_ ad9.out | refine lS ?_ aW4.out) | exact HB.out))); (case side2 => exact J6.out); (case side3 => exact Kd.C_below G3.out (by repeat (first | (with_reducible first | exact HB.out | apply lA | apply lN | apply lD | refine lS ?_ aa5.out | refine lS ?_ ad9.out | refine lS ?_ aW4.out) | exact HB.out))); (case side4 => exact N5.out); rintro e w24 ⟨rfl, hb⟩; replace f5 := xbb f5 hb; replace k5 := xbb k5 hb; replace N7 := aZ (blk_below (g := ai1) (o := .cells #[.int .i64 ab5, .int .i64 ar2] 28 (0, 0)) (by (with_reducible repeat (first | refine bN ?_ _ | refine bD ?_ | refine bA ?_ _)); refine blk_put (cs := #[.int .i64 ab5, .int .i64 0]) ?_ 1 _ rfl; (with_reducible repeat (first | refine bN ?_ _ | refine bD ?_ | refine bA ?_ _)); refine blk_put (cs := #[.int .i64 0, .int .i64 0]) ?_ 0 _ rfl; (with_reducible repeat (first | refine bN ?_ _ | refine bD ?_ | refine bA ?_ _)); exact N7.out) hb); replace HB := xhl HB hb; (try clear hb); (try clear H3); (try clear hk); (try clear hi)))
  go_ret
  exact ⟨xre, xq HB⟩
/-- THE PURE STATEMENT of changeforgelaw3_ObjectsDigestMatchesSpec. -/
def changeforgelaw3_ObjectsDigestMatchesSpec.Pure : Prop := ∀ (x0 : S44), S44.ok x0 → ∃ k, changeforgelaw3_ObjectsDigestMatchesSpec.f k x0.f0 x0.f1 x0.f2 = some true
end

end Go.Proofs.Ytnmkmamobhkcbaa.P

namespace Go.Proofs.Ytnmkmamobhkcbaa.P
open Go.RowKit Go.Proofs.YtnmkmamobhkcbaaW.PrintWords Go.Proofs.YtnmkmamobhkcbaaW.PrintOpen
theorem aI6 : Opens Try.prog 44 k44 S44.ok := opens_struct Try.underlying44 (by kernel_rfl) (opensFs_cons (opens_int Try.underlying3 (by kernel_rfl)) rfl (opensFs_cons (opens_slice Try.underlying42 (by kernel_rfl) (B := 8) (by kernel_rfl) (opens_int Try.underlying3 (by kernel_rfl))) rfl (opensFs_one (opens_slice Try.underlying26 (by kernel_rfl) (B := 1) (by kernel_rfl) (opens_int Try.underlying5 (by kernel_rfl))) rfl rfl))) (fun x : S44 => (x.f0, x.f1, x.f2)) (fun a => ⟨a.1, a.2.1, a.2.2⟩) (fun _ => rfl)
theorem bp0 : Opens Try.prog 46 k46 r9.ok := opens_struct Try.underlying46 (by kernel_rfl) (opensFs_cons (opens_int Try.underlying3 (by kernel_rfl)) rfl (opensFs_one aI6 rfl rfl)) (fun x : r9 => (x.f0, x.f1)) (fun a => ⟨a.1, a.2⟩) (fun _ => rfl)
theorem ck6 : Opens Try.prog 24 k24 S24.ok := opens_struct Try.underlying24 (by kernel_rfl) (opensFs_one (opens_slice Try.underlying22 (by kernel_rfl) (B := 64) (by kernel_rfl) bp0) rfl rfl) (fun x : S24 => x.f0) (fun a => ⟨a⟩) (fun _ => rfl)

end Go.Proofs.Ytnmkmamobhkcbaa.P

/- Words for pure statements: what a printed function comes to, given rounds enough ('Ev'); case by case, call by call. -/
namespace Go.Proofs.YtnmkmamobhkcbaaW.PrintEv
open Go.RowKit Go.Proofs.YtnmkmamobhkcbaaW.PrintWords
section
variable {α β : Type}
theorem ev_pos {c : Prop} [Decidable c] {A B : Nat → Option α} {r : α} (h : c) (hA : Ev A r) : Ev (fun k => if c then A k else B k) r := by
  simpa only [if_pos h] using hA
theorem ev_neg {c : Prop} [Decidable c] {A B : Nat → Option α} {r : α} (h : ¬ c) (hB : Ev B r) : Ev (fun k => if c then A k else B k) r := by
  simpa only [if_neg h] using hB
theorem ev_cases {c : Prop} [Decidable c] {A B : Nat → Option α} {r : α} (hA : c → Ev A r) (hB : ¬ c → Ev B r) : Ev (fun k => if c then A k else B k) r := by
  by_cases h : c
  · exact ev_pos h (hA h)
  · exact ev_neg h (hB h)
theorem ev_ite {c : Prop} [Decidable c] {A B : Nat → Option α} {r1 r2 : α} (hA : c → Ev A r1) (hB : ¬ c → Ev B r2) : Ev (fun k => if c then A k else B k) (if c then r1 else r2) := by
  by_cases h : c
  · rw [if_pos h]; exact ev_pos h (hA h)
  · rw [if_neg h]; exact ev_neg h (hB h)
theorem ev_cast {g : Nat → Option α} {r r' : α} (h : Ev g r) (e : r = r') : Ev g r' := e ▸ h
theorem ev_of {g g' : Nat → Option α} {r : α} (e : ∀ k, g k = g' k) (h : Ev g' r) : Ev g r := Ev.congr e h
theorem ev_some {f : Nat → α → Option β} {a : α} {r : β} (h : Ev (fun k => f k a) r) : Ev (fun k => (some a).bind (f k)) r := h
theorem ev_bind {g : Nat → Option α} {f : Nat → α → Option β} {a : α} {r : β} (h : Ev g a) (k : Ev (fun n => f n a) r) : Ev (fun n => (g n).bind (f n)) r := Ev.bind h k
/-- A call that has no rounds. -/
theorem ev_const {g : Option α} {f : Nat → α → Option β} {a : α} {r : β} (h : g = some a) (k : Ev (fun n => f n a) r) : Ev (fun n => g.bind (f n)) r := by
  subst h; exact k
theorem ev_det {g : Nat → Option α} {r r' : α} (h : Ev g r) (h' : Ev g r') : r = r' := by
  obtain ⟨K, hK⟩ := h
  obtain ⟨K', hK'⟩ := h'
  have h1 := hK (K + K') (by omega)
  have h2 := hK' (K + K') (by omega)
  rw [h1] at h2
  exact Option.some.inj h2
theorem ev_now (r : α) : Ev (fun _ => some r) r := Ev.now r
theorem ev_ex {g : Nat → Option α} {r : α} (h : Ev g r) : ∃ k, g k = some r := Ev.rounds h
end
theorem w64 {x : Int} (h : -9223372036854775808 ≤ x ∧ x ≤ 9223372036854775807) : wrap64 x = x := by unfold wrap64; omega
theorem rd_getD (xs : List Int) (i : Int) : rd xs i = xs.getD i.toNat 0 := rfl
theorem rd_nat (xs : List Int) {i : Nat} (h : i < xs.length) : rd xs (i : Int) = xs[i] := by
  simp [rd, List.getD_eq_getElem?_getD, List.getElem?_eq_getElem h]
theorem rdOf_nat {α : Type} (d : α) (xs : List α) {i : Nat} (h : i < xs.length) : rdOf d xs (i : Int) = xs[i] := by
  simp [rdOf, List.getD_eq_getElem?_getD, List.getElem?_eq_getElem h]
theorem rdOf_set {α : Type} (d : α) (xs : List α) (v : α) {i j : Int} (hi0 : 0 ≤ i) (hi : i < xs.length) (hj : 0 ≤ j) : rdOf d (xs.set i.toNat v) j = if j = i then v else rdOf d xs j := by
  unfold rdOf
  rw [List.getD_eq_getElem?_getD, List.getD_eq_getElem?_getD, List.getElem?_set]
  by_cases h : j = i
  · subst h
    rw [if_pos rfl, if_pos (by omega), if_pos rfl]; rfl
  · rw [if_neg (by omega), if_neg h]
theorem rd_set (xs : List Int) (v : Int) {i j : Int} (hi0 : 0 ≤ i) (hi : i < xs.length) (hj : 0 ≤ j) : rd (xs.set i.toNat v) j = if j = i then v else rd xs j := rdOf_set 0 xs v hi0 hi hj
theorem rdOf_replicate {α : Type} (d : α) (n : Nat) (i : Int) : rdOf d (List.replicate n d) i = d := by
  unfold rdOf
  rw [List.getD_eq_getElem?_getD, List.getElem?_replicate]
  split <;> rfl
theorem rd_mem {xs : List Int} {i : Int} (h0 : 0 ≤ i) (h : i < xs.length) : rd xs i ∈ xs := by
  obtain ⟨n, rfl⟩ := Int.eq_ofNat_of_zero_le h0
  rw [rd_nat xs (by omega)]
  exact List.getElem_mem _
theorem mem_rd {xs : List Int} {x : Int} (h : x ∈ xs) : ∃ i : Int, 0 ≤ i ∧ i < xs.length ∧ rd xs i = x := by
  obtain ⟨n, hn, rfl⟩ := List.mem_iff_getElem.1 h
  exact ⟨n, by omega, by omega, rd_nat xs hn⟩
theorem rd_append_left {xs ys : List Int} {i : Int} (h0 : 0 ≤ i) (h : i < xs.length) : rd (xs ++ ys) i = rd xs i := by
  unfold rd
  rw [List.getD_eq_getElem?_getD, List.getD_eq_getElem?_getD, List.getElem?_append_left (by omega)]
theorem rd_append_last {xs : List Int} {y : Int} : rd (xs ++ [y]) (xs.length : Int) = y := by
  unfold rd
  rw [List.getD_eq_getElem?_getD]
  simp
theorem drop_cons_rd {xs : List Int} {i : Nat} (h : i < xs.length) : xs.drop i = rd xs (i : Int) :: xs.drop (i + 1) := by
  rw [rd_nat xs h]; exact List.drop_eq_getElem_cons h
theorem ext_rd {xs ys : List Int} (hl : xs.length = ys.length) (h : ∀ i : Int, 0 ≤ i → i < xs.length → rd xs i = rd ys i) : xs = ys := by
  apply List.ext_getElem hl
  intro i h1 h2
  have := h i (by omega) (by omega)
  rwa [rd_nat xs h1, rd_nat ys h2] at this
theorem ext_rdOf {α : Type} {d : α} {xs ys : List α} (hl : xs.length = ys.length) (h : ∀ i : Int, 0 ≤ i → i < xs.length → rdOf d xs i = rdOf d ys i) : xs = ys := by
  apply List.ext_getElem hl
  intro i h1 h2
  have := h i (by omega) (by omega)
  rwa [rdOf_nat d xs h1, rdOf_nat d ys h2] at this
end Go.Proofs.YtnmkmamobhkcbaaW.PrintEv

/- Products modulo 2^61 - 1: what math/bits' Mul64 and Div64 come to at the digest's modulus, and digest.mul. -/
namespace Go.Proofs.Ytnmkmamobhkcbaa.Dig
open Go.RowKit Go.Proofs.YtnmkmamobhkcbaaW.PrintWords Go.Proofs.YtnmkmamobhkcbaaW.PrintEv Go.Proofs.Ytnmkmamobhkcbaa.P
open Go.Proofs.YtnmkmamobhkcbaaW.PrintMore
set_option linter.unusedVariables false

theorem wu {x : Int} (h : 0 ≤ x ∧ x < 18446744073709551616) : IntKind.u64.wrap x = x := by rw [IntKind.wrap_u64]; omega
theorem aW5 {x : Int} (h : 0 ≤ x ∧ x < 18446744073709551616) : Go.bits .and .u64 x 4294967295 = x % 4294967296 := by
  obtain ⟨n, rfl⟩ := Int.eq_ofNat_of_zero_le h.1
  have := bits_and_u64_nat n 4294967295 (by omega) (by omega)
  rw [show ((4294967295 : Nat) : Int) = 4294967295 from rfl] at this
  rw [this, show (4294967295 : Nat) = 2 ^ 32 - 1 from rfl, Nat.and_two_pow_sub_one_eq_mod]
  omega
theorem or8 {a b : Int} (ha : 0 ≤ a ∧ a < 2305843009213693952) (hb : 0 ≤ b ∧ b < 8) : Go.bits .or .u64 (a * 8) b = a * 8 + b := by
  obtain ⟨n, rfl⟩ := Int.eq_ofNat_of_zero_le ha.1
  obtain ⟨m, rfl⟩ := Int.eq_ofNat_of_zero_le hb.1
  have := bits_or_u64_nat (n * 8) m (by omega) (by omega)
  rw [show ((n * 8 : Nat) : Int) = (n : Int) * 8 by omega] at this
  rw [this]
  have h2 := Nat.two_pow_add_eq_or_of_lt (i := 3) (b := m) (by omega) n
  rw [show n * 8 = 2 ^ 3 * n by omega, ← h2]
  omega
theorem by5 {a c : Int} (ha : 0 ≤ a ∧ a < 2305843009213693952) (hc : 0 ≤ c ∧ c < 1048576) : bits_Mul64.f a c = some (a * c / 18446744073709551616, a * c % 18446744073709551616) := by
  obtain ⟨p, hp⟩ : ∃ p, p = a / 4294967296 * c := ⟨_, rfl⟩
  obtain ⟨q, hq⟩ : ∃ q, q = a % 4294967296 * c := ⟨_, rfl⟩
  have hN : a * c = p * 4294967296 + q := by
    have h1 : a = a / 4294967296 * 4294967296 + a % 4294967296 := by omega
    conv => lhs; rw [h1]
    rw [Int.add_mul, hp, hq, Int.mul_right_comm]
  have hp0 : 0 ≤ p := by rw [hp]; exact Int.mul_nonneg (by omega) hc.1
  have hq0 : 0 ≤ q := by rw [hq]; exact Int.mul_nonneg (by omega) hc.1
  have hp1 : p ≤ 536870912 * c := by rw [hp]; exact Int.mul_le_mul_of_nonneg_right (by omega) hc.1
  have hq1 : q ≤ 4294967295 * c := by rw [hq]; exact Int.mul_le_mul_of_nonneg_right (by omega) hc.1
  have hc0 : c / 4294967296 = 0 := by omega
  unfold bits_Mul64.f
  rw [aW5 (x := a) (by omega), aW5 (x := c) (by omega), hc0, show c % 4294967296 = c by omega, ← hp, ← hq, Int.mul_zero, Int.mul_zero, wu (x := 0) (by omega), wu (x := p) (by omega), wu (x := q) (by omega), wu (x := p + q / 4294967296) (by omega), aW5 (x := p + q / 4294967296) (by omega), hN]
  rw [wu (x := 0 + (p + q / 4294967296) / 4294967296) (by omega), wu (x := (p + q / 4294967296) % 4294967296 + 0) (by omega), wu (by omega), IntKind.wrap_u64]
  congr 1
  refine Prod.ext ?_ ?_
  · show _ = (p * 4294967296 + q) / 18446744073709551616
    omega
  · show _ = (p * 4294967296 + q) % 18446744073709551616
    omega

/-! the division: u: the upper part of eight times the number, v: its lowest 32 bits; the divisor is 8 * (2^61 - 1) -/
theorem div_exit {u v q : Int} (hu : 0 ≤ u ∧ u < 4503599627370496) (hv : 0 ≤ v ∧ v < 4294967296) (hq : 0 ≤ q ∧ q ≤ 2097152) (h1 : q * 18446744073709551608 ≤ u * 4294967296 + v) (h2 : u * 4294967296 + v < (q + 1) * 18446744073709551608) :
    shr .u64 (IntKind.u64.wrap ((IntKind.u64.wrap ((IntKind.u64.wrap (u * 4294967296)) + v)) - (IntKind.u64.wrap (q * 18446744073709551608)))) 3 = (u * 4294967296 + v) % 18446744073709551608 / 8 := by
  unfold shr
  simp only [IntKind.wrap_u64]
  show (((u * 4294967296) % 18446744073709551616 + v) % 18446744073709551616 - (q * 18446744073709551608) % 18446744073709551616) % 18446744073709551616 / 8 = _
  omega
theorem cg4 {u v : Int} (hu : 0 ≤ u ∧ u < 4503599627370496) (hv : 0 ≤ v ∧ v < 4294967296) : ∀ (n : Nat) (q r : Int), q = (n : Int) → q ≤ 2097152 → r = u - q * 4294967295 → 0 ≤ r → r < 4294967296 → (q + 1) * 18446744073709551608 > u * 4294967296 + v →
    ∃ Q, Ev (fun k => b5.l1 k 18446744073709551608 3 4294967295 4294967288 v 0 r u q) (Q, (u * 4294967296 + v) % 18446744073709551608 / 8) := by
  intro n
  induction n with
  | zero =>
    intro q r hq hq1 hr h0 h1 h2
    have hq : q = 0 := by omega
    subst hq
    refine ⟨IntKind.u64.wrap (IntKind.u64.wrap (0 * 4294967296) + 0), ?_⟩
    refine Ev.step (fun k_ => by rw [b5.l1]) ?_
    refine ev_neg (by omega) ?_
    rw [show (0 : Int) * 4294967288 = 0 from rfl, wu (x := 0) (by omega), wu (x := 4294967296 * r) (by omega), wu (x := 4294967296 * r + v) (by omega)]
    refine Ev.step (fun k_ => by rw [b5.j4]) ?_
    refine ev_neg (by simp; omega) (ev_pos (by decide) ?_)
    refine ev_cast (ev_now _) (Prod.ext ?_ ?_)
    · rfl
    · exact div_exit hu hv (by omega) (by omega) (by omega)
  | succ n ih =>
    intro q r hq hq1 hr h0 h1 h2
    by_cases hc : q * 4294967288 > 4294967296 * r + v
    · by_cases hb : r + 4294967295 ≥ 4294967296
      · refine ⟨IntKind.u64.wrap (IntKind.u64.wrap (0 * 4294967296) + IntKind.u64.wrap (q - 1)), ?_⟩
        refine Ev.step (fun k_ => by rw [b5.l1]) ?_
        refine ev_neg (by omega) ?_
        rw [wu (x := q * 4294967288) (by omega), wu (x := 4294967296 * r) (by omega), wu (x := 4294967296 * r + v) (by omega)]
        refine Ev.step (fun k_ => by rw [b5.j4]) ?_
        refine ev_pos (by simp; omega) ?_
        rw [wu (x := r + 4294967295) (by omega)]
        refine ev_pos (by omega) (ev_pos (by decide) ?_)
        refine ev_cast (ev_now _) (Prod.ext rfl ?_)
        rw [wu (x := q - 1) (by omega)]
        exact div_exit hu hv (by omega) (by omega) (by omega)
      · obtain ⟨Q, hQ⟩ := ih (q - 1) (r + 4294967295) (by omega) (by omega) (by omega) (by omega) (by omega) (by omega)
        refine ⟨Q, ?_⟩
        refine Ev.step (fun k_ => by rw [b5.l1]) ?_
        refine ev_neg (by omega) ?_
        rw [wu (x := q * 4294967288) (by omega), wu (x := 4294967296 * r) (by omega), wu (x := 4294967296 * r + v) (by omega)]
        refine Ev.step (fun k_ => by rw [b5.j4]) ?_
        refine ev_pos (by simp; omega) ?_
        rw [wu (x := r + 4294967295) (by omega), wu (x := q - 1) (by omega)]
        exact ev_neg (by omega) hQ
    · refine ⟨IntKind.u64.wrap (IntKind.u64.wrap (0 * 4294967296) + q), ?_⟩
      refine Ev.step (fun k_ => by rw [b5.l1]) ?_
      refine ev_neg (by omega) ?_
      rw [wu (x := q * 4294967288) (by omega), wu (x := 4294967296 * r) (by omega), wu (x := 4294967296 * r + v) (by omega)]
      refine Ev.step (fun k_ => by rw [b5.j4]) ?_
      refine ev_neg (by simp; omega) (ev_pos (by decide) ?_)
      exact ev_cast (ev_now _) (Prod.ext rfl (div_exit hu hv (by omega) (by omega) (by omega)))
theorem div_ev {h l : Int} (hh : 0 < h ∧ h < 131072) (hl : 0 ≤ l ∧ l < 18446744073709551616) : ∃ Q, Ev (fun k => b5.f k h l 2305843009213693951) (Q, (h * 18446744073709551616 + l) % 2305843009213693951) := by
  obtain ⟨u, hu⟩ : ∃ u, u = (h * 8 + l / 2305843009213693952) * 4294967296 + l * 8 % 18446744073709551616 / 4294967296 := ⟨_, rfl⟩
  obtain ⟨v, hv⟩ : ∃ v, v = l * 8 % 18446744073709551616 % 4294967296 := ⟨_, rfl⟩
  have hN : u * 4294967296 + v = 8 * (h * 18446744073709551616 + l) := by omega
  obtain ⟨Q, hQ⟩ := cg4 (u := u) (v := v) (by omega) (by omega) (u / 4294967295).toNat (u / 4294967295) (u - u / 4294967295 * 4294967295) (by omega) (by omega) rfl (by omega) (by omega) (by omega)
  have hres : (u * 4294967296 + v) % 18446744073709551608 / 8 = (h * 18446744073709551616 + l) % 2305843009213693951 := by rw [hN]; omega
  rw [hres] at hQ
  refine ⟨Q, ?_⟩
  have s1 : shl .u64 2305843009213693951 3 = 18446744073709551608 := by unfold shl; rw [IntKind.wrap_u64]; rfl
  have s2 : shl .u64 h 3 = h * 8 := by unfold shl; rw [IntKind.wrap_u64]; show h * 8 % 18446744073709551616 = _; omega
  have s3 : shl .u64 l 3 = l * 8 % 18446744073709551616 := by unfold shl; rw [IntKind.wrap_u64]; rfl
  have s4 : shr .u64 l 61 = l / 2305843009213693952 := by unfold shr; rfl
  have h3 : IntKind.u64.wrap 3 = 3 := wu (by omega)
  have h61 : IntKind.u64.wrap (64 - 3) = 61 := wu (by omega)
  have ho := or8 (a := h) (b := l / 2305843009213693952) (by omega) (by omega)
  have a1 : Go.bits .and .u64 18446744073709551608 4294967295 = 4294967288 := by rw [aW5 (by omega)]; rfl
  have a2 : Go.bits .and .u64 (l * 8 % 18446744073709551616) 4294967295 = v := by rw [aW5 (by omega), hv]
  have t0 : Int.tdiv (h * 8 + l / 2305843009213693952) 4294967295 = 0 := by rw [Int.tdiv_eq_ediv_of_nonneg (by omega)]; omega
  have t1 : Int.tdiv u 4294967295 = u / 4294967295 := Int.tdiv_eq_ediv_of_nonneg (by omega)
  unfold b5.f
  refine ev_neg (by decide) (ev_neg (by omega) (ev_neg (by omega) (ev_const (show bits_LeadingZeros64.f 2305843009213693951 = some 3 from rfl) ?_)))
  rw [h3, h61, s1, s2, s3, s4, ho, show (18446744073709551608 : Int) / 4294967296 = 4294967295 from rfl, a1, a2, t0, wu (x := 0) (by omega), Int.zero_mul, wu (x := 0) (by omega), wu (x := h * 8 + l / 2305843009213693952 - 0) (by omega)]
  refine ev_pos (by decide) (ev_pos (by decide) (ev_neg (by decide) ?_))
  refine Ev.step (fun k_ => by rw [b5.l0]) ?_
  rw [show (0 : Int) * 4294967288 = 0 from rfl, wu (x := 0) (by omega), wu (x := 4294967296 * (h * 8 + l / 2305843009213693952 - 0)) (by omega), wu (by omega)]
  refine ev_neg (by decide) ?_
  refine Ev.step (fun k_ => by rw [b5.j1]) ?_
  refine ev_neg (by simp; omega) ?_
  refine Ev.step (fun k_ => by rw [b5.j2]) ?_
  have e1 : IntKind.u64.wrap ((IntKind.u64.wrap ((IntKind.u64.wrap ((h * 8 + l / 2305843009213693952) * 4294967296)) + l * 8 % 18446744073709551616 / 4294967296)) - (IntKind.u64.wrap (0 * 18446744073709551608))) = u := by
    rw [Int.zero_mul, wu (x := 0) (by omega), wu (x := (h * 8 + l / 2305843009213693952) * 4294967296) (by omega), wu (x := (h * 8 + l / 2305843009213693952) * 4294967296 + l * 8 % 18446744073709551616 / 4294967296) (by omega), wu (by omega)]
    omega
  rw [e1, t1, wu (x := u / 4294967295) (by omega), wu (x := u / 4294967295 * 4294967295) (by omega), wu (x := u - u / 4294967295 * 4294967295) (by omega)]
  exact ev_neg (by decide) hQ
theorem mul_ev {a c : Int} (ha : 0 ≤ a ∧ a < 2305843009213693951) (hc : 0 ≤ c ∧ c < 1048576) : Ev (fun k => digest_mul.f k a c) (a * c % 2305843009213693951) := by
  have hN0 : 0 ≤ a * c := Int.mul_nonneg ha.1 hc.1
  have hN1 : a * c ≤ 2305843009213693951 * c := Int.mul_le_mul_of_nonneg_right (by omega) hc.1
  obtain ⟨N, hN⟩ : ∃ N, N = a * c := ⟨_, rfl⟩
  unfold digest_mul.f
  rw [by5 (by omega) hc, ← hN]
  rw [← hN] at hN0 hN1
  have ht : Int.tmod (N / 18446744073709551616) 2305843009213693951 = N / 18446744073709551616 := by rw [Int.tmod_eq_emod_of_nonneg (by omega)]; omega
  refine ev_some ?_
  rw [ht]
  by_cases h0 : N / 18446744073709551616 = 0
  · have : b5.f 0 0 (N % 18446744073709551616) 2305843009213693951 = some (IntKind.u64.wrap (Int.tdiv (N % 18446744073709551616) 2305843009213693951), Int.tmod (N % 18446744073709551616) 2305843009213693951) := by
      unfold b5.f
      rw [if_neg (by decide), if_neg (by decide), if_pos rfl]
    rw [h0]
    refine ev_bind (a := (IntKind.u64.wrap (Int.tdiv (N % 18446744073709551616) 2305843009213693951), Int.tmod (N % 18446744073709551616) 2305843009213693951)) ?_ ?_
    · unfold b5.f
      exact ev_neg (by decide) (ev_neg (by decide) (ev_pos rfl (ev_now _)))
    · refine ev_cast (ev_now _) ?_
      show Int.tmod _ _ = _
      rw [Int.tmod_eq_emod_of_nonneg (by omega)]
      omega
  · obtain ⟨Q, hQ⟩ := div_ev (h := N / 18446744073709551616) (l := N % 18446744073709551616) (by omega) (by omega)
    refine ev_bind hQ (ev_cast (ev_now _) ?_)
    show (N / 18446744073709551616 * 18446744073709551616 + N % 18446744073709551616) % 2305843009213693951 = _
    congr 1
    omega
end Go.Proofs.Ytnmkmamobhkcbaa.Dig

/- The digest of bytes: the program's and the reference's, one value. -/
namespace Go.Proofs.Ytnmkmamobhkcbaa.Dig
open Go.RowKit Go.Proofs.YtnmkmamobhkcbaaW.PrintWords Go.Proofs.YtnmkmamobhkcbaaW.PrintEv Go.Proofs.Ytnmkmamobhkcbaa.P
set_option linter.unusedVariables false

theorem mod_lt (x : Int) : 0 ≤ x % 2305843009213693951 ∧ x % 2305843009213693951 < 2305843009213693951 := ⟨Int.emod_nonneg _ (by decide), Int.emod_lt_of_pos _ (by decide)⟩
theorem tmod_M {x : Int} (h : 0 ≤ x) : Int.tmod x 2305843009213693951 = x % 2305843009213693951 := Int.tmod_eq_emod_of_nonneg h
theorem mod_add_mul (a b c : Int) : (a % 2305843009213693951 + b % 2305843009213693951 * c) % 2305843009213693951 = (a + b * c) % 2305843009213693951 := by
  rw [Int.add_emod, Int.emod_emod, Int.mul_emod (b % 2305843009213693951), Int.emod_emod, ← Int.mul_emod, ← Int.add_emod]
theorem double_eq {n : Int} (h : 0 ≤ n ∧ n < 2305843009213693951) : k6.f n = some ((2 * n) % 2305843009213693951) := by
  unfold k6.f
  rw [w64 (x := n + n) (by omega)]
  split
  · rw [w64 (by omega)]; congr 1; omega
  · congr 1; omega
theorem by6 : ∀ (m : Nat) (c : Nat) (n o : Int), c < m → c < 2147483648 → 0 ≤ n ∧ n < 2305843009213693951 → 0 ≤ o ∧ o < 2305843009213693951 → Ev (fun k => b7.l0 k n (c : Int) o) ((o + n * c) % 2305843009213693951) := by
  intro m
  induction m with
  | zero => intro c n o h; omega
  | succ m ih =>
    intro c n o hc hc2 hn ho
    have hd := mod_lt (2 * n)
    have he : Int.tdiv (c : Int) 2 = ((c / 2 : Nat) : Int) := by rw [Int.tdiv_eq_ediv_of_nonneg (by omega)]; omega
    refine Ev.step (fun k_ => by rw [b7.l0]) ?_
    refine ev_cases (fun h1 => ?_) (fun h1 => ?_)
    · rw [double_eq hn, he, w64 (x := ((c / 2 : Nat) : Int)) (by omega), w64 (x := o + n) (by omega), tmod_M (by omega), Int.tmod_eq_emod_of_nonneg (by omega)]
      refine ev_cases (fun h2 => ev_some ?_) (fun h2 => ev_some ?_)
      · refine ev_cast (ih (c / 2) _ _ (by omega) (by omega) hd (mod_lt _)) ?_
        rw [mod_add_mul]
        congr 1
        have hcc : (c : Int) = 2 * ((c / 2 : Nat) : Int) + 1 := by omega
        generalize ((c / 2 : Nat) : Int) = q at hcc
        rw [hcc, Int.mul_add, Int.mul_one, Int.mul_comm 2 n, Int.mul_assoc]
        omega
      · refine ev_cast (ih (c / 2) _ o (by omega) (by omega) hd ho) ?_
        have ho' : o = o % 2305843009213693951 := by rw [Int.emod_eq_of_lt ho.1 ho.2]
        rw [ho', mod_add_mul, ← ho']
        congr 1
        have hcc : (c : Int) = 2 * ((c / 2 : Nat) : Int) := by omega
        generalize ((c / 2 : Nat) : Int) = q at hcc
        rw [hcc, Int.mul_comm 2 n, Int.mul_assoc]
    · have : (c : Int) = 0 := by omega
      rw [this, Int.mul_zero, Int.add_zero, Int.emod_eq_of_lt ho.1 ho.2]
      exact ev_now _
theorem times_ev {n : Int} {c : Nat} (h : 0 ≤ n ∧ n < 2305843009213693951) (hc : c < 2147483648) : Ev (fun k => b7.f k n (c : Int)) (n * c % 2305843009213693951) := by
  unfold b7.f
  exact ev_cast (by6 (c + 1) c n 0 (by omega) hc h (by decide)) (by rw [Int.zero_add])

/-- The digest of bytes, from h on. -/
def dgf (h : Int) (bs : List Int) : Int := bs.foldl (fun h b => (h * 257 % 2305843009213693951 + b + 1) % 2305843009213693951) h
def Bytes (l : List Int) : Prop := ∀ b ∈ l, 0 ≤ b ∧ b ≤ 255
theorem dgf_lt {bs : List Int} : ∀ {h : Int}, 0 ≤ h ∧ h < 2305843009213693951 → 0 ≤ dgf h bs ∧ dgf h bs < 2305843009213693951 := by
  induction bs with
  | nil => intro h hh; exact hh
  | cons b bs ih => intro h hh; exact ih (mod_lt _)
theorem cH2 {l : List Int} (hl : (l.length : Int) ≤ 1000000) (hb : Bytes l) : ∀ (m i : Nat) (h : Int), i + m = l.length → 0 ≤ h ∧ h < 2305843009213693951 → Ev (fun k => digest_Of.l0 k h l (l.length : Int) (i : Int)) (dgf h (l.drop i), 0, 0) := by
  intro m
  induction m with
  | zero =>
    intro i h hi hh
    refine Ev.step (fun k_ => by rw [digest_Of.l0]) ?_
    refine ev_neg (by omega) ?_
    rw [List.drop_eq_nil_of_le (by omega), w64 (by omega)]
    exact ev_now _
  | succ m ih =>
    intro i h hi hh
    have hx := hb _ (rd_mem (xs := l) (i := (i : Int)) (by omega) (by omega))
    have hm := mod_lt (h * 257)
    refine Ev.step (fun k_ => by rw [digest_Of.l0]) ?_
    refine ev_pos (by omega) (ev_pos (by omega) (ev_pos (by omega) (ev_bind (mul_ev hh (by decide)) ?_)))
    have e1 : IntKind.u64.wrap (rd l (i : Int)) = rd l (i : Int) := wu (by omega)
    have e2 : IntKind.u64.wrap (h * 257 % 2305843009213693951 + rd l (i : Int)) = h * 257 % 2305843009213693951 + rd l (i : Int) := wu (by omega)
    have e3 : IntKind.u64.wrap (h * 257 % 2305843009213693951 + rd l (i : Int) + 1) = h * 257 % 2305843009213693951 + rd l (i : Int) + 1 := wu (by omega)
    rw [e1, e2, e3, tmod_M (by omega), w64 (x := (i : Int) + 1) (by omega), drop_cons_rd (xs := l) (i := i) (by omega)]
    exact ih (i + 1) _ (by omega) (mod_lt _)
def ofR (l : List Int) : Int × Int × Int := if (l.length : Int) > 4096 then (0, 2, 0) else (dgf 1 l, 0, 0)
theorem of_ev {l : List Int} (hb : Bytes l) : Ev (fun k => digest_Of.f k l) (ofR l) := by
  unfold digest_Of.f ofR
  refine ev_ite (fun h => ev_now _) (fun h => ?_)
  have := cH2 (l := l) (by omega) hb l.length 0 1 (by omega) (by decide)
  rw [List.drop_zero] at this
  exact this
theorem cg5 {l : List Int} (hl : (l.length : Int) ≤ 1000000) (hb : Bytes l) : ∀ (m i : Nat) (h : Int), i + m = l.length → 0 ≤ h ∧ h < 2305843009213693951 → Ev (fun k => b6.l0 k l h (i : Int)) (dgf h (l.drop i)) := by
  intro m
  induction m with
  | zero =>
    intro i h hi hh
    refine Ev.step (fun k_ => by rw [b6.l0]) ?_
    refine ev_neg (by omega) ?_
    rw [List.drop_eq_nil_of_le (by omega)]
    exact ev_now _
  | succ m ih =>
    intro i h hi hh
    have hx := hb _ (rd_mem (xs := l) (i := (i : Int)) (by omega) (by omega))
    have hm := mod_lt (h * 257)
    have ht := times_ev (n := h) (c := 257) hh (by decide)
    refine Ev.step (fun k_ => by rw [b6.l0]) ?_
    refine ev_pos (by omega) (ev_bind ht (ev_pos (by omega) ?_))
    rw [show ((257 : Nat) : Int) = 257 from rfl, w64 (x := rd l (i : Int)) (by omega), w64 (x := h * 257 % 2305843009213693951 + rd l (i : Int)) (by omega), w64 (x := h * 257 % 2305843009213693951 + rd l (i : Int) + 1) (by omega), tmod_M (by omega), w64 (x := (i : Int) + 1) (by omega), drop_cons_rd (xs := l) (i := i) (by omega)]
    exact ih (i + 1) _ (by omega) (mod_lt _)
theorem dof_ev {l : List Int} (hl : (l.length : Int) ≤ 1000000) (hb : Bytes l) : Ev (fun k => b6.f k l) (dgf 1 l) := by
  have := cg5 hl hb l.length 0 1 (by omega) (by decide)
  rw [List.drop_zero] at this
  exact this
end Go.Proofs.Ytnmkmamobhkcbaa.Dig

/- Numbers as eight bytes, and the fault of an object: the program's and the reference's. -/
namespace Go.Proofs.Ytnmkmamobhkcbaa.Obj
open Go.RowKit Go.Proofs.YtnmkmamobhkcbaaW.PrintWords Go.Proofs.YtnmkmamobhkcbaaW.PrintEv Go.Proofs.Ytnmkmamobhkcbaa.P Go.Proofs.Ytnmkmamobhkcbaa.Dig
open Go.Proofs.YtnmkmamobhkcbaaW.PrintMore
set_option linter.unusedVariables false

abbrev O := S44
abbrev SO := r9
theorem In_eq (a b c : Int) : i7.f a b c = some (decide (b ≤ a ∧ a ≤ c)) := by
  unfold i7.f
  split
  · congr 1; simp; omega
  · congr 1; simp; omega
theorem Fault_eq (a b : Int) : b4.f a b = some (a, b) := rfl

/-- A number as eight bytes. -/
def wide (n : Int) : List Int := [n / 72057594037927936 % 256, n / 281474976710656 % 256, n / 1099511627776 % 256, n / 4294967296 % 256, n / 16777216 % 256, n / 65536 % 256, n / 256 % 256, n % 256]
theorem wide_len (n : Int) : (wide n).length = 8 := rfl
theorem wide_bytes (n : Int) : Bytes (wide n) := by
  intro b hb
  unfold wide at hb
  simp only [List.mem_cons, List.not_mem_nil, or_false] at hb
  rcases hb with rfl | rfl | rfl | rfl | rfl | rfl | rfl | rfl <;> omega
theorem shr_eq (x : Int) (p : Nat) (q : Int) (hq : q = 2 ^ p) (hp : p < 64) : shr .i64 x (p : Int) = x / q := by
  unfold shr
  rw [hq, show min ((p : Int)).toNat IntKind.i64.bits = p by simp [IntKind.bits]; omega]
theorem s56 (x : Int) : shr .i64 x 56 = x / 72057594037927936 := shr_eq x 56 _ (by decide) (by decide)
theorem s48 (x : Int) : shr .i64 x 48 = x / 281474976710656 := shr_eq x 48 _ (by decide) (by decide)
theorem s40 (x : Int) : shr .i64 x 40 = x / 1099511627776 := shr_eq x 40 _ (by decide) (by decide)
theorem s32 (x : Int) : shr .i64 x 32 = x / 4294967296 := shr_eq x 32 _ (by decide) (by decide)
theorem s24 (x : Int) : shr .i64 x 24 = x / 16777216 := shr_eq x 24 _ (by decide) (by decide)
theorem s16 (x : Int) : shr .i64 x 16 = x / 65536 := shr_eq x 16 _ (by decide) (by decide)
theorem s8 (x : Int) : shr .i64 x 8 = x / 256 := shr_eq x 8 _ (by decide) (by decide)
theorem s0 (x : Int) : shr .i64 x 0 = x := (shr_eq x 0 1 (by decide) (by decide)).trans (by omega)
theorem wide_ev {n : Int} (h : 0 ≤ n ∧ n < 9223372036854775808) : Ev (fun k => d5.f k n) (wide n) := by
  unfold d5.f
  refine ev_pos (by decide) ?_
  have step : ∀ {x i : Int} {o : List Int} {r : List Int}, 0 ≤ x ∧ x < 9223372036854775808 → 0 ≤ i → i < 8 → o.length = 8 → Ev (fun k => d5.l0 k (x / 256) (o.set i.toNat (x % 256)) (i - 1)) r → Ev (fun k => d5.l0 k x o i) r := by
    intro x i o r hx h0 h1 hl hr
    refine Ev.step (fun k_ => by rw [d5.l0]) ?_
    refine ev_pos (by omega) (ev_pos (by omega) (ev_pos (by omega) ?_))
    rw [Int.tdiv_eq_ediv_of_nonneg hx.1, Int.tmod_eq_emod_of_nonneg hx.1, w64 (x := x / 256) (by omega), w64 (x := i - 1) (by omega), show x % 256 % 256 = x % 256 by omega]
    exact hr
  refine step (by omega) (by decide) (by decide) (by simp) (step (by omega) (by decide) (by decide) (by simp) (step (by omega) (by decide) (by decide) (by simp) (step (by omega) (by decide) (by decide) (by simp) (step (by omega) (by decide) (by decide) (by simp) (step (by omega) (by decide) (by decide) (by simp) (step (by omega) (by decide) (by decide) (by simp) (step (by omega) (by decide) (by decide) (by simp) ?_)))))))
  refine Ev.step (fun k_ => by rw [d5.l0]) ?_
  refine ev_neg (by decide) (ev_cast (ev_now _) ?_)
  have e2 : n / 256 / 256 = n / 65536 := by omega
  have e3 : n / 65536 / 256 = n / 16777216 := by omega
  have e4 : n / 16777216 / 256 = n / 4294967296 := by omega
  have e5 : n / 4294967296 / 256 = n / 1099511627776 := by omega
  have e6 : n / 1099511627776 / 256 = n / 281474976710656 := by omega
  have e7 : n / 281474976710656 / 256 = n / 72057594037927936 := by omega
  rw [e2, e3, e4, e5, e6, e7]
  rfl

/-- The links' fault, from place i on. -/
def lflt : List Int → Int → Int × Int
  | [], _ => (0, 0)
  | x :: r, i => if x < 0 ∨ x ≥ 2305843009213693951 then (3, i) else lflt r (i + 1)
/-- The fault of an object. -/
def oflt (kd : Int) (ls ds : List Int) : Int × Int :=
  if kd < 1 ∨ kd > 3 then (4, 0) else if (ls.length : Int) > 30 then (2, 0) else if (ds.length : Int) > 1000 then (10, 0) else if kd = 1 ∧ (ls.length : Int) > 0 then (5, 0) else lflt ls 0
theorem lflt_zero : ∀ {ls : List Int} {i : Int}, (lflt ls i).1 = 0 → lflt ls i = (0, 0) ∧ ∀ x ∈ ls, 0 ≤ x ∧ x < 2305843009213693951
  | [], i, _ => ⟨rfl, fun x h => by cases h⟩
  | y :: r, i, h => by
    unfold lflt at h ⊢
    by_cases c : y < 0 ∨ y ≥ 2305843009213693951
    · rw [if_pos c] at h; exact absurd h (show ¬ (3 : Int) = 0 by decide)
    · rw [if_neg c] at h ⊢
      obtain ⟨h1, h2⟩ := lflt_zero h
      refine ⟨h1, fun x hx => ?_⟩
      rcases List.mem_cons.1 hx with rfl | hx
      · omega
      · exact h2 x hx
/-- An object without fault. -/
structure Good (kd : Int) (ls ds : List Int) : Prop where
  kind : 1 ≤ kd ∧ kd ≤ 3
  nl : (ls.length : Int) ≤ 30
  nd : (ds.length : Int) ≤ 1000
  blob : kd = 1 → ls = []
  link : ∀ x ∈ ls, 0 ≤ x ∧ x < 2305843009213693951
theorem oflt_zero {kd : Int} {ls ds : List Int} (h : (oflt kd ls ds).1 = 0) : oflt kd ls ds = (0, 0) ∧ Good kd ls ds := by
  unfold oflt at h ⊢
  by_cases c1 : kd < 1 ∨ kd > 3
  · rw [if_pos c1] at h; exact absurd h (by decide)
  rw [if_neg c1] at h ⊢
  by_cases c2 : (ls.length : Int) > 30
  · rw [if_pos c2] at h; exact absurd h (by decide)
  rw [if_neg c2] at h ⊢
  by_cases c3 : (ds.length : Int) > 1000
  · rw [if_pos c3] at h; exact absurd h (by decide)
  rw [if_neg c3] at h ⊢
  by_cases c4 : kd = 1 ∧ (ls.length : Int) > 0
  · rw [if_pos c4] at h; exact absurd h (by decide)
  rw [if_neg c4] at h ⊢
  obtain ⟨h1, h2⟩ := lflt_zero h
  exact ⟨h1, by omega, by omega, by omega, fun e => List.eq_nil_of_length_eq_zero (by omega), h2⟩
theorem by7 {ls : List Int} (hl : (ls.length : Int) ≤ 1000) : ∀ (m i : Nat), i + m = ls.length → Ev (fun k => objects_check.l0 k ls (ls.length : Int) (i : Int)) (lflt (ls.drop i) (i : Int)) := by
  intro m
  induction m with
  | zero =>
    intro i hi
    refine Ev.step (fun k_ => by rw [objects_check.l0]) ?_
    rw [List.drop_eq_nil_of_le (by omega)]
    exact ev_neg (by omega) (ev_now _)
  | succ m ih =>
    intro i hi
    have next := ih (i + 1) (by omega)
    rw [show ((i + 1 : Nat) : Int) = (i : Int) + 1 by omega] at next
    refine Ev.step (fun k_ => by rw [objects_check.l0]) ?_
    rw [w64 (x := (i : Int) + 1) (by omega), drop_cons_rd (by omega)]
    show Ev _ (if rd ls (i : Int) < 0 ∨ rd ls (i : Int) ≥ 2305843009213693951 then (3, (i : Int)) else lflt (ls.drop (i + 1)) ((i : Int) + 1))
    refine ev_pos (by omega) (ev_pos (by omega) (ev_pos (by omega) (ev_cases (fun c => ?_) (fun c => ev_cases (fun c2 => ?_) (fun c2 => ?_)))))
    · rw [if_pos (.inl c)]; exact ev_now _
    · rw [if_pos (.inr c2)]; exact ev_now _
    · rw [if_neg (by omega)]; exact next
theorem check_ev {kd : Int} {ls ds : List Int} : Ev (fun k => objects_check.f k kd ls ds) (oflt kd ls ds) := by
  have hj : ∀ b : Bool, b = decide (kd < 1 ∨ kd > 3) → Ev (fun k => objects_check.j0 k b kd ls ds) (oflt kd ls ds) := by
    intro b hb
    unfold oflt
    refine Ev.step (fun k_ => by rw [objects_check.j0]) ?_
    by_cases c1 : kd < 1 ∨ kd > 3
    · rw [if_pos c1, hb, decide_eq_true c1]
      exact ev_pos rfl (ev_now _)
    · rw [if_neg c1, hb, decide_eq_false c1]
      refine ev_neg (by decide) (ev_ite (fun _ => ev_now _) (fun c2 => ev_ite (fun _ => ev_now _) (fun c3 => ?_)))
      have hl := by7 (ls := ls) (by omega) ls.length 0 (by omega)
      rw [List.drop_zero] at hl
      have hj1 : Ev (fun k => objects_check.j1 k kd ls ds) (lflt ls 0) := by
        refine Ev.step (fun k_ => by rw [objects_check.j1]) ?_
        exact hl
      refine ev_cases (fun c4 => ev_cases (fun c5 => ?_) (fun c5 => ?_)) (fun c4 => ?_)
      · rw [if_pos ⟨c4, c5⟩]; exact ev_now _
      · rw [if_neg (by omega)]; exact hj1
      · rw [if_neg (by omega)]; exact hj1
  unfold objects_check.f
  refine ev_cases (fun c => hj true (by rw [decide_eq_true (.inl c)])) (fun c => hj _ ?_)
  by_cases c2 : kd > 3
  · rw [decide_eq_true c2, decide_eq_true (.inr c2)]
  · rw [decide_eq_false c2, decide_eq_false (by omega)]
theorem bq7 {kd : Int} {ls ds : List Int} (hl : (ls.length : Int) ≤ 1000) : ∀ (m i : Nat), i + m = ls.length → Ev (fun k => a8.l0 k (i : Int) kd ls ds) (lflt (ls.drop i) (i : Int)) := by
  intro m
  induction m with
  | zero =>
    intro i hi
    refine Ev.step (fun k_ => by rw [a8.l0]) ?_
    rw [List.drop_eq_nil_of_le (by omega)]
    exact ev_neg (by omega) (ev_now _)
  | succ m ih =>
    intro i hi
    have next := ih (i + 1) (by omega)
    rw [show ((i + 1 : Nat) : Int) = (i : Int) + 1 by omega] at next
    refine Ev.step (fun k_ => by rw [a8.l0]) ?_
    rw [w64 (x := (i : Int) + 1) (by omega), drop_cons_rd (by omega), In_eq]
    show Ev _ (if rd ls (i : Int) < 0 ∨ rd ls (i : Int) ≥ 2305843009213693951 then (3, (i : Int)) else lflt (ls.drop (i + 1)) ((i : Int) + 1))
    refine ev_pos (by omega) (ev_pos (by omega) (ev_some (ev_cases (fun c => ?_) (fun c => ?_))))
    · have c := of_decide_eq_true c
      rw [if_neg (by omega)]; exact next
    · have c : ¬ (0 ≤ rd ls (i : Int) ∧ rd ls (i : Int) ≤ 2305843009213693950) := fun h => c (decide_eq_true h)
      rw [if_pos (by omega)]
      exact ev_now _
theorem ofault_ev {kd : Int} {ls ds : List Int} : Ev (fun k => a8.f k kd ls ds) (oflt kd ls ds) := by
  unfold a8.f oflt
  rw [In_eq]
  refine ev_some (ev_cases (fun c => ?_) (fun c => ?_))
  · have c := of_decide_eq_true c
    rw [if_neg (by omega)]
    refine ev_ite (fun _ => ev_now _) (fun c2 => ev_ite (fun _ => ev_now _) (fun c3 => ?_))
    have hl := bq7 (kd := kd) (ls := ls) (ds := ds) (by omega) ls.length 0 (by omega)
    rw [List.drop_zero] at hl
    refine ev_cases (fun c4 => ?_) (fun c4 => ?_)
    · refine Ev.step (fun k_ => by rw [a8.j0]) ?_
      by_cases c5 : (ls.length : Int) = 0
      · rw [if_neg (by omega)]
        refine ev_neg ?_ hl
        rw [c5]; decide
      · rw [if_pos (by omega)]
        exact ev_pos (by simp only [bne_iff_ne, ne_eq]; exact c5) (ev_now _)
    · refine Ev.step (fun k_ => by rw [a8.j0]) ?_
      rw [if_neg (by omega)]
      exact ev_neg (by decide) hl
  · have c : ¬ (1 ≤ kd ∧ kd ≤ 3) := fun h => c (decide_eq_true h)
    rw [if_pos (by omega)]
    exact ev_now _
end Go.Proofs.Ytnmkmamobhkcbaa.Obj

/- The digest of an object: the program's and the reference's, one value. -/
namespace Go.Proofs.Ytnmkmamobhkcbaa.Obj
open Go.RowKit Go.Proofs.YtnmkmamobhkcbaaW.PrintWords Go.Proofs.YtnmkmamobhkcbaaW.PrintEv Go.Proofs.Ytnmkmamobhkcbaa.P Go.Proofs.Ytnmkmamobhkcbaa.Dig
open Go.Proofs.YtnmkmamobhkcbaaW.PrintMore
set_option linter.unusedVariables false

/-- Numbers, eight bytes each. -/
def wides (ls : List Int) : List Int := ls.flatMap wide
theorem wides_len (ls : List Int) : (wides ls).length = 8 * ls.length := by
  induction ls with
  | nil => rfl
  | cons x r ih =>
    show (wide x ++ wides r).length = _
    rw [List.length_append, ih, wide_len, List.length_cons]
    omega
theorem Bytes.append {a b : List Int} (h : Bytes a) (k : Bytes b) : Bytes (a ++ b) := fun x hx => (List.mem_append.1 hx).elim (h x) (k x)
theorem wides_bytes (ls : List Int) : Bytes (wides ls) := by
  intro b hb
  obtain ⟨x, _, h⟩ := List.mem_flatMap.1 hb
  exact wide_bytes x b h
/-- The bytes of an object that its digest is taken of. -/
def obytes (kd : Int) (ls ds : List Int) : List Int := [kd % 256, (ls.length : Int) % 256] ++ wides ls ++ ds
theorem obytes_len (kd : Int) (ls ds : List Int) : (obytes kd ls ds).length = 2 + 8 * ls.length + ds.length := by
  unfold obytes
  simp [wides_len]
  omega
theorem obytes_bytes {kd : Int} {ls ds : List Int} (h : Bytes ds) : Bytes (obytes kd ls ds) := by
  refine Bytes.append (Bytes.append (fun b hb => ?_) (wides_bytes ls)) h
  simp only [List.mem_cons, List.not_mem_nil, or_false] at hb
  rcases hb with rfl | rfl <;> omega
/-- The digest of an object. -/
def odg (kd : Int) (ls ds : List Int) : Int := dgf 1 (obytes kd ls ds)
theorem odg_lt (kd : Int) (ls ds : List Int) : 0 ≤ odg kd ls ds ∧ odg kd ls ds < 2305843009213693951 := dgf_lt (by decide)
section
variable {kd : Int} {ls ds : List Int} {R : Int × Int × Int}
theorem cg6 {o : List Int} {x n i : Int} (ho : (o.length : Int) ≤ 100000)
    (h : Ev (fun k => objects_Digest.l0 k (o ++ wide x) ls n (wrap64 (i + 1)) kd ls ds) R) : Ev (fun k => objects_Digest.l1 k o x 56 ls n i kd ls ds) R := by
  have step : ∀ {p : Int} {o' : List Int}, 0 ≤ p ∧ p ≤ 56 → (o'.length : Int) ≤ 200000 → Ev (fun k => objects_Digest.l1 k (o' ++ [shr .i64 x p % 256]) x (p - 8) ls n i kd ls ds) R → Ev (fun k => objects_Digest.l1 k o' x p ls n i kd ls ds) R := by
    intro p o' hp hl hr
    refine Ev.step (fun k_ => by rw [objects_Digest.l1]) ?_
    refine ev_pos (by omega) (ev_pos (by omega) (ev_pos (by omega) ?_))
    rw [w64 (x := p - 8) (by omega)]
    exact hr
  refine step (by decide) (by omega) (step (by decide) (by simp; omega) (step (by decide) (by simp; omega) (step (by decide) (by simp; omega) (step (by decide) (by simp; omega) (step (by decide) (by simp; omega) (step (by decide) (by simp; omega) (step (by decide) (by simp; omega) ?_)))))))
  refine Ev.step (fun k_ => by rw [objects_Digest.l1]) ?_
  refine ev_neg (by decide) ?_
  have e : o ++ wide x = o ++ [shr .i64 x 56 % 256] ++ [shr .i64 x (56 - 8) % 256] ++ [shr .i64 x (56 - 8 - 8) % 256] ++ [shr .i64 x (56 - 8 - 8 - 8) % 256] ++ [shr .i64 x (56 - 8 - 8 - 8 - 8) % 256] ++ [shr .i64 x (56 - 8 - 8 - 8 - 8 - 8) % 256] ++ [shr .i64 x (56 - 8 - 8 - 8 - 8 - 8 - 8) % 256] ++ [shr .i64 x (56 - 8 - 8 - 8 - 8 - 8 - 8 - 8) % 256] := by
    rw [show (56 - 8 : Int) = 48 from rfl, show (48 - 8 : Int) = 40 from rfl, show (40 - 8 : Int) = 32 from rfl, show (32 - 8 : Int) = 24 from rfl, show (24 - 8 : Int) = 16 from rfl, show (16 - 8 : Int) = 8 from rfl, show (8 - 8 : Int) = 0 from rfl, s56, s48, s40, s32, s24, s16, s8, s0]
    simp [wide]
  rw [← e]
  exact h
theorem cg7 (hl : (ls.length : Int) ≤ 30) (hd : (ds.length : Int) ≤ 1000) (hb : Bytes ds) : ∀ (m i : Nat) (o : List Int), i + m = ls.length → o.length = 2 + 8 * i → o ++ wides (ls.drop i) ++ ds = obytes kd ls ds → Ev (fun k => objects_Digest.l0 k o ls (ls.length : Int) (i : Int) kd ls ds) (odg kd ls ds, 0, 0) := by
  intro m
  induction m with
  | zero =>
    intro i o hi ho he
    refine Ev.step (fun k_ => by rw [objects_Digest.l0]) ?_
    rw [List.drop_eq_nil_of_le (by omega)] at he
    have he : o ++ ds = obytes kd ls ds := by rw [← he]; simp [wides]
    refine ev_neg (by omega) (ev_pos (by omega) ?_)
    rw [he]
    have hr : ofR (obytes kd ls ds) = (odg kd ls ds, 0, 0) := by
      unfold ofR
      rw [if_neg (by rw [obytes_len]; omega)]
      rfl
    have := of_ev (l := obytes kd ls ds) (obytes_bytes hb)
    rw [hr] at this
    exact ev_bind this (ev_now _)
  | succ m ih =>
    intro i o hi ho he
    have next := ih (i + 1) (o ++ wide (rd ls (i : Int))) (by omega) (by rw [List.length_append, wide_len]; omega) (by
      rw [← he, drop_cons_rd (i := i) (by omega)]
      simp [wides])
    rw [show ((i + 1 : Nat) : Int) = (i : Int) + 1 by omega] at next
    refine Ev.step (fun k_ => by rw [objects_Digest.l0]) ?_
    refine ev_pos (by omega) (ev_pos (by omega) (ev_pos (by omega) (cg6 (by omega) ?_)))
    rw [w64 (by omega)]
    exact next
/-- What objects.Digest comes to. -/
def odR (kd : Int) (ls ds : List Int) : Int × Int × Int := if (oflt kd ls ds).1 ≠ 0 then (0, oflt kd ls ds) else (odg kd ls ds, 0, 0)
theorem odigest_ev (hb : Bytes ds) : Ev (fun k => objects_Digest.f k kd ls ds) (odR kd ls ds) := by
  unfold objects_Digest.f odR
  refine ev_bind check_ev ?_
  by_cases c : (oflt kd ls ds).1 ≠ 0
  · rw [if_pos c]
    refine ev_pos ?_ (ev_now _)
    have : ((oflt kd ls ds).1 == 0) = false := beq_eq_false_iff_ne.2 c
    rw [this]; rfl
  · obtain ⟨e, g⟩ := oflt_zero (Decidable.not_not.1 c)
    rw [if_neg c, e]
    refine ev_neg (by decide) ?_
    exact cg7 g.nl g.nd hb ls.length 0 _ (by omega) rfl (by rw [List.drop_zero]; rfl)
theorem cg8 (g : Good kd ls ds) (hb : Bytes ds) : ∀ (m i : Nat) (o : List Int), i + m = ls.length → o.length = 2 + 8 * i → o ++ wides (ls.drop i) ++ ds = obytes kd ls ds → Ev (fun k => b3.l0 k o (i : Int) kd ls ds) (odg kd ls ds) := by
  have g1 := g.nl
  have g2 := g.nd
  intro m
  induction m with
  | zero =>
    intro i o hi ho he
    refine Ev.step (fun k_ => by rw [b3.l0]) ?_
    rw [List.drop_eq_nil_of_le (by omega)] at he
    have he : o ++ ds = obytes kd ls ds := by rw [← he]; simp [wides]
    refine ev_neg (by omega) (ev_pos (by omega) ?_)
    rw [he]
    exact ev_bind (dof_ev (by rw [obytes_len]; omega) (obytes_bytes hb)) (ev_now _)
  | succ m ih =>
    intro i o hi ho he
    have hx := g.link _ (rd_mem (xs := ls) (i := (i : Int)) (by omega) (by omega))
    have next := ih (i + 1) (o ++ wide (rd ls (i : Int))) (by omega) (by rw [List.length_append, wide_len]; omega) (by
      rw [← he, drop_cons_rd (i := i) (by omega)]
      simp [wides])
    rw [show ((i + 1 : Nat) : Int) = (i : Int) + 1 by omega] at next
    refine Ev.step (fun k_ => by rw [b3.l0]) ?_
    refine ev_pos (by omega) (ev_pos (by omega) (ev_bind (wide_ev (by omega)) (ev_pos (by rw [wide_len]; omega) ?_)))
    rw [w64 (by omega)]
    exact next
theorem rodigest_ev (g : Good kd ls ds) (hb : Bytes ds) : Ev (fun k => b3.f k kd ls ds) (odg kd ls ds) := by
  unfold b3.f
  exact cg8 g hb ls.length 0 _ (by omega) rfl (by rw [List.drop_zero]; rfl)
end
end Go.Proofs.Ytnmkmamobhkcbaa.Obj

/- The fault of a store: objects.Validate and the reference's StoreFault, one value. -/
namespace Go.Proofs.Ytnmkmamobhkcbaa.Obj
open Go.RowKit Go.Proofs.YtnmkmamobhkcbaaW.PrintWords Go.Proofs.YtnmkmamobhkcbaaW.PrintEv Go.Proofs.Ytnmkmamobhkcbaa.P Go.Proofs.Ytnmkmamobhkcbaa.Dig
set_option linter.unusedVariables false

abbrev at_ (l : List SO) (i : Int) : SO := a7 l i
def of1 (o : SO) : Int × Int := oflt o.f1.f0 o.f1.f1 o.f1.f2
def od1 (o : SO) : Int := odg o.f1.f0 o.f1.f1 o.f1.f2
abbrev bZ4 (o : SO) : Prop := Good o.f1.f0 o.f1.f1 o.f1.f2
def sfl (l : List SO) : Nat → Int → Int × Int
  | 0, _ => (0, 0)
  | n + 1, i => if (of1 (at_ l i)).1 ≠ 0 then ((of1 (at_ l i)).1, i) else if od1 (at_ l i) ≠ (at_ l i).f0 then (18, i) else if i > 0 ∧ (at_ l (i - 1)).f0 ≥ (at_ l i).f0 then (5, i) else sfl l n (i + 1)
/-- The fault of a store. -/
def sf (l : List SO) : Int × Int := if (l.length : Int) > 40 then (2, 0) else sfl l l.length 0
/-- A store without fault. -/
structure Store (l : List SO) : Prop where
  len : (l.length : Int) ≤ 40
  good : ∀ i : Int, 0 ≤ i → i < l.length → bZ4 (at_ l i) ∧ od1 (at_ l i) = (at_ l i).f0
  asc : ∀ i : Int, 0 < i → i < l.length → (at_ l (i - 1)).f0 < (at_ l i).f0
theorem sfl_zero {l : List SO} : ∀ {n : Nat} {k : Int}, (sfl l n k).1 = 0 → sfl l n k = (0, 0) ∧ ∀ i, k ≤ i → i < k + n → bZ4 (at_ l i) ∧ od1 (at_ l i) = (at_ l i).f0 ∧ (0 < i → (at_ l (i - 1)).f0 < (at_ l i).f0)
  | 0, k, _ => ⟨rfl, fun i h1 h2 => by omega⟩
  | n + 1, k, h => by
    unfold sfl at h ⊢
    by_cases c1 : (of1 (at_ l k)).1 ≠ 0
    · rw [if_pos c1] at h; exact absurd h c1
    rw [if_neg c1] at h ⊢
    by_cases c2 : od1 (at_ l k) ≠ (at_ l k).f0
    · rw [if_pos c2] at h; exact absurd h (show ¬ (18 : Int) = 0 by decide)
    rw [if_neg c2] at h ⊢
    by_cases c3 : k > 0 ∧ (at_ l (k - 1)).f0 ≥ (at_ l k).f0
    · rw [if_pos c3] at h; exact absurd h (show ¬ (5 : Int) = 0 by decide)
    rw [if_neg c3] at h ⊢
    obtain ⟨h1, h2⟩ := sfl_zero h
    refine ⟨h1, fun i hi hi' => ?_⟩
    by_cases e : i = k
    · subst e
      exact ⟨(oflt_zero (Decidable.not_not.1 c1)).2, Decidable.not_not.1 c2, fun h0 => by omega⟩
    · exact h2 i (by omega) (by omega)
theorem sf_zero {l : List SO} (h : (sf l).1 = 0) : sf l = (0, 0) ∧ Store l := by
  unfold sf at h ⊢
  by_cases c : (l.length : Int) > 40
  · rw [if_pos c] at h; exact absurd h (by decide)
  · rw [if_neg c] at h ⊢
    obtain ⟨h1, h2⟩ := sfl_zero h
    exact ⟨h1, by omega, fun i h0 hi => ⟨(h2 i h0 (by omega)).1, (h2 i h0 (by omega)).2.1⟩, fun i h0 hi => (h2 i (by omega) (by omega)).2.2 h0⟩
theorem at_mem {l : List SO} {i : Int} (h0 : 0 ≤ i) (h : i < l.length) : at_ l i ∈ l := by
  obtain ⟨n, rfl⟩ := Int.eq_ofNat_of_zero_le h0
  show rdOf _ l (n : Int) ∈ l
  rw [rdOf_nat _ l (by omega)]
  exact List.getElem_mem _
theorem ok_bytes {o : SO} (h : r9.ok o) : Bytes o.f1.f2 := by
  intro b hb
  have := h.2.2.2.2 b hb
  simp [Lit.wf, IntKind.min, IntKind.max, IntKind.bits, IntKind.signed] at this
  omega
theorem bO9 {o : SO} (c : (of1 o).1 ≠ 0) : (odR o.f1.f0 o.f1.f1 o.f1.f2) = (0, of1 o) := by
  unfold odR
  exact if_pos c
theorem ch9 {o : SO} (c : ¬ (of1 o).1 ≠ 0) : (odR o.f1.f0 o.f1.f1 o.f1.f2) = (od1 o, 0, 0) := by
  unfold odR
  exact if_neg c
section
variable {l : List SO}
theorem ci0 (hp : ∀ x ∈ l, r9.ok x) (hl : (l.length : Int) ≤ 40) : ∀ (m i : Nat), i + m = l.length → Ev (fun k => objects_Validate.l0 k l (l.length : Int) (i : Int) l) (sfl l m (i : Int)) := by
  intro m
  induction m with
  | zero =>
    intro i hi
    refine Ev.step (fun k_ => by rw [objects_Validate.l0]) ?_
    exact ev_neg (by omega) (ev_now _)
  | succ m ih =>
    intro i hi
    have next := ih (i + 1) (by omega)
    rw [show ((i + 1 : Nat) : Int) = (i : Int) + 1 by omega] at next
    have hd := odigest_ev (kd := (at_ l (i : Int)).f1.f0) (ls := (at_ l (i : Int)).f1.f1) (ok_bytes (hp _ (at_mem (i := (i : Int)) (by omega) (by omega))))
    refine Ev.step (fun k_ => by rw [objects_Validate.l0]) ?_
    refine ev_pos (by omega) (ev_pos (by omega) (ev_pos (by omega) (ev_bind hd ?_)))
    unfold sfl
    by_cases c1 : (of1 (at_ l (i : Int))).1 ≠ 0
    · rw [bO9 c1, if_pos c1]
      refine ev_pos ?_ (ev_now _)
      have : ((of1 (at_ l (i : Int))).1 == 0) = false := beq_eq_false_iff_ne.2 c1
      simp [this]
    · rw [ch9 c1, if_neg c1]
      refine ev_neg (by simp) ?_
      by_cases c2 : od1 (at_ l (i : Int)) ≠ (at_ l (i : Int)).f0
      · rw [if_pos c2]
        exact ev_neg c2 (ev_now _)
      · have c2 := Decidable.not_not.1 c2
        rw [if_neg (not_not_intro c2)]
        refine ev_pos c2 ?_
        rw [w64 (x := (i : Int) - 1) (by omega), w64 (x := (i : Int) + 1) (by omega)]
        refine ev_cases (fun c3 => ev_pos (by omega) (ev_pos (by omega) (ev_cases (fun c4 => ?_) (fun c4 => ?_)))) (fun c3 => ?_)
        · have c4 : (at_ l ((i : Int) - 1)).f0 ≥ od1 (at_ l (i : Int)) := c4
          rw [if_pos ⟨c3, c2 ▸ c4⟩]; exact ev_now _
        · have c4 : ¬ (at_ l ((i : Int) - 1)).f0 ≥ od1 (at_ l (i : Int)) := c4
          rw [if_neg (fun h => c4 (c2 ▸ h.2))]; exact next
        · rw [if_neg (fun h => c3 h.1)]; exact next
theorem val_ev (hp : ∀ x ∈ l, r9.ok x) : Ev (fun k => objects_Validate.f k l) (sf l) := by
  unfold objects_Validate.f sf
  exact ev_ite (fun _ => ev_now _) (fun h => ci0 hp (by omega) l.length 0 (by omega))
theorem bP0 (hp : ∀ x ∈ l, r9.ok x) (hl : (l.length : Int) ≤ 40) : ∀ (m i : Nat), i + m = l.length → Ev (fun k => a6.l0 k (i : Int) l) (sfl l m (i : Int)) := by
  intro m
  induction m with
  | zero =>
    intro i hi
    refine Ev.step (fun k_ => by rw [a6.l0]) ?_
    exact ev_neg (by omega) (ev_now _)
  | succ m ih =>
    intro i hi
    have next := ih (i + 1) (by omega)
    rw [show ((i + 1 : Nat) : Int) = (i : Int) + 1 by omega] at next
    have hb := ok_bytes (hp _ (at_mem (i := (i : Int)) (by omega) (by omega)))
    have hd := ofault_ev (kd := (at_ l (i : Int)).f1.f0) (ls := (at_ l (i : Int)).f1.f1) (ds := (at_ l (i : Int)).f1.f2)
    refine Ev.step (fun k_ => by rw [a6.l0]) ?_
    refine ev_pos (by omega) (ev_pos (by omega) (ev_bind hd ?_))
    unfold sfl
    by_cases c1 : (of1 (at_ l (i : Int))).1 ≠ 0
    · rw [if_pos c1]
      exact ev_neg c1 (ev_now _)
    · rw [if_neg c1]
      have hg := (oflt_zero (Decidable.not_not.1 c1)).2
      refine ev_pos (Decidable.not_not.1 c1) (ev_bind (rodigest_ev hg hb) ?_)
      by_cases c2 : od1 (at_ l (i : Int)) ≠ (at_ l (i : Int)).f0
      · rw [if_pos c2]
        exact ev_neg c2 (ev_now _)
      · have c2 := Decidable.not_not.1 c2
        rw [if_neg (not_not_intro c2)]
        refine ev_pos c2 ?_
        rw [w64 (x := (i : Int) - 1) (by omega), w64 (x := (i : Int) + 1) (by omega)]
        refine ev_cases (fun c3 => ev_pos (by omega) (ev_pos (by omega) (ev_cases (fun c4 => ?_) (fun c4 => ?_)))) (fun c3 => ?_)
        · rw [if_pos ⟨c3, c4⟩]; exact ev_now _
        · rw [if_neg (fun h => c4 h.2)]; exact next
        · rw [if_neg (fun h => c3 h.1)]; exact next
theorem sflt_ev (hp : ∀ x ∈ l, r9.ok x) : Ev (fun k => a6.f k l) (sf l) := by
  unfold a6.f sf
  exact ev_ite (fun _ => ev_now _) (fun h => bP0 hp (by omega) l.length 0 (by omega))
end
end Go.Proofs.Ytnmkmamobhkcbaa.Obj

/- Objects compared, copied and found: what the program's and the reference's functions come to. -/
namespace Go.Proofs.Ytnmkmamobhkcbaa.Obj
open Go.RowKit Go.Proofs.YtnmkmamobhkcbaaW.PrintWords Go.Proofs.YtnmkmamobhkcbaaW.PrintEv Go.Proofs.Ytnmkmamobhkcbaa.P Go.Proofs.Ytnmkmamobhkcbaa.Dig
open Go.Proofs.YtnmkmamobhkcbaaW.PrintMore
set_option linter.unusedVariables false

theorem drop_eq {xs ys : List Int} (hl : xs.length = ys.length) {i : Nat} (hi : i < xs.length) : (xs.drop i = ys.drop i) ↔ rd xs (i : Int) = rd ys (i : Int) ∧ xs.drop (i + 1) = ys.drop (i + 1) := by
  rw [drop_cons_rd hi, drop_cons_rd (xs := ys) (by omega), List.cons.injEq]
theorem equal_ev {a b : List Int} (ha : (a.length : Int) ≤ 140737488351232) : Ev (fun k => slices_Equal_int_int.f k a b) (decide (a = b)) := by
  have loop : a.length = b.length → ∀ (m i : Nat), i + m = a.length → Ev (fun k => slices_Equal_int_int.l0 k a b (a.length : Int) (i : Int)) (decide (a.drop i = b.drop i)) := by
    intro hl m
    induction m with
    | zero =>
      intro i hi
      refine Ev.step (fun k_ => by rw [slices_Equal_int_int.l0]) ?_
      rw [List.drop_eq_nil_of_le (by omega), List.drop_eq_nil_of_le (by omega)]
      exact ev_neg (by omega) (ev_now _)
    | succ m ih =>
      intro i hi
      have next := ih (i + 1) (by omega)
      rw [show ((i + 1 : Nat) : Int) = (i : Int) + 1 by omega] at next
      have he := drop_eq hl (i := i) (by omega)
      refine Ev.step (fun k_ => by rw [slices_Equal_int_int.l0]) ?_
      rw [w64 (x := (i : Int) + 1) (by omega)]
      refine ev_pos (by omega) (ev_pos (by omega) (ev_pos (by omega) (ev_pos (by omega) (ev_cases (fun c => ?_) (fun c => ?_)))))
      · refine ev_cast next ?_
        rw [decide_eq_decide, he]
        exact ⟨fun h => ⟨c, h⟩, fun h => h.2⟩
      · rw [decide_eq_false (fun h => c (he.1 h).1)]
        exact ev_now _
  unfold slices_Equal_int_int.f
  refine ev_cases (fun c => ?_) (fun c => ?_)
  · have := loop (by omega) a.length 0 (by omega)
    rw [List.drop_zero, List.drop_zero] at this
    exact this
  · rw [decide_eq_false (fun h => c (by rw [h]))]
    exact ev_now _
theorem ints_ev {a b : List Int} (ha : (a.length : Int) ≤ 140737488351232) : Ev (fun k => d7.f k a b) (decide (a = b)) := by
  have loop : a.length = b.length → ∀ (m i : Nat), i + m = a.length → Ev (fun k => d7.l0 k a b (i : Int)) (decide (a.drop i = b.drop i)) := by
    intro hl m
    induction m with
    | zero =>
      intro i hi
      refine Ev.step (fun k_ => by rw [d7.l0]) ?_
      rw [List.drop_eq_nil_of_le (by omega), List.drop_eq_nil_of_le (by omega)]
      exact ev_neg (by omega) (ev_now _)
    | succ m ih =>
      intro i hi
      have next := ih (i + 1) (by omega)
      rw [show ((i + 1 : Nat) : Int) = (i : Int) + 1 by omega] at next
      have he := drop_eq hl (i := i) (by omega)
      refine Ev.step (fun k_ => by rw [d7.l0]) ?_
      rw [w64 (x := (i : Int) + 1) (by omega)]
      refine ev_pos (by omega) (ev_pos (by omega) (ev_pos (by omega) (ev_cases (fun c => ?_) (fun c => ?_))))
      · refine ev_cast next ?_
        rw [decide_eq_decide, he]
        exact ⟨fun h => ⟨c, h⟩, fun h => h.2⟩
      · rw [decide_eq_false (fun h => c (he.1 h).1)]
        exact ev_now _
  unfold d7.f
  refine ev_cases (fun c => ?_) (fun c => ?_)
  · have := loop (by omega) a.length 0 (by omega)
    rw [List.drop_zero, List.drop_zero] at this
    exact this
  · rw [decide_eq_false (fun h => c (by rw [h]))]
    exact ev_now _
/-- Are two objects the same? -/
def same (k1 : Int) (l1 d1 : List Int) (k2 : Int) (l2 d2 : List Int) : Bool := decide (k1 = k2) && (decide (l1 = l2) && ((strOfNums d1).toList == (strOfNums d2).toList))
theorem same_refl (k : Int) (l d : List Int) : same k l d k l d = true := by simp [same]
theorem same_ev {k1 k2 : Int} {l1 d1 l2 d2 : List Int} (h : (l1.length : Int) ≤ 140737488351232) : Ev (fun k => objects_Same.f k k1 l1 d1 k2 l2 d2) (same k1 l1 d1 k2 l2 d2) := by
  unfold objects_Same.f same
  refine ev_cases (fun c => ?_) (fun c => ?_)
  · rw [decide_eq_true c, Bool.true_and]
    refine ev_bind (equal_ev h) (ev_cases (fun c2 => ?_) (fun c2 => ?_))
    · rw [c2, Bool.true_and]; exact ev_now _
    · rw [Bool.eq_false_iff.2 c2, Bool.false_and]; exact ev_now _
  · rw [decide_eq_false c, Bool.false_and]; exact ev_now _
theorem robjects_ev {k1 k2 : Int} {l1 d1 l2 d2 : List Int} (h : (l1.length : Int) ≤ 140737488351232) : Ev (fun k => f7.f k k1 l1 d1 k2 l2 d2) (same k1 l1 d1 k2 l2 d2) := by
  unfold f7.f same
  refine ev_cases (fun c => ?_) (fun c => ?_)
  · rw [decide_eq_true c, Bool.true_and]
    refine ev_bind (ints_ev h) (ev_cases (fun c2 => ?_) (fun c2 => ?_))
    · rw [c2, Bool.true_and]; exact ev_now _
    · rw [Bool.eq_false_iff.2 c2, Bool.false_and]; exact ev_now _
  · rw [decide_eq_false c, Bool.false_and]; exact ev_now _
theorem stores_ev {l : List SO} (hl : (l.length : Int) ≤ 140737488351232) (hp : ∀ x ∈ l, (x.f1.f1.length : Int) ≤ 140737488351232) : Ev (fun k => b0.f k l l) true := by
  have loop : ∀ (m i : Nat), i + m = l.length → Ev (fun k => b0.l0 k (i : Int) l l) true := by
    intro m
    induction m with
    | zero =>
      intro i hi
      refine Ev.step (fun k_ => by rw [b0.l0]) ?_
      exact ev_neg (by omega) (ev_now _)
    | succ m ih =>
      intro i hi
      have next := ih (i + 1) (by omega)
      rw [show ((i + 1 : Nat) : Int) = (i : Int) + 1 by omega] at next
      refine Ev.step (fun k_ => by rw [b0.l0]) ?_
      rw [w64 (x := (i : Int) + 1) (by omega)]
      refine ev_pos (by omega) (ev_pos (by omega) (ev_pos (by omega) (ev_pos rfl (ev_bind (robjects_ev (hp _ (at_mem (i := (i : Int)) (by omega) (by omega)))) (ev_pos (same_refl _ _ _) next)))))
  unfold b0.f
  exact ev_pos rfl (loop l.length 0 (by omega))
theorem clone_eq {kd : Int} {ls ds : List Int} (hl : ls.length ≤ 100000) (hd : ds.length ≤ 100000) : objects_Clone.f kd ls ds = some (kd, ls, ds) := by
  unfold objects_Clone.f slices_Clone_int_int.f bytes_Clone.f
  simp only [Option.bind_some, List.length_nil, List.nil_append, Nat.zero_add]
  rw [if_pos (by omega), Option.bind_some, if_pos (by omega), Option.bind_some]
section
variable {l : List SO}
theorem take_at {i : Nat} (h : i < l.length) : l.take (i + 1) = l.take i ++ [at_ l (i : Int)] := by
  show _ = l.take i ++ [rdOf _ l (i : Int)]
  rw [rdOf_nat _ l h]
  exact List.take_succ_eq_append_getElem h
theorem copied_ev (hs : Store l) : Ev (fun k => objects_copied.f k l) l := by
  have hl := hs.len
  have loop : ∀ (m i : Nat), i + m = l.length → Ev (fun k => objects_copied.l0 k l (l.length : Int) (i : Int) (l.take i)) l := by
    intro m
    induction m with
    | zero =>
      intro i hi
      refine Ev.step (fun k_ => by rw [objects_copied.l0]) ?_
      rw [List.take_of_length_le (by omega)]
      exact ev_neg (by omega) (ev_now _)
    | succ m ih =>
      intro i hi
      have next := ih (i + 1) (by omega)
      rw [show ((i + 1 : Nat) : Int) = (i : Int) + 1 by omega, take_at (by omega)] at next
      have hg := (hs.good (i : Int) (by omega) (by omega)).1
      have h1 := hg.nl
      have h2 := hg.nd
      refine Ev.step (fun k_ => by rw [objects_copied.l0]) ?_
      rw [w64 (x := (i : Int) + 1) (by omega)]
      refine ev_pos (by omega) (ev_pos (by omega) (ev_pos (by omega) (ev_const (clone_eq (by show (at_ l (i : Int)).f1.f1.length ≤ _; omega) (by show (at_ l (i : Int)).f1.f2.length ≤ _; omega)) (ev_pos (by rw [List.length_take]; omega) ?_))))
      exact next
  unfold objects_copied.f
  exact loop l.length 0 (by omega)
theorem asc_lt (hs : Store l) : ∀ (m : Nat) (i : Int), 0 ≤ i → i + 1 + m < l.length → (at_ l i).f0 < (at_ l (i + 1 + m)).f0
  | 0, i, h0, h => by
    have := hs.asc (i + 1 + ((0 : Nat) : Int)) (by omega) h
    rwa [show i + 1 + ((0 : Nat) : Int) - 1 = i by omega] at this
  | m + 1, i, h0, h => by
    have h1 := asc_lt hs m i h0 (by omega)
    have h2 := hs.asc (i + 1 + ((m + 1 : Nat) : Int)) (by omega) h
    rw [show i + 1 + ((m + 1 : Nat) : Int) - 1 = i + 1 + (m : Int) by omega] at h2
    omega
theorem asc_all (hs : Store l) {i j : Int} (h0 : 0 ≤ i) (h : i < j) (hj : j < l.length) : (at_ l i).f0 < (at_ l j).f0 := by
  have := asc_lt hs (j - i - 1).toNat i h0 (by omega)
  rwa [show i + 1 + ((j - i - 1).toNat : Int) = j by omega] at this
theorem dig_at (hs : Store l) {i : Int} (h0 : 0 ≤ i) (h : i < l.length) : 0 ≤ (at_ l i).f0 ∧ (at_ l i).f0 < 2305843009213693951 := by
  rw [← (hs.good i h0 h).2]
  exact odg_lt _ _ _
/-- Where a digest stands, or would stand. -/
structure Found (l : List SO) (d : Int) (i : Nat) (b : Bool) : Prop where
  le : i ≤ l.length
  yes : b = true → i < l.length ∧ (at_ l (i : Int)).f0 = d
  no : b = false → ∀ j : Int, 0 ≤ j → j < l.length → (at_ l j).f0 ≠ d
  low : 0 ≤ d → d < 2305843009213693951 → ∀ j : Int, 0 ≤ j → j < i → (at_ l j).f0 < d
  high : 0 ≤ d → d < 2305843009213693951 → ∀ j : Int, (i : Int) ≤ j → j < l.length → d ≤ (at_ l j).f0
theorem wrap_zero {x d : Int} (hx : 0 ≤ x ∧ x < 2305843009213693951) (hd : -9223372036854775808 ≤ d ∧ d ≤ 9223372036854775807) : wrap64 (x - d) = 0 ↔ x = d := by
  unfold wrap64; omega
theorem cj8 (hs : Store l) {d : Int} (hd : -9223372036854775808 ≤ d ∧ d ≤ 9223372036854775807) : ∀ (m i j : Nat), j - i ≤ m → i ≤ j → j ≤ l.length →
    (0 ≤ d → d < 2305843009213693951 → ∀ q : Int, 0 ≤ q → q < i → (at_ l q).f0 < d) → (0 ≤ d → d < 2305843009213693951 → ∀ q : Int, (j : Int) ≤ q → q < l.length → d ≤ (at_ l q).f0) →
    ∃ (i' : Nat) (b : Bool), Ev (fun k => api_StoredObject_int.l0 k l d (l.length : Int) (i : Int) (j : Int)) ((i' : Int), b) ∧ Found l d i' b := by
  have hl := hs.len
  intro m
  induction m with
  | zero =>
    intro i j hm hij hj h1 h2
    have e : i = j := by omega
    subst e
    by_cases hn : i < l.length
    · have hx := dig_at hs (i := (i : Int)) (by omega) (by omega)
      refine ⟨i, (wrap64 ((at_ l (i : Int)).f0 - d) == 0), ?_, by omega, fun hb => ⟨hn, (wrap_zero hx hd).1 (by simpa using hb)⟩, fun hb q q0 q1 he => ?_, h1, h2⟩
      · refine Ev.step (fun k_ => by rw [api_StoredObject_int.l0]) ?_
        refine ev_neg (by omega) (ev_pos (by omega) (ev_pos (by omega) (ev_pos (by omega) ?_)))
        exact ev_some (ev_now _)
      · have hq := dig_at hs q0 q1
        rcases Int.lt_trichotomy q (i : Int) with c | c | c
        · have := h1 (by omega) (by omega) q q0 c; omega
        · subst c
          have := (wrap_zero hx hd).2 he
          rw [this] at hb
          simp at hb
        · have := asc_all hs (i := (i : Int)) (j := q) (by omega) c q1
          have := h2 (by omega) (by omega) (i : Int) (by omega) (by omega)
          omega
    · refine ⟨i, false, ?_, by omega, fun hb => (by cases hb), fun hb q q0 q1 he => ?_, h1, h2⟩
      · refine Ev.step (fun k_ => by rw [api_StoredObject_int.l0]) ?_
        exact ev_neg (by omega) (ev_neg (by omega) (ev_now _))
      · have hq := dig_at hs q0 q1
        have := h1 (by omega) (by omega) q q0 (by omega)
        omega
  | succ m ih =>
    intro i j hm hij hj h1 h2
    by_cases hlt : i < j
    · have hh : wrap64 ((IntKind.u64.wrap (wrap64 ((i : Int) + (j : Int)))) / 2) = (((i + j) / 2 : Nat) : Int) := by
        rw [w64 (x := (i : Int) + (j : Int)) (by omega), wu (x := (i : Int) + (j : Int)) (by omega), w64 (by omega)]
        omega
      have hx := dig_at hs (i := (((i + j) / 2 : Nat) : Int)) (by omega) (by omega)
      by_cases hc : wrap64 ((at_ l (((i + j) / 2 : Nat) : Int)).f0 - d) < 0
      · obtain ⟨i', b, he, hf⟩ := ih ((i + j) / 2 + 1) j (by omega) (by omega) hj (fun d0 d1 q q0 q1 => by
          have hw : (at_ l (((i + j) / 2 : Nat) : Int)).f0 < d := by rw [w64 (by omega)] at hc; omega
          by_cases e : q = (((i + j) / 2 : Nat) : Int)
          · rw [e]; exact hw
          · have := asc_all hs (i := q) (j := (((i + j) / 2 : Nat) : Int)) q0 (by omega) (by omega)
            omega) h2
        refine ⟨i', b, ?_, hf⟩
        refine Ev.step (fun k_ => by rw [api_StoredObject_int.l0]) ?_
        rw [hh, w64 (x := (((i + j) / 2 : Nat) : Int) + 1) (by omega)]
        exact ev_pos (by omega) (ev_pos (by omega) (ev_pos (by omega) (ev_some (ev_pos hc he))))
      · obtain ⟨i', b, he, hf⟩ := ih i ((i + j) / 2) (by omega) (by omega) (by omega) h1 (fun d0 d1 q q0 q1 => by
          have hw : d ≤ (at_ l (((i + j) / 2 : Nat) : Int)).f0 := by rw [w64 (by omega)] at hc; omega
          by_cases e : q = (((i + j) / 2 : Nat) : Int)
          · rw [e]; exact hw
          · have := asc_all hs (i := (((i + j) / 2 : Nat) : Int)) (j := q) (by omega) (by omega) q1
            omega)
        refine ⟨i', b, ?_, hf⟩
        refine Ev.step (fun k_ => by rw [api_StoredObject_int.l0]) ?_
        rw [hh]
        exact ev_pos (by omega) (ev_pos (by omega) (ev_pos (by omega) (ev_some (ev_neg hc he))))
    · exact ih i j (by omega) hij hj h1 h2
theorem find_ev (hs : Store l) {d : Int} (hd : -9223372036854775808 ≤ d ∧ d ≤ 9223372036854775807) : ∃ (i : Nat) (b : Bool), Ev (fun k => objects_find.f k l d) ((i : Int), b) ∧ Found l d i b := by
  obtain ⟨i, b, he, hf⟩ := cj8 hs hd l.length 0 l.length (by omega) (by omega) (by omega) (fun _ _ q q0 q1 => by omega) (fun _ _ q q0 q1 => by omega)
  refine ⟨i, b, ?_, hf⟩
  unfold objects_find.f api_StoredObject_int.f
  exact ev_bind he (ev_now _)
theorem at_ev (hs : Store l) {d : Int} {i : Nat} {b : Bool} (hf : Found l d i b) : Ev (fun k => e9.f k l d) (if b = true then (i : Int) else -1) := by
  have hl := hs.len
  have loop : ∀ (m q : Nat), q + m = l.length → (b = true → q ≤ i) → Ev (fun k => e9.l0 k d (q : Int) l) (if b = true then (i : Int) else -1) := by
    intro m
    induction m with
    | zero =>
      intro q hq hb
      refine Ev.step (fun k_ => by rw [e9.l0]) ?_
      cases hbb : b with
      | true =>
        have := (hf.yes hbb).1
        have := hb hbb
        omega
      | false => exact ev_neg (by omega) (ev_now _)
    | succ m ih =>
      intro q hq hb
      refine Ev.step (fun k_ => by rw [e9.l0]) ?_
      rw [w64 (x := (q : Int) + 1) (by omega)]
      refine ev_pos (by omega) (ev_pos (by omega) (ev_cases (fun c => ?_) (fun c => ?_)))
      · have c : (at_ l (q : Int)).f0 = d := c
        cases hbb : b with
        | true =>
          obtain ⟨y1, y2⟩ := hf.yes hbb
          have y3 := hb hbb
          have e : q = i := by
            rcases Nat.lt_or_ge q i with h | h
            · have := asc_all hs (i := (q : Int)) (j := (i : Int)) (by omega) (by omega) (by omega)
              omega
            · omega
          subst e
          exact ev_now _
        | false => exact absurd c (hf.no hbb (q : Int) (by omega) (by omega))
      · have c : ¬ (at_ l (q : Int)).f0 = d := c
        have next := ih (q + 1) (by omega) (fun hbb => by
          have y3 := hb hbb
          have : q ≠ i := fun e => c (e ▸ (hf.yes hbb).2)
          omega)
        rw [show ((q + 1 : Nat) : Int) = (q : Int) + 1 by omega] at next
        exact next
  unfold e9.f
  exact loop l.length 0 (by omega) (fun _ => by omega)
end
end Go.Proofs.Ytnmkmamobhkcbaa.Obj

/- Put, Has, Get: what the program's and the reference's functions come to. -/
namespace Go.Proofs.Ytnmkmamobhkcbaa.Obj
open Go.RowKit Go.Proofs.YtnmkmamobhkcbaaW.PrintWords Go.Proofs.YtnmkmamobhkcbaaW.PrintEv Go.Proofs.Ytnmkmamobhkcbaa.P Go.Proofs.Ytnmkmamobhkcbaa.Dig
open Go.Proofs.YtnmkmamobhkcbaaW.PrintMore
set_option linter.unusedVariables false

def mk1 (d : Int) (o : O) : SO := ⟨d, o⟩
def odo (o : O) : Int := odg o.f0 o.f1 o.f2
abbrev ofo (o : O) : Int × Int := oflt o.f0 o.f1 o.f2
def sameO (a b : O) : Bool := same a.f0 a.f1 a.f2 b.f0 b.f1 b.f2
/-- What Put comes to where the store and the object have no fault; i, b: what find told. -/
def putF (l : List SO) (o : O) (i : Nat) (b : Bool) : List SO × Int × Int × Int :=
  if b = true then (if sameO (at_ l (i : Int)).f1 o = true then (l, odo o, 0, 0) else ([], 0, 19, -1)) else if (l.length : Int) = 40 then ([], 0, 14, -1) else (l.take i ++ [mk1 (odo o) o] ++ l.drop i, odo o, 0, 0)
section
variable {l : List SO} {o : O}
theorem putF_true {i : Nat} : putF l o i true = if sameO (at_ l (i : Int)).f1 o = true then (l, odo o, 0, 0) else ([], 0, 19, -1) := if_pos rfl
theorem putF_false {i : Nat} : putF l o i false = if (l.length : Int) = 40 then ([], 0, 14, -1) else (l.take i ++ [mk1 (odo o) o] ++ l.drop i, odo o, 0, 0) := if_neg (by decide)
theorem cj9 (x : Int) (h : 0 ≤ x ∧ x < 2305843009213693951) : -9223372036854775808 ≤ x ∧ x ≤ 9223372036854775807 := by omega
theorem put_good (hp : ∀ x ∈ l, r9.ok x) (hb : Bytes o.f2) (hs : Store l) (e : sf l = (0, 0)) (g : Good o.f0 o.f1 o.f2) (e2 : ofo o = (0, 0)) :
    ∃ i b, Found l (odo o) i b ∧ Ev (fun k => objects_Put.f k l o.f0 o.f1 o.f2) (putF l o i b) := by
  have hl := hs.len
  have g1 := g.nl
  have g2 := g.nd
  obtain ⟨i, b, hfe, hf⟩ := find_ev hs (d := odo o) (cj9 _ (odg_lt _ _ _))
  refine ⟨i, b, hf, ?_⟩
  have hv := val_ev hp
  have hd := odigest_ev (kd := o.f0) (ls := o.f1) hb
  have ed : odR o.f0 o.f1 o.f2 = (odo o, 0, 0) := by
    unfold odR
    rw [if_neg (by rw [show oflt o.f0 o.f1 o.f2 = (0, 0) from e2]; simp)]
    rfl
  rw [e] at hv
  rw [ed] at hd
  unfold objects_Put.f
  refine ev_bind hv (ev_neg (by decide) (ev_bind hd (ev_neg (by simp) (ev_bind (copied_ev hs) (ev_bind hfe ?_)))))
  cases b with
  | true =>
    rw [putF_true]
    have hy := (hf.yes rfl).1
    refine ev_pos rfl (ev_pos (by omega) (ev_pos (by omega) (ev_bind (same_ev (by
      have := (hs.good (i : Int) (by omega) (by omega)).1.nl
      show ((at_ l (i : Int)).f1.f1.length : Int) ≤ _
      omega)) ?_)))
    refine Ev.step (fun k_ => by rw [objects_Put.j0]) ?_
    cases hsm : sameO (at_ l (i : Int)).f1 o with
    | true =>
      have hsm : same (a7 l (i : Int)).f1.f0 (a7 l (i : Int)).f1.f1 (a7 l (i : Int)).f1.f2 o.f0 o.f1 o.f2 = true := hsm
      exact ev_neg (by show ¬ (!same _ _ _ _ _ _) = true; rw [hsm]; decide) (ev_pos rfl (ev_now _))
    | false =>
      have hsm : same (a7 l (i : Int)).f1.f0 (a7 l (i : Int)).f1.f1 (a7 l (i : Int)).f1.f2 o.f0 o.f1 o.f2 = false := hsm
      exact ev_pos (by show (!same _ _ _ _ _ _) = true; rw [hsm]; decide) (ev_now _)
  | false =>
    rw [putF_false]
    refine ev_neg Bool.false_ne_true ?_
    refine Ev.step (fun k_ => by rw [objects_Put.j0]) ?_
    refine ev_neg (by decide) (ev_neg Bool.false_ne_true (ev_ite (fun _ => ev_now _) (fun hc => ?_)))
    refine ev_const (clone_eq (by omega) (by omega)) (ev_pos (by omega) (ev_pos (by have := hf.le; omega) (ev_pos (by omega) ?_)))
    exact ev_now _
/-- What Put comes to. -/
theorem put_ev (hp : ∀ x ∈ l, r9.ok x) (hb : Bytes o.f2) :
    ((sf l).1 ≠ 0 ∧ Ev (fun k => objects_Put.f k l o.f0 o.f1 o.f2) ([], 0, sf l)) ∨ (sf l = (0, 0) ∧ Store l ∧ (ofo o).1 ≠ 0 ∧ Ev (fun k => objects_Put.f k l o.f0 o.f1 o.f2) ([], 0, (ofo o).1, -1)) ∨
    (sf l = (0, 0) ∧ Store l ∧ ofo o = (0, 0) ∧ Good o.f0 o.f1 o.f2 ∧ ∃ i b, Found l (odo o) i b ∧ Ev (fun k => objects_Put.f k l o.f0 o.f1 o.f2) (putF l o i b)) := by
  by_cases h : (sf l).1 ≠ 0
  · refine .inl ⟨h, ?_⟩
    unfold objects_Put.f
    refine ev_bind (val_ev hp) (ev_pos ?_ (ev_now _))
    have : ((sf l).1 == 0) = false := beq_eq_false_iff_ne.2 h
    simp [this]
  · obtain ⟨e, hs⟩ := sf_zero (Decidable.not_not.1 h)
    by_cases h2 : (ofo o).1 ≠ 0
    · refine .inr (.inl ⟨e, hs, h2, ?_⟩)
      have hv := val_ev hp
      have hd := odigest_ev (kd := o.f0) (ls := o.f1) hb
      have ed : odR o.f0 o.f1 o.f2 = (0, ofo o) := by unfold odR; rw [if_pos h2]
      rw [e] at hv
      rw [ed] at hd
      unfold objects_Put.f
      refine ev_bind hv (ev_neg (by decide) (ev_bind hd (ev_pos ?_ (ev_now _))))
      have : ((ofo o).1 == 0) = false := beq_eq_false_iff_ne.2 h2
      simp [this]
    · obtain ⟨e2, g⟩ := oflt_zero (Decidable.not_not.1 h2)
      exact .inr (.inr ⟨e, hs, e2, g, put_good hp hb hs e g e2⟩)

theorem bP8 (hp : ∀ x ∈ l, r9.ok x) {d : Int} (hd : -9223372036854775808 ≤ d ∧ d ≤ 9223372036854775807) :
    ((sf l).1 ≠ 0 ∧ Ev (fun k => objects_Has.f k l d) (false, sf l)) ∨ (sf l = (0, 0) ∧ Store l ∧ ∃ i b, Found l d i b ∧ Ev (fun k => objects_Has.f k l d) (b, 0, 0)) := by
  by_cases h : (sf l).1 ≠ 0
  · have : ((sf l).1 == 0) = false := beq_eq_false_iff_ne.2 h
    refine .inl ⟨h, ?_⟩
    unfold objects_Has.f
    exact ev_bind (val_ev hp) (ev_pos (by simp [this]) (ev_now _))
  · obtain ⟨e, hs⟩ := sf_zero (Decidable.not_not.1 h)
    obtain ⟨i, b, hfe, hf⟩ := find_ev hs hd
    have hv := val_ev hp
    rw [e] at hv
    refine .inr ⟨e, hs, i, b, hf, ?_⟩
    unfold objects_Has.f
    exact ev_bind hv (ev_neg (by decide) (ev_bind hfe (ev_now _)))
end
end Go.Proofs.Ytnmkmamobhkcbaa.Obj

/- The example of the objects. -/
namespace Go.Proofs.Ytnmkmamobhkcbaa.Obj
open Go.RowKit Go.Proofs.YtnmkmamobhkcbaaW.PrintWords Go.Proofs.YtnmkmamobhkcbaaW.PrintEv Go.Proofs.Ytnmkmamobhkcbaa.P Go.Proofs.Ytnmkmamobhkcbaa.Dig
set_option linter.unusedVariables false
def exO : O := ⟨1, [], [7]⟩
theorem exd : odg 1 [] [7] = 17106956 := by rfl
theorem oexample_ev : Ev (fun k => e8.f k) true := by
  have hb7 : Bytes [7] := by intro b hb; simp only [List.mem_cons, List.not_mem_nil, or_false] at hb; subst hb; decide
  have hok : r9.ok (mk1 17106956 exO) := by
    refine ⟨by rfl, by rfl, ⟨by decide, fun x hx => by cases hx⟩, ⟨by decide, fun x hx => ?_⟩⟩
    simp only [exO, mk1, List.mem_cons, List.not_mem_nil, or_false] at hx
    subst hx
    rfl
  have hof : oflt 1 [] [7] = (0, 0) := by rfl
  have h1 := odigest_ev (kd := 1) (ls := []) hb7
  have e1 : odR 1 [] [7] = (17106956, 0, 0) := by unfold odR; rw [hof, exd]; rfl
  rw [e1] at h1
  have cJ3 : sf ([] : List SO) = (0, 0) := rfl
  obtain ⟨i, b, hf, h2⟩ := put_good (l := []) (o := exO) (by intro x hx; cases hx) hb7 (sf_zero (by rw [cJ3])).2 cJ3 (oflt_zero (by show (oflt 1 [] [7]).1 = 0; rw [hof])).2 hof
  have hbf : b = false := by
    cases b with
    | true => have := (hf.yes rfl).1; simp at this
    | false => rfl
  subst hbf
  have e2 : putF [] exO i false = ([mk1 17106956 exO], 17106956, 0, 0) := by
    unfold putF
    rw [if_neg (by decide), if_neg (by decide), show odo exO = 17106956 from exd]
    simp
  rw [e2] at h2
  have hsf : sf [mk1 17106956 exO] = (0, 0) := by
    have ha : at_ [mk1 17106956 exO] 0 = mk1 17106956 exO := rfl
    show (if (1 : Int) > 40 then ((2 : Int), (0 : Int)) else sfl [mk1 17106956 exO] 1 0) = (0, 0)
    rw [if_neg (by decide)]
    unfold sfl
    rw [ha, show of1 (mk1 17106956 exO) = (0, 0) from hof, show od1 (mk1 17106956 exO) = 17106956 from exd]
    rfl
  rcases bP8 (l := [mk1 17106956 exO]) (d := 17106956) (by intro x hx; simp only [List.mem_cons, List.not_mem_nil, or_false] at hx; subst hx; exact hok) (by decide) with ⟨h, _⟩ | ⟨_, hs, i2, b2, hf2, h3⟩
  · rw [hsf] at h; exact absurd rfl h
  have H3 : b2 = true := by
    cases b2 with
    | true => rfl
    | false => exact absurd rfl (hf2.no rfl 0 (by decide) (by decide))
  subst H3
  unfold e8.f
  refine ev_some (ev_bind h1 (ev_bind h2 (ev_bind h3 ?_)))
  exact ev_pos rfl (ev_pos rfl (ev_pos rfl (ev_pos rfl (ev_pos rfl (ev_pos rfl (ev_cast (ev_now _) rfl))))))
end Go.Proofs.Ytnmkmamobhkcbaa.Obj

/- The pure statement of ObjectsDigestMatchesSpec. -/
namespace Go.Proofs.Ytnmkmamobhkcbaa.Pure
open Go.RowKit Go.Proofs.YtnmkmamobhkcbaaW.PrintWords Go.Proofs.YtnmkmamobhkcbaaW.PrintEv Go.Proofs.Ytnmkmamobhkcbaa.P Go.Proofs.Ytnmkmamobhkcbaa.Dig Go.Proofs.Ytnmkmamobhkcbaa.Obj
set_option linter.unusedVariables false
theorem ObjectsDigestMatchesSpec : changeforgelaw3_ObjectsDigestMatchesSpec.Pure := by
  intro o ho
  refine ev_ex ?_
  have hb : Bytes o.f2 := by
    intro b hb
    have := ho.2.2.2 b hb
    simp [Lit.wf, IntKind.min, IntKind.max, IntKind.bits, IntKind.signed] at this
    omega
  unfold changeforgelaw3_ObjectsDigestMatchesSpec.f
  refine ev_bind oexample_ev (ev_pos rfl (ev_bind (odigest_ev hb) (ev_bind ofault_ev ?_)))
  unfold odR
  by_cases h : (oflt o.f0 o.f1 o.f2).1 ≠ 0
  · rw [if_pos h]
    refine ev_neg h (ev_pos (by simp) ?_)
    exact ev_cast (ev_now _) (by simp)
  · obtain ⟨e, g⟩ := oflt_zero (Decidable.not_not.1 h)
    rw [if_neg h, e]
    refine ev_pos rfl (ev_pos rfl (ev_bind (rodigest_ev g hb) ?_))
    exact ev_cast (ev_now _) (by simp)
end Go.Proofs.Ytnmkmamobhkcbaa.Pure

/- The statement ObjectsDigestMatchesSpec holds: for every input the law returns true and its arguments read as before. The row, out of the pure statement (PureObjectsDigestMatchesSpec) and the printed contract. -/
namespace Go.Proofs.Ytnmkmamobhkcbaa.objectsDigestMatchesSpec
open Go.ChangeShapes Go.WideShapes Go.ChangeAt Go.RowKit
open Go.ChangeMaps (open_string shut_string)
open Go.Proofs.YtnmkmamobhkcbaaW.PrintWords Go.Proofs.YtnmkmamobhkcbaaW.PrintOpen Go.Proofs.Ytnmkmamobhkcbaa.P
set_option linter.unusedVariables false
theorem own : ownKnob Try.prog.godebug = none := by kernel_rfl
theorem laidOut : laidOutB Try.prog = true := by kernel_rfl
set_option maxRecDepth 100000 in
theorem lifted (os : Os) (started : os.Started) (H : Type) (enc : TypeId × Value → H) :
    ReturnsInHanded {} Try.checked os 8 .any (Rows.objectsDigestMatchesSpecSpec.pre6 enc Try.prog Try.f8 Rows.objectsDigestMatchesSpecRow.domain false) (Rows.objectsDigestMatchesSpecSpec.post enc Try.prog Try.f8 false true false false) := by
  refine returnsInHanded_of_change_sized (C := Try.checked) own started (by kernel_rfl) Try.func8
    (ChangeSpec.witness6 (enc := enc) (C := Try.checked) false ⟨#[], #[.agg #[.int .i64 0, .slice none 0 0, .slice none 0 0]], []⟩ 8 (by kernel_rfl) (by kernel_rfl) (by kernel_rfl) (by kernel_rfl)) ?_
  intro W base args ds gs before b_1 hW hcnd cJ4 _
  have hsz : (DataW.weightsEach Try.prog (Try.f8.params.toList ++ Rows.objectsDigestMatchesSpecSpec.plain.varTypes Try.prog) (ds ++ gs)).all (· ≤ reachBytes) = true := cJ4
  have hval : ∀ (j : Nat) t v, Try.f8.params[j]? = some t → args[j]? = some v → Value.okWide Try.prog W .any base t v := b_1
  have hW' := hW
  obtain ⟨p, q, hA0, hV, rfl, hfz, hnd⟩ := hW
  have hA : DataW.TrodAll enc Try.prog W 0 (fun _ => true) true Try.f8.params.toList args.toList ds p := hA0
  rw [Try.params8] at hA hval hsz
  obtain ⟨v0, vs0, d0, ds0, p0, q0, hargs, rfl, rfl, h0, r0⟩ := trodAll_cons hA
  obtain ⟨rfl, rfl, rfl⟩ := trodAll_nil r0
  obtain rfl : args = #[v0] := by cases args; simp_all
  obtain ⟨rfl, rfl⟩ := trodVars_none hV
  obtain ⟨cs0, rfl, _⟩ := okWide_struct Try.underlying44 (hval 0 44 v0 rfl rfl)
  have k0 := h0
  have lt0 : ∀ x ∈ p0, x.block < W.heap.size := by obtain ⟨m, hm⟩ := k0; exact DataW.trod_lt m _ _ _ hm
  obtain ⟨x0, hk0, y0⟩ := open_arg_struct aI6 h0 (fits_arg hsz (j := 0) rfl rfl)
  obtain ⟨dH9, dI0, dI1, dI2, z0, G0, F9, E0, D9⟩ := ab7 hk0
  have z0_ := Array.toList_inj.1 (z0.trans (show _ = Array.toList #[.int .i64 x0.f0, .slice dH9 x0.f1.length dI0, .slice dI1 x0.f2.length dI2] from rfl))
  subst z0_
  clear hA0 b_1 cJ4 hsz
  obtain ⟨k, hp⟩ := Pure.ObjectsDigestMatchesSpec x0 y0
  refine (P.changeforgelaw3_ObjectsDigestMatchesSpec.calls k x0.f0 _ _ x0.f1 _ _ x0.f2 true W F9 G0 D9 E0 hp).mono fun e W' ⟨he, bel⟩ => ?_
  subst he
  exact ⟨_, rfl, _, _, _, [], _, [], hW', trodAll_mk1 (shut_bool Try.underlying4 _), (trodAll_cons_mk (Below.trod laidOut (by kernel_rfl) (of_decide_eq_true (by kernel_rfl)) k0 bel lt0) trodAll_mk0), rfl, bel.frame _, fun h => by cases h⟩
theorem over : Rows.objectsDigestMatchesSpecRow.holds Try.pinned (OpenSpec.ofChange Rows.objectsDigestMatchesSpecSpec) :=
  OpenClaim.holds_of_wide 8 Try.f8 rfl rfl rfl rfl rfl rfl rfl ⟨rfl, rfl, rfl, rfl, rfl⟩ rfl rfl rfl rfl rfl (by kernel_rfl) Try.func8 (by kernel_rfl)
    (of_decide_eq_true (by kernel_rfl)) (by unfold Func.isWrapper; first | (rw [if_pos (by decide +kernel)]; kernel_rfl) | (rw [if_neg (by decide +kernel)]; exact ⟨rfl, rfl⟩))
    (fun os started H enc _ => lifted os started H enc)
theorem proved : Rows.ObjectsDigestMatchesSpecSaid := over
#print axioms proved
end Go.Proofs.Ytnmkmamobhkcbaa.objectsDigestMatchesSpec
namespace Go.Proofs.Ytnmkmamobhkcbaa
/-- The row, under a short name, for the claim. -/
theorem objectsDigestMatchesSpec_holds : Rows.ObjectsDigestMatchesSpecSaid := objectsDigestMatchesSpec.proved
end Go.Proofs.Ytnmkmamobhkcbaa
