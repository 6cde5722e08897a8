/- Texts of the proofs of 4 statements: what the printed functions come to, plain laws, rows (no condition beyond the statements' own). -/
import Derived.Test.YtnmkmamobhkcbaaGP0
import Derived.Test.YtnmkmamobhkcbaaGP30
import Derived.Test.YtnmkmamobhkcbaaGObj2
import Derived.Test.YtnmkmamobhkcbaaGP12
import Derived.Test.YtnmkmamobhkcbaaGP25
namespace Go.Proofs.Ytnmkmamobhkcbaa.P
open Go.RowKit Go.Proofs.YtnmkmamobhkcbaaW.PrintWords Go.Proofs.YtnmkmamobhkcbaaW.PrintLast Go.Proofs.YtnmkmamobhkcbaaW.PrintMore
attribute [local go_sem] max2_int min2_int max_two min_two max_three min_three max_four min_four   -- for this text's walks alone
set_option linter.unusedVariables false
set_option linter.unusedSimpArgs false
def pack_Read.f (k : Nat) (l0 : List Int) : Option ((List (fB)) × Int × Int) := (pack_read.f k l0).bind fun cQs => (some (cQs.1, cQs.2.2.1, cQs.2.2.2))
theorem pack_Read.mono : ∀ a0 k, LeO (pack_Read.f k a0) (pack_Read.f (k + 1) a0) := by
  intro a0 k
  unfold pack_Read.f
  repeat' first | (with_reducible first | exact pack_read.mono _ _ | exact LeO.refl _ | exact LeO.none _ | refine LeO.ite ?_ ?_ | refine LeO.bind ?_ (fun _ => ?_)) | exact pack_read.mono _ _ | exact LeO.none _ | refine LeO.ite ?_ ?_ | refine LeO.bind ?_ (fun _ => ?_)
set_option maxHeartbeats 8000000 in
set_option maxRecDepth 100000 in
theorem pack_Read.calls (k : Nat) (A0 : Option Addr) (c0 : Nat) (l0 : List Int) (r1 : List (fB)) (r2 : Int) (r3 : Int) (w : World) (hr0 : Kd.C (Kd.int .u8) w A0 l0.length l0) (hc0 : l0.length ≤ c0) (h : pack_Read.f k l0 = some (r1, r2, r3)) :
  Calls Try.prog 20 #[.slice A0 l0.length c0] w fun e w' => ∃ v0_ : Value, e = .returned (.tuple #[.agg #[v0_], .agg #[.int .i64 r2, .int .i64 r3]]) ∧ Kd.S qL 46 w' w.heap.size (fun _ => True) v0_ r1 ∧ Below w.heap.size w w' := by
  have aP7 := Try.underlying24
  have aQg := Try.underlying28
  have HR0 := aZ hr0
  have HC0 := aZ hc0
  clear hr0 hc0
  have HB := aZ (Below.refl w.heap.size w)
  have H : ((pack_read.f k l0).bind fun cQs => (some (cQs.1, cQs.2.2.1, cQs.2.2.2))) = some (r1, r2, r3) := h
  clear h
  replace H := Option.bind_eq_some_iff.mp H
  obtain ⟨⟨bL8, gMj, bL9, bSi⟩, A20, H⟩ := H
  replace H : (some (bL8, bL9, bSi)) = some (r1, r2, r3) := H
  have A2 := aZ A20
  clear A20
  simp only [Option.some.injEq, Prod.mk.injEq] at H
  obtain ⟨rfl, rfl, rfl⟩ := H
  go_enter Try.func20, Try.ntmps20
  try go_wp2_with (first | ((with_reducible refine gate_dst (N := 2) rfl ?_); refine box_event ?hg (N := 2) ?hd (cs := #[.slice none 0 0]) (t := 24) ?hr ?_; (case hd => rfl); (case hg => rfl); (case hr => first | (go_simp; done) | (go_simp; rfl)); intro cQt hg w3 hbox hb; have aIm := aZ (hbox); have iEy := xgh hg HB; have fC4 := xgh hg HB; replace HB := xhl HB hb; clear hb hbox hg) | ((with_reducible refine gate_dst (N := 3) rfl ?_); refine box_event ?hg (N := 3) ?hd (cs := #[.int .i64 0, .int .i64 0]) (t := 28) ?hr ?_; (case hd => rfl); (case hg => rfl); (case hr => first | (go_simp; done) | (go_simp; rfl)); intro bLz hg w4 hbox hb; have aNa := aZ (hbox); have iEz := xgh hg HB; have fC5 := xgh hg HB; replace HB := xhl HB hb; have bHi := xnl hg aIm; have bRz := xng hg aIm; replace aIm := xbb aIm hb; clear hb hbox hg) | ((with_reducible refine gate_callee (f := 44) rfl ?_); refine goesL_ (some 9) rfl rfl Try.func44 (by kernel_rfl) rfl #[.slice A0 l0.length c0] rfl xmp ?_; (with_reducible refine (pack_read.calls k _ _ l0 bL8 gMj bL9 bSi _ ?side1 ?side2 A2.out).mono ?_); (case side1 => exact xcb HR0 HB); (case side2 => exact HC0.out); rintro e w5 ⟨iK8, hXi, rfl, gZ, ho1, hb⟩; refine ⟨_, rfl, ?_⟩; have bL0 := aZ (Kd.S_lower gZ (lZ (by repeat (first | (with_reducible first | exact HB.out | apply lA | apply lN | apply lD | refine lS ?_ fC4.out | refine lS ?_ fC5.out) | exact HB.out)))); have bTd := aZ (Kd.R_lower ho1 (lZ (by repeat (first | (with_reducible first | exact HB.out | apply lA | apply lN | apply lD | refine lS ?_ fC4.out | refine lS ?_ fC5.out) | exact HB.out)))); replace aIm := xbb aIm hb; replace aNa := xbb aNa hb; replace HB := xhl HB hb; (try clear hb); (try clear iV); (try clear hk); (try clear hi); (try clear gZ); (try clear ho1)) | ((with_reducible refine gate_dst (N := 4) rfl ?_); refine box_event ?hg (N := 4) ?hd (cs := #[.slice none 0 0]) (t := 24) ?hr ?_; (case hd => rfl); (case hg => rfl); (case hr => first | (go_simp; done) | (go_simp; rfl)); intro bHj hg w6 hbox hb; replace bL0 := xS bL0 hb; replace bTd := xR bTd hb; have bBi := aZ (hbox); have iE0 := xgh hg HB; have iE1 := xgh hg HB; replace HB := xhl HB hb; have cUq := xnl hg aIm; have cGb := xng hg aIm; replace aIm := xbb aIm hb; have cGc := xnl hg aNa; have bHk := xng hg aNa; replace aNa := xbb aNa hb; clear hb hbox hg) | ((with_reducible refine gate_dst (N := 6) rfl ?_); refine box_event ?hg (N := 6) ?hd (cs := #[.int .i64 0, .int .i64 0]) (t := 28) ?hr ?_; (case hd => rfl); (case hg => rfl); (case hr => first | (go_simp; done) | (go_simp; rfl)); intro aGf hg w7 hbox hb; replace bL0 := xS bL0 hb; replace bTd := xR bTd hb; have bDd := aZ (hbox); have iE2 := xgh hg HB; have iE3 := xgh hg HB; replace HB := xhl HB hb; have cUr := xnl hg aIm; have bR0 := xng hg aIm; replace aIm := xbb aIm hb; have cGd := xnl hg aNa; have aU5 := xng hg aNa; replace aNa := xbb aNa hb; have cGe := xnl hg bBi; have cUs := xng hg bBi; replace bBi := xbb bBi hb; clear hb hbox hg; obtain ⟨Ao8, co8, eo8⟩ := Kd.S_slice bL0.out; subst eo8; have dJq := cGb.out; have dJr := cUq.out; have dDc := bHk.out; have dDd := cGc.out; have bMj := cGe.out; have bMk := cUs.out; have aHh : w7.cell? ⟨bHj, 0, none⟩ = some (.slice none 0 0) := (blk_cell bBi.out 0).trans rfl; have aHi := blk_frozen bBi.out 0; have bS1 := bR0.out; have bS2 := cUr.out; have cSb := aU5.out; have cSc := cGd.out; have bO9 : w7.cell? ⟨aGf, 0, none⟩ = some (.int .i64 0) := (blk_cell bDd.out 0).trans rfl; have cJm : w7.cell? ⟨aGf, 1, none⟩ = some (.int .i64 0) := (blk_cell bDd.out 1).trans rfl; have bPa := blk_frozen bDd.out 0; have cJn := blk_frozen bDd.out 1))
  replace bL0 : Aside0 (Kd.S qL 46 (((w7.setCell ⟨bHj, 0, none⟩ (.slice Ao8 bL8.length co8)).setCell ⟨aGf, 0, none⟩ (.int .i64 bL9)).setCell ⟨aGf, 1, none⟩ (.int .i64 bSi)) w.heap.size (fun _ => True) (.slice Ao8 bL8.length co8) bL8) := ⟨by (with_reducible repeat (first | apply Kd.S_alloc | apply Kd.S_drewN | apply Kd.S_drew)); exact Kd.S_mono (Kd.S_far (p := ⟨aGf, 1, none⟩) (Kd.S_far (p := ⟨aGf, 0, none⟩) (Kd.S_far (p := ⟨bHj, 0, none⟩) (Kd.S_types (Kd.S_types bL0.out bBi.out (by decide)) bDd.out (by decide)) (fun _ hk => hk.1.2) (.slice Ao8 bL8.length co8)) (fun _ hk => hk.2) (.int .i64 bL9)) (fun _ hk => hk.2) (.int .i64 bSi)) (fun _ hk => trivial)⟩
  replace bTd : Aside0 (Kd.R k48 48 (((w7.setCell ⟨bHj, 0, none⟩ (.slice Ao8 bL8.length co8)).setCell ⟨aGf, 0, none⟩ (.int .i64 bL9)).setCell ⟨aGf, 1, none⟩ (.int .i64 bSi)) w.heap.size (fun _ => True) hXi gMj) := ⟨by (with_reducible repeat (first | apply Kd.rA | apply Kd.rN | apply Kd.rD)); exact Kd.R_mono (Kd.R_far (p := ⟨aGf, 1, none⟩) (Kd.R_far (p := ⟨aGf, 0, none⟩) (Kd.R_far (p := ⟨bHj, 0, none⟩) (Kd.R_types (Kd.R_types bTd.out bBi.out (by decide)) bDd.out (by decide)) (fun _ hk => hk.1.2) (.slice Ao8 bL8.length co8)) (fun _ hk => hk.2) (.int .i64 bL9)) (fun _ hk => hk.2) (.int .i64 bSi)) (fun _ hk => trivial)⟩
  replace aIm : Aside0 ((((w7.setCell ⟨bHj, 0, none⟩ (.slice Ao8 bL8.length co8)).setCell ⟨aGf, 0, none⟩ (.int .i64 bL9)).setCell ⟨aGf, 1, none⟩ (.int .i64 bSi)).heap[cQt]? = some (.cells #[.slice none 0 0] 24 (0, 0))) := xk aIm
  replace aNa : Aside0 ((((w7.setCell ⟨bHj, 0, none⟩ (.slice Ao8 bL8.length co8)).setCell ⟨aGf, 0, none⟩ (.int .i64 bL9)).setCell ⟨aGf, 1, none⟩ (.int .i64 bSi)).heap[bLz]? = some (.cells #[.int .i64 0, .int .i64 0] 28 (0, 0))) := xk aNa
  replace bBi : Aside0 ((((w7.setCell ⟨bHj, 0, none⟩ (.slice Ao8 bL8.length co8)).setCell ⟨aGf, 0, none⟩ (.int .i64 bL9)).setCell ⟨aGf, 1, none⟩ (.int .i64 bSi)).heap[bHj]? = some (.cells #[.slice Ao8 bL8.length co8] 24 (0, 0))) := ⟨by refine xpl ?_; refine blk_far ?_ cGe.out _; refine xpl ?_; refine blk_far ?_ cGe.out _; refine xpl ?_; refine blk_put (cs := #[.slice none 0 0]) ?_ 0 _ rfl; refine xpl ?_; exact bBi.out⟩
  replace bDd : Aside0 ((((w7.setCell ⟨bHj, 0, none⟩ (.slice Ao8 bL8.length co8)).setCell ⟨aGf, 0, none⟩ (.int .i64 bL9)).setCell ⟨aGf, 1, none⟩ (.int .i64 bSi)).heap[aGf]? = some (.cells #[.int .i64 bL9, .int .i64 bSi] 28 (0, 0))) := ⟨by refine xpl ?_; refine blk_put (cs := #[.int .i64 bL9, .int .i64 0]) ?_ 1 _ rfl; refine xpl ?_; refine blk_put (cs := #[.int .i64 0, .int .i64 0]) ?_ 0 _ rfl; refine xpl ?_; refine blk_far ?_ cUs.out _; refine xpl ?_; exact bDd.out⟩
  replace HB : Aside0 (Below w.heap.size w (((w7.setCell ⟨bHj, 0, none⟩ (.slice Ao8 bL8.length co8)).setCell ⟨aGf, 0, none⟩ (.int .i64 bL9)).setCell ⟨aGf, 1, none⟩ (.int .i64 bSi))) := xb HB
  generalize (((w7.setCell ⟨bHj, 0, none⟩ (.slice Ao8 bL8.length co8)).setCell ⟨aGf, 0, none⟩ (.int .i64 bL9)).setCell ⟨aGf, 1, none⟩ (.int .i64 bSi)) = w16 at bL0 bTd aIm aNa bBi bDd HB ⊢
  replace bL0 := aZ (Kd.S_drew bL0.out)
  replace bTd := aZ (Kd.rD bTd.out)
  replace aIm := aZ (bD aIm.out)
  replace aNa := aZ (bD aNa.out)
  replace bBi := aZ (bD bBi.out)
  replace bDd := aZ (bD bDd.out)
  replace HB := aZ (lD HB.out)
  refine start_ (n := 4) (S := fun w' => w'.cell? ⟨bHj, 0, none⟩ = some (.slice Ao8 bL8.length co8) ∧ w'.cell? ⟨aGf, 0, none⟩ = some (.int .i64 bL9) ∧ w'.cell? ⟨aGf, 1, none⟩ = some (.int .i64 bSi)) (ds := []) #[false, false, false, false] (by kernel_rfl) rfl rfl ⟨(blk_cell bBi.out 0).trans rfl, (blk_cell bDd.out 0).trans rfl, (blk_cell bDd.out 1).trans rfl⟩ (fun hHeld => ?_)
  generalize w16.drew = w17 at bL0 bTd aIm aNa bBi bDd HB hHeld ⊢
  refine take_ (i := 0) (N := some 13) (v := ?_) (a' := ?_) #[true, false, false, false] rfl rfl (by kernel_rfl) (fun _ _ _ h => h) (Or.inl ⟨by rfl, ?_⟩) hHeld ?_ ?_
  rotate_left
  · rintro w' ⟨s0, s1, s2⟩
    go_simp
    with_reducible rfl
  rotate_left
  · simp only [Act.put, List.setIfInBounds_toArray, List.set_cons_zero, List.set_cons_succ, i64_w, i32_w]
    rfl
  refine take_ (i := 1) (N := some 14) (v := ?_) (a' := ?_) #[true, true, false, false] rfl rfl (by kernel_rfl) (fun _ _ _ h => h) (Or.inl ⟨by rfl, ?_⟩) hHeld ?_ ?_
  rotate_left
  · rintro w' ⟨s0, s1, s2⟩
    go_simp
    with_reducible rfl
  rotate_left
  · simp only [Act.put, List.setIfInBounds_toArray, List.set_cons_zero, List.set_cons_succ, i64_w, i32_w]
    rfl
  refine one_ (i := 2) (N := none) #[true, true, true, false] rfl rfl (by kernel_rfl) (by decide) (fun K hK => ?_)
  have iK9 : w17.cell? ⟨cQt, 0, none⟩ = some (.slice none 0 0) := (blk_cell aIm.out 0).trans rfl
  have iE4 := blk_frozen aIm.out 0
  have hEi := bRz.out
  have hEj := cGb.out
  have hEm := bR0.out
  have hEn := bHi.out
  have hEo := cUq.out
  have hEp := cUr.out
  refine skip_ (w1 := ?_) (by rfl) rfl ?_ ?_
  rotate_left
  · go_simp
    rfl
  refine hK.out _ _ ⟨((cell_far (p := ⟨cQt, _, none⟩) cGb.out _).trans (hHeld.1)), ((cell_far (p := ⟨cQt, _, none⟩) bR0.out _).trans (hHeld.2.1)), ((cell_far (p := ⟨cQt, _, none⟩) bR0.out _).trans (hHeld.2.2))⟩ (fun hHeld => ?_)
  clear hK K
  refine one_ (i := 3) (N := none) #[true, true, true, true] rfl rfl (by kernel_rfl) (by decide) (fun K hK => ?_)
  have hKl : w17.cell? ⟨bLz, 0, none⟩ = some (.int .i64 0) := (blk_cell aNa.out 0).trans rfl
  have fZ4 := blk_frozen aNa.out 0
  have eTv := bHi.out
  have eTw := bHk.out
  have eTx := aU5.out
  have eTy := bRz.out
  have eTz := cGc.out
  have eT0 := cGd.out
  have fZ5 : w17.cell? ⟨bLz, 1, none⟩ = some (.int .i64 0) := (blk_cell aNa.out 1).trans rfl
  have fBm := blk_frozen aNa.out 1
  have eT1 := bHi.out
  have dTo := bHk.out
  have dTp := aU5.out
  have eT2 := bRz.out
  have dTq := cGc.out
  have dTr := cGd.out
  refine skip_ (w1 := ?_) (by rfl) rfl ?_ ?_
  rotate_left
  · go_simp
    rfl
  refine hK.out _ _ ⟨((cell_far (p := ⟨bLz, _, none⟩) bHk.out _).trans (((cell_far (p := ⟨bLz, _, none⟩) bHk.out _).trans (hHeld.1)))), ((cell_far (p := ⟨bLz, _, none⟩) aU5.out _).trans (((cell_far (p := ⟨bLz, _, none⟩) aU5.out _).trans (hHeld.2.1)))), ((cell_far (p := ⟨bLz, _, none⟩) aU5.out _).trans (((cell_far (p := ⟨bLz, _, none⟩) aU5.out _).trans (hHeld.2.2))))⟩ (fun hHeld => ?_)
  clear hK K
  refine done_ (by kernel_rfl) ?_
  try go_wp2
  refine bodyPost_ret (results_cc rfl _ _ cQt bLz 24 28 #[.slice Ao8 bL8.length co8] #[.int .i64 bL9, .int .i64 bSi] (0, 0) (0, 0) _ _ rfl (by refine xpl ?_; refine blk_far ?_ bHi.out _; refine xpl ?_; refine blk_far ?_ bHi.out _; refine xpl ?_; refine blk_put (cs := #[.slice none 0 0]) ?_ 0 _ rfl; refine xpl ?_; exact aIm.out) Try.underlying24 rfl (by kernel_rfl) rfl (by refine xpl ?_; refine blk_put (cs := #[.int .i64 bL9, .int .i64 0]) ?_ 1 _ rfl; refine xpl ?_; refine blk_put (cs := #[.int .i64 0, .int .i64 0]) ?_ 0 _ rfl; refine xpl ?_; refine blk_far ?_ bRz.out _; refine xpl ?_; exact aNa.out) Try.underlying28 rfl (by kernel_rfl)) rfl ?_
  exact ⟨_, xre, by (with_reducible repeat (first | apply Kd.S_alloc | apply Kd.S_drewN | apply Kd.S_drew)); exact Kd.S_mono (Kd.S_far (p := ⟨bLz, 1, none⟩) (Kd.S_far (p := ⟨bLz, 0, none⟩) (Kd.S_far (p := ⟨cQt, 0, none⟩) (Kd.S_types (Kd.S_types bL0.out aIm.out (by decide)) aNa.out (by decide)) (fun _ hk => hk.1.2) (.slice Ao8 bL8.length co8)) (fun _ hk => hk.2) (.int .i64 bL9)) (fun _ hk => hk.2) (.int .i64 bSi)) (fun _ hk => trivial), xq HB⟩

end Go.Proofs.Ytnmkmamobhkcbaa.P

/- The bytes of a pack: pack.Build and the reference's PackBytes, one list. -/
namespace Go.Proofs.Ytnmkmamobhkcbaa.Obj
open Go.RowKit Go.Proofs.YtnmkmamobhkcbaaW.PrintWords Go.Proofs.YtnmkmamobhkcbaaW.PrintEv Go.Proofs.Ytnmkmamobhkcbaa.P Go.Proofs.Ytnmkmamobhkcbaa.Dig
open Go.Proofs.YtnmkmamobhkcbaaW.PrintMore
set_option linter.unusedVariables false

/-- The bytes of an object in a pack. -/
def pke (ls ds : List Int) (kd : Int) : List Int := [kd % 256, (ls.length : Int) % 256, (ds.length : Int) / 256 % 256, (ds.length : Int) % 256] ++ wides ls ++ ds
def pk1 (o : SO) : List Int := pke o.f1.f1 o.f1.f2 o.f1.f0
/-- The bytes of a pack without its digest. -/
def pkl (l : List SO) : List Int := [80, 75, (l.length : Int) % 256] ++ l.flatMap pk1
def pkb (l : List SO) : List Int := pkl l ++ wide (dgf 1 (pkl l))
theorem pke_len (ls ds : List Int) (kd : Int) : (pke ls ds kd).length = 4 + 8 * ls.length + ds.length := by
  unfold pke
  simp [wides_len]
  omega
theorem dB9 {o : SO} (g : bS0 o) : ((pk1 o).length : Int) ≤ 1244 := by
  have := pke_len o.f1.f1 o.f1.f2 o.f1.f0
  have h1 := g.nl
  have h2 := g.nd
  show ((pke _ _ _).length : Int) ≤ _
  omega
theorem eA1 {o : SO} (h : Bytes o.f1.f2) : Bytes (pk1 o) := by
  refine Bytes.append (Bytes.append (fun b hb => ?_) (wides_bytes _)) h
  simp only [List.mem_cons, List.not_mem_nil, or_false] at hb
  rcases hb with rfl | rfl | rfl | rfl <;> omega
theorem number_ev {l : List Int} {n : Int} (hl : (l.length : Int) ≤ 100000) : Ev (fun k => pack_number.f k l n) (l ++ wide n) := by
  have step : ∀ {p : Int} {o : List Int} {r : List Int}, 0 ≤ p ∧ p ≤ 56 → (o.length : Int) ≤ 200000 → Ev (fun k => pack_number.l0 k (o ++ [shr .i64 n p % 256]) n (p - 8)) r → Ev (fun k => pack_number.l0 k o n p) r := by
    intro p o r hp hl hr
    refine Ev.step (fun k_ => by rw [pack_number.l0]) ?_
    refine ev_pos (by omega) (ev_pos (by omega) (ev_pos (by omega) ?_))
    rw [w64 (x := p - 8) (by omega)]
    exact hr
  unfold pack_number.f
  refine step (by decide) (by omega) (step (by decide) (by simp; omega) (step (by decide) (by simp; omega) (step (by decide) (by simp; omega) (step (by decide) (by simp; omega) (step (by decide) (by simp; omega) (step (by decide) (by simp; omega) (step (by decide) (by simp; omega) ?_)))))))
  refine Ev.step (fun k_ => by rw [pack_number.l0]) ?_
  refine ev_neg (by decide) (ev_cast (ev_now _) ?_)
  rw [show (56 - 8 : Int) = 48 from rfl, show (48 - 8 : Int) = 40 from rfl, show (40 - 8 : Int) = 32 from rfl, show (32 - 8 : Int) = 24 from rfl, show (24 - 8 : Int) = 16 from rfl, show (16 - 8 : Int) = 8 from rfl, show (8 - 8 : Int) = 0 from rfl, s56, s48, s40, s32, s24, s16, s8, s0]
  simp [wide]
theorem eN2 {ls ds : List Int} {kd : Int} (hl : (ls.length : Int) ≤ 30) (hd : (ds.length : Int) ≤ 1000) : ∀ (m i : Nat) (o : List Int), i + m = ls.length → (o.length : Int) ≤ 60000 + 8 * i → Ev (fun k => pack_entry.l0 k o ls (ls.length : Int) (i : Int) kd ls ds) (o ++ wides (ls.drop i) ++ ds) := by
  intro m
  induction m with
  | zero =>
    intro i o hi ho
    refine Ev.step (fun k_ => by rw [pack_entry.l0]) ?_
    rw [List.drop_eq_nil_of_le (by omega)]
    refine ev_neg (by omega) (ev_pos (by omega) (ev_cast (ev_now _) ?_))
    simp [wides]
  | succ m ih =>
    intro i o hi ho
    have next := ih (i + 1) (o ++ wide (rd ls (i : Int))) (by omega) (by rw [List.length_append, wide_len]; omega)
    rw [show ((i + 1 : Nat) : Int) = (i : Int) + 1 by omega] at next
    refine Ev.step (fun k_ => by rw [pack_entry.l0]) ?_
    refine ev_pos (by omega) (ev_pos (by omega) (ev_pos (by omega) (ev_bind (number_ev (by omega)) ?_)))
    rw [w64 (x := (i : Int) + 1) (by omega)]
    refine ev_cast next ?_
    rw [drop_cons_rd (xs := ls) (i := i) (by omega)]
    simp [wides]
theorem entry_ev {o : SO} {b : List Int} (g : bS0 o) (hb : (b.length : Int) ≤ 50000) : Ev (fun k => pack_entry.f k b o.f1.f0 o.f1.f1 o.f1.f2) (b ++ pk1 o) := by
  have h1 := g.nl
  have h2 := g.nd
  unfold pack_entry.f
  refine ev_some (ev_pos (by simp; omega) ?_)
  refine ev_cast (eN2 h1 h2 o.f1.f1.length 0 _ (by omega) (by simp; omega)) ?_
  rw [List.drop_zero]
  show _ = b ++ pke _ _ _
  unfold pke
  simp
section
variable {l : List SO}
theorem drop_at {i : Nat} (h : i < l.length) : l.drop i = at_ l (i : Int) :: l.drop (i + 1) := by
  show _ = rdOf _ l (i : Int) :: _
  rw [rdOf_nat _ l h]
  exact List.drop_eq_getElem_cons h
theorem flat_len (hs : ∀ i : Int, 0 ≤ i → i < l.length → bS0 (at_ l i)) : ∀ (m i : Nat), i + m = l.length → (((l.drop i).flatMap pk1).length : Int) ≤ 1244 * m := by
  intro m
  induction m with
  | zero => intro i hi; rw [List.drop_eq_nil_of_le (by omega)]; simp
  | succ m ih =>
    intro i hi
    have h1 := ih (i + 1) (by omega)
    have h2 := dB9 (hs (i : Int) (by omega) (by omega))
    rw [drop_at (i := i) (by omega), List.flatMap_cons, List.length_append]
    omega
theorem pkl_len (hs : Store l) : ((pkl l).length : Int) ≤ 49763 := by
  have h := flat_len (l := l) (fun i h0 h1 => (hs.good i h0 h1).1) l.length 0 (by omega)
  have hl := hs.len
  rw [List.drop_zero] at h
  show ((([80, 75, (l.length : Int) % 256] : List Int) ++ l.flatMap pk1).length : Int) ≤ _
  rw [List.length_append]
  simp only [List.length_cons, List.length_nil]
  omega
theorem flat_bytes {l : List SO} (hp : ∀ x ∈ l, fB.ok x) : Bytes (l.flatMap pk1) := by
  intro b hb
  obtain ⟨x, hx, h⟩ := List.mem_flatMap.1 hb
  exact eA1 (ok_bytes (hp x hx)) b h
theorem pkl_bytes (hp : ∀ x ∈ l, fB.ok x) : Bytes (pkl l) := by
  refine Bytes.append (fun b hb => ?_) (flat_bytes hp)
  simp only [List.mem_cons, List.not_mem_nil, or_false] at hb
  rcases hb with rfl | rfl | rfl <;> omega
/-- What pack.Build comes to. -/
def pbR (l : List SO) : List Int × Int × Int := if (sf l).1 ≠ 0 then ([], sf l) else if ((pkl l).length : Int) > 4088 then ([], 10, -1) else (pkb l, 0, 0)
theorem eN3 (hp : ∀ x ∈ l, fB.ok x) (hs : Store l) : ∀ (m i : Nat) (b : List Int), i + m = l.length → (b.length : Int) ≤ 3 + 1244 * i → b ++ (l.drop i).flatMap pk1 = pkl l → Ev (fun k => pack_Build.l0 k b l (l.length : Int) (i : Int)) (if ((pkl l).length : Int) > 4088 then ([], 10, -1) else (pkb l, 0, 0)) := by
  have hl := hs.len
  intro m
  induction m with
  | zero =>
    intro i b hi hb he
    refine Ev.step (fun k_ => by rw [pack_Build.l0]) ?_
    rw [List.drop_eq_nil_of_le (by omega)] at he
    have he : b = pkl l := by rw [← he]; simp
    rw [he]
    refine ev_neg (by omega) (ev_ite (fun _ => ev_now _) (fun hc => ?_))
    have := of_ev (l := pkl l) (pkl_bytes hp)
    have hr : ofR (pkl l) = (dgf 1 (pkl l), 0, 0) := by unfold ofR; rw [if_neg (by omega)]
    rw [hr] at this
    exact ev_bind this (ev_bind (number_ev (by omega)) (ev_now _))
  | succ m ih =>
    intro i b hi hb he
    have hg := (hs.good (i : Int) (by omega) (by omega)).1
    have hk := dB9 hg
    have next := ih (i + 1) (b ++ pk1 (at_ l (i : Int))) (by omega) (by rw [List.length_append]; omega) (by
      rw [← he, drop_at (i := i) (by omega), List.flatMap_cons, List.append_assoc])
    rw [show ((i + 1 : Nat) : Int) = (i : Int) + 1 by omega] at next
    refine Ev.step (fun k_ => by rw [pack_Build.l0]) ?_
    refine ev_pos (by omega) (ev_pos (by omega) (ev_pos (by omega) (ev_bind (entry_ev hg (by omega)) ?_)))
    rw [w64 (x := (i : Int) + 1) (by omega)]
    exact next
theorem build_ev (hp : ∀ x ∈ l, fB.ok x) : Ev (fun k => pack_Build.f k l) (pbR l) := by
  unfold pack_Build.f pbR
  refine ev_bind (val_ev hp) ?_
  by_cases c : (sf l).1 ≠ 0
  · rw [if_pos c]
    refine ev_pos ?_ (ev_now _)
    have : ((sf l).1 == 0) = false := beq_eq_false_iff_ne.2 c
    simp [this]
  · obtain ⟨e, hs⟩ := sf_zero (Decidable.not_not.1 c)
    rw [if_neg c, e]
    refine ev_neg (by decide) ?_
    exact eN3 hp hs l.length 0 _ (by omega) (by simp) (by rw [List.drop_zero]; rfl)

/-! the reference's -/
theorem bytesOf_append (a b : ByteArray) : bytesOf (a ++ b) = bytesOf a ++ bytesOf b := by simp [bytesOf]
theorem bytesOf_str {y : List Int} (h : Bytes y) : bytesOf (strOfNums y) = y := by
  unfold bytesOf strOfNums
  simp only [List.map_map]
  conv => rhs; rw [← List.map_id y]
  apply List.map_congr_left
  intro x hx
  have := h x hx
  simp [UInt8.toNat_ofNat']
  omega
theorem size_of {s : ByteArray} {y : List Int} (h : bytesOf s = y) : s.size = y.length := by rw [← h, bytesOf_length]
theorem fin_ev {s : ByteArray} {y : List Int} (h : bytesOf s = y) (hb : Bytes y) (hl : (y.length : Int) ≤ 60000) : Ev (fun k => pp_fin.f k s) (y ++ wide (dgf 1 y)) := by
  have hs := size_of h
  unfold pp_fin.f
  rw [h]
  refine ev_pos (by omega) (ev_bind (dof_ev (by omega) hb) (ev_bind (wide_ev ?_) (ev_pos ?_ (ev_now _))))
  · have := dgf_lt (h := 1) (bs := y) (by decide)
    omega
  · rw [wide_len]; omega
theorem gQq (hs : Store l) {o : SO} (g : bS0 o) {i : Nat} {R : List Int} {y : List Int} (hy : (y.length : Int) ≤ 50000) (hby : Bytes o.f1.f2)
    (hR : ∀ t : ByteArray, bytesOf t = y ++ wides o.f1.f1 ++ o.f1.f2 → Ev (fun k => aX.l0 k t (wrap64 ((i : Int) + 1)) l) R) :
    ∀ (m q : Nat) (t : ByteArray), q + m = o.f1.f1.length → bytesOf t = y ++ wides (o.f1.f1.take q) → Ev (fun k => aX.l1 k t (i : Int) (q : Int) l o.f1.f0 o.f1.f1 o.f1.f2) R := by
  have h1 := g.nl
  have h2 := g.nd
  intro m
  induction m with
  | zero =>
    intro q t hq ht
    rw [List.take_of_length_le (by omega)] at ht
    have hsz := size_of ht
    rw [List.length_append, wides_len] at hsz
    refine Ev.step (fun k_ => by rw [aX.l1]) ?_
    refine ev_neg (by omega) (ev_pos (by rw [strOfNums_size]; omega) ?_)
    exact hR _ (by rw [bytesOf_append, ht, bytesOf_str hby])
  | succ m ih =>
    intro q t hq ht
    have hsz := size_of ht
    rw [List.length_append, wides_len, List.length_take] at hsz
    have hx := g.link _ (rd_mem (xs := o.f1.f1) (i := (q : Int)) (by omega) (by omega))
    have next := ih (q + 1) (t ++ strOfNums (wide (rd o.f1.f1 (q : Int)))) (by omega) (by
      rw [bytesOf_append, ht, bytesOf_str (wide_bytes _), List.append_assoc]
      congr 1
      rw [List.take_succ_eq_append_getElem (by omega), ← rd_nat o.f1.f1 (i := q) (by omega)]
      simp [wides])
    rw [show ((q + 1 : Nat) : Int) = (q : Int) + 1 by omega] at next
    refine Ev.step (fun k_ => by rw [aX.l1]) ?_
    refine ev_pos (by omega) (ev_pos (by omega) (ev_bind (wide_ev (by omega)) (ev_pos (by rw [strOfNums_size, wide_len]; omega) ?_)))
    rw [w64 (x := (q : Int) + 1) (by omega)]
    exact next
theorem gQr (hp : ∀ x ∈ l, fB.ok x) (hs : Store l) : ∀ (m i : Nat) (t : ByteArray), i + m = l.length → ((bytesOf t).length : Int) ≤ 3 + 1244 * i → bytesOf t ++ (l.drop i).flatMap pk1 = pkl l → Ev (fun k => aX.l0 k t (i : Int) l) (pkb l) := by
  have hl := hs.len
  have hL := pkl_len hs
  intro m
  induction m with
  | zero =>
    intro i t hi hb he
    refine Ev.step (fun k_ => by rw [aX.l0]) ?_
    rw [List.drop_eq_nil_of_le (by omega)] at he
    have he : bytesOf t = pkl l := by rw [← he]; simp
    exact ev_neg (by omega) (ev_bind (fin_ev he (pkl_bytes hp) (by omega)) (ev_now _))
  | succ m ih =>
    intro i t hi hb he
    have hg := (hs.good (i : Int) (by omega) (by omega)).1
    have hk := dB9 hg
    have h1 := hg.nl
    have h2 := hg.nd
    have hby := ok_bytes (hp _ (at_mem (i := (i : Int)) (by omega) (by omega)))
    have hsz := bytesOf_length t
    obtain ⟨y, hy⟩ : ∃ y, y = ([(at_ l (i : Int)).f1.f0 % 256, ((at_ l (i : Int)).f1.f1.length : Int) % 256, ((at_ l (i : Int)).f1.f2.length : Int) / 256 % 256, ((at_ l (i : Int)).f1.f2.length : Int) % 256] : List Int) := ⟨_, rfl⟩
    have hyb : Bytes y := by
      intro b hb
      rw [hy] at hb
      simp only [List.mem_cons, List.not_mem_nil, or_false] at hb
      rcases hb with rfl | rfl | rfl | rfl <;> omega
    have hyl : y.length = 4 := by rw [hy]; rfl
    refine Ev.step (fun k_ => by rw [aX.l0]) ?_
    rw [w64 (x := ((at_ l (i : Int)).f1.f2.length : Int) / 256) (by omega), ← hy]
    refine ev_pos (by omega) (ev_pos (by omega) (ev_some (ev_pos (by rw [strOfNums_size, hyl]; omega) ?_)))
    refine gQq hs hg (y := bytesOf t ++ y) (by rw [List.length_append, hyl]; omega) hby (fun t' ht' => ?_) (at_ l (i : Int)).f1.f1.length 0 _ (by omega) (by rw [bytesOf_append, bytesOf_str hyb]; simp [wides])
    rw [w64 (x := (i : Int) + 1) (by omega)]
    have e : bytesOf t' = bytesOf t ++ pk1 (at_ l (i : Int)) := by
      rw [ht', hy]
      show _ = bytesOf t ++ pke _ _ _
      unfold pke
      simp
    have next := ih (i + 1) t' (by omega) (by rw [e, List.length_append]; omega) (by
      rw [← he, drop_at (i := i) (by omega), List.flatMap_cons, e, List.append_assoc])
    rw [show ((i + 1 : Nat) : Int) = (i : Int) + 1 by omega] at next
    exact next
theorem packbytes_ev (hp : ∀ x ∈ l, fB.ok x) (hs : Store l) : Ev (fun k => aX.f k l) (pkb l) := by
  have hb : Bytes [(l.length : Int) % 256] := by
    intro b hb
    simp only [List.mem_cons, List.not_mem_nil, or_false] at hb
    subst hb
    omega
  have e : bytesOf ((⟨#[80, 75]⟩ : ByteArray) ++ strOfNums [(l.length : Int) % 256]) = [80, 75, (l.length : Int) % 256] := by
    rw [bytesOf_append, bytesOf_str hb]
    rfl
  unfold aX.f
  refine ev_some (ev_pos (by rw [strOfNums_size]; simp) ?_)
  exact gQr hp hs l.length 0 _ (by omega) (by rw [e]; simp) (by rw [e, List.drop_zero]; rfl)
end
end Go.Proofs.Ytnmkmamobhkcbaa.Obj

/- The example of the packs. -/
namespace Go.Proofs.Ytnmkmamobhkcbaa.Obj
open Go.RowKit Go.Proofs.YtnmkmamobhkcbaaW.PrintWords Go.Proofs.YtnmkmamobhkcbaaW.PrintEv Go.Proofs.Ytnmkmamobhkcbaa.P Go.Proofs.Ytnmkmamobhkcbaa.Dig
set_option linter.unusedVariables false
theorem pexample_ev : Ev (fun k => aY.f k) true := by
  have h := build_ev (l := []) (by intro x hx; cases hx)
  have e : pbR ([] : List SO) = (pkb [], 0, 0) := rfl
  have e2 : pkb ([] : List SO) = [80, 75, 0] ++ wide (dgf 1 [80, 75, 0]) := rfl
  rw [e] at h
  unfold aY.f
  refine ev_bind h ?_
  rw [e2]
  refine ev_pos rfl (ev_pos rfl (ev_pos (by decide) (ev_pos rfl (ev_pos (by decide) (ev_pos rfl (ev_pos (by decide) (ev_cast (ev_now _) rfl)))))))
end Go.Proofs.Ytnmkmamobhkcbaa.Obj

/- Packs that are rejected: their digest. -/
namespace Go.Proofs.Ytnmkmamobhkcbaa.Obj
open Go.RowKit Go.Proofs.YtnmkmamobhkcbaaW.PrintWords Go.Proofs.YtnmkmamobhkcbaaW.PrintEv Go.Proofs.Ytnmkmamobhkcbaa.P Go.Proofs.Ytnmkmamobhkcbaa.Dig
open Go.Proofs.YtnmkmamobhkcbaaW.PrintMore
set_option linter.unusedVariables false
theorem dropb_eq {xs ys : List Int} (hl : xs.length = ys.length) {i : Nat} (hi : i < xs.length) : (xs.drop i = ys.drop i) ↔ rd xs (i : Int) = rd ys (i : Int) ∧ xs.drop (i + 1) = ys.drop (i + 1) := by
  rw [drop_cons_rd hi, drop_cons_rd (xs := ys) (by omega), List.cons.injEq]
theorem equalb_ev {a b : List Int} (ha : (a.length : Int) ≤ 140737488351232) : Ev (fun k => slices_Equal_byte_byte.f k a b) (decide (a = b)) := by
  have loop : a.length = b.length → ∀ (m i : Nat), i + m = a.length → Ev (fun k => slices_Equal_byte_byte.l0 k a b (a.length : Int) (i : Int)) (decide (a.drop i = b.drop i)) := by
    intro hl m
    induction m with
    | zero =>
      intro i hi
      refine Ev.step (fun k_ => by rw [slices_Equal_byte_byte.l0]) ?_
      rw [List.drop_eq_nil_of_le (by omega), List.drop_eq_nil_of_le (by omega)]
      exact ev_neg (by omega) (ev_now _)
    | succ m ih =>
      intro i hi
      have next := ih (i + 1) (by omega)
      rw [show ((i + 1 : Nat) : Int) = (i : Int) + 1 by omega] at next
      have he := dropb_eq hl (i := i) (by omega)
      refine Ev.step (fun k_ => by rw [slices_Equal_byte_byte.l0]) ?_
      rw [w64 (x := (i : Int) + 1) (by omega)]
      refine ev_pos (by omega) (ev_pos (by omega) (ev_pos (by omega) (ev_pos (by omega) (ev_cases (fun c => ?_) (fun c => ?_)))))
      · refine ev_cast next ?_
        rw [decide_eq_decide, he]
        exact ⟨fun h => ⟨c, h⟩, fun h => h.2⟩
      · rw [decide_eq_false (fun h => c (he.1 h).1)]
        exact ev_now _
  unfold slices_Equal_byte_byte.f
  refine ev_cases (fun c => ?_) (fun c => ?_)
  · have := loop (by omega) a.length 0 (by omega)
    rw [List.drop_zero, List.drop_zero] at this
    exact this
  · rw [decide_eq_false (fun h => c (by rw [h]))]
    exact ev_now _
section
variable {c : List Int}
theorem read_corrupt (hc : Bytes c) (h1 : 11 ≤ c.length) (h2 : (c.length : Int) ≤ 4096) (hne : wide (dgf 1 (c.take (c.length - 8))) ≠ c.drop (c.length - 8)) : Ev (fun k => pack_read.f k c) ([], [], 18, 0) := by
  have e : (wrap64 ((c.length : Int) - 8)).toNat = c.length - 8 := by rw [w64 (by omega)]; omega
  have hof := of_ev (l := c.take (c.length - 8)) (fun b hb => hc b (List.mem_of_mem_take hb))
  have hr : ofR (c.take (c.length - 8)) = (dgf 1 (c.take (c.length - 8)), 0, 0) := by
    unfold ofR
    rw [if_neg (by rw [List.length_take]; omega)]
  rw [hr] at hof
  unfold pack_read.f
  rw [e]
  refine ev_neg (by omega) (ev_neg (by omega) (ev_pos (by rw [w64 (by omega)]; omega) (ev_pos (by rw [w64 (by omega)]; omega) ?_)))
  refine ev_bind hof (ev_bind (number_ev (l := []) (by simp)) (ev_bind (equalb_ev (by simp [wide_len])) (ev_neg (fun h => hne (of_decide_eq_true h)) (ev_now _))))
end
/-! the digest tells two texts apart that differ at one place -/
theorem stp_w {h : Int} (h1 : 0 ≤ h) (h2 : h < 2305843009213693951) : h * 257 % 2305843009213693951 * 1327878464449909357 % 2305843009213693951 = h := by
  have k : h * 257 * 1327878464449909357 = h + 2305843009213693951 * (h * 148) := by omega
  rw [Int.mul_emod (h * 257 % 2305843009213693951) 1327878464449909357 2305843009213693951, Int.emod_emod, ← Int.mul_emod (h * 257) 1327878464449909357 2305843009213693951, k, Int.add_mul_emod_self_left, Int.emod_eq_of_lt h1 h2]
theorem stp_x {x y b : Int} (h1 : 0 ≤ x ∧ x < 2305843009213693951) (h2 : 0 ≤ y ∧ y < 2305843009213693951) (e : (x + b + 1) % 2305843009213693951 = (y + b + 1) % 2305843009213693951) : x = y := by
  obtain ⟨q, hq⟩ : ∃ q, x + b + 1 - (y + b + 1) = 2305843009213693951 * q := Int.dvd_of_emod_eq_zero (Int.emod_eq_emod_iff_emod_sub_eq_zero.1 e)
  clear e
  have hd : x - y = 2305843009213693951 * q := by omega
  clear hq
  have hq1 : q < 1 := by omega
  have hq2 : -1 < q := by omega
  have hq3 : q = 0 := by omega
  rw [hq3] at hd
  omega
theorem stp_inj {h h' b : Int} (h1 : 0 ≤ h ∧ h < 2305843009213693951) (h2 : 0 ≤ h' ∧ h' < 2305843009213693951) (e : (h * 257 % 2305843009213693951 + b + 1) % 2305843009213693951 = (h' * 257 % 2305843009213693951 + b + 1) % 2305843009213693951) : h = h' := by
  have k : h * 257 % 2305843009213693951 = h' * 257 % 2305843009213693951 := stp_x ⟨Int.emod_nonneg _ (by decide), Int.emod_lt_of_pos _ (by decide)⟩ ⟨Int.emod_nonneg _ (by decide), Int.emod_lt_of_pos _ (by decide)⟩ e
  rw [← stp_w h1.1 h1.2, ← stp_w h2.1 h2.2, k]
theorem stp_y {y b b' : Int} (h1 : 0 ≤ b ∧ b ≤ 255) (h2 : 0 ≤ b' ∧ b' ≤ 255) (e : (y + b + 1) % 2305843009213693951 = (y + b' + 1) % 2305843009213693951) : b = b' := by
  obtain ⟨q, hq⟩ : ∃ q, y + b + 1 - (y + b' + 1) = 2305843009213693951 * q := Int.dvd_of_emod_eq_zero (Int.emod_eq_emod_iff_emod_sub_eq_zero.1 e)
  clear e
  have hd : b - b' = 2305843009213693951 * q := by omega
  clear hq
  have hq1 : q < 1 := by omega
  have hq2 : -1 < q := by omega
  have hq3 : q = 0 := by omega
  rw [hq3] at hd
  omega
theorem stp_ne {h b b' : Int} (h1 : 0 ≤ b ∧ b ≤ 255) (h2 : 0 ≤ b' ∧ b' ≤ 255) (e : (h * 257 % 2305843009213693951 + b + 1) % 2305843009213693951 = (h * 257 % 2305843009213693951 + b' + 1) % 2305843009213693951) : b = b' :=
  stp_y h1 h2 e
theorem dgf_inj : ∀ {bs : List Int} {h h' : Int}, 0 ≤ h ∧ h < 2305843009213693951 → 0 ≤ h' ∧ h' < 2305843009213693951 → dgf h bs = dgf h' bs → h = h'
  | [], h, h', _, _, e => e
  | b :: bs, h, h', h1, h2, e => stp_inj h1 h2 (dgf_inj (bs := bs) (mod_lt _) (mod_lt _) e)
theorem dgf_set {B : List Int} {n : Nat} {v : Int} (hB : Bytes B) (hn : n < B.length) (hv : 0 ≤ v ∧ v ≤ 255) (e : dgf 1 (B.set n v) = dgf 1 B) : v = rd B (n : Int) := by
  have h1 : B = B.take n ++ rd B (n : Int) :: B.drop (n + 1) := by
    rw [← drop_cons_rd hn, List.take_append_drop]
  have h2 : B.set n v = B.take n ++ v :: B.drop (n + 1) := by rw [List.set_eq_take_append_cons_drop, if_pos hn]
  have happ : ∀ x : Int, dgf 1 (B.take n ++ x :: B.drop (n + 1)) = dgf ((dgf 1 (B.take n) * 257 % 2305843009213693951 + x + 1) % 2305843009213693951) (B.drop (n + 1)) := fun x => by
    unfold dgf
    rw [List.foldl_append]
    rfl
  rw [h2, happ] at e
  conv at e => rhs; rw [h1]
  rw [happ] at e
  exact stp_ne hv (hB _ (rd_mem (by omega) (by omega))) (dgf_inj (mod_lt _) (mod_lt _) e)
theorem wide_inj {n m : Int} (hn : 0 ≤ n ∧ n < 2305843009213693951) (hm : 0 ≤ m ∧ m < 2305843009213693951) (e : wide n = wide m) : n = m := by
  unfold wide at e
  simp only [List.cons.injEq, and_true] at e
  omega
end Go.Proofs.Ytnmkmamobhkcbaa.Obj
