/- Texts of the proofs of ObjectsMergeMatchesSpec, ObjectsMergeSemilattice: what the printed functions come to, plain laws, rows (no condition beyond the statements' own). -/
import Derived.Test.YtnmkmamobhkcbaaGP0
import Derived.Test.YtnmkmamobhkcbaaGP10
import Derived.Test.YtnmkmamobhkcbaaGP35
import Derived.Test.YtnmkmamobhkcbaaGP51
namespace Go.Proofs.Ytnmkmamobhkcbaa.P
open Go.RowKit Go.Proofs.YtnmkmamobhkcbaaW.PrintWords Go.Proofs.YtnmkmamobhkcbaaW.PrintLast Go.Proofs.YtnmkmamobhkcbaaW.PrintMore
attribute [local go_sem] max2_int min2_int max_two min_two max_three min_three max_four min_four   -- for this text's walks alone
set_option linter.unusedVariables false
set_option linter.unusedSimpArgs false
section
attribute [local go_sem high] bAt
theorem ins_at {α : Type} {xs : List α} {rows : List (List Value)} {p x : α} {cs c : List Value} (hl : rows.length = xs.length) {i : Nat} (hi : i ≤ xs.length) {j : Nat} (hx : (xs.take i ++ [p] ++ xs.drop i)[j]? = some x) (hc : (rows.take i ++ [cs] ++ rows.drop i)[j]? = some c) : (∃ q : Nat, xs[q]? = some x ∧ rows[q]? = some c) ∨ (x = p ∧ c = cs) := by
  have h1 : (xs.take i).length = i := by rw [List.length_take]; omega
  have h2 : (rows.take i).length = i := by rw [List.length_take]; omega
  rcases Nat.lt_trichotomy j i with h | h | h
  · rw [List.append_assoc, List.getElem?_append_left (by omega), List.getElem?_take_of_lt h] at hx hc
    exact .inl ⟨j, hx, hc⟩
  · subst h
    rw [List.getElem?_append_left (by simp; omega), List.getElem?_append_right (by omega), h1, Nat.sub_self] at hx
    rw [List.getElem?_append_left (by simp; omega), List.getElem?_append_right (by omega), h2, Nat.sub_self] at hc
    simp only [List.getElem?_cons_zero, Option.some.injEq] at hx hc
    exact .inr ⟨hx.symm, hc.symm⟩
  · rw [List.getElem?_append_right (by simp; omega), List.getElem?_drop] at hx hc
    simp only [List.length_append, h1, h2, List.length_cons, List.length_nil] at hx hc
    exact .inl ⟨_, hx, hc⟩
theorem ins_callsN {α : Type} (d : Kd α) {w0 W : World} (base : Nat) (hsz : d.sz = 4) (v : Value) (xs : List α) (p : α) (cs : List Value) (i : Int) (ok okp : Nat → Prop) (h0 : 0 ≤ i) (h1 : i ≤ (xs.length : Int)) (hp : Kd.FK d W okp p cs) (hokp : ∀ k, okp k → ok k ∧ some k ≠ v.ownBlock) (hfresh : ∀ k, W.heap.size ≤ k → ok k)
    (HO : Kd.N d 46 W base ok v xs) (HB : Below base w0 W) (hbase : base ≤ W.heap.size) (hl : (xs.length + 1) * 64 ≤ 140737488355328) :
    Calls Try.prog 50 #[v, .int .i64 i, .slice (some ⟨W.heap.size, 0, none⟩) 1 1] (W.alloc (.cells cs.toArray 46)) fun e w1 => ∃ v1, e = .returned v1 ∧ Kd.N d 46 w1 base ok v1 (pp_ins xs i [p]) ∧ Below base w0 w1 ∧ W.grownBy w1 v.ownBlock ∧ (v1.ownBlock = v.ownBlock ∨ ∃ b, v1.ownBlock = some b ∧ W.heap.size ≤ b) := by
  obtain ⟨hh, rows, hlr, hR, hf⟩ := HO
  obtain ⟨n, rfl⟩ := Int.eq_ofNat_of_zero_le h0
  refine (ins_calls (Kd.raw d.sz) base hsz v rows cs cs n (fun _ => True) (fun _ => False) h0 (by rw [hlr]; exact h1) (Kd.FK_raw hp) (fun _ hk => hk.elim) (fun _ _ => trivial) (Kd.raw_any hR) HB hbase (by rw [hlr]; exact hl)).mono ?_
  rintro e w1 ⟨v1, rfl, hr, hb, hg, hat⟩
  refine ⟨v1, rfl, ?_, hb, hg, hat⟩
  have hne : ∀ k, some k ≠ v.ownBlock → k < W.heap.size → some k ≠ v1.ownBlock := by
    intro k hk hlt
    rcases hat with hat | ⟨b, hb, hle⟩
    · rw [hat]; exact hk
    · rw [hb]
      intro he
      injection he with he
      omega
  have step : ∀ {x : α} {c : List Value} {o : Nat → Prop}, Kd.FK d W o x c → (∀ k, o k → ok k ∧ some k ≠ v.ownBlock) → Kd.FK d w1 (fun k => ok k ∧ some k ≠ v1.ownBlock) x c := by
    intro x c o hq ho
    exact Kd.FK_mono (Kd.FK_step (Kd.FK_bound hq) (fun k hk hlt => hg.block k hlt (ho k hk.1).2)) (fun k hk => ⟨(ho k hk.1).1, hne k (ho k hk.1).2 hk.2⟩)
  refine ⟨fun k hk => ?_, pp_ins rows n [cs], ?_, Kd.raw_tight hr, fun j x c hx hc => ?_⟩
  · rcases hat with hat | ⟨b, hb, hle⟩
    · exact hh k (hat ▸ hk)
    · rw [hb] at hk
      injection hk with hk
      exact hfresh k (by omega)
  · show (rows.take n ++ [cs] ++ rows.drop n).length = (xs.take n ++ [p] ++ xs.drop n).length
    simp only [List.length_append, List.length_take, List.length_drop, hlr]
    rfl
  · rcases ins_at hlr (i := n) (by omega) hx hc with ⟨q, h3, h4⟩ | ⟨h3, h4⟩
    · exact step (hf q x c h3 h4) (fun _ hk => hk)
    · rw [h3, h4]; exact step hp hokp
section
variable {ops : Array Oper} {rest : List Oper} {o : Oper} {a : Act} {Q : Exit → Act → World → Prop} {Kc : Act → World → Prop} {α : Type}
theorem Kd.N_insert (d : Kd α) {w0 W : World} (base : Nat) (hsz : d.sz = 4) (hgd : o.guard = none) (s ix x : Operand) {ts : Array TypeId} (ho : o.op = .call { callee := .value (.func 50), args := #[s, ix, x], argTypes := ts })
    (v : Value) (xs : List α) (p : α) (cs : List Value) (i : Int) (ok okp : Nat → Prop) (hs : a.eval s = v) (hix : a.eval ix = .int .i64 i) (hx : a.eval x = .slice (some ⟨W.heap.size, 0, none⟩) 1 1) (h0 : 0 ≤ i) (h1 : i ≤ (xs.length : Int)) (hp : Kd.FK d W okp p cs) (hokp : ∀ k, okp k → ok k ∧ some k ≠ v.ownBlock) (hfresh : ∀ k, W.heap.size ≤ k → ok k)
    (HO : Kd.N d 46 W base ok v xs) (HB : Below base w0 W) (hbase : base ≤ W.heap.size) (hl : (xs.length + 1) * 64 ≤ 140737488355328)
    (h : ∀ v1 w1, Kd.N d 46 w1 base ok v1 (pp_ins xs i [p]) → Below base w0 w1 → W.grownBy w1 v.ownBlock → (v1.ownBlock = v.ownBlock ∨ ∃ b, v1.ownBlock = some b ∧ W.heap.size ≤ b) → wpList Try.prog ops Q rest (a.put o.dst v1) w1) :
    wpList Try.prog ops Q (o :: rest) a (W.alloc (.cells cs.toArray 46)) := by
  refine goesL_ o.dst rfl hgd Try.func50 (by kernel_rfl) rfl #[v, .int .i64 i, .slice (some ⟨W.heap.size, 0, none⟩) 1 1] ho (by simp [hs, hix, hx]) ?_
  refine (ins_callsN d base hsz v xs p cs i ok okp h0 h1 hp hokp hfresh HO HB hbase hl).mono ?_
  rintro e w1 ⟨v1, rfl, ho, hb, hg, hat⟩
  exact ⟨v1, rfl, h v1 w1 ho hb hg hat⟩
end
mutual
def objects_Merge.l0 : Nat → List (S24) → Int → Int → List (fB) → List (fB) → Option ((List (fB)) × Int × Int)
  | 0, _, _, _, _, _ => none
  | k + 1, x16, x17, x18, dU9, dVa => if x18 < x17 then (if 0 ≤ x18 then (if x18 < (x16.length : Int) then ((objects_Validate.f k ((uP x16 x18).f0)).bind fun dVb => (if (!(dVb.1 == 0) || (!(dVb.2 == 0))) = true then (some (([] : List (fB)), dVb.1, dVb.2)) else (objects_Merge.l0 k x16 x17 (wrap64 (x18 + 1)) dU9 dVa))) else (none)) else (none)) else ((objects_copied.f k dU9).bind fun bL7 => ((objects_copied.f k dVa).bind fun dM => (objects_Merge.l1 k dM (dM.length : Int) 0 bL7)))
def objects_Merge.l1 : Nat → List (fB) → Int → Int → List (fB) → Option ((List (fB)) × Int × Int)
  | 0, _, _, _, _ => none
  | k + 1, x34, x35, x36, aRm => if x36 < x35 then (if 0 ≤ x36 then (if x36 < (x34.length : Int) then ((objects_find.f k aRm ((aA x34 x36).f0)).bind fun bZr => (if bZr.2 = true then (if 0 ≤ bZr.1 then (if bZr.1 < (aRm.length : Int) then ((objects_Same.f k ((aA aRm bZr.1).f1.f0) ((aA aRm bZr.1).f1.f1) ((aA aRm bZr.1).f1.f2) ((aA x34 x36).f1.f0) ((aA x34 x36).f1.f1) ((aA x34 x36).f1.f2)).bind fun dHb => (if dHb = true then (objects_Merge.l1 k x34 x35 (wrap64 (x36 + 1)) aRm) else (some (([] : List (fB)), 19, x36)))) else (none)) else (none)) else (if 0 ≤ bZr.1 then (if bZr.1 ≤ (aRm.length : Int) then (if aRm.length < 2199023255552 then (objects_Merge.l1 k x34 x35 (wrap64 (x36 + 1)) (pp_ins aRm bZr.1 [(⟨(aA x34 x36).f0, (⟨(aA x34 x36).f1.f0, (aA x34 x36).f1.f1, (aA x34 x36).f1.f2⟩ : S44)⟩ : fB)])) else (none)) else (none)) else (none)))) else (none)) else (none)) else (if (aRm.length : Int) > 40 then (some (([] : List (fB)), 14, (-1))) else (some (aRm, 0, 0)))
end
def objects_Merge.f (k : Nat) (aD : List (fB)) (bR : List (fB)) : Option ((List (fB)) × Int × Int) := (some (([(⟨aD⟩ : S24), (⟨bR⟩ : S24)] : List (S24)) : List (S24))).bind fun xM => (objects_Merge.l0 k xM (xM.length : Int) 0 aD bR)
theorem objects_Merge.mono_l : ∀ k, (∀ y0 y1 y2 y3 y4, LeO (objects_Merge.l0 k y0 y1 y2 y3 y4) (objects_Merge.l0 (k + 1) y0 y1 y2 y3 y4)) ∧ (∀ y0 y1 y2 y3, LeO (objects_Merge.l1 k y0 y1 y2 y3) (objects_Merge.l1 (k + 1) y0 y1 y2 y3))
  | 0 => ⟨fun _ _ _ _ _ r h => by simp [objects_Merge.l0] at h, fun _ _ _ _ r h => by simp [objects_Merge.l1] at h⟩
  | k + 1 => by
    obtain ⟨mU, ih1⟩ := objects_Merge.mono_l k
    refine ⟨?_, ?_⟩
    all_goals intros; first | unfold objects_Merge.l0 | unfold objects_Merge.l1
    all_goals repeat' first | (with_reducible first | exact mU _ _ _ _ _ | exact ih1 _ _ _ _ | exact objects_Same.mono _ _ _ _ _ _ _ | exact objects_Validate.mono _ _ | exact objects_copied.mono _ _ | exact objects_find.mono _ _ _ | exact LeO.refl _ | exact LeO.none _ | refine LeO.ite ?_ ?_ | refine LeO.bind ?_ (fun _ => ?_)) | exact mU _ _ _ _ _ | exact ih1 _ _ _ _ | exact objects_Same.mono _ _ _ _ _ _ _ | exact objects_Validate.mono _ _ | exact objects_copied.mono _ _ | exact objects_find.mono _ _ _ | exact LeO.none _ | refine LeO.ite ?_ ?_ | refine LeO.bind ?_ (fun _ => ?_)
theorem objects_Merge.mono : ∀ a0 a1 k, LeO (objects_Merge.f k a0 a1) (objects_Merge.f (k + 1) a0 a1) := by
  intro a0 a1 k
  obtain ⟨mU, ih1⟩ := objects_Merge.mono_l k
  unfold objects_Merge.f
  repeat' first | (with_reducible first | exact mU _ _ _ _ _ | exact ih1 _ _ _ _ | exact objects_Same.mono _ _ _ _ _ _ _ | exact objects_Validate.mono _ _ | exact objects_copied.mono _ _ | exact objects_find.mono _ _ _ | exact LeO.refl _ | exact LeO.none _ | refine LeO.ite ?_ ?_ | refine LeO.bind ?_ (fun _ => ?_)) | exact mU _ _ _ _ _ | exact ih1 _ _ _ _ | exact objects_Same.mono _ _ _ _ _ _ _ | exact objects_Validate.mono _ _ | exact objects_copied.mono _ _ | exact objects_find.mono _ _ _ | exact LeO.none _ | refine LeO.ite ?_ ?_ | refine LeO.bind ?_ (fun _ => ?_)
def objects_Merge.T13 : Bool × List (List Nat × List Nat) := (true, [([], []), ([0], [0]), ([1], [1]), ([2, 1], [1, 2]), ([1], [1]), ([3, 4, 1], [1, 3, 4]), ([5, 1], [1, 5]), ([6, 1], [1, 6]), ([1], [1]), ([8, 1], [1, 8]), ([7, 9, 1, 1], [1, 7, 9]), ([10, 1], [1, 10]), ([1, 11], [1, 11]), ([12, 10], [12])])
def objects_Merge.B13 : List Nat := [0, 1, 3, 7, 3, 31, 63, 127, 3, 259, 1023, 2047, 4095, 8191]
theorem objects_Merge.tab13 : rtab .any (opsOf Try.f37 13) = objects_Merge.T13 := by kernel_rfl
theorem objects_Merge.bits13 : waitsOk objects_Merge.T13.2 objects_Merge.B13 = true := by kernel_rfl
abbrev objects_Merge.Z1 : Array Bool := #[U,U,U,U,U,U,U,U,U,U,U,U,U,U]
abbrev objects_Merge.Z2 : Array Bool := #[J,U,U,U,U,U,U,U,U,U,U,U,U,U]
abbrev objects_Merge.Z3 : Array Bool := #[J,J,U,U,U,U,U,U,U,U,U,U,U,U]
abbrev objects_Merge.Z4 : Array Bool := #[J,J,J,U,U,U,U,U,U,U,U,U,U,U]
abbrev objects_Merge.Z5 : Array Bool := #[J,J,J,U,J,U,U,U,U,U,U,U,U,U]
abbrev objects_Merge.Z6 : Array Bool := #[J,J,J,U,J,U,U,U,J,U,U,U,U,U]
abbrev objects_Merge.Z7 : Array Bool := #[J,J,J,J,J,U,U,U,J,U,U,U,U,U]
abbrev objects_Merge.Z8 : Array Bool := #[J,J,J,J,J,J,U,U,J,U,U,U,U,U]
abbrev objects_Merge.Z9 : Array Bool := #[J,J,J,J,J,J,J,U,J,U,U,U,U,U]
abbrev objects_Merge.Z10 : Array Bool := #[J,J,J,J,J,J,J,J,J,U,U,U,U,U]
abbrev objects_Merge.Z11 : Array Bool := #[J,J,J,J,J,J,J,J,J,J,U,U,U,U]
abbrev objects_Merge.Z12 : Array Bool := #[J,J,J,J,J,J,J,J,J,J,J,U,U,U]
abbrev objects_Merge.Z13 : Array Bool := #[J,J,J,J,J,J,J,J,J,J,J,J,U,U]
abbrev objects_Merge.Z14 : Array Bool := #[J,J,J,J,J,J,J,J,J,J,J,J,J,U]
abbrev objects_Merge.Z15 : Array Bool := #[J,J,J,J,J,J,J,J,J,J,J,J,J,J]
abbrev objects_Merge.Z16 : Array Bool := #[J,J,J,J,U,U,U,U,U,U,U,U,U,U]
abbrev objects_Merge.Z17 : Array Bool := #[J,J,J,J,J,U,U,U,U,U,U,U,U,U]
abbrev objects_Merge.Z18 : Array Bool := #[J,J,J,J,J,J,U,U,U,U,U,U,U,U]
abbrev objects_Merge.Z19 : Array Bool := #[J,J,J,J,J,J,J,U,U,U,U,U,U,U]
abbrev objects_Merge.Z20 : Array Bool := #[J,J,J,J,J,J,J,J,U,U,U,U,U,U]
set_option maxHeartbeats 8000000 in
set_option maxRecDepth 100000 in
theorem objects_Merge.calls (k : Nat) (eP : Nat → Prop) (bP : Option Addr) (bK : Nat) (aD : List (fB)) (kT : Nat → Prop) (tT : Option Addr) (qD : Nat) (bR : List (fB)) (r1 : List (fB)) (r2 : Int) (r3 : Int) (w : World) (dGw : Kd.V qL 46 w w.heap.size (fun k_ => eP k_) (.slice bP aD.length bK) aD) (eLj : Kd.V qL 46 w w.heap.size (fun k_ => kT k_) (.slice tT bR.length qD) bR) (h : objects_Merge.f k aD bR = some (r1, r2, r3)) :
  Calls Try.prog 37 #[.agg #[.slice bP aD.length bK], .agg #[.slice tT bR.length qD]] w fun e w' => ∃ v0_ : Value, e = .returned (.tuple #[.agg #[v0_], .agg #[.int .i64 r2, .int .i64 r3]]) ∧ Kd.N qL 46 w' w.heap.size (fun k_ => ((eP k_ ∨ kT k_) ∨ w.heap.size ≤ k_)) v0_ r1 ∧ Below w.heap.size w w' := by
  have aP7 := Try.underlying24
  have aQg := Try.underlying28
  have cRq := Try.underlying46
  have aQf := Try.underlying44
  have hNn : ∀ (W : World) (p0_ : Value), Sem.run Try.prog (Instr.field 24 (Value.agg #[p0_]) 0) W = Result.ok p0_ W := by
   intro W p0_
   first | (go_simp; done) | (go_simp; rfl) | rfl
  have kK := aZ (show Kd.V qL 46 w w.heap.size (fun k_ => ((eP k_ ∨ kT k_) ∨ w.heap.size ≤ k_)) (.slice bP aD.length bK) aD from Kd.V_mono dGw (fun k_ hk => .inl (.inl hk)))
  have aF8 := aZ (show Kd.V qL 46 w w.heap.size (fun k_ => ((eP k_ ∨ kT k_) ∨ w.heap.size ≤ k_)) (.slice tT bR.length qD) bR from Kd.V_mono eLj (fun k_ hk => .inl (.inr hk)))
  have HB := aZ (Below.refl w.heap.size w)
  have H : ((some (([(⟨aD⟩ : S24), (⟨bR⟩ : S24)] : List (S24)) : List (S24))).bind fun xM => (objects_Merge.l0 k xM (xM.length : Int) 0 aD bR)) = some (r1, r2, r3) := h
  clear h
  obtain ⟨xM, dHc⟩ : ∃ y_ : List (S24), y_ = (([(⟨aD⟩ : S24), (⟨bR⟩ : S24)] : List (S24))) := ⟨_, rfl⟩
  replace H : (objects_Merge.l0 k xM (xM.length : Int) 0 aD bR) = some (r1, r2, r3) := by first | (rw [dHc]; with_reducible exact H) | (have qY := (Option.bind_some _ _).symm.trans H; rw [dHc]; with_reducible exact qY) | (have qY := (Option.bind_some _ _).symm.trans H; with_reducible exact qY) | with_reducible exact H | (rw [dHc]; exact H) | exact H
  have fCd := aZ dHc
  clear dHc
  have H' := aZ H
  clear H
  go_enter Try.func37, Try.ntmps37
  go_wp2_with (first | ((with_reducible refine gate_dst (N := 2) rfl ?_); refine box_event ?hg (N := 2) ?hd (cs := #[.slice bP aD.length bK]) (t := 24) ?hr ?_; (case hd => rfl); (case hg => rfl); (case hr => first | (go_simp; done) | (go_simp; rfl)); intro vD hg w3 hbox hb; replace kK := xVB kK hg hb; replace aF8 := xVB aF8 hg hb; have jW := aZ (hbox); have iDl := xgh hg HB; have bZs := xgh hg HB; replace HB := xhl HB hb; clear hb hbox hg) | ((with_reducible refine gate_dst (N := 3) rfl ?_); refine box_event ?hg (N := 3) ?hd (cs := #[.slice tT bR.length qD]) (t := 24) ?hr ?_; (case hd => rfl); (case hg => rfl); (case hr => first | (go_simp; done) | (go_simp; rfl)); intro vE hg w4 hbox hb; replace kK := xVB kK hg hb; replace aF8 := xVB aF8 hg hb; have kM := aZ (hbox); have iDm := xgh hg HB; have bZt := xgh hg HB; replace HB := xhl HB hb; have cTv := xnl hg jW; have cTw := xng hg jW; replace jW := xbb jW hb; clear hb hbox hg) | ((with_reducible refine gate_dst (N := 4) rfl ?_); refine box_event ?hg (N := 4) ?hd (cs := #[.slice none 0 0]) (t := 24) ?hr ?_; (case hd => rfl); (case hg => rfl); (case hr => first | (go_simp; done) | (go_simp; rfl)); intro rQ hg w5 hbox hb; replace kK := xVB kK hg hb; replace aF8 := xVB aF8 hg hb; have jX := aZ (hbox); have iDn := xgh hg HB; have bZu := xgh hg HB; replace HB := xhl HB hb; have aZj := xnl hg jW; have aZk := xng hg jW; replace jW := xbb jW hb; have aZl := xnl hg kM; have aZm := xng hg kM; replace kM := xbb kM hb; clear hb hbox hg) | ((with_reducible refine gate_dst (N := 5) rfl ?_); refine box_event ?hg (N := 5) ?hd (cs := #[.int .i64 0, .int .i64 0]) (t := 28) ?hr ?_; (case hd => rfl); (case hg => rfl); (case hr => first | (go_simp; done) | (go_simp; rfl)); intro pE hg w6 hbox hb; replace kK := xVB kK hg hb; replace aF8 := xVB aF8 hg hb; have jR := aZ (hbox); have iDo := xgh hg HB; have bZv := xgh hg HB; replace HB := xhl HB hb; have aUb := xnl hg jW; have aUc := xng hg jW; replace jW := xbb jW hb; have aUd := xnl hg kM; have aUe := xng hg kM; replace kM := xbb kM hb; have aAh := xnl hg jX; have aG3 := xng hg jX; replace jX := xbb jX hb; clear hb hbox hg; have fFs := cTv.out; have fFt := cTw.out; have dYw := aZj.out; have dYx := aZk.out; have dJq := aUb.out; have dJr := aUc.out; have aA3 : w6.cell? ⟨vD, 0, none⟩ = some (.slice bP aD.length bK) := (blk_cell jW.out 0).trans rfl; have aA4 := blk_frozen jW.out 0; have bMj := aZl.out; have bMk := aZm.out; have dPk := aUd.out; have dPl := aUe.out; have bCd : w6.cell? ⟨vE, 0, none⟩ = some (.slice tT bR.length qD) := (blk_cell kM.out 0).trans rfl; have bCe := blk_frozen kM.out 0) | ((with_reducible refine gate_dst (N := 16) rfl ?_); refine Kd.N_lit k24 _ 24 ?hg (N' := 16) ?hd (xs := ([(⟨aD⟩ : S24), (⟨bR⟩ : S24)] : List (S24))) (inner := [.slice bP aD.length bK, .slice tT bR.length qD]) (ok := (fun k_ => ((eP k_ ∨ kT k_) ∨ w.heap.size ≤ k_) ∧ k_ ≠ vD ∧ k_ ≠ vE ∧ k_ ≠ rQ ∧ k_ ≠ pE)) (okp := (fun k_ => ((eP k_ ∨ kT k_) ∨ w.heap.size ≤ k_) ∧ k_ ≠ vD ∧ k_ ≠ vE ∧ k_ ≠ rQ ∧ k_ ≠ pE)) ?hr ?hp (fun _ hk => hk) ((show ∀ k_, w6.heap.size ≤ k_ → (fun k_ => ((eP k_ ∨ kT k_) ∨ w.heap.size ≤ k_) ∧ k_ ≠ vD ∧ k_ ≠ vE ∧ k_ ≠ rQ ∧ k_ ≠ pE) k_ from fun k_ hk => ⟨(.inr (Nat.le_trans (lZ (by repeat (first | (with_reducible first | exact HB.out | apply lA | apply lN | apply lD | refine lS ?_ bZs.out | refine lS ?_ bZt.out | refine lS ?_ bZu.out | refine lS ?_ bZv.out) | exact HB.out))) hk)), Kd.freshB (g := vD) (o := .cells #[.slice bP aD.length bK] 24 (0, 0)) (xkq jW) k_ hk, Kd.freshB (g := vE) (o := .cells #[.slice tT bR.length qD] 24 (0, 0)) (xkq kM) k_ hk, Kd.freshB (g := rQ) (o := .cells #[.slice none 0 0] 24 (0, 0)) (xkq jX) k_ hk, Kd.freshB (g := pE) (o := .cells #[.int .i64 0, .int .i64 0] 28 (0, 0)) (xkq jR) k_ hk⟩) _ (Nat.le_refl _)) (Below.refl _ _) (Nat.le_refl _) (by simp) ?_; (case hd => rfl); (case hg => rfl); (case hr => first | (go_simp; done) | (go_simp; rfl)); (case hp => exact (Reps.one (show Kd.FK k24 _ _ (⟨aD⟩ : S24) [.slice bP aD.length bK] from (dOs _ _ (⟨aD⟩ : S24) (Kd.V_reads' (Kd.V_mono (ok' := (fun k_ => ((eP k_ ∨ kT k_) ∨ w.heap.size ≤ k_) ∧ k_ ≠ vD ∧ k_ ≠ vE ∧ k_ ≠ rQ ∧ k_ ≠ pE)) (kK.out) (fun k_ hk => ⟨hk.1.1.1.1, ⟨hk.1.1.1.2, ⟨hk.1.1.2, ⟨hk.1.2, hk.2⟩⟩⟩⟩))).2.1 (Kd.V_F (Kd.V_mono (ok' := (fun k_ => ((eP k_ ∨ kT k_) ∨ w.heap.size ≤ k_) ∧ k_ ≠ vD ∧ k_ ≠ vE ∧ k_ ≠ rQ ∧ k_ ≠ pE)) (kK.out) (fun k_ hk => ⟨hk.1.1.1.1, ⟨hk.1.1.1.2, ⟨hk.1.1.2, ⟨hk.1.2, hk.2⟩⟩⟩⟩))))) (Reps.one (show Kd.FK k24 _ _ (⟨bR⟩ : S24) [.slice tT bR.length qD] from (dOs _ _ (⟨bR⟩ : S24) (Kd.V_reads' (Kd.V_mono (ok' := (fun k_ => ((eP k_ ∨ kT k_) ∨ w.heap.size ≤ k_) ∧ k_ ≠ vD ∧ k_ ≠ vE ∧ k_ ≠ rQ ∧ k_ ≠ pE)) (aF8.out) (fun k_ hk => ⟨hk.1.1.1.1, ⟨hk.1.1.1.2, ⟨hk.1.1.2, ⟨hk.1.2, hk.2⟩⟩⟩⟩))).2.1 (Kd.V_F (Kd.V_mono (ok' := (fun k_ => ((eP k_ ∨ kT k_) ∨ w.heap.size ≤ k_) ∧ k_ ≠ vD ∧ k_ ≠ vE ∧ k_ ≠ rQ ∧ k_ ≠ pE)) (aF8.out) (fun k_ hk => ⟨hk.1.1.1.1, ⟨hk.1.1.1.2, ⟨hk.1.1.2, ⟨hk.1.2, hk.2⟩⟩⟩⟩))))) (Reps.none _ _)))); intro iJm w14 dNb hb hg_ hnew_; clear hg_ hnew_; (first | rw [← fCd.out] at dNb | (simp only [Int.reduceToNat] at dNb; rw [← fCd.out] at dNb)); replace kK := aZ (Kd.V_elder' (by (with_reducible repeat (first | apply Kd.V_alloc | apply Kd.V_drewN | apply Kd.V_drew)); exact kK.out) (Kd.N_base dNb) hb); replace aF8 := aZ (Kd.V_elder' (by (with_reducible repeat (first | apply Kd.V_alloc | apply Kd.V_drewN | apply Kd.V_drew)); exact aF8.out) (Kd.N_base dNb) hb); have fCe := aZ (Kd.N_lower dNb (lZ (by repeat (first | (with_reducible first | exact HB.out | apply lA | apply lN | apply lD | refine lS ?_ bZs.out | refine lS ?_ bZt.out | refine lS ?_ bZu.out | refine lS ?_ bZv.out) | exact HB.out)))); replace jW := xbb jW hb; replace kM := xbb kM hb; replace jX := xbb jX hb; replace jR := xbb jR hb; replace HB := xhl HB hb; clear hb dNb; obtain ⟨bKo, bBb, eLk⟩ := Kd.N_slice fCe.out; subst eLk))
  go_loopg [18] k (fun kq v18 w' => ∃ (tZ : Int) (aMh : Int) (aG4 : Int), v18 = .int .i64 tZ ∧ Aside0 (objects_Merge.l0 kq xM (xM.length : Int) tZ aD bR = some (r1, r2, r3)) ∧ Aside0 (kq ≤ k) ∧ Aside0 (Kd.N k24 24 w' w.heap.size (fun k_ => ((eP k_ ∨ kT k_) ∨ w.heap.size ≤ k_) ∧ k_ ≠ vD ∧ k_ ≠ vE ∧ k_ ≠ rQ ∧ k_ ≠ pE) (.slice bKo xM.length bBb) xM) ∧ Aside0 (Kd.V qL 46 w' w.heap.size (fun k_ => ((eP k_ ∨ kT k_) ∨ w.heap.size ≤ k_) ∧ some k_ ≠ ((.slice bKo xM.length bBb) : Value).ownBlock ∧ k_ ≠ vD ∧ k_ ≠ vE ∧ k_ ≠ rQ ∧ k_ ≠ pE) (.slice bP aD.length bK) aD) ∧ Aside0 (Kd.V qL 46 w' w.heap.size (fun k_ => ((eP k_ ∨ kT k_) ∨ w.heap.size ≤ k_) ∧ some k_ ≠ ((.slice bKo xM.length bBb) : Value).ownBlock ∧ k_ ≠ vD ∧ k_ ≠ vE ∧ k_ ≠ rQ ∧ k_ ≠ pE) (.slice tT bR.length qD) bR) ∧ Aside0 (w'.heap[vD]? = some (.cells #[(.slice bP aD.length bK)] 24 (0, 0))) ∧ Aside0 (w'.heap[vE]? = some (.cells #[(.slice tT bR.length qD)] 24 (0, 0))) ∧ Aside0 (w'.heap[rQ]? = some (.cells #[(.slice none 0 0)] 24 (0, 0))) ∧ Aside0 (w'.heap[pE]? = some (.cells #[.int .i64 aMh, .int .i64 aG4] 28 (0, 0))) ∧ Aside0 (Below w.heap.size w w'))
  case atStart => exact ⟨(0), (0), (0), xrs, H', ⟨Nat.le_refl _⟩, ⟨by (with_reducible repeat (first | apply Kd.N_alloc | apply Kd.N_drewN | apply Kd.N_drew)); exact fCe.out⟩, ⟨by (with_reducible repeat (first | apply Kd.V_alloc | apply Kd.V_drewN | apply Kd.V_drew)); exact Kd.V_mono kK.out (fun _ hk => ⟨hk.1.1.1.1.1, ⟨hk.2, ⟨hk.1.1.1.1.2, ⟨hk.1.1.1.2, ⟨hk.1.1.2, hk.1.2⟩⟩⟩⟩⟩)⟩, ⟨by (with_reducible repeat (first | apply Kd.V_alloc | apply Kd.V_drewN | apply Kd.V_drew)); exact Kd.V_mono aF8.out (fun _ hk => ⟨hk.1.1.1.1.1, ⟨hk.2, ⟨hk.1.1.1.1.2, ⟨hk.1.1.1.2, ⟨hk.1.1.2, hk.1.2⟩⟩⟩⟩⟩)⟩, xk jW, xk kM, xk jX, xk jR, xb HB⟩
  case round =>
   clear H'
   (try clear aA3); (try clear bCd); (try clear aA4); (try clear bCe)
   obtain ⟨tZ, aMh, aG4, rfl, HA, yS, aAx, fV, fZ, jW, kM, jX, jR, HB⟩ := hrel
   cases gk with
   | zero => exact absurd HA.out (by simp [objects_Merge.l0])
   | succ k1 =>
    have H := HA.out
    clear HA
    simp only [objects_Merge.l0] at H
    by_cases c17 : tZ < (xM.length : Int)
    · rw [if_pos c17] at H
      have dFu : decide (tZ < (xM.length : Int)) = true := decide_eq_true c17
      clear c17
      by_cases c18 : 0 ≤ tZ
      rotate_left
      · rw [if_neg c18] at H
        exact absurd H (by simp)
      rw [if_pos c18] at H
      have cMo : decide (0 ≤ tZ) = true := decide_eq_true c18
      clear c18
      by_cases c19 : tZ < (xM.length : Int)
      rotate_left
      · rw [if_neg c19] at H
        exact absurd H (by simp)
      rw [if_pos c19] at H
      have dFw : decide (tZ < (xM.length : Int)) = true := decide_eq_true c19
      clear c19
      replace H := Option.bind_eq_some_iff.mp H
      obtain ⟨⟨aOf, aRn⟩, eLl, H⟩ := H
      replace H : (if (!(aOf == 0) || (!(aRn == 0))) = true then (some (([] : List (fB)), aOf, aRn)) else (objects_Merge.l0 k1 xM (xM.length : Int) (wrap64 (tZ + 1)) aD bR)) = some (r1, r2, r3) := H
      have A20 := aZ eLl
      clear eLl
      by_cases c21 : (!(aOf == 0) || (!(aRn == 0))) = true
      rotate_left
      · rw [if_neg c21] at H
        have bA0 : (!(aOf == 0) || (!(aRn == 0))) = false := by simpa using c21
        clear c21
        have H' := aZ H
        clear H
        have dAb : 0 ≤ (tZ : Int) := of_decide_eq_true xas
        have dAc : tZ < (xM.length : Int) := of_decide_eq_true xas
        obtain ⟨dHd, aAs, aAt, fQa, dAd, bZw, bZx⟩ := eBt (Kd.N_reads' aAx.out).2.2 tZ dAb dAc
        cases fQa
        obtain ⟨gH7, dNc, dNd, cPt⟩ := Kd.N_get aAx.out z24 tZ dAb (by first | exact dAc | exact of_decide_eq_true xas | (have e_ := (Kd.N_reads' aAx.out).1; omega))
        obtain ⟨eWc, eWd, rfl, bKp, bKq⟩ := cR8 dNd
        have aX0 := cPt 0 _ rfl
        rw [Nat.add_zero, show (k24).sz = 1 from rfl, Nat.mul_one] at aX0
        replace aX0 := Option.some.inj (aX0.symm.trans dAd)
        injection aX0 with hva_ hvn_ hvc_
        rw [hva_] at bKq
        rw [hvc_] at bKp
        have xY := aZ (show Kd.V qL 46 _ w.heap.size _ _ ((uP xM tZ).f0) from Kd.V_mk bKp bKq)
        clear hva_ hvn_ hvc_ bKq bKp
        clear cPt dNc
        have aRo := aZ bZx
        have dAe := aZ bZw
        clear bZx bZw
        replace dAb := eq_true dAb
        replace dAc := eq_true dAc
        go_wp2_with (first | ((with_reducible refine gate_dst (N := 7) rfl ?_); refine box_event ?hg (N := 7) ?hd (cs := #[.slice none 0 0]) (t := 24) ?hr ?_; (case hd => rfl); (case hg => rfl); (case hr => first | (go_simp; done) | (go_simp; rfl)); intro vN hg w41 hbox hb; replace aAx := xeB aAx hg hb; replace fV := xVB fV hg hb; replace fZ := xVB fZ hg hb; replace xY := xVB xY hg hb; replace aRo := xC aRo hb; have aJc := aZ (hbox); have gH8 := xgh hg HB; have gH9 := xgh hg HB; replace HB := xhl HB hb; have cEg := xnl hg jW; have cEh := xng hg jW; replace jW := xbb jW hb; have cEi := xnl hg kM; have cEj := xng hg kM; replace kM := xbb kM hb; have bQc := xnl hg jX; have bQd := xng hg jX; replace jX := xbb jX hb; have bFs := xnl hg jR; have bFt := xng hg jR; replace jR := xbb jR hb; clear hb hbox hg; have bSu := cEh.out; have bSv := cEg.out; have bLs := cEj.out; have bLt := cEi.out; have bLo := bQd.out; have bLp := bQc.out; have bLh := bFt.out; have bLi := bFs.out; have aVl : w41.cell? ⟨vN, 0, none⟩ = some (.slice none 0 0) := (blk_cell aJc.out 0).trans rfl; have aVm := blk_frozen aJc.out 0) | ((with_reducible refine gate_callee (f := 32) rfl ?_); refine goesL_ (some 23) rfl rfl Try.func32 (by kernel_rfl) rfl #[.agg #[.slice aAs ((uP xM tZ).f0).length aAt]] rfl xmp ?_; (with_reducible refine (objects_Validate.calls k1 _ _ ((uP xM tZ).f0) aOf aRn _ ?side1 ?side2 A20.out).mono ?_); (case side1 => repeat (first | exact ((Kd.V_reads' (by (with_reducible repeat (first | apply Kd.V_alloc | apply Kd.V_drewN | apply Kd.V_drew)); exact (Kd.V_mono (Kd.V_far (p := ⟨vN, 0, none⟩) (Kd.V_mono xY.out (fun k_ hk => (⟨hk, hk.2⟩ : _ ∧ k_ ≠ vN))) (fun _ hk => hk.2) (.slice aAs ((uP xM tZ).f0).length aAt)) (fun _ h_ => h_.1)))).2.2) | (with_reducible refine Kd.C_alloc ?_ _) | (with_reducible refine Kd.C_drewN ?_ _) | (with_reducible refine Kd.C_drew ?_))); (case side2 => exact dAe.out); rintro e w47 ⟨rfl, hb⟩; refine ⟨_, rfl, ?_⟩; replace aAx := aZ (Kd.N_below (by (with_reducible repeat (first | apply Kd.N_alloc | apply Kd.N_drewN | apply Kd.N_drew)); exact (Kd.N_mono (Kd.N_far (p := ⟨vN, 0, none⟩) (Kd.N_mono aAx.out (fun k_ hk => (⟨hk, hk.2⟩ : _ ∧ k_ ≠ vN))) (fun _ hk => hk.2) (.slice aAs ((uP xM tZ).f0).length aAt)) (fun _ h_ => h_.1))) hb); replace fV := aZ (Kd.V_below (by (with_reducible repeat (first | apply Kd.V_alloc | apply Kd.V_drewN | apply Kd.V_drew)); exact (Kd.V_mono (Kd.V_far (p := ⟨vN, 0, none⟩) (Kd.V_mono fV.out (fun k_ hk => (⟨hk, hk.2⟩ : _ ∧ k_ ≠ vN))) (fun _ hk => hk.2) (.slice aAs ((uP xM tZ).f0).length aAt)) (fun _ h_ => h_.1))) hb); replace fZ := aZ (Kd.V_below (by (with_reducible repeat (first | apply Kd.V_alloc | apply Kd.V_drewN | apply Kd.V_drew)); exact (Kd.V_mono (Kd.V_far (p := ⟨vN, 0, none⟩) (Kd.V_mono fZ.out (fun k_ hk => (⟨hk, hk.2⟩ : _ ∧ k_ ≠ vN))) (fun _ hk => hk.2) (.slice aAs ((uP xM tZ).f0).length aAt)) (fun _ h_ => h_.1))) hb); replace jW := xbb jW hb; replace kM := xbb kM hb; replace jX := xbb jX hb; replace jR := xbb jR hb; replace aRo := aZ (Kd.C_below ((Kd.V_reads' (by (with_reducible repeat (first | apply Kd.V_alloc | apply Kd.V_drewN | apply Kd.V_drew)); exact (Kd.V_mono (Kd.V_far (p := ⟨vN, 0, none⟩) (Kd.V_mono xY.out (fun k_ hk => (⟨hk, hk.2⟩ : _ ∧ k_ ≠ vN))) (fun _ hk => hk.2) (.slice aAs ((uP xM tZ).f0).length aAt)) (fun _ h_ => h_.1)))).2.2) hb); replace xY := aZ (Kd.V_below (by (with_reducible repeat (first | apply Kd.V_alloc | apply Kd.V_drewN | apply Kd.V_drew)); exact (Kd.V_mono (Kd.V_far (p := ⟨vN, 0, none⟩) (Kd.V_mono xY.out (fun k_ hk => (⟨hk, hk.2⟩ : _ ∧ k_ ≠ vN))) (fun _ hk => hk.2) (.slice aAs ((uP xM tZ).f0).length aAt)) (fun _ h_ => h_.1))) hb); replace aJc := aZ (blk_below (g := vN) (o := .cells #[.slice aAs ((uP xM tZ).f0).length aAt] 24 (0, 0)) (by (with_reducible repeat (first | refine bN ?_ _ | refine bD ?_ | refine bA ?_ _)); refine blk_put (cs := #[.slice none 0 0]) ?_ 0 _ rfl; (with_reducible repeat (first | refine bN ?_ _ | refine bD ?_ | refine bA ?_ _)); exact aJc.out) hb); replace HB := xhl HB hb; (try clear hb); (try clear iV); (try clear hk); (try clear hi)) | ((with_reducible refine gate_dst (N := 8) rfl ?_); refine box_event ?hg (N := 8) ?hd (cs := #[.int .i64 0, .int .i64 0]) (t := 28) ?hr ?_; (case hd => rfl); (case hg => rfl); (case hr => first | (go_simp; done) | (go_simp; rfl)); intro pO hg w48 hbox hb; replace aAx := xeB aAx hg hb; replace fV := xVB fV hg hb; replace fZ := xVB fZ hg hb; replace xY := xVB xY hg hb; replace aRo := xC aRo hb; have aV0 := aZ (hbox); have gIa := xgh hg HB; have gIb := xgh hg HB; replace HB := xhl HB hb; have cEk := xnl hg jW; have cEl := xng hg jW; replace jW := xbb jW hb; have cEm := xnl hg kM; have cEn := xng hg kM; replace kM := xbb kM hb; have bQe := xnl hg jX; have aZn := xng hg jX; replace jX := xbb jX hb; have bFu := xnl hg jR; have aMi := xng hg jR; replace jR := xbb jR hb; have cEo := aZ ((by rw [hg]; exact Nat.ne_of_lt (blk_lt (g := vN) (o := .cells #[.slice aAs ((uP xM tZ).f0).length aAt] 24 (0, 0)) (xkq aJc)) : vN ≠ pO)); have cEp := aZ ((by rw [hg]; exact Nat.ne_of_gt (blk_lt (g := vN) (o := .cells #[.slice aAs ((uP xM tZ).f0).length aAt] 24 (0, 0)) (xkq aJc)) : pO ≠ vN)); replace aJc := aZ (blk_below (g := vN) (o := .cells #[.slice aAs ((uP xM tZ).f0).length aAt] 24 (0, 0)) (xkq aJc) hb); clear hb hbox hg; have dEo := cEl.out; have dEp := cEk.out; have bSm := cEn.out; have bSn := cEm.out; have bVi := aZn.out; have bVj := bQe.out; have cTi := aMi.out; have cTj := bFu.out; have bNj := cEp.out; have bNk := cEo.out; have gZx : w48.cell? ⟨pO, 0, none⟩ = some (.int .i64 0) := (blk_cell aV0.out 0).trans rfl; have gZy : w48.cell? ⟨pO, 1, none⟩ = some (.int .i64 0) := (blk_cell aV0.out 1).trans rfl; have gZz := blk_frozen aV0.out 0; have gZ0 := blk_frozen aV0.out 1))
        go_roundg k1
        case measure => have := yS.out; omega
        case rel => exact ⟨(wrap64 (tZ + 1)), (aMh), (aG4), xrs, H', ⟨by have := yS.out; omega⟩, ⟨by (with_reducible repeat (first | apply Kd.N_alloc | apply Kd.N_drewN | apply Kd.N_drew)); exact Kd.N_mono (Kd.N_far (p := ⟨pO, 1, none⟩) (Kd.N_far (p := ⟨pO, 0, none⟩) (Kd.N_mono aAx.out (fun k_ hk => (⟨hk, hk.2⟩ : _ ∧ k_ ≠ pO))) (fun _ hk => hk.2) (.int .i64 aOf)) (fun _ hk => hk.2) (.int .i64 aRn)) (fun _ hk => ⟨hk.1.1.1.1, ⟨hk.1.1.1.2.1, ⟨hk.1.1.1.2.2.1, ⟨hk.1.1.1.2.2.2.1, hk.1.1.1.2.2.2.2⟩⟩⟩⟩)⟩, ⟨by (with_reducible repeat (first | apply Kd.V_alloc | apply Kd.V_drewN | apply Kd.V_drew)); exact Kd.V_mono (Kd.V_far (p := ⟨pO, 1, none⟩) (Kd.V_far (p := ⟨pO, 0, none⟩) (Kd.V_mono fV.out (fun k_ hk => (⟨hk, hk.2⟩ : _ ∧ k_ ≠ pO))) (fun _ hk => hk.2) (.int .i64 aOf)) (fun _ hk => hk.2) (.int .i64 aRn)) (fun _ hk => ⟨hk.1.1.1.1, ⟨hk.1.1.1.2.1, ⟨hk.1.1.1.2.2.1, ⟨hk.1.1.1.2.2.2.1, ⟨hk.1.1.1.2.2.2.2.1, hk.1.1.1.2.2.2.2.2⟩⟩⟩⟩⟩)⟩, ⟨by (with_reducible repeat (first | apply Kd.V_alloc | apply Kd.V_drewN | apply Kd.V_drew)); exact Kd.V_mono (Kd.V_far (p := ⟨pO, 1, none⟩) (Kd.V_far (p := ⟨pO, 0, none⟩) (Kd.V_mono fZ.out (fun k_ hk => (⟨hk, hk.2⟩ : _ ∧ k_ ≠ pO))) (fun _ hk => hk.2) (.int .i64 aOf)) (fun _ hk => hk.2) (.int .i64 aRn)) (fun _ hk => ⟨hk.1.1.1.1, ⟨hk.1.1.1.2.1, ⟨hk.1.1.1.2.2.1, ⟨hk.1.1.1.2.2.2.1, ⟨hk.1.1.1.2.2.2.2.1, hk.1.1.1.2.2.2.2.2⟩⟩⟩⟩⟩)⟩, xk jW, xk kM, xk jX, xk jR, xb HB⟩
      rw [if_pos c21] at H
      have bA0 : (!(aOf == 0) || (!(aRn == 0))) = true := c21
      clear c21
      simp only [Option.some.injEq, Prod.mk.injEq] at H
      obtain ⟨rfl, rfl, rfl⟩ := H
      have dAb : 0 ≤ (tZ : Int) := of_decide_eq_true xas
      have dAc : tZ < (xM.length : Int) := of_decide_eq_true xas
      obtain ⟨dHd, aAs, aAt, fQa, dAd, bZw, bZx⟩ := eBt (Kd.N_reads' aAx.out).2.2 tZ dAb dAc
      cases fQa
      obtain ⟨gH7, dNc, dNd, cPt⟩ := Kd.N_get aAx.out z24 tZ dAb (by first | exact dAc | exact of_decide_eq_true xas | (have e_ := (Kd.N_reads' aAx.out).1; omega))
      obtain ⟨eWc, eWd, rfl, bKp, bKq⟩ := cR8 dNd
      have aX0 := cPt 0 _ rfl
      rw [Nat.add_zero, show (k24).sz = 1 from rfl, Nat.mul_one] at aX0
      replace aX0 := Option.some.inj (aX0.symm.trans dAd)
      injection aX0 with hva_ hvn_ hvc_
      rw [hva_] at bKq
      rw [hvc_] at bKp
      have xY := aZ (show Kd.V qL 46 _ w.heap.size _ _ ((uP xM tZ).f0) from Kd.V_mk bKp bKq)
      clear hva_ hvn_ hvc_ bKq bKp
      clear cPt dNc
      have aRo := aZ bZx
      have dAe := aZ bZw
      clear bZx bZw
      replace dAb := eq_true dAb
      replace dAc := eq_true dAc
      try go_wp2_with (first | ((with_reducible refine gate_dst (N := 7) rfl ?_); refine box_event ?hg (N := 7) ?hd (cs := #[.slice none 0 0]) (t := 24) ?hr ?_; (case hd => rfl); (case hg => rfl); (case hr => first | (go_simp; done) | (go_simp; rfl)); intro vN hg w22 hbox hb; replace aAx := xeB aAx hg hb; replace fV := xVB fV hg hb; replace fZ := xVB fZ hg hb; replace xY := xVB xY hg hb; replace aRo := xC aRo hb; have aJc := aZ (hbox); have gH8 := xgh hg HB; have gH9 := xgh hg HB; replace HB := xhl HB hb; have cEg := xnl hg jW; have cEh := xng hg jW; replace jW := xbb jW hb; have cEi := xnl hg kM; have cEj := xng hg kM; replace kM := xbb kM hb; have bQc := xnl hg jX; have bQd := xng hg jX; replace jX := xbb jX hb; have bFs := xnl hg jR; have bFt := xng hg jR; replace jR := xbb jR hb; clear hb hbox hg; have bMl := cEh.out; have bMm := cEg.out; have cG3 := cEj.out; have cG4 := cEi.out; have bV7 := bQd.out; have bV8 := bQc.out; have cHa := bFt.out; have cHb := bFs.out; have aQh : w22.cell? ⟨vN, 0, none⟩ = some (.slice none 0 0) := (blk_cell aJc.out 0).trans rfl; have aQi := blk_frozen aJc.out 0) | ((with_reducible refine gate_callee (f := 32) rfl ?_); refine goesL_ (some 23) rfl rfl Try.func32 (by kernel_rfl) rfl #[.agg #[.slice aAs ((uP xM tZ).f0).length aAt]] rfl xmp ?_; (with_reducible refine (objects_Validate.calls k1 _ _ ((uP xM tZ).f0) aOf aRn _ ?side1 ?side2 A20.out).mono ?_); (case side1 => repeat (first | exact ((Kd.V_reads' (by (with_reducible repeat (first | apply Kd.V_alloc | apply Kd.V_drewN | apply Kd.V_drew)); exact (Kd.V_mono (Kd.V_far (p := ⟨vN, 0, none⟩) (Kd.V_mono xY.out (fun k_ hk => (⟨hk, hk.2⟩ : _ ∧ k_ ≠ vN))) (fun _ hk => hk.2) (.slice aAs ((uP xM tZ).f0).length aAt)) (fun _ h_ => h_.1)))).2.2) | (with_reducible refine Kd.C_alloc ?_ _) | (with_reducible refine Kd.C_drewN ?_ _) | (with_reducible refine Kd.C_drew ?_))); (case side2 => exact dAe.out); rintro e w28 ⟨rfl, hb⟩; refine ⟨_, rfl, ?_⟩; replace aAx := aZ (Kd.N_below (by (with_reducible repeat (first | apply Kd.N_alloc | apply Kd.N_drewN | apply Kd.N_drew)); exact (Kd.N_mono (Kd.N_far (p := ⟨vN, 0, none⟩) (Kd.N_mono aAx.out (fun k_ hk => (⟨hk, hk.2⟩ : _ ∧ k_ ≠ vN))) (fun _ hk => hk.2) (.slice aAs ((uP xM tZ).f0).length aAt)) (fun _ h_ => h_.1))) hb); replace fV := aZ (Kd.V_below (by (with_reducible repeat (first | apply Kd.V_alloc | apply Kd.V_drewN | apply Kd.V_drew)); exact (Kd.V_mono (Kd.V_far (p := ⟨vN, 0, none⟩) (Kd.V_mono fV.out (fun k_ hk => (⟨hk, hk.2⟩ : _ ∧ k_ ≠ vN))) (fun _ hk => hk.2) (.slice aAs ((uP xM tZ).f0).length aAt)) (fun _ h_ => h_.1))) hb); replace fZ := aZ (Kd.V_below (by (with_reducible repeat (first | apply Kd.V_alloc | apply Kd.V_drewN | apply Kd.V_drew)); exact (Kd.V_mono (Kd.V_far (p := ⟨vN, 0, none⟩) (Kd.V_mono fZ.out (fun k_ hk => (⟨hk, hk.2⟩ : _ ∧ k_ ≠ vN))) (fun _ hk => hk.2) (.slice aAs ((uP xM tZ).f0).length aAt)) (fun _ h_ => h_.1))) hb); replace jW := xbb jW hb; replace kM := xbb kM hb; replace jX := xbb jX hb; replace jR := xbb jR hb; replace aRo := aZ (Kd.C_below ((Kd.V_reads' (by (with_reducible repeat (first | apply Kd.V_alloc | apply Kd.V_drewN | apply Kd.V_drew)); exact (Kd.V_mono (Kd.V_far (p := ⟨vN, 0, none⟩) (Kd.V_mono xY.out (fun k_ hk => (⟨hk, hk.2⟩ : _ ∧ k_ ≠ vN))) (fun _ hk => hk.2) (.slice aAs ((uP xM tZ).f0).length aAt)) (fun _ h_ => h_.1)))).2.2) hb); replace xY := aZ (Kd.V_below (by (with_reducible repeat (first | apply Kd.V_alloc | apply Kd.V_drewN | apply Kd.V_drew)); exact (Kd.V_mono (Kd.V_far (p := ⟨vN, 0, none⟩) (Kd.V_mono xY.out (fun k_ hk => (⟨hk, hk.2⟩ : _ ∧ k_ ≠ vN))) (fun _ hk => hk.2) (.slice aAs ((uP xM tZ).f0).length aAt)) (fun _ h_ => h_.1))) hb); replace aJc := aZ (blk_below (g := vN) (o := .cells #[.slice aAs ((uP xM tZ).f0).length aAt] 24 (0, 0)) (by (with_reducible repeat (first | refine bN ?_ _ | refine bD ?_ | refine bA ?_ _)); refine blk_put (cs := #[.slice none 0 0]) ?_ 0 _ rfl; (with_reducible repeat (first | refine bN ?_ _ | refine bD ?_ | refine bA ?_ _)); exact aJc.out) hb); replace HB := xhl HB hb; (try clear hb); (try clear iV); (try clear hk); (try clear hi)) | ((with_reducible refine gate_dst (N := 8) rfl ?_); refine box_event ?hg (N := 8) ?hd (cs := #[.int .i64 0, .int .i64 0]) (t := 28) ?hr ?_; (case hd => rfl); (case hg => rfl); (case hr => first | (go_simp; done) | (go_simp; rfl)); intro pO hg w29 hbox hb; replace aAx := xeB aAx hg hb; replace fV := xVB fV hg hb; replace fZ := xVB fZ hg hb; replace xY := xVB xY hg hb; replace aRo := xC aRo hb; have aV0 := aZ (hbox); have gIa := xgh hg HB; have gIb := xgh hg HB; replace HB := xhl HB hb; have cEk := xnl hg jW; have cEl := xng hg jW; replace jW := xbb jW hb; have cEm := xnl hg kM; have cEn := xng hg kM; replace kM := xbb kM hb; have bQe := xnl hg jX; have aZn := xng hg jX; replace jX := xbb jX hb; have bFu := xnl hg jR; have aMi := xng hg jR; replace jR := xbb jR hb; have cEo := aZ ((by rw [hg]; exact Nat.ne_of_lt (blk_lt (g := vN) (o := .cells #[.slice aAs ((uP xM tZ).f0).length aAt] 24 (0, 0)) (xkq aJc)) : vN ≠ pO)); have cEp := aZ ((by rw [hg]; exact Nat.ne_of_gt (blk_lt (g := vN) (o := .cells #[.slice aAs ((uP xM tZ).f0).length aAt] 24 (0, 0)) (xkq aJc)) : pO ≠ vN)); replace aJc := aZ (blk_below (g := vN) (o := .cells #[.slice aAs ((uP xM tZ).f0).length aAt] 24 (0, 0)) (xkq aJc) hb); clear hb hbox hg; have bSo := cEl.out; have bSp := cEk.out; have bVz := cEn.out; have bV0 := cEm.out; have dEl := aZn.out; have dEm := bQe.out; have cM8 := aMi.out; have cM9 := bFu.out; have dEh := cEp.out; have dEi := cEo.out; have cLn : w29.cell? ⟨pO, 0, none⟩ = some (.int .i64 0) := (blk_cell aV0.out 0).trans rfl; have dVc : w29.cell? ⟨pO, 1, none⟩ = some (.int .i64 0) := (blk_cell aV0.out 1).trans rfl; have cLo := blk_frozen aV0.out 0; have dVd := blk_frozen aV0.out 1))
      replace aAx : Aside0 (Kd.N k24 24 ((w29.setCell ⟨pO, 0, none⟩ (.int .i64 aOf)).setCell ⟨pO, 1, none⟩ (.int .i64 aRn)) w.heap.size (fun k_ => ((eP k_ ∨ kT k_) ∨ w.heap.size ≤ k_) ∧ k_ ≠ vD ∧ k_ ≠ vE ∧ k_ ≠ rQ ∧ k_ ≠ pE ∧ k_ ≠ vN ∧ k_ ≠ pO) (.slice (some dHd) xM.length bBb) xM) := ⟨by (with_reducible repeat (first | apply Kd.N_alloc | apply Kd.N_drewN | apply Kd.N_drew)); exact Kd.N_mono (Kd.N_far (p := ⟨pO, 1, none⟩) (Kd.N_far (p := ⟨pO, 0, none⟩) (Kd.N_mono aAx.out (fun k_ hk => (⟨hk, hk.2⟩ : _ ∧ k_ ≠ pO))) (fun _ hk => hk.2) (.int .i64 aOf)) (fun _ hk => hk.2) (.int .i64 aRn)) (fun _ hk => ⟨hk.1.1.1.1, ⟨hk.1.1.1.2.1, ⟨hk.1.1.1.2.2.1, ⟨hk.1.1.1.2.2.2.1, ⟨hk.1.1.1.2.2.2.2, ⟨hk.1.1.2, hk.1.2⟩⟩⟩⟩⟩⟩)⟩
      replace fV : Aside0 (Kd.V qL 46 ((w29.setCell ⟨pO, 0, none⟩ (.int .i64 aOf)).setCell ⟨pO, 1, none⟩ (.int .i64 aRn)) w.heap.size (fun k_ => ((eP k_ ∨ kT k_) ∨ w.heap.size ≤ k_) ∧ some k_ ≠ (.slice (some dHd) xM.length bBb : Value).ownBlock ∧ k_ ≠ vD ∧ k_ ≠ vE ∧ k_ ≠ rQ ∧ k_ ≠ pE ∧ k_ ≠ vN ∧ k_ ≠ pO) (.slice bP aD.length bK) aD) := ⟨by (with_reducible repeat (first | apply Kd.V_alloc | apply Kd.V_drewN | apply Kd.V_drew)); exact Kd.V_mono (Kd.V_far (p := ⟨pO, 1, none⟩) (Kd.V_far (p := ⟨pO, 0, none⟩) (Kd.V_mono fV.out (fun k_ hk => (⟨hk, hk.2⟩ : _ ∧ k_ ≠ pO))) (fun _ hk => hk.2) (.int .i64 aOf)) (fun _ hk => hk.2) (.int .i64 aRn)) (fun _ hk => ⟨hk.1.1.1.1, ⟨hk.1.1.1.2.1, ⟨hk.1.1.1.2.2.1, ⟨hk.1.1.1.2.2.2.1, ⟨hk.1.1.1.2.2.2.2.1, ⟨hk.1.1.1.2.2.2.2.2, ⟨hk.1.1.2, hk.1.2⟩⟩⟩⟩⟩⟩⟩)⟩
      replace fZ : Aside0 (Kd.V qL 46 ((w29.setCell ⟨pO, 0, none⟩ (.int .i64 aOf)).setCell ⟨pO, 1, none⟩ (.int .i64 aRn)) w.heap.size (fun k_ => ((eP k_ ∨ kT k_) ∨ w.heap.size ≤ k_) ∧ some k_ ≠ (.slice (some dHd) xM.length bBb : Value).ownBlock ∧ k_ ≠ vD ∧ k_ ≠ vE ∧ k_ ≠ rQ ∧ k_ ≠ pE ∧ k_ ≠ vN ∧ k_ ≠ pO) (.slice tT bR.length qD) bR) := ⟨by (with_reducible repeat (first | apply Kd.V_alloc | apply Kd.V_drewN | apply Kd.V_drew)); exact Kd.V_mono (Kd.V_far (p := ⟨pO, 1, none⟩) (Kd.V_far (p := ⟨pO, 0, none⟩) (Kd.V_mono fZ.out (fun k_ hk => (⟨hk, hk.2⟩ : _ ∧ k_ ≠ pO))) (fun _ hk => hk.2) (.int .i64 aOf)) (fun _ hk => hk.2) (.int .i64 aRn)) (fun _ hk => ⟨hk.1.1.1.1, ⟨hk.1.1.1.2.1, ⟨hk.1.1.1.2.2.1, ⟨hk.1.1.1.2.2.2.1, ⟨hk.1.1.1.2.2.2.2.1, ⟨hk.1.1.1.2.2.2.2.2, ⟨hk.1.1.2, hk.1.2⟩⟩⟩⟩⟩⟩⟩)⟩
      replace xY : Aside0 (Kd.V qL 46 ((w29.setCell ⟨pO, 0, none⟩ (.int .i64 aOf)).setCell ⟨pO, 1, none⟩ (.int .i64 aRn)) w.heap.size (fun k_ => ((eP k_ ∨ kT k_) ∨ w.heap.size ≤ k_) ∧ some k_ ≠ (.slice (some dHd) xM.length bBb : Value).ownBlock ∧ k_ ≠ vD ∧ k_ ≠ vE ∧ k_ ≠ rQ ∧ k_ ≠ pE ∧ k_ ≠ vN ∧ k_ ≠ pO) (.slice aAs ((uP xM tZ).f0).length aAt) ((uP xM tZ).f0)) := ⟨by (with_reducible repeat (first | apply Kd.V_alloc | apply Kd.V_drewN | apply Kd.V_drew)); exact Kd.V_mono (Kd.V_far (p := ⟨pO, 1, none⟩) (Kd.V_far (p := ⟨pO, 0, none⟩) (Kd.V_mono xY.out (fun k_ hk => (⟨hk, hk.2⟩ : _ ∧ k_ ≠ pO))) (fun _ hk => hk.2) (.int .i64 aOf)) (fun _ hk => hk.2) (.int .i64 aRn)) (fun _ hk => ⟨hk.1.1.1.1.1, ⟨hk.1.1.1.2, ⟨hk.1.1.1.1.2.1, ⟨hk.1.1.1.1.2.2.1, ⟨hk.1.1.1.1.2.2.2.1, ⟨hk.1.1.1.1.2.2.2.2, ⟨hk.1.1.2, hk.1.2⟩⟩⟩⟩⟩⟩⟩)⟩
      replace jW : Aside0 (((w29.setCell ⟨pO, 0, none⟩ (.int .i64 aOf)).setCell ⟨pO, 1, none⟩ (.int .i64 aRn)).heap[vD]? = some (.cells #[.slice bP aD.length bK] 24 (0, 0))) := xk jW
      replace kM : Aside0 (((w29.setCell ⟨pO, 0, none⟩ (.int .i64 aOf)).setCell ⟨pO, 1, none⟩ (.int .i64 aRn)).heap[vE]? = some (.cells #[.slice tT bR.length qD] 24 (0, 0))) := xk kM
      replace jX : Aside0 (((w29.setCell ⟨pO, 0, none⟩ (.int .i64 aOf)).setCell ⟨pO, 1, none⟩ (.int .i64 aRn)).heap[rQ]? = some (.cells #[.slice none 0 0] 24 (0, 0))) := xk jX
      replace jR : Aside0 (((w29.setCell ⟨pO, 0, none⟩ (.int .i64 aOf)).setCell ⟨pO, 1, none⟩ (.int .i64 aRn)).heap[pE]? = some (.cells #[.int .i64 aMh, .int .i64 aG4] 28 (0, 0))) := xk jR
      replace aJc : Aside0 (((w29.setCell ⟨pO, 0, none⟩ (.int .i64 aOf)).setCell ⟨pO, 1, none⟩ (.int .i64 aRn)).heap[vN]? = some (.cells #[.slice aAs ((uP xM tZ).f0).length aAt] 24 (0, 0))) := xk aJc
      replace aV0 : Aside0 (((w29.setCell ⟨pO, 0, none⟩ (.int .i64 aOf)).setCell ⟨pO, 1, none⟩ (.int .i64 aRn)).heap[pO]? = some (.cells #[.int .i64 aOf, .int .i64 aRn] 28 (0, 0))) := ⟨by (with_reducible repeat (first | refine bN ?_ _ | refine bD ?_ | refine bA ?_ _)); refine blk_put (cs := #[.int .i64 aOf, .int .i64 0]) ?_ 1 _ rfl; (with_reducible repeat (first | refine bN ?_ _ | refine bD ?_ | refine bA ?_ _)); refine blk_put (cs := #[.int .i64 0, .int .i64 0]) ?_ 0 _ rfl; (with_reducible repeat (first | refine bN ?_ _ | refine bD ?_ | refine bA ?_ _)); exact aV0.out⟩
      replace HB : Aside0 (Below w.heap.size w ((w29.setCell ⟨pO, 0, none⟩ (.int .i64 aOf)).setCell ⟨pO, 1, none⟩ (.int .i64 aRn))) := xb HB
      generalize ((w29.setCell ⟨pO, 0, none⟩ (.int .i64 aOf)).setCell ⟨pO, 1, none⟩ (.int .i64 aRn)) = w36 at aAx fV fZ xY jW kM jX jR aJc aV0 HB ⊢
      replace aAx := aZ (Kd.N_drew aAx.out)
      replace fV := aZ (Kd.V_drew fV.out)
      replace fZ := aZ (Kd.V_drew fZ.out)
      replace xY := aZ (Kd.V_drew xY.out)
      replace jW := aZ (bD jW.out)
      replace kM := aZ (bD kM.out)
      replace jX := aZ (bD jX.out)
      replace jR := aZ (bD jR.out)
      replace aJc := aZ (bD aJc.out)
      replace aV0 := aZ (bD aV0.out)
      replace HB := aZ (lD HB.out)
      refine start_ (n := 4) (S := fun w' => w'.cell? ⟨pO, 0, none⟩ = some (.int .i64 aOf) ∧ w'.cell? ⟨pO, 1, none⟩ = some (.int .i64 aRn)) (ds := []) #[false, false, false, false] (by kernel_rfl) rfl rfl ⟨(blk_cell aV0.out 0).trans rfl, (blk_cell aV0.out 1).trans rfl⟩ (fun hHeld => ?_)
      generalize w36.drew = w37 at aAx fV fZ xY jW kM jX jR aJc aV0 HB hHeld ⊢
      refine pure_ (i := 0) (N := some 27) (v := ?_) (a' := ?_) #[true, false, false, false] rfl rfl (by kernel_rfl) (fun _ _ _ h => h) (Or.inl ⟨by rfl, ?_⟩) ?_ ?_
      rotate_left
      · intro w'
        go_simp
        with_reducible rfl
      rotate_left
      · simp only [Act.put, List.setIfInBounds_toArray, List.set_cons_zero, List.set_cons_succ, i64_w, i32_w]
        rfl
      refine take_ (i := 1) (N := some 28) (v := ?_) (a' := ?_) #[true, true, false, false] rfl rfl (by kernel_rfl) (fun _ _ _ h => h) (Or.inl ⟨by rfl, ?_⟩) hHeld ?_ ?_
      rotate_left
      · rintro w' ⟨s0, s1⟩
        go_simp
        with_reducible rfl
      rotate_left
      · simp only [Act.put, List.setIfInBounds_toArray, List.set_cons_zero, List.set_cons_succ, i64_w, i32_w]
        rfl
      refine one_ (i := 2) (N := none) #[true, true, true, false] rfl rfl (by kernel_rfl) (by decide) (fun K hK => ?_)
      have iJn : w37.cell? ⟨rQ, 0, none⟩ = some (.slice none 0 0) := (blk_cell jX.out 0).trans rfl
      have iDp := blk_frozen jX.out 0
      have gZ1 := aZj.out
      have gZ2 := aZl.out
      have gZ3 := aG3.out
      have gZ4 := bQd.out
      have gZ5 := aZn.out
      have gZ6 := aZk.out
      have gZ7 := aZm.out
      have gZ8 := aAh.out
      have gZ9 := bQc.out
      have hAa := bQe.out
      refine skip_ (w1 := ?_) (by rfl) rfl ?_ ?_
      rotate_left
      · go_simp
        rfl
      refine hK.out _ _ ⟨((cell_far (p := ⟨rQ, _, none⟩) aZn.out _).trans (hHeld.1)), ((cell_far (p := ⟨rQ, _, none⟩) aZn.out _).trans (hHeld.2))⟩ (fun hHeld => ?_)
      clear hK K
      refine one_ (i := 3) (N := none) #[true, true, true, true] rfl rfl (by kernel_rfl) (by decide) (fun K hK => ?_)
      have iJo : w37.cell? ⟨pE, 0, none⟩ = some (.int .i64 aMh) := (blk_cell jR.out 0).trans rfl
      have iDq := blk_frozen jR.out 0
      have hAb := aUb.out
      have hAc := aUd.out
      have hAd := aAh.out
      have hAe := bFt.out
      have hAf := aMi.out
      have hAg := aUc.out
      have hAh := aUe.out
      have hAi := aG3.out
      have hAj := bFs.out
      have hAl := bFu.out
      have iJp : w37.cell? ⟨pE, 1, none⟩ = some (.int .i64 aG4) := (blk_cell jR.out 1).trans rfl
      have iDr := blk_frozen jR.out 1
      have hAm := aUb.out
      have hAo := aUd.out
      have hAp := aAh.out
      have hAq := bFt.out
      have hAu := aMi.out
      have hAv := aUc.out
      have hAw := aUe.out
      have hAy := aG3.out
      have hAz := bFs.out
      have hA4 := bFu.out
      refine skip_ (w1 := ?_) (by rfl) rfl ?_ ?_
      rotate_left
      · go_simp
        rfl
      refine hK.out _ _ ⟨((cell_far (p := ⟨pE, _, none⟩) aMi.out _).trans (((cell_far (p := ⟨pE, _, none⟩) aMi.out _).trans (hHeld.1)))), ((cell_far (p := ⟨pE, _, none⟩) aMi.out _).trans (((cell_far (p := ⟨pE, _, none⟩) aMi.out _).trans (hHeld.2))))⟩ (fun hHeld => ?_)
      clear hK K
      refine done_ (by kernel_rfl) ?_
      try go_wp2
      refine bodyPost_ret (results_cc rfl _ _ rQ pE 24 28 #[.slice none 0 0] #[.int .i64 aOf, .int .i64 aRn] (0, 0) (0, 0) _ _ rfl (by (with_reducible repeat (first | refine bN ?_ _ | refine bD ?_ | refine bA ?_ _)); refine blk_far ?_ aAh.out _; (with_reducible repeat (first | refine bN ?_ _ | refine bD ?_ | refine bA ?_ _)); refine blk_far ?_ aAh.out _; (with_reducible repeat (first | refine bN ?_ _ | refine bD ?_ | refine bA ?_ _)); refine blk_put (cs := #[.slice none 0 0]) ?_ 0 _ rfl; (with_reducible repeat (first | refine bN ?_ _ | refine bD ?_ | refine bA ?_ _)); exact jX.out) Try.underlying24 rfl (by kernel_rfl) rfl (by (with_reducible repeat (first | refine bN ?_ _ | refine bD ?_ | refine bA ?_ _)); refine blk_put (cs := #[.int .i64 aOf, .int .i64 aG4]) ?_ 1 _ rfl; (with_reducible repeat (first | refine bN ?_ _ | refine bD ?_ | refine bA ?_ _)); refine blk_put (cs := #[.int .i64 aMh, .int .i64 aG4]) ?_ 0 _ rfl; (with_reducible repeat (first | refine bN ?_ _ | refine bD ?_ | refine bA ?_ _)); refine blk_far ?_ aG3.out _; (with_reducible repeat (first | refine bN ?_ _ | refine bD ?_ | refine bA ?_ _)); exact jR.out) Try.underlying28 rfl (by kernel_rfl)) rfl ?_
      exact ⟨_, xre, by first | exact Kd.S_nil _ _ _ _ _ | exact Kd.N_nil _ _ _ _ _ | exact Kd.V_nil _ _ _ _ _ | exact Kd.Q_nil _ _ _ _ _ | exact Kd.R_nil _ _ _ _ _, xq HB⟩
    rw [if_neg c17] at H
    have dFu : decide (tZ < (xM.length : Int)) = false := decide_eq_false c17
    clear c17
    replace H := Option.bind_eq_some_iff.mp H
    obtain ⟨bL7, gIc, H⟩ := H
    replace H : ((objects_copied.f k1 bR).bind fun dM => (objects_Merge.l1 k1 dM (dM.length : Int) 0 bL7)) = some (r1, r2, r3) := H
    have A55 := aZ gIc
    clear gIc
    replace H := Option.bind_eq_some_iff.mp H
    obtain ⟨dM, gId, H⟩ := H
    replace H : (objects_Merge.l1 k1 dM (dM.length : Int) 0 bL7) = some (r1, r2, r3) := H
    have A56 := aZ gId
    clear gId
    have H' := aZ H
    clear H
    have cN6 := cTv.out
    have cN7 := cTw.out
    have cHr := aZj.out
    have cHs := aZk.out
    have cGy := aUb.out
    have cGz := aUc.out
    have cJi : wr.cell? ⟨vD, 0, none⟩ = some (.slice bP aD.length bK) := (blk_cell jW.out 0).trans rfl
    have cJj := blk_frozen jW.out 0
    go_wp2_with (first | ((with_reducible refine gate_callee (f := 47) rfl ?_); refine goesL_ (some 31) rfl rfl Try.func47 (by kernel_rfl) rfl #[.agg #[.slice bP aD.length bK]] rfl xmp ?_; (with_reducible refine (objects_copied.calls k1 _ _ aD bL7 _ ?side1 ?side2 A55.out).mono ?_); (case side1 => repeat (first | exact (Kd.V_reads' fV.out).2.2 | (with_reducible refine Kd.C_alloc ?_ _) | (with_reducible refine Kd.C_drewN ?_ _) | (with_reducible refine Kd.C_drew ?_))); (case side2 => exact (Kd.V_reads' fV.out).2.1); rintro e w61 ⟨iJs, rfl, gZ, hb⟩; refine ⟨_, rfl, ?_⟩; replace fV := aZ (Kd.V_elder' (by (with_reducible repeat (first | apply Kd.V_alloc | apply Kd.V_drewN | apply Kd.V_drew)); exact fV.out) (Kd.S_base gZ) hb); replace fZ := aZ (Kd.V_elder' (by (with_reducible repeat (first | apply Kd.V_alloc | apply Kd.V_drewN | apply Kd.V_drew)); exact fZ.out) (Kd.S_base gZ) hb); have cPu := aZ (Kd.N_lower (Kd.N_mono (ok' := fun k_ => ((eP k_ ∨ kT k_) ∨ w.heap.size ≤ k_) ∧ some k_ ≠ (.slice bKo xM.length bBb : Value).ownBlock ∧ k_ ≠ vD ∧ k_ ≠ vE ∧ k_ ≠ rQ ∧ k_ ≠ pE) (Kd.S_N (Kd.S_bound gZ)) (fun k_ hk_ => ⟨(.inr (Nat.le_trans (lZ (by repeat (first | (with_reducible first | exact HB.out | apply lA | apply lN | apply lD | refine lS ?_ bZs.out | refine lS ?_ bZt.out | refine lS ?_ bZu.out | refine lS ?_ bZv.out) | exact HB.out))) hk_.2.1)), (Kd.fresh' (Kd.N_lt (by (with_reducible repeat (first | apply Kd.N_alloc | apply Kd.N_drewN | apply Kd.N_drew)); exact aAx.out)) k_ hk_.2.1), (Kd.freshB (g := vD) (o := .cells #[.slice bP aD.length bK] 24 (0, 0)) (xkq jW) k_ hk_.2.1), (Kd.freshB (g := vE) (o := .cells #[.slice tT bR.length qD] 24 (0, 0)) (xkq kM) k_ hk_.2.1), (Kd.freshB (g := rQ) (o := .cells #[.slice none 0 0] 24 (0, 0)) (xkq jX) k_ hk_.2.1), (Kd.freshB (g := pE) (o := .cells #[.int .i64 aMh, .int .i64 aG4] 28 (0, 0)) (xkq jR) k_ hk_.2.1)⟩)) (lZ (by repeat (first | (with_reducible first | exact HB.out | apply lA | apply lN | apply lD | refine lS ?_ bZs.out | refine lS ?_ bZt.out | refine lS ?_ bZu.out | refine lS ?_ bZv.out) | exact HB.out)))); replace aAx := aZ (Kd.N_elder' (by (with_reducible repeat (first | apply Kd.N_alloc | apply Kd.N_drewN | apply Kd.N_drew)); exact aAx.out) (Kd.S_base gZ) hb); replace jW := xbb jW hb; replace kM := xbb kM hb; replace jX := xbb jX hb; replace jR := xbb jR hb; replace HB := xhl HB hb; (try clear hb); (try clear iV); (try clear hk); (try clear hi); (try clear gZ)) | ((with_reducible refine gate_dst (N := 9) rfl ?_); refine box_event ?hg (N := 9) ?hd (cs := #[.slice none 0 0]) (t := 24) ?hr ?_; (case hd => rfl); (case hg => rfl); (case hr => first | (go_simp; done) | (go_simp; rfl)); intro qU hg w62 hbox hb; replace aAx := xeB aAx hg hb; replace fV := xVB fV hg hb; replace fZ := xVB fZ hg hb; replace cPu := xeB cPu hg hb; have pF := aZ (hbox); have iDs := xgh hg HB; have dHe := xgh hg HB; replace HB := xhl HB hb; have aUf := xnl hg jW; have aZo := xng hg jW; replace jW := xbb jW hb; have aUg := xnl hg kM; have aZp := xng hg kM; replace kM := xbb kM hb; have aUh := xnl hg jX; have aZq := xng hg jX; replace jX := xbb jX hb; have aUi := xnl hg jR; have aZr := xng hg jR; replace jR := xbb jR hb; clear hb hbox hg; obtain ⟨aJd, aJe, fQb⟩ := Kd.N_slice cPu.out; subst fQb; have bAu := aZo.out; have bAv := aUf.out; have bLk := aZp.out; have bLl := aUg.out; have bWg := aZq.out; have bWh := aUh.out; have cG8 := aZr.out; have cG9 := aUi.out; have bI7 : w62.cell? ⟨qU, 0, none⟩ = some (.slice none 0 0) := (blk_cell pF.out 0).trans rfl; have bI8 := blk_frozen pF.out 0; have cS4 := aZl.out; have cS5 := aZm.out; have cHi := aUd.out; have cHj := aUe.out; have cK1 : w62.cell? ⟨vE, 0, none⟩ = some (.slice tT bR.length qD) := (blk_cell kM.out 0).trans rfl; have cK2 := blk_frozen kM.out 0) | ((with_reducible refine gate_callee (f := 47) rfl ?_); refine goesL_ (some 33) rfl rfl Try.func47 (by kernel_rfl) rfl #[.agg #[.slice tT bR.length qD]] rfl xmp ?_; (with_reducible refine (objects_copied.calls k1 _ _ bR dM _ ?side1 ?side2 A56.out).mono ?_); (case side1 => refine (Kd.V_reads' (e := 46) (base := w.heap.size) (ok := fun k_ => ((((((eP k_ ∨ kT k_) ∨ w.heap.size ≤ k_)) ∧ (some k_ ≠ (.slice bKo xM.length bBb : Value).ownBlock ∧ (k_ ≠ vD ∧ (k_ ≠ vE ∧ (k_ ≠ rQ ∧ k_ ≠ pE))))) ∧ some k_ ≠ (.slice aJd bL7.length aJe : Value).ownBlock) ∧ k_ ≠ qU)) (n := bR.length) (c := qD) ?_).2.2; exact (by (with_reducible repeat (first | apply Kd.V_alloc | apply Kd.V_drewN | apply Kd.V_drew)); exact (Kd.V_mono (Kd.V_far (p := ⟨qU, 0, none⟩) (Kd.V_mono fZ.out (fun k_ hk => (⟨hk, hk.2⟩ : _ ∧ k_ ≠ qU))) (fun _ hk => hk.2) (.slice aJd bL7.length aJe)) (fun _ h_ => h_.1)))); (case side2 => exact (Kd.V_reads' fZ.out).2.1); rintro e w72 ⟨iJt, rfl, gZ, hb⟩; refine ⟨_, rfl, ?_⟩; replace fV := aZ (Kd.V_elder' (by (with_reducible repeat (first | apply Kd.V_alloc | apply Kd.V_drewN | apply Kd.V_drew)); exact (Kd.V_mono (Kd.V_far (p := ⟨qU, 0, none⟩) (Kd.V_mono fV.out (fun k_ hk => (⟨hk, hk.2⟩ : _ ∧ k_ ≠ qU))) (fun _ hk => hk.2) (.slice aJd bL7.length aJe)) (fun _ h_ => h_.1))) (Kd.S_base gZ) hb); replace fZ := aZ (Kd.V_elder' (by (with_reducible repeat (first | apply Kd.V_alloc | apply Kd.V_drewN | apply Kd.V_drew)); exact (Kd.V_mono (Kd.V_far (p := ⟨qU, 0, none⟩) (Kd.V_mono fZ.out (fun k_ hk => (⟨hk, hk.2⟩ : _ ∧ k_ ≠ qU))) (fun _ hk => hk.2) (.slice aJd bL7.length aJe)) (fun _ h_ => h_.1))) (Kd.S_base gZ) hb); have fCf := aZ (Kd.N_lower (Kd.N_mono (ok' := fun k_ => ((eP k_ ∨ kT k_) ∨ w.heap.size ≤ k_) ∧ some k_ ≠ (.slice bKo xM.length bBb : Value).ownBlock ∧ some k_ ≠ (.slice aJd bL7.length aJe : Value).ownBlock ∧ k_ ≠ vD ∧ k_ ≠ vE ∧ k_ ≠ rQ ∧ k_ ≠ pE ∧ k_ ≠ qU) (Kd.S_N (Kd.S_bound gZ)) (fun k_ hk_ => ⟨(.inr (Nat.le_trans (lZ (by repeat (first | (with_reducible first | exact HB.out | apply lA | apply lN | apply lD | refine lS ?_ bZs.out | refine lS ?_ bZt.out | refine lS ?_ bZu.out | refine lS ?_ bZv.out | refine lS ?_ dHe.out) | exact HB.out))) hk_.2.1)), (Kd.fresh' (Kd.N_lt (by (with_reducible repeat (first | apply Kd.N_alloc | apply Kd.N_drewN | apply Kd.N_drew)); exact (Kd.N_mono (Kd.N_far (p := ⟨qU, 0, none⟩) (Kd.N_mono aAx.out (fun k_ hk => (⟨hk, hk.2⟩ : _ ∧ k_ ≠ qU))) (fun _ hk => hk.2) (.slice aJd bL7.length aJe)) (fun _ h_ => h_.1)))) k_ hk_.2.1), (Kd.fresh' (Kd.N_lt (by (with_reducible repeat (first | apply Kd.N_alloc | apply Kd.N_drewN | apply Kd.N_drew)); exact (Kd.N_mono (Kd.N_far (p := ⟨qU, 0, none⟩) (Kd.N_mono cPu.out (fun k_ hk => (⟨hk, hk.2⟩ : _ ∧ k_ ≠ qU))) (fun _ hk => hk.2) (.slice aJd bL7.length aJe)) (fun _ h_ => h_.1)))) k_ hk_.2.1), (Kd.freshB (g := vD) (o := .cells #[.slice bP aD.length bK] 24 (0, 0)) (by (with_reducible repeat (first | refine bN ?_ _ | refine bD ?_ | refine bA ?_ _)); refine blk_far ?_ aUf.out _; (with_reducible repeat (first | refine bN ?_ _ | refine bD ?_ | refine bA ?_ _)); exact jW.out) k_ hk_.2.1), (Kd.freshB (g := vE) (o := .cells #[.slice tT bR.length qD] 24 (0, 0)) (by (with_reducible repeat (first | refine bN ?_ _ | refine bD ?_ | refine bA ?_ _)); refine blk_far ?_ aUg.out _; (with_reducible repeat (first | refine bN ?_ _ | refine bD ?_ | refine bA ?_ _)); exact kM.out) k_ hk_.2.1), (Kd.freshB (g := rQ) (o := .cells #[.slice none 0 0] 24 (0, 0)) (by (with_reducible repeat (first | refine bN ?_ _ | refine bD ?_ | refine bA ?_ _)); refine blk_far ?_ aUh.out _; (with_reducible repeat (first | refine bN ?_ _ | refine bD ?_ | refine bA ?_ _)); exact jX.out) k_ hk_.2.1), (Kd.freshB (g := pE) (o := .cells #[.int .i64 aMh, .int .i64 aG4] 28 (0, 0)) (by (with_reducible repeat (first | refine bN ?_ _ | refine bD ?_ | refine bA ?_ _)); refine blk_far ?_ aUi.out _; (with_reducible repeat (first | refine bN ?_ _ | refine bD ?_ | refine bA ?_ _)); exact jR.out) k_ hk_.2.1), (Kd.freshB (g := qU) (o := .cells #[.slice aJd bL7.length aJe] 24 (0, 0)) (by (with_reducible repeat (first | refine bN ?_ _ | refine bD ?_ | refine bA ?_ _)); refine blk_put (cs := #[.slice none 0 0]) ?_ 0 _ rfl; (with_reducible repeat (first | refine bN ?_ _ | refine bD ?_ | refine bA ?_ _)); exact pF.out) k_ hk_.2.1)⟩)) (lZ (by repeat (first | (with_reducible first | exact HB.out | apply lA | apply lN | apply lD | refine lS ?_ bZs.out | refine lS ?_ bZt.out | refine lS ?_ bZu.out | refine lS ?_ bZv.out | refine lS ?_ dHe.out) | exact HB.out)))); replace aAx := aZ (Kd.N_elder' (by (with_reducible repeat (first | apply Kd.N_alloc | apply Kd.N_drewN | apply Kd.N_drew)); exact (Kd.N_mono (Kd.N_far (p := ⟨qU, 0, none⟩) (Kd.N_mono aAx.out (fun k_ hk => (⟨hk, hk.2⟩ : _ ∧ k_ ≠ qU))) (fun _ hk => hk.2) (.slice aJd bL7.length aJe)) (fun _ h_ => h_.1))) (Kd.S_base gZ) hb); replace cPu := aZ (Kd.N_elder' (by (with_reducible repeat (first | apply Kd.N_alloc | apply Kd.N_drewN | apply Kd.N_drew)); exact (Kd.N_mono (Kd.N_far (p := ⟨qU, 0, none⟩) (Kd.N_mono cPu.out (fun k_ hk => (⟨hk, hk.2⟩ : _ ∧ k_ ≠ qU))) (fun _ hk => hk.2) (.slice aJd bL7.length aJe)) (fun _ h_ => h_.1))) (Kd.S_base gZ) hb); replace jW := xbb jW hb; replace kM := xbb kM hb; replace jX := xbb jX hb; replace jR := xbb jR hb; replace pF := aZ (blk_below (g := qU) (o := .cells #[.slice aJd bL7.length aJe] 24 (0, 0)) (by (with_reducible repeat (first | refine bN ?_ _ | refine bD ?_ | refine bA ?_ _)); refine blk_put (cs := #[.slice none 0 0]) ?_ 0 _ rfl; (with_reducible repeat (first | refine bN ?_ _ | refine bD ?_ | refine bA ?_ _)); exact pF.out) hb); replace HB := xhl HB hb; (try clear hb); (try clear iV); (try clear hk); (try clear hi); (try clear gZ); obtain ⟨eWe, bNx, hNo⟩ := Kd.N_slice fCf.out; subst hNo))
    go_loopg [36] k1 (fun kq v36 w' => ∃ (bS : Int) (aC9 : Int) (zG : Int) (dD : List (fB)) (u856000 : Value), v36 = .int .i64 bS ∧ Aside0 (objects_Merge.l1 kq dM (dM.length : Int) bS dD = some (r1, r2, r3)) ∧ Aside0 (kq ≤ k1) ∧ Aside0 (Kd.N qL 46 w' w.heap.size (fun k_ => ((eP k_ ∨ kT k_) ∨ w.heap.size ≤ k_) ∧ some k_ ≠ (u856000 : Value).ownBlock ∧ k_ ≠ vD ∧ k_ ≠ vE ∧ k_ ≠ rQ ∧ k_ ≠ pE ∧ k_ ≠ qU) (.slice eWe dM.length bNx) dM) ∧ Aside0 (Kd.V qL 46 w' w.heap.size (fun k_ => ((eP k_ ∨ kT k_) ∨ w.heap.size ≤ k_) ∧ some k_ ≠ ((.slice eWe dM.length bNx) : Value).ownBlock ∧ some k_ ≠ (u856000 : Value).ownBlock ∧ k_ ≠ vD ∧ k_ ≠ vE ∧ k_ ≠ rQ ∧ k_ ≠ pE ∧ k_ ≠ qU) (.slice bP aD.length bK) aD) ∧ Aside0 (Kd.V qL 46 w' w.heap.size (fun k_ => ((eP k_ ∨ kT k_) ∨ w.heap.size ≤ k_) ∧ some k_ ≠ ((.slice eWe dM.length bNx) : Value).ownBlock ∧ some k_ ≠ (u856000 : Value).ownBlock ∧ k_ ≠ vD ∧ k_ ≠ vE ∧ k_ ≠ rQ ∧ k_ ≠ pE ∧ k_ ≠ qU) (.slice tT bR.length qD) bR) ∧ Aside0 (Kd.N qL 46 w' w.heap.size (fun k_ => ((eP k_ ∨ kT k_) ∨ w.heap.size ≤ k_) ∧ some k_ ≠ ((.slice eWe dM.length bNx) : Value).ownBlock ∧ k_ ≠ vD ∧ k_ ≠ vE ∧ k_ ≠ rQ ∧ k_ ≠ pE ∧ k_ ≠ qU) u856000 dD) ∧ Aside0 (w'.heap[vD]? = some (.cells #[(.slice bP aD.length bK)] 24 (0, 0))) ∧ Aside0 (w'.heap[vE]? = some (.cells #[(.slice tT bR.length qD)] 24 (0, 0))) ∧ Aside0 (w'.heap[rQ]? = some (.cells #[(.slice none 0 0)] 24 (0, 0))) ∧ Aside0 (w'.heap[pE]? = some (.cells #[.int .i64 aC9, .int .i64 zG] 28 (0, 0))) ∧ Aside0 (w'.heap[qU]? = some (.cells #[u856000] 24 (0, 0))) ∧ Aside0 (Below w.heap.size w w'))
    case atStart => exact ⟨(0), (aMh), (aG4), (bL7), (.slice aJd bL7.length aJe), xrs, H', ⟨Nat.le_refl _⟩, ⟨by (with_reducible repeat (first | apply Kd.N_alloc | apply Kd.N_drewN | apply Kd.N_drew)); exact Kd.N_mono fCf.out (fun _ hk => ⟨hk.1, ⟨hk.2.2.1, ⟨hk.2.2.2.1, ⟨hk.2.2.2.2.1, ⟨hk.2.2.2.2.2.1, ⟨hk.2.2.2.2.2.2.1, hk.2.2.2.2.2.2.2⟩⟩⟩⟩⟩⟩)⟩, ⟨by (with_reducible repeat (first | apply Kd.V_alloc | apply Kd.V_drewN | apply Kd.V_drew)); exact Kd.V_mono fV.out (fun _ hk => ⟨hk.1.1.1.1, ⟨hk.2, ⟨hk.1.1.2, ⟨hk.1.1.1.2.2.1, ⟨hk.1.1.1.2.2.2.1, ⟨hk.1.1.1.2.2.2.2.1, ⟨hk.1.1.1.2.2.2.2.2, hk.1.2⟩⟩⟩⟩⟩⟩⟩)⟩, ⟨by (with_reducible repeat (first | apply Kd.V_alloc | apply Kd.V_drewN | apply Kd.V_drew)); exact Kd.V_mono fZ.out (fun _ hk => ⟨hk.1.1.1.1, ⟨hk.2, ⟨hk.1.1.2, ⟨hk.1.1.1.2.2.1, ⟨hk.1.1.1.2.2.2.1, ⟨hk.1.1.1.2.2.2.2.1, ⟨hk.1.1.1.2.2.2.2.2, hk.1.2⟩⟩⟩⟩⟩⟩⟩)⟩, ⟨by (with_reducible repeat (first | apply Kd.N_alloc | apply Kd.N_drewN | apply Kd.N_drew)); exact Kd.N_mono cPu.out (fun _ hk => ⟨hk.1.1.1, ⟨hk.2, ⟨hk.1.1.2.2.1, ⟨hk.1.1.2.2.2.1, ⟨hk.1.1.2.2.2.2.1, ⟨hk.1.1.2.2.2.2.2, hk.1.2⟩⟩⟩⟩⟩⟩)⟩, xk jW, xk kM, xk jX, xk jR, xk pF, xb HB⟩
    case round =>
     clear H'
     (try clear c17); (try clear dFu); (try clear cJi); (try clear bI7); (try clear cK1); (try clear cJj); (try clear bI8); (try clear cK2)
     obtain ⟨bS, aC9, zG, dD, u856000, rfl, HA, HK2, xZ, fV, fZ, gX, jW, kM, jX, jR, pF, HB⟩ := hrel
     cases gk with
     | zero => exact absurd HA.out (by simp [objects_Merge.l1])
     | succ k2 =>
      have H := HA.out
      clear HA
      simp only [objects_Merge.l1] at H
      by_cases c74 : bS < (dM.length : Int)
      rotate_left
      · rw [if_neg c74] at H
        have eLm : decide (bS < (dM.length : Int)) = false := decide_eq_false c74
        clear c74
        by_cases dZs : (dD.length : Int) > 40
        · rw [if_pos dZs] at H
          have fQc : decide (40 < (dD.length : Int)) = true := decide_eq_true dZs
          have fQd : decide (40 < dD.length) = true := decide_eq_true (by omega)
          clear dZs
          simp only [Option.some.injEq, Prod.mk.injEq] at H
          obtain ⟨rfl, rfl, rfl⟩ := H
          have bT4 := aZo.out
          have bT5 := aUf.out
          have cO2 := aZp.out
          have cO3 := aUg.out
          have bT6 := aZq.out
          have bT7 := aUh.out
          have cNr := aZr.out
          have cNs := aUi.out
          have eLn : wr.cell? ⟨qU, 0, none⟩ = some (u856000) := (blk_cell pF.out 0).trans rfl
          have eLo := blk_frozen pF.out 0
          obtain ⟨iDt, iDu, gIe⟩ := Kd.N_slice gX.out
          subst gIe
          have cXe := aZk.out
          have cXf := aZj.out
          have cYn := aZm.out
          have cYo := aZl.out
          have cNv := aAh.out
          have cNw := aG3.out
          have eG4 : wr.cell? ⟨rQ, 0, none⟩ = some (.slice none 0 0) := (blk_cell jX.out 0).trans rfl
          have eG5 := blk_frozen jX.out 0
          have cNx := aUc.out
          have cNy := aUb.out
          have cDj := aUe.out
          have cDk := aUd.out
          have eDl : wr.cell? ⟨pE, 0, none⟩ = some (.int .i64 aC9) := (blk_cell jR.out 0).trans rfl
          have eDm : wr.cell? ⟨pE, 1, none⟩ = some (.int .i64 zG) := (blk_cell jR.out 1).trans rfl
          have eDn := blk_frozen jR.out 0
          have eDo := blk_frozen jR.out 1
          go_wp2
          refine bodyPost_ret (results_cc rfl _ _ rQ pE 24 28 #[.slice none 0 0] #[.int .i64 14, .int .i64 (-1)] (0, 0) (0, 0) _ _ rfl (by (with_reducible repeat (first | refine bN ?_ _ | refine bD ?_ | refine bA ?_ _)); refine blk_far ?_ aAh.out _; (with_reducible repeat (first | refine bN ?_ _ | refine bD ?_ | refine bA ?_ _)); refine blk_far ?_ aAh.out _; (with_reducible repeat (first | refine bN ?_ _ | refine bD ?_ | refine bA ?_ _)); refine blk_put (cs := #[.slice none 0 0]) ?_ 0 _ rfl; (with_reducible repeat (first | refine bN ?_ _ | refine bD ?_ | refine bA ?_ _)); exact jX.out) Try.underlying24 rfl (by kernel_rfl) rfl (by (with_reducible repeat (first | refine bN ?_ _ | refine bD ?_ | refine bA ?_ _)); refine blk_put (cs := #[.int .i64 14, .int .i64 zG]) ?_ 1 _ rfl; (with_reducible repeat (first | refine bN ?_ _ | refine bD ?_ | refine bA ?_ _)); refine blk_put (cs := #[.int .i64 aC9, .int .i64 zG]) ?_ 0 _ rfl; (with_reducible repeat (first | refine bN ?_ _ | refine bD ?_ | refine bA ?_ _)); refine blk_far ?_ aG3.out _; (with_reducible repeat (first | refine bN ?_ _ | refine bD ?_ | refine bA ?_ _)); exact jR.out) Try.underlying28 rfl (by kernel_rfl)) rfl ?_
          exact ⟨_, xre, by first | exact Kd.S_nil _ _ _ _ _ | exact Kd.N_nil _ _ _ _ _ | exact Kd.V_nil _ _ _ _ _ | exact Kd.Q_nil _ _ _ _ _ | exact Kd.R_nil _ _ _ _ _, xq HB⟩
        rw [if_neg dZs] at H
        have fQc : decide (40 < (dD.length : Int)) = false := decide_eq_false dZs
        have fQd : decide (40 < dD.length) = false := decide_eq_false (by omega)
        clear dZs
        simp only [Option.some.injEq, Prod.mk.injEq] at H
        obtain ⟨rfl, rfl, rfl⟩ := H
        have cYl := aZo.out
        have cYm := aUf.out
        have cOt := aZp.out
        have cOu := aUg.out
        have cO4 := aZq.out
        have cO5 := aUh.out
        have dM7 := aZr.out
        have dM8 := aUi.out
        have eK5 : wr.cell? ⟨qU, 0, none⟩ = some (u856000) := (blk_cell pF.out 0).trans rfl
        have eK6 := blk_frozen pF.out 0
        obtain ⟨eG9, eHa, eHb⟩ := Kd.N_slice gX.out
        subst eHb
        have dKg := aZk.out
        have dKh := aZj.out
        have cDl := aZm.out
        have cDm := aZl.out
        have cXg := aAh.out
        have cXh := aG3.out
        have dGd : wr.cell? ⟨rQ, 0, none⟩ = some (.slice none 0 0) := (blk_cell jX.out 0).trans rfl
        have dGe := blk_frozen jX.out 0
        have hNq := aUc.out
        have hNr := aUb.out
        have fPk := aUe.out
        have fPl := aUd.out
        have gIf : wr.cell? ⟨pE, 0, none⟩ = some (.int .i64 aC9) := (blk_cell jR.out 0).trans rfl
        have gIg : wr.cell? ⟨pE, 1, none⟩ = some (.int .i64 zG) := (blk_cell jR.out 1).trans rfl
        have gIh := blk_frozen jR.out 0
        have gIi := blk_frozen jR.out 1
        go_wp2
        refine bodyPost_ret (results_cc rfl _ _ rQ pE 24 28 #[.slice eG9 dD.length eHa] #[.int .i64 0, .int .i64 0] (0, 0) (0, 0) _ _ rfl (by (with_reducible repeat (first | refine bN ?_ _ | refine bD ?_ | refine bA ?_ _)); refine blk_far ?_ aAh.out _; (with_reducible repeat (first | refine bN ?_ _ | refine bD ?_ | refine bA ?_ _)); refine blk_far ?_ aAh.out _; (with_reducible repeat (first | refine bN ?_ _ | refine bD ?_ | refine bA ?_ _)); refine blk_put (cs := #[.slice none 0 0]) ?_ 0 _ rfl; (with_reducible repeat (first | refine bN ?_ _ | refine bD ?_ | refine bA ?_ _)); exact jX.out) Try.underlying24 rfl (by kernel_rfl) rfl (by (with_reducible repeat (first | refine bN ?_ _ | refine bD ?_ | refine bA ?_ _)); refine blk_put (cs := #[.int .i64 0, .int .i64 zG]) ?_ 1 _ rfl; (with_reducible repeat (first | refine bN ?_ _ | refine bD ?_ | refine bA ?_ _)); refine blk_put (cs := #[.int .i64 aC9, .int .i64 zG]) ?_ 0 _ rfl; (with_reducible repeat (first | refine bN ?_ _ | refine bD ?_ | refine bA ?_ _)); refine blk_far ?_ aG3.out _; (with_reducible repeat (first | refine bN ?_ _ | refine bD ?_ | refine bA ?_ _)); exact jR.out) Try.underlying28 rfl (by kernel_rfl)) rfl ?_
        exact ⟨_, xre, by (with_reducible repeat (first | apply Kd.N_alloc | apply Kd.N_drewN | apply Kd.N_drew)); exact Kd.N_mono (Kd.N_far (p := ⟨pE, 1, none⟩) (Kd.N_far (p := ⟨pE, 0, none⟩) (Kd.N_far (p := ⟨rQ, 0, none⟩) (Kd.N_mono (Kd.N_mono gX.out (fun k_ hk => (⟨hk, hk.2.2.2.2.1⟩ : _ ∧ k_ ≠ rQ))) (fun k_ hk => (⟨hk, hk.1.2.2.2.2.2.1⟩ : _ ∧ k_ ≠ pE))) (fun _ hk => hk.1.2) (.slice eG9 dD.length eHa)) (fun _ hk => hk.2) (.int .i64 0)) (fun _ hk => hk.2) (.int .i64 0)) (fun _ hk => hk.1.1.1), xq HB⟩

      rw [if_pos c74] at H
      have eLm : decide (bS < (dM.length : Int)) = true := decide_eq_true c74
      clear c74
      by_cases c75 : 0 ≤ bS
      rotate_left
      · rw [if_neg c75] at H
        exact absurd H (by simp)
      rw [if_pos c75] at H
      have iDv : decide (0 ≤ bS) = true := decide_eq_true c75
      clear c75
      by_cases c76 : bS < (dM.length : Int)
      rotate_left
      · rw [if_neg c76] at H
        exact absurd H (by simp)
      rw [if_pos c76] at H
      have iDw : decide (bS < (dM.length : Int)) = true := decide_eq_true c76
      clear c76
      replace H := Option.bind_eq_some_iff.mp H
      obtain ⟨⟨tV, gIj⟩, gIk, H⟩ := H
      replace H : (if gIj = true then (if 0 ≤ tV then (if tV < (dD.length : Int) then ((objects_Same.f k2 ((aA dD tV).f1.f0) ((aA dD tV).f1.f1) ((aA dD tV).f1.f2) ((aA dM bS).f1.f0) ((aA dM bS).f1.f1) ((aA dM bS).f1.f2)).bind fun dHb => (if dHb = true then (objects_Merge.l1 k2 dM (dM.length : Int) (wrap64 (bS + 1)) dD) else (some (([] : List (fB)), 19, bS)))) else (none)) else (none)) else (if 0 ≤ tV then (if tV ≤ (dD.length : Int) then (if dD.length < 2199023255552 then (objects_Merge.l1 k2 dM (dM.length : Int) (wrap64 (bS + 1)) (pp_ins dD tV [(⟨(aA dM bS).f0, (⟨(aA dM bS).f1.f0, (aA dM bS).f1.f1, (aA dM bS).f1.f2⟩ : S44)⟩ : fB)])) else (none)) else (none)) else (none))) = some (r1, r2, r3) := H
      have A77 := aZ gIk
      clear gIk
      by_cases c78 : gIj = true
      rotate_left
      · replace c78 := Bool.eq_false_iff.mpr c78
        subst c78
        have H1 : (if 0 ≤ tV then (if tV ≤ (dD.length : Int) then (if dD.length < 2199023255552 then (objects_Merge.l1 k2 dM (dM.length : Int) (wrap64 (bS + 1)) (pp_ins dD tV [(⟨(aA dM bS).f0, (⟨(aA dM bS).f1.f0, (aA dM bS).f1.f1, (aA dM bS).f1.f2⟩ : S44)⟩ : fB)])) else (none)) else (none)) else (none)) = some (r1, r2, r3) := by rw [if_neg (show ¬ (false = true) by decide)] at H; exact H
        clear H
        have H := H1
        clear H1
        by_cases eWf : 0 ≤ tV
        rotate_left
        · rw [if_neg eWf] at H
          exact absurd H (by simp)
        rw [if_pos eWf] at H
        have hNu : decide (0 ≤ tV) = true := decide_eq_true eWf
        clear eWf
        by_cases eWg : tV ≤ (dD.length : Int)
        rotate_left
        · rw [if_neg eWg] at H
          exact absurd H (by simp)
        rw [if_pos eWg] at H
        have hNv : decide (tV ≤ (dD.length : Int)) = true := decide_eq_true eWg
        clear eWg
        by_cases eWh : dD.length < 2199023255552
        rotate_left
        · rw [if_neg eWh] at H
          exact absurd H (by simp)
        rw [if_pos eWh] at H
        have fQe := aZ eWh
        clear eWh
        obtain ⟨dNe, dHf⟩ : ∃ y_ : List (fB), y_ = (pp_ins dD tV [(⟨(aA dM bS).f0, (⟨(aA dM bS).f1.f0, (aA dM bS).f1.f1, (aA dM bS).f1.f2⟩ : S44)⟩ : fB)]) := ⟨_, rfl⟩
        replace H : (objects_Merge.l1 k2 dM (dM.length : Int) (wrap64 (bS + 1)) dNe) = some (r1, r2, r3) := by first | (rw [dHf]; with_reducible exact H) | (have qY := (Option.bind_some _ _).symm.trans H; rw [dHf]; with_reducible exact qY) | (have qY := (Option.bind_some _ _).symm.trans H; with_reducible exact qY) | with_reducible exact H | (rw [dHf]; exact H) | exact H
        have gIl := aZ dHf
        clear dHf
        have H' := aZ H
        clear H
        have bZy : 0 ≤ (bS : Int) := of_decide_eq_true xas
        have bZz : bS < (dM.length : Int) := of_decide_eq_true xas
        obtain ⟨bBc, pR, pU, qZ, rC, eLp, dVf, dVg, bZ0, bZ1, bC4, bC5, bC6, bC7⟩ := gY (Kd.N_reads' xZ.out).2.2 bS bZy bZz
        cases eLp
        obtain ⟨fCg, cPv, cPw, bBd⟩ := Kd.N_get xZ.out z46 bS bZy (by first | exact bZz | exact of_decide_eq_true xas | (have e_ := (Kd.N_reads' xZ.out).1; omega))
        obtain ⟨dVh, dVi, dVj, dVk, rfl, aRp, aRq, aRr, aRs⟩ := rM cPw
        have aIa := bBd 2 _ rfl
        rw [add_field _ _ 2 (by omega)] at aIa
        replace aIa := Option.some.inj (aIa.symm.trans bZ0)
        injection aIa with hva_ hvn_ hvc_
        rw [hva_] at aRq
        rw [hvc_] at aRp
        have qP := aZ (show Kd.V (Kd.int .i64) 3 _ w.heap.size _ _ ((aA dM bS).f1.f1) from Kd.V_mk aRp aRq)
        clear hva_ hvn_ hvc_ aRq aRp
        have aIb := bBd 3 _ rfl
        rw [add_field _ _ 3 (by omega)] at aIb
        replace aIb := Option.some.inj (aIb.symm.trans bZ1)
        injection aIb with hva_ hvn_ hvc_
        rw [hva_] at aRs
        rw [hvc_] at aRr
        have qQ := aZ (show Kd.V (Kd.int .u8) 5 _ w.heap.size _ _ ((aA dM bS).f1.f2) from Kd.V_mk aRr aRs)
        clear hva_ hvn_ hvc_ aRs aRr
        clear bBd cPv
        have vO := aZ bC5
        have cLp := aZ bC4
        clear bC5 bC4
        have vP := aZ bC7
        have cLq := aZ bC6
        clear bC7 bC6
        replace bZy := eq_true bZy
        replace bZz := eq_true bZz
        try go_wp2_with (first | ((with_reducible refine gate_dst (N := 11) rfl ?_); refine box_event ?hg (N := 11) ?hd (cs := #[.int .i64 0, .int .i64 0, .slice none 0 0, .slice none 0 0]) (t := 46) ?hr ?_; (case hd => rfl); (case hg => rfl); (case hr => first | (go_simp; done) | (go_simp; rfl)); intro dL hg cI0 hbox hb; replace xZ := xeB xZ hg hb; replace fV := xVB fV hg hb; replace fZ := xVB fZ hg hb; replace gX := xeB gX hg hb; replace qP := xVB qP hg hb; replace qQ := xVB qQ hg hb; replace vO := xC vO hb; replace vP := xC vP hb; have nS := aZ (hbox); have fCh := xgh hg HB; have dHg := xgh hg HB; replace HB := xhl HB hb; have bFv := xnl hg jW; have bFw := xng hg jW; replace jW := xbb jW hb; have bFx := xnl hg kM; have bFy := xng hg kM; replace kM := xbb kM hb; have bFz := xnl hg jX; have bF0 := xng hg jX; replace jX := xbb jX hb; have bF1 := xnl hg jR; have bF2 := xng hg jR; replace jR := xbb jR hb; have bF3 := xnl hg pF; have bF4 := xng hg pF; replace pF := xbb pF hb; clear hb hbox hg; have bTz := bFw.out; have bT0 := bFv.out; have bJa := bFy.out; have bJb := bFx.out; have dL7 := bF0.out; have dL8 := bFz.out; have cW6 := bF2.out; have cW7 := bF1.out; have cDf := bF4.out; have cDg := bF3.out; have dGz : cI0.cell? ⟨dL, 0, none⟩ = some (.int .i64 0) := (blk_cell nS.out 0).trans rfl; have gIm : cI0.cell? ⟨dL, 1, none⟩ = some (.int .i64 0) := (blk_cell nS.out 1).trans rfl; have gIn : cI0.cell? ⟨dL, 2, none⟩ = some (.slice none 0 0) := (blk_cell nS.out 2).trans rfl; have gIo : cI0.cell? ⟨dL, 3, none⟩ = some (.slice none 0 0) := (blk_cell nS.out 3).trans rfl; have dG0 := blk_frozen nS.out 0; have gIp := blk_frozen nS.out 1; have gIq := blk_frozen nS.out 2; have gIr := blk_frozen nS.out 3; have bT1 := aZo.out; have bT2 := aUf.out; have cXa := aZp.out; have cXb := aUg.out; have cYx := aZq.out; have cYy := aUh.out; have cDh := aZr.out; have cDi := aUi.out; have bNl : cI0.cell? ⟨qU, 0, none⟩ = some (u856000) := (blk_cell pF.out 0).trans rfl; have bNm := blk_frozen pF.out 0; obtain ⟨bF5, bC8, eLq⟩ := Kd.N_slice gX.out; subst eLq) | ((with_reducible refine gate_callee (f := 48) rfl ?_); refine goesL_ (some 45) rfl rfl Try.func48 (by kernel_rfl) rfl #[.agg #[.slice bF5 dD.length bC8], .int .i64 ((aA dM bS).f0)] rfl xmp ?_; (with_reducible refine (objects_find.calls k2 _ _ dD ((aA dM bS).f0) tV false _ ?side1 ?side2 A77.out).mono ?_); (case side1 => refine (Kd.N_reads' (e := 46) (base := w.heap.size) (ok := fun k_ => (((((eP k_ ∨ kT k_) ∨ w.heap.size ≤ k_)) ∧ (some k_ ≠ (.slice (some bBc) dM.length bNx : Value).ownBlock ∧ (k_ ≠ vD ∧ (k_ ≠ vE ∧ (k_ ≠ rQ ∧ (k_ ≠ pE ∧ k_ ≠ qU)))))) ∧ k_ ≠ dL)) (n := dD.length) (c := bC8) ?_).2.2; exact (by (with_reducible repeat (first | apply Kd.N_alloc | apply Kd.N_drewN | apply Kd.N_drew)); exact (Kd.N_mono (Kd.N_far (p := ⟨dL, 3, none⟩) (Kd.N_far (p := ⟨dL, 2, none⟩) (Kd.N_far (p := ⟨dL, 1, none⟩) (Kd.N_far (p := ⟨dL, 0, none⟩) (Kd.N_mono gX.out (fun k_ hk => (⟨hk, hk.2⟩ : _ ∧ k_ ≠ dL))) (fun _ hk => hk.2) (.int .i64 ((aA dM bS).f0))) (fun _ hk => hk.2) (.int .i64 ((aA dM bS).f1.f0))) (fun _ hk => hk.2) (.slice pR ((aA dM bS).f1.f1).length pU)) (fun _ hk => hk.2) (.slice qZ ((aA dM bS).f1.f2).length rC)) (fun _ h_ => h_.1)))); (case side2 => exact (Kd.N_reads' gX.out).2.1); rintro e fQf ⟨rfl, hb⟩; refine ⟨_, rfl, ?_⟩; replace xZ := aZ (Kd.N_below (by (with_reducible repeat (first | apply Kd.N_alloc | apply Kd.N_drewN | apply Kd.N_drew)); exact (Kd.N_mono (Kd.N_far (p := ⟨dL, 3, none⟩) (Kd.N_far (p := ⟨dL, 2, none⟩) (Kd.N_far (p := ⟨dL, 1, none⟩) (Kd.N_far (p := ⟨dL, 0, none⟩) (Kd.N_mono xZ.out (fun k_ hk => (⟨hk, hk.2⟩ : _ ∧ k_ ≠ dL))) (fun _ hk => hk.2) (.int .i64 ((aA dM bS).f0))) (fun _ hk => hk.2) (.int .i64 ((aA dM bS).f1.f0))) (fun _ hk => hk.2) (.slice pR ((aA dM bS).f1.f1).length pU)) (fun _ hk => hk.2) (.slice qZ ((aA dM bS).f1.f2).length rC)) (fun _ h_ => h_.1))) hb); replace fV := aZ (Kd.V_below (by (with_reducible repeat (first | apply Kd.V_alloc | apply Kd.V_drewN | apply Kd.V_drew)); exact (Kd.V_mono (Kd.V_far (p := ⟨dL, 3, none⟩) (Kd.V_far (p := ⟨dL, 2, none⟩) (Kd.V_far (p := ⟨dL, 1, none⟩) (Kd.V_far (p := ⟨dL, 0, none⟩) (Kd.V_mono fV.out (fun k_ hk => (⟨hk, hk.2⟩ : _ ∧ k_ ≠ dL))) (fun _ hk => hk.2) (.int .i64 ((aA dM bS).f0))) (fun _ hk => hk.2) (.int .i64 ((aA dM bS).f1.f0))) (fun _ hk => hk.2) (.slice pR ((aA dM bS).f1.f1).length pU)) (fun _ hk => hk.2) (.slice qZ ((aA dM bS).f1.f2).length rC)) (fun _ h_ => h_.1))) hb); replace fZ := aZ (Kd.V_below (by (with_reducible repeat (first | apply Kd.V_alloc | apply Kd.V_drewN | apply Kd.V_drew)); exact (Kd.V_mono (Kd.V_far (p := ⟨dL, 3, none⟩) (Kd.V_far (p := ⟨dL, 2, none⟩) (Kd.V_far (p := ⟨dL, 1, none⟩) (Kd.V_far (p := ⟨dL, 0, none⟩) (Kd.V_mono fZ.out (fun k_ hk => (⟨hk, hk.2⟩ : _ ∧ k_ ≠ dL))) (fun _ hk => hk.2) (.int .i64 ((aA dM bS).f0))) (fun _ hk => hk.2) (.int .i64 ((aA dM bS).f1.f0))) (fun _ hk => hk.2) (.slice pR ((aA dM bS).f1.f1).length pU)) (fun _ hk => hk.2) (.slice qZ ((aA dM bS).f1.f2).length rC)) (fun _ h_ => h_.1))) hb); replace gX := aZ (Kd.N_below (by (with_reducible repeat (first | apply Kd.N_alloc | apply Kd.N_drewN | apply Kd.N_drew)); exact (Kd.N_mono (Kd.N_far (p := ⟨dL, 3, none⟩) (Kd.N_far (p := ⟨dL, 2, none⟩) (Kd.N_far (p := ⟨dL, 1, none⟩) (Kd.N_far (p := ⟨dL, 0, none⟩) (Kd.N_mono gX.out (fun k_ hk => (⟨hk, hk.2⟩ : _ ∧ k_ ≠ dL))) (fun _ hk => hk.2) (.int .i64 ((aA dM bS).f0))) (fun _ hk => hk.2) (.int .i64 ((aA dM bS).f1.f0))) (fun _ hk => hk.2) (.slice pR ((aA dM bS).f1.f1).length pU)) (fun _ hk => hk.2) (.slice qZ ((aA dM bS).f1.f2).length rC)) (fun _ h_ => h_.1))) hb); replace jW := xbb jW hb; replace kM := xbb kM hb; replace jX := xbb jX hb; replace jR := xbb jR hb; replace pF := xbb pF hb; replace vO := aZ (Kd.C_below ((Kd.V_reads' (by (with_reducible repeat (first | apply Kd.V_alloc | apply Kd.V_drewN | apply Kd.V_drew)); exact (Kd.V_mono (Kd.V_far (p := ⟨dL, 3, none⟩) (Kd.V_far (p := ⟨dL, 2, none⟩) (Kd.V_far (p := ⟨dL, 1, none⟩) (Kd.V_far (p := ⟨dL, 0, none⟩) (Kd.V_mono qP.out (fun k_ hk => (⟨hk, hk.2⟩ : _ ∧ k_ ≠ dL))) (fun _ hk => hk.2) (.int .i64 ((aA dM bS).f0))) (fun _ hk => hk.2) (.int .i64 ((aA dM bS).f1.f0))) (fun _ hk => hk.2) (.slice pR ((aA dM bS).f1.f1).length pU)) (fun _ hk => hk.2) (.slice qZ ((aA dM bS).f1.f2).length rC)) (fun _ h_ => h_.1)))).2.2) hb); replace qP := aZ (Kd.V_below (by (with_reducible repeat (first | apply Kd.V_alloc | apply Kd.V_drewN | apply Kd.V_drew)); exact (Kd.V_mono (Kd.V_far (p := ⟨dL, 3, none⟩) (Kd.V_far (p := ⟨dL, 2, none⟩) (Kd.V_far (p := ⟨dL, 1, none⟩) (Kd.V_far (p := ⟨dL, 0, none⟩) (Kd.V_mono qP.out (fun k_ hk => (⟨hk, hk.2⟩ : _ ∧ k_ ≠ dL))) (fun _ hk => hk.2) (.int .i64 ((aA dM bS).f0))) (fun _ hk => hk.2) (.int .i64 ((aA dM bS).f1.f0))) (fun _ hk => hk.2) (.slice pR ((aA dM bS).f1.f1).length pU)) (fun _ hk => hk.2) (.slice qZ ((aA dM bS).f1.f2).length rC)) (fun _ h_ => h_.1))) hb); replace vP := aZ (Kd.C_below ((Kd.V_reads' (by (with_reducible repeat (first | apply Kd.V_alloc | apply Kd.V_drewN | apply Kd.V_drew)); exact (Kd.V_mono (Kd.V_far (p := ⟨dL, 3, none⟩) (Kd.V_far (p := ⟨dL, 2, none⟩) (Kd.V_far (p := ⟨dL, 1, none⟩) (Kd.V_far (p := ⟨dL, 0, none⟩) (Kd.V_mono qQ.out (fun k_ hk => (⟨hk, hk.2⟩ : _ ∧ k_ ≠ dL))) (fun _ hk => hk.2) (.int .i64 ((aA dM bS).f0))) (fun _ hk => hk.2) (.int .i64 ((aA dM bS).f1.f0))) (fun _ hk => hk.2) (.slice pR ((aA dM bS).f1.f1).length pU)) (fun _ hk => hk.2) (.slice qZ ((aA dM bS).f1.f2).length rC)) (fun _ h_ => h_.1)))).2.2) hb); replace qQ := aZ (Kd.V_below (by (with_reducible repeat (first | apply Kd.V_alloc | apply Kd.V_drewN | apply Kd.V_drew)); exact (Kd.V_mono (Kd.V_far (p := ⟨dL, 3, none⟩) (Kd.V_far (p := ⟨dL, 2, none⟩) (Kd.V_far (p := ⟨dL, 1, none⟩) (Kd.V_far (p := ⟨dL, 0, none⟩) (Kd.V_mono qQ.out (fun k_ hk => (⟨hk, hk.2⟩ : _ ∧ k_ ≠ dL))) (fun _ hk => hk.2) (.int .i64 ((aA dM bS).f0))) (fun _ hk => hk.2) (.int .i64 ((aA dM bS).f1.f0))) (fun _ hk => hk.2) (.slice pR ((aA dM bS).f1.f1).length pU)) (fun _ hk => hk.2) (.slice qZ ((aA dM bS).f1.f2).length rC)) (fun _ h_ => h_.1))) hb); replace nS := aZ (blk_below (g := dL) (o := .cells #[.int .i64 ((aA dM bS).f0), .int .i64 ((aA dM bS).f1.f0), .slice pR ((aA dM bS).f1.f1).length pU, .slice qZ ((aA dM bS).f1.f2).length rC] 46 (0, 0)) (by (with_reducible repeat (first | refine bN ?_ _ | refine bD ?_ | refine bA ?_ _)); refine blk_put (cs := #[.int .i64 ((aA dM bS).f0), .int .i64 ((aA dM bS).f1.f0), .slice pR ((aA dM bS).f1.f1).length pU, .slice none 0 0]) ?_ 3 _ rfl; (with_reducible repeat (first | refine bN ?_ _ | refine bD ?_ | refine bA ?_ _)); refine blk_put (cs := #[.int .i64 ((aA dM bS).f0), .int .i64 ((aA dM bS).f1.f0), .slice none 0 0, .slice none 0 0]) ?_ 2 _ rfl; (with_reducible repeat (first | refine bN ?_ _ | refine bD ?_ | refine bA ?_ _)); refine blk_put (cs := #[.int .i64 ((aA dM bS).f0), .int .i64 0, .slice none 0 0, .slice none 0 0]) ?_ 1 _ rfl; (with_reducible repeat (first | refine bN ?_ _ | refine bD ?_ | refine bA ?_ _)); refine blk_put (cs := #[.int .i64 0, .int .i64 0, .slice none 0 0, .slice none 0 0]) ?_ 0 _ rfl; (with_reducible repeat (first | refine bN ?_ _ | refine bD ?_ | refine bA ?_ _)); exact nS.out) hb); replace HB := xhl HB hb; (try clear hb); (try clear iV); (try clear hk); (try clear hi)))
        replace xZ := aZ (Kd.N_drew xZ.out)
        replace fV := aZ (Kd.V_drew fV.out)
        replace fZ := aZ (Kd.V_drew fZ.out)
        replace gX := aZ (Kd.N_drew gX.out)
        replace qP := aZ (Kd.V_drew qP.out)
        replace qQ := aZ (Kd.V_drew qQ.out)
        replace jW := aZ (bD jW.out)
        replace kM := aZ (bD kM.out)
        replace jX := aZ (bD jX.out)
        replace jR := aZ (bD jR.out)
        replace pF := aZ (bD pF.out)
        replace nS := aZ (bD nS.out)
        replace vO := aZ (Kd.C_drew vO.out)
        replace vP := aZ (Kd.C_drew vP.out)
        replace HB := aZ (lD HB.out)
        refine start_ (n := 14) (S := fun w' => True) (ds := []) Z1 (by kernel_rfl) rfl rfl trivial (fun hHeld => ?_); refine with_tabW objects_Merge.tab13 objects_Merge.bits13 (fun HT_ HW_ => ?_)
        generalize fQf.drew = cR1 at xZ fV fZ gX qP qQ jW kM jX jR pF nS vO vP HB hHeld ⊢
        refine pu 0 49 Z2 HT_ rfl rfl (h := ?_)
        refine pu 1 50 Z3 HT_ rfl rfl (h := ?_)
        refine pv 2 51 Z4 HT_ rfl rfl (h := ?_)
        refine pv 3 52 Z16 HT_ rfl rfl (h := ?_)
        refine pv 4 53 Z17 HT_ rfl rfl (h := ?_)
        refine pv 5 54 Z18 HT_ rfl rfl (h := ?_)
        refine pv 6 55 Z19 HT_ rfl rfl (h := ?_)
        refine pv 7 56 Z20 HT_ rfl rfl (h := ?_)
        refine pv 8 57 Z10 HT_ rfl rfl (h := ?_)
        refine pv 9 58 Z11 HT_ rfl rfl (h := ?_)
        refine pv 10 59 Z12 HT_ rfl rfl (h := ?_)
        refine pv 11 60 Z13 HT_ rfl rfl (h := ?_)
        refine pu 12 61 Z14 HT_ rfl rfl (h := ?_)
        refine pu 13 48 Z15 HT_ rfl rfl (h := ?_)
        refine done_ (done_of HT_.out (by kernel_rfl)) ?_
        have eK9 : cR1.cell? ⟨qU, 0, none⟩ = some (.slice bF5 dD.length bC8) := (blk_cell pF.out 0).trans rfl
        have eLa := blk_frozen pF.out 0
        have eHg : cR1.cell? ⟨dL, 0, none⟩ = some (.int .i64 ((aA dM bS).f0)) := (blk_cell nS.out 0).trans rfl
        have eHh : cR1.cell? ⟨dL, 1, none⟩ = some (.int .i64 ((aA dM bS).f1.f0)) := (blk_cell nS.out 1).trans rfl
        have gIs : cR1.cell? ⟨dL, 2, none⟩ = some (.slice pR ((aA dM bS).f1.f1).length pU) := (blk_cell nS.out 2).trans rfl
        have gIt : cR1.cell? ⟨dL, 3, none⟩ = some (.slice qZ ((aA dM bS).f1.f2).length rC) := (blk_cell nS.out 3).trans rfl
        have eHi := blk_frozen nS.out 0
        have eHj := blk_frozen nS.out 1
        have gIu := blk_frozen nS.out 2
        have gIv := blk_frozen nS.out 3
        try go_wp2_with (first | ((with_reducible refine gate_callee (f := 50) rfl ?_); refine Kd.N_insert qL (w0 := w) w.heap.size rfl rfl (.tmp 69) (.tmp 70) (.tmp 72) rfl (.slice bF5 dD.length bC8) dD (⟨(aA dM bS).f0, (⟨(aA dM bS).f1.f0, (aA dM bS).f1.f1, (aA dM bS).f1.f2⟩ : S44)⟩ : fB) [.int .i64 ((aA dM bS).f0), .int .i64 ((aA dM bS).f1.f0), .slice pR ((aA dM bS).f1.f1).length pU, .slice qZ ((aA dM bS).f1.f2).length rC] tV (fun k_ => ((eP k_ ∨ kT k_) ∨ w.heap.size ≤ k_) ∧ some k_ ≠ (.slice (some bBc) dM.length bNx : Value).ownBlock ∧ k_ ≠ vD ∧ k_ ≠ vE ∧ k_ ≠ rQ ∧ k_ ≠ pE ∧ k_ ≠ qU ∧ k_ ≠ dL) (fun k_ => ((fun k_ => ((eP k_ ∨ kT k_) ∨ w.heap.size ≤ k_) ∧ some k_ ≠ (.slice (some bBc) dM.length bNx : Value).ownBlock ∧ k_ ≠ vD ∧ k_ ≠ vE ∧ k_ ≠ rQ ∧ k_ ≠ pE ∧ k_ ≠ qU ∧ k_ ≠ dL)) k_ ∧ some k_ ≠ (.slice bF5 dD.length bC8 : Value).ownBlock) rfl rfl rfl (of_decide_eq_true xas) (of_decide_eq_true xas) ?aP (fun _ hk => hk) ?aF ?aO ?aB ?aS ?aL ?_; (case aP => exact (aW2 _ _ (⟨(aA dM bS).f0, (⟨(aA dM bS).f1.f0, (aA dM bS).f1.f1, (aA dM bS).f1.f2⟩ : S44)⟩ : fB) (Kd.V_reads' (Kd.V_mono (ok' := (fun k_ => ((fun k_ => ((eP k_ ∨ kT k_) ∨ w.heap.size ≤ k_) ∧ some k_ ≠ (.slice (some bBc) dM.length bNx : Value).ownBlock ∧ k_ ≠ vD ∧ k_ ≠ vE ∧ k_ ≠ rQ ∧ k_ ≠ pE ∧ k_ ≠ qU ∧ k_ ≠ dL)) k_ ∧ some k_ ≠ (.slice bF5 dD.length bC8 : Value).ownBlock)) (qP.out) (fun k_ hk => ⟨⟨hk.1.1.1, ⟨hk.1.2, ⟨hk.1.1.2.2.1, ⟨hk.1.1.2.2.2.1, ⟨hk.1.1.2.2.2.2.1, ⟨hk.1.1.2.2.2.2.2.1, ⟨hk.1.1.2.2.2.2.2.2, hk.2⟩⟩⟩⟩⟩⟩⟩, hk.1.1.2.1⟩))).2.1 (Kd.V_F (Kd.V_mono (ok' := (fun k_ => ((fun k_ => ((eP k_ ∨ kT k_) ∨ w.heap.size ≤ k_) ∧ some k_ ≠ (.slice (some bBc) dM.length bNx : Value).ownBlock ∧ k_ ≠ vD ∧ k_ ≠ vE ∧ k_ ≠ rQ ∧ k_ ≠ pE ∧ k_ ≠ qU ∧ k_ ≠ dL)) k_ ∧ some k_ ≠ (.slice bF5 dD.length bC8 : Value).ownBlock)) (qP.out) (fun k_ hk => ⟨⟨hk.1.1.1, ⟨hk.1.2, ⟨hk.1.1.2.2.1, ⟨hk.1.1.2.2.2.1, ⟨hk.1.1.2.2.2.2.1, ⟨hk.1.1.2.2.2.2.2.1, ⟨hk.1.1.2.2.2.2.2.2, hk.2⟩⟩⟩⟩⟩⟩⟩, hk.1.1.2.1⟩))) (Kd.V_reads' (Kd.V_mono (ok' := (fun k_ => ((fun k_ => ((eP k_ ∨ kT k_) ∨ w.heap.size ≤ k_) ∧ some k_ ≠ (.slice (some bBc) dM.length bNx : Value).ownBlock ∧ k_ ≠ vD ∧ k_ ≠ vE ∧ k_ ≠ rQ ∧ k_ ≠ pE ∧ k_ ≠ qU ∧ k_ ≠ dL)) k_ ∧ some k_ ≠ (.slice bF5 dD.length bC8 : Value).ownBlock)) (qQ.out) (fun k_ hk => ⟨⟨hk.1.1.1, ⟨hk.1.2, ⟨hk.1.1.2.2.1, ⟨hk.1.1.2.2.2.1, ⟨hk.1.1.2.2.2.2.1, ⟨hk.1.1.2.2.2.2.2.1, ⟨hk.1.1.2.2.2.2.2.2, hk.2⟩⟩⟩⟩⟩⟩⟩, hk.1.1.2.1⟩))).2.1 (Kd.V_F (Kd.V_mono (ok' := (fun k_ => ((fun k_ => ((eP k_ ∨ kT k_) ∨ w.heap.size ≤ k_) ∧ some k_ ≠ (.slice (some bBc) dM.length bNx : Value).ownBlock ∧ k_ ≠ vD ∧ k_ ≠ vE ∧ k_ ≠ rQ ∧ k_ ≠ pE ∧ k_ ≠ qU ∧ k_ ≠ dL)) k_ ∧ some k_ ≠ (.slice bF5 dD.length bC8 : Value).ownBlock)) (qQ.out) (fun k_ hk => ⟨⟨hk.1.1.1, ⟨hk.1.2, ⟨hk.1.1.2.2.1, ⟨hk.1.1.2.2.2.1, ⟨hk.1.1.2.2.2.2.1, ⟨hk.1.1.2.2.2.2.2.1, ⟨hk.1.1.2.2.2.2.2.2, hk.2⟩⟩⟩⟩⟩⟩⟩, hk.1.1.2.1⟩))))); (case aB => exact (by repeat (first | (with_reducible first | exact HB.out | apply lA | apply lN | apply lD | refine lS ?_ bZs.out | refine lS ?_ bZt.out | refine lS ?_ bZu.out | refine lS ?_ bZv.out | refine lS ?_ dHe.out | refine lS ?_ dHg.out) | exact HB.out))); (case aF => exact (fun k_ hk => ⟨(.inr (Nat.le_trans (lZ (by repeat (first | (with_reducible first | exact HB.out | apply lA | apply lN | apply lD | refine lS ?_ bZs.out | refine lS ?_ bZt.out | refine lS ?_ bZu.out | refine lS ?_ bZv.out | refine lS ?_ dHe.out | refine lS ?_ dHg.out) | exact HB.out))) hk)), Kd.fresh' (Kd.N_lt (by (with_reducible repeat (first | apply Kd.N_alloc | apply Kd.N_drewN | apply Kd.N_drew)); exact xZ.out)) k_ hk, Kd.freshB (g := vD) (o := .cells #[.slice bP aD.length bK] 24 (0, 0)) (xkq jW) k_ hk, Kd.freshB (g := vE) (o := .cells #[.slice tT bR.length qD] 24 (0, 0)) (xkq kM) k_ hk, Kd.freshB (g := rQ) (o := .cells #[.slice none 0 0] 24 (0, 0)) (xkq jX) k_ hk, Kd.freshB (g := pE) (o := .cells #[.int .i64 aC9, .int .i64 zG] 28 (0, 0)) (xkq jR) k_ hk, Kd.freshB (g := qU) (o := .cells #[.slice bF5 dD.length bC8] 24 (0, 0)) (xkq pF) k_ hk, Kd.freshB (g := dL) (o := .cells #[.int .i64 ((aA dM bS).f0), .int .i64 ((aA dM bS).f1.f0), .slice pR ((aA dM bS).f1.f1).length pU, .slice qZ ((aA dM bS).f1.f2).length rC] 46 (0, 0)) (xkq nS) k_ hk⟩)); (case aO => exact (by (with_reducible repeat (first | apply Kd.N_alloc | apply Kd.N_drewN | apply Kd.N_drew)); exact Kd.N_mono gX.out (fun _ hk => ⟨hk.1.1, ⟨hk.1.2.1, ⟨hk.1.2.2.1, ⟨hk.1.2.2.2.1, ⟨hk.1.2.2.2.2.1, ⟨hk.1.2.2.2.2.2.1, ⟨hk.1.2.2.2.2.2.2, hk.2⟩⟩⟩⟩⟩⟩⟩))); (case aS => exact (lZ (by repeat (first | (with_reducible first | exact HB.out | apply lA | apply lN | apply lD | refine lS ?_ bZs.out | refine lS ?_ bZt.out | refine lS ?_ bZu.out | refine lS ?_ bZv.out | refine lS ?_ dHe.out | refine lS ?_ dHg.out) | exact HB.out)))); (case aL => have := fQe.out; omega); intro iJu eTs ho hb hg hat; rw [← gIl.out] at ho; replace xZ := aZ (Kd.N_afterv (ok := (fun k_ => ((eP k_ ∨ kT k_) ∨ w.heap.size ≤ k_) ∧ k_ ≠ vD ∧ k_ ≠ vE ∧ k_ ≠ rQ ∧ k_ ≠ pE ∧ k_ ≠ qU ∧ k_ ≠ dL)) (by (with_reducible repeat (first | apply Kd.N_alloc | apply Kd.N_drewN | apply Kd.N_drew)); exact Kd.N_mono xZ.out (fun _ hk => ⟨⟨hk.1.1, ⟨hk.1.2.2.1, ⟨hk.1.2.2.2.1, ⟨hk.1.2.2.2.2.1, ⟨hk.1.2.2.2.2.2.1, ⟨hk.1.2.2.2.2.2.2, hk.2⟩⟩⟩⟩⟩⟩, hk.1.2.1⟩)) hg hat); replace fV := aZ (Kd.V_afterv (ok := (fun k_ => ((eP k_ ∨ kT k_) ∨ w.heap.size ≤ k_) ∧ some k_ ≠ (.slice (some bBc) dM.length bNx : Value).ownBlock ∧ k_ ≠ vD ∧ k_ ≠ vE ∧ k_ ≠ rQ ∧ k_ ≠ pE ∧ k_ ≠ qU ∧ k_ ≠ dL)) (by (with_reducible repeat (first | apply Kd.V_alloc | apply Kd.V_drewN | apply Kd.V_drew)); exact Kd.V_mono fV.out (fun _ hk => ⟨⟨hk.1.1, ⟨hk.1.2.1, ⟨hk.1.2.2.2.1, ⟨hk.1.2.2.2.2.1, ⟨hk.1.2.2.2.2.2.1, ⟨hk.1.2.2.2.2.2.2.1, ⟨hk.1.2.2.2.2.2.2.2, hk.2⟩⟩⟩⟩⟩⟩⟩, hk.1.2.2.1⟩)) hg hat); replace fZ := aZ (Kd.V_afterv (ok := (fun k_ => ((eP k_ ∨ kT k_) ∨ w.heap.size ≤ k_) ∧ some k_ ≠ (.slice (some bBc) dM.length bNx : Value).ownBlock ∧ k_ ≠ vD ∧ k_ ≠ vE ∧ k_ ≠ rQ ∧ k_ ≠ pE ∧ k_ ≠ qU ∧ k_ ≠ dL)) (by (with_reducible repeat (first | apply Kd.V_alloc | apply Kd.V_drewN | apply Kd.V_drew)); exact Kd.V_mono fZ.out (fun _ hk => ⟨⟨hk.1.1, ⟨hk.1.2.1, ⟨hk.1.2.2.2.1, ⟨hk.1.2.2.2.2.1, ⟨hk.1.2.2.2.2.2.1, ⟨hk.1.2.2.2.2.2.2.1, ⟨hk.1.2.2.2.2.2.2.2, hk.2⟩⟩⟩⟩⟩⟩⟩, hk.1.2.2.1⟩)) hg hat); replace jW := aZ (blk_grown (g := vD) (o := .cells #[.slice bP aD.length bK] 24 (0, 0)) (xkq jW) hg (Kd.N_ne gX.out jW.out (by decide))); replace kM := aZ (blk_grown (g := vE) (o := .cells #[.slice tT bR.length qD] 24 (0, 0)) (xkq kM) hg (Kd.N_ne gX.out kM.out (by decide))); replace jX := aZ (blk_grown (g := rQ) (o := .cells #[.slice none 0 0] 24 (0, 0)) (xkq jX) hg (Kd.N_ne gX.out jX.out (by decide))); replace jR := aZ (blk_grown (g := pE) (o := .cells #[.int .i64 aC9, .int .i64 zG] 28 (0, 0)) (xkq jR) hg (Kd.N_ne gX.out jR.out (by decide))); replace pF := aZ (blk_grown (g := qU) (o := .cells #[.slice bF5 dD.length bC8] 24 (0, 0)) (xkq pF) hg (Kd.N_ne gX.out pF.out (by decide))); replace qP := aZ (Kd.V_afterv (ok := (fun k_ => ((eP k_ ∨ kT k_) ∨ w.heap.size ≤ k_) ∧ some k_ ≠ (.slice (some bBc) dM.length bNx : Value).ownBlock ∧ k_ ≠ vD ∧ k_ ≠ vE ∧ k_ ≠ rQ ∧ k_ ≠ pE ∧ k_ ≠ qU ∧ k_ ≠ dL)) (by (with_reducible repeat (first | apply Kd.V_alloc | apply Kd.V_drewN | apply Kd.V_drew)); exact Kd.V_mono qP.out (fun _ hk => ⟨⟨hk.1.1.1, ⟨hk.1.2, ⟨hk.1.1.2.2.1, ⟨hk.1.1.2.2.2.1, ⟨hk.1.1.2.2.2.2.1, ⟨hk.1.1.2.2.2.2.2.1, ⟨hk.1.1.2.2.2.2.2.2, hk.2⟩⟩⟩⟩⟩⟩⟩, hk.1.1.2.1⟩)) hg hat); replace qQ := aZ (Kd.V_afterv (ok := (fun k_ => ((eP k_ ∨ kT k_) ∨ w.heap.size ≤ k_) ∧ some k_ ≠ (.slice (some bBc) dM.length bNx : Value).ownBlock ∧ k_ ≠ vD ∧ k_ ≠ vE ∧ k_ ≠ rQ ∧ k_ ≠ pE ∧ k_ ≠ qU ∧ k_ ≠ dL)) (by (with_reducible repeat (first | apply Kd.V_alloc | apply Kd.V_drewN | apply Kd.V_drew)); exact Kd.V_mono qQ.out (fun _ hk => ⟨⟨hk.1.1.1, ⟨hk.1.2, ⟨hk.1.1.2.2.1, ⟨hk.1.1.2.2.2.1, ⟨hk.1.1.2.2.2.2.1, ⟨hk.1.1.2.2.2.2.2.1, ⟨hk.1.1.2.2.2.2.2.2, hk.2⟩⟩⟩⟩⟩⟩⟩, hk.1.1.2.1⟩)) hg hat); replace nS := aZ (blk_grown (g := dL) (o := .cells #[.int .i64 ((aA dM bS).f0), .int .i64 ((aA dM bS).f1.f0), .slice pR ((aA dM bS).f1.f1).length pU, .slice qZ ((aA dM bS).f1.f2).length rC] 46 (0, 0)) (xkq nS) hg (Kd.N_away gX.out (fun _ hk => hk.2))); replace HB := aZ (hb); have fCi := aZ (ho); clear gX; clear ho hb hg hat; obtain ⟨dHh, dHi, gIw⟩ := Kd.N_slice fCi.out; subst gIw; have gIx : eTs.cell? ⟨qU, 0, none⟩ = some (.slice bF5 dD.length bC8) := (blk_cell pF.out 0).trans rfl; have gIy := blk_frozen pF.out 0))
        go_roundg k2
        case measure => have := yS.out; have := HK2.out; omega
        case rel => exact ⟨(wrap64 (bS + 1)), (aC9), (zG), (dNe), (.slice dHh dNe.length dHi), xrs, H', ⟨by have := yS.out; have := HK2.out; omega⟩, ⟨by (with_reducible repeat (first | apply Kd.N_alloc | apply Kd.N_drewN | apply Kd.N_drew)); exact Kd.N_mono (Kd.N_far (p := ⟨qU, 0, none⟩) (Kd.N_mono xZ.out (fun k_ hk => (⟨hk, hk.1.2.2.2.2.2.1⟩ : _ ∧ k_ ≠ qU))) (fun _ hk => hk.2) (.slice dHh dNe.length dHi)) (fun _ hk => ⟨hk.1.1.1, ⟨hk.1.2, ⟨hk.1.1.2.1, ⟨hk.1.1.2.2.1, ⟨hk.1.1.2.2.2.1, ⟨hk.1.1.2.2.2.2.1, hk.1.1.2.2.2.2.2.1⟩⟩⟩⟩⟩⟩)⟩, ⟨by (with_reducible repeat (first | apply Kd.V_alloc | apply Kd.V_drewN | apply Kd.V_drew)); exact Kd.V_mono (Kd.V_far (p := ⟨qU, 0, none⟩) (Kd.V_mono fV.out (fun k_ hk => (⟨hk, hk.1.2.2.2.2.2.2.1⟩ : _ ∧ k_ ≠ qU))) (fun _ hk => hk.2) (.slice dHh dNe.length dHi)) (fun _ hk => ⟨hk.1.1.1, ⟨hk.1.1.2.1, ⟨hk.1.2, ⟨hk.1.1.2.2.1, ⟨hk.1.1.2.2.2.1, ⟨hk.1.1.2.2.2.2.1, ⟨hk.1.1.2.2.2.2.2.1, hk.1.1.2.2.2.2.2.2.1⟩⟩⟩⟩⟩⟩⟩)⟩, ⟨by (with_reducible repeat (first | apply Kd.V_alloc | apply Kd.V_drewN | apply Kd.V_drew)); exact Kd.V_mono (Kd.V_far (p := ⟨qU, 0, none⟩) (Kd.V_mono fZ.out (fun k_ hk => (⟨hk, hk.1.2.2.2.2.2.2.1⟩ : _ ∧ k_ ≠ qU))) (fun _ hk => hk.2) (.slice dHh dNe.length dHi)) (fun _ hk => ⟨hk.1.1.1, ⟨hk.1.1.2.1, ⟨hk.1.2, ⟨hk.1.1.2.2.1, ⟨hk.1.1.2.2.2.1, ⟨hk.1.1.2.2.2.2.1, ⟨hk.1.1.2.2.2.2.2.1, hk.1.1.2.2.2.2.2.2.1⟩⟩⟩⟩⟩⟩⟩)⟩, ⟨by (with_reducible repeat (first | apply Kd.N_alloc | apply Kd.N_drewN | apply Kd.N_drew)); exact Kd.N_mono (Kd.N_far (p := ⟨qU, 0, none⟩) (Kd.N_mono fCi.out (fun k_ hk => (⟨hk, hk.2.2.2.2.2.2.1⟩ : _ ∧ k_ ≠ qU))) (fun _ hk => hk.2) (.slice dHh dNe.length dHi)) (fun _ hk => ⟨hk.1.1, ⟨hk.1.2.1, ⟨hk.1.2.2.1, ⟨hk.1.2.2.2.1, ⟨hk.1.2.2.2.2.1, ⟨hk.1.2.2.2.2.2.1, hk.1.2.2.2.2.2.2.1⟩⟩⟩⟩⟩⟩)⟩, xk jW, xk kM, xk jX, xk jR, ⟨by (with_reducible repeat (first | refine bN ?_ _ | refine bD ?_ | refine bA ?_ _)); refine blk_put (cs := #[.slice bF5 dD.length bC8]) ?_ 0 _ rfl; (with_reducible repeat (first | refine bN ?_ _ | refine bD ?_ | refine bA ?_ _)); exact pF.out⟩, xb HB⟩
      subst c78
      have H1 : (if 0 ≤ tV then (if tV < (dD.length : Int) then ((objects_Same.f k2 ((aA dD tV).f1.f0) ((aA dD tV).f1.f1) ((aA dD tV).f1.f2) ((aA dM bS).f1.f0) ((aA dM bS).f1.f1) ((aA dM bS).f1.f2)).bind fun dHb => (if dHb = true then (objects_Merge.l1 k2 dM (dM.length : Int) (wrap64 (bS + 1)) dD) else (some (([] : List (fB)), 19, bS)))) else (none)) else (none)) = some (r1, r2, r3) := by rw [if_pos rfl] at H; exact H
      clear H
      have H := H1
      clear H1
      by_cases c79 : 0 ≤ tV
      rotate_left
      · rw [if_neg c79] at H
        exact absurd H (by simp)
      rw [if_pos c79] at H
      have fBx : decide (0 ≤ tV) = true := decide_eq_true c79
      clear c79
      by_cases c80 : tV < (dD.length : Int)
      rotate_left
      · rw [if_neg c80] at H
        exact absurd H (by simp)
      rw [if_pos c80] at H
      have fCj : decide (tV < (dD.length : Int)) = true := decide_eq_true c80
      clear c80
      replace H := Option.bind_eq_some_iff.mp H
      obtain ⟨dHb, gIz, H⟩ := H
      replace H : (if dHb = true then (objects_Merge.l1 k2 dM (dM.length : Int) (wrap64 (bS + 1)) dD) else (some (([] : List (fB)), 19, bS))) = some (r1, r2, r3) := H
      have A81 := aZ gIz
      clear gIz
      by_cases c82 : dHb = true
      · subst c82
        have H1 : (objects_Merge.l1 k2 dM (dM.length : Int) (wrap64 (bS + 1)) dD) = some (r1, r2, r3) := by rw [if_pos rfl] at H; exact H
        clear H
        have H := H1
        clear H1
        have H' := aZ H
        clear H
        have bZy : 0 ≤ (bS : Int) := of_decide_eq_true xas
        have bZz : bS < (dM.length : Int) := of_decide_eq_true xas
        obtain ⟨bBc, pR, pU, qZ, rC, eLp, dVf, dVg, bZ0, bZ1, bC4, bC5, bC6, bC7⟩ := gY (Kd.N_reads' xZ.out).2.2 bS bZy bZz
        cases eLp
        obtain ⟨fCg, cPv, cPw, bBd⟩ := Kd.N_get xZ.out z46 bS bZy (by first | exact bZz | exact of_decide_eq_true xas | (have e_ := (Kd.N_reads' xZ.out).1; omega))
        obtain ⟨dVh, dVi, dVj, dVk, rfl, aRp, aRq, aRr, aRs⟩ := rM cPw
        have aIa := bBd 2 _ rfl
        rw [add_field _ _ 2 (by omega)] at aIa
        replace aIa := Option.some.inj (aIa.symm.trans bZ0)
        injection aIa with hva_ hvn_ hvc_
        rw [hva_] at aRq
        rw [hvc_] at aRp
        have qP := aZ (show Kd.V (Kd.int .i64) 3 _ w.heap.size _ _ ((aA dM bS).f1.f1) from Kd.V_mk aRp aRq)
        clear hva_ hvn_ hvc_ aRq aRp
        have aIb := bBd 3 _ rfl
        rw [add_field _ _ 3 (by omega)] at aIb
        replace aIb := Option.some.inj (aIb.symm.trans bZ1)
        injection aIb with hva_ hvn_ hvc_
        rw [hva_] at aRs
        rw [hvc_] at aRr
        have qQ := aZ (show Kd.V (Kd.int .u8) 5 _ w.heap.size _ _ ((aA dM bS).f1.f2) from Kd.V_mk aRr aRs)
        clear hva_ hvn_ hvc_ aRs aRr
        clear bBd cPv
        have vO := aZ bC5
        have cLp := aZ bC4
        clear bC5 bC4
        have vP := aZ bC7
        have cLq := aZ bC6
        clear bC7 bC6
        replace bZy := eq_true bZy
        replace bZz := eq_true bZz
        try go_wp2_with (first | ((with_reducible refine gate_dst (N := 11) rfl ?_); refine box_event ?hg (N := 11) ?hd (cs := #[.int .i64 0, .int .i64 0, .slice none 0 0, .slice none 0 0]) (t := 46) ?hr ?_; (case hd => rfl); (case hg => rfl); (case hr => first | (go_simp; done) | (go_simp; rfl)); intro dL hg w83 hbox hb; replace xZ := xeB xZ hg hb; replace fV := xVB fV hg hb; replace fZ := xVB fZ hg hb; replace gX := xeB gX hg hb; replace qP := xVB qP hg hb; replace qQ := xVB qQ hg hb; replace vO := xC vO hb; replace vP := xC vP hb; have nS := aZ (hbox); have fCh := xgh hg HB; have dHg := xgh hg HB; replace HB := xhl HB hb; have bFv := xnl hg jW; have bFw := xng hg jW; replace jW := xbb jW hb; have bFx := xnl hg kM; have bFy := xng hg kM; replace kM := xbb kM hb; have bFz := xnl hg jX; have bF0 := xng hg jX; replace jX := xbb jX hb; have bF1 := xnl hg jR; have bF2 := xng hg jR; replace jR := xbb jR hb; have bF3 := xnl hg pF; have bF4 := xng hg pF; replace pF := xbb pF hb; clear hb hbox hg; have bM0 := bFw.out; have bM1 := bFv.out; have dEy := bFy.out; have dEz := bFx.out; have dFb := bF0.out; have dFc := bFz.out; have cOk := bF2.out; have cOl := bF1.out; have cOm := bF4.out; have cOn := bF3.out; have eV8 : w83.cell? ⟨dL, 0, none⟩ = some (.int .i64 0) := (blk_cell nS.out 0).trans rfl; have eV9 : w83.cell? ⟨dL, 1, none⟩ = some (.int .i64 0) := (blk_cell nS.out 1).trans rfl; have hA7 : w83.cell? ⟨dL, 2, none⟩ = some (.slice none 0 0) := (blk_cell nS.out 2).trans rfl; have hA8 : w83.cell? ⟨dL, 3, none⟩ = some (.slice none 0 0) := (blk_cell nS.out 3).trans rfl; have eWa := blk_frozen nS.out 0; have eWb := blk_frozen nS.out 1; have hA9 := blk_frozen nS.out 2; have hBc := blk_frozen nS.out 3; have bYr := aZo.out; have bYs := aUf.out; have bWj := aZp.out; have bWk := aUg.out; have cSz := aZq.out; have cS0 := aUh.out; have dE1 := aZr.out; have dE2 := aUi.out; have cLr : w83.cell? ⟨qU, 0, none⟩ = some (u856000) := (blk_cell pF.out 0).trans rfl; have dAf := blk_frozen pF.out 0; obtain ⟨gI0, eLr, fQg⟩ := Kd.N_slice gX.out; subst fQg) | ((with_reducible refine gate_callee (f := 48) rfl ?_); refine goesL_ (some 45) rfl rfl Try.func48 (by kernel_rfl) rfl #[.agg #[.slice gI0 dD.length eLr], .int .i64 ((aA dM bS).f0)] rfl xmp ?_; (with_reducible refine (objects_find.calls k2 _ _ dD ((aA dM bS).f0) tV true _ ?side1 ?side2 A77.out).mono ?_); (case side1 => refine (Kd.N_reads' (e := 46) (base := w.heap.size) (ok := fun k_ => (((((eP k_ ∨ kT k_) ∨ w.heap.size ≤ k_)) ∧ (some k_ ≠ (.slice (some bBc) dM.length bNx : Value).ownBlock ∧ (k_ ≠ vD ∧ (k_ ≠ vE ∧ (k_ ≠ rQ ∧ (k_ ≠ pE ∧ k_ ≠ qU)))))) ∧ k_ ≠ dL)) (n := dD.length) (c := eLr) ?_).2.2; exact (by (with_reducible repeat (first | apply Kd.N_alloc | apply Kd.N_drewN | apply Kd.N_drew)); exact (Kd.N_mono (Kd.N_far (p := ⟨dL, 3, none⟩) (Kd.N_far (p := ⟨dL, 2, none⟩) (Kd.N_far (p := ⟨dL, 1, none⟩) (Kd.N_far (p := ⟨dL, 0, none⟩) (Kd.N_mono gX.out (fun k_ hk => (⟨hk, hk.2⟩ : _ ∧ k_ ≠ dL))) (fun _ hk => hk.2) (.int .i64 ((aA dM bS).f0))) (fun _ hk => hk.2) (.int .i64 ((aA dM bS).f1.f0))) (fun _ hk => hk.2) (.slice pR ((aA dM bS).f1.f1).length pU)) (fun _ hk => hk.2) (.slice qZ ((aA dM bS).f1.f2).length rC)) (fun _ h_ => h_.1)))); (case side2 => exact (Kd.N_reads' gX.out).2.1); rintro e w96 ⟨rfl, hb⟩; refine ⟨_, rfl, ?_⟩; replace xZ := aZ (Kd.N_below (by (with_reducible repeat (first | apply Kd.N_alloc | apply Kd.N_drewN | apply Kd.N_drew)); exact (Kd.N_mono (Kd.N_far (p := ⟨dL, 3, none⟩) (Kd.N_far (p := ⟨dL, 2, none⟩) (Kd.N_far (p := ⟨dL, 1, none⟩) (Kd.N_far (p := ⟨dL, 0, none⟩) (Kd.N_mono xZ.out (fun k_ hk => (⟨hk, hk.2⟩ : _ ∧ k_ ≠ dL))) (fun _ hk => hk.2) (.int .i64 ((aA dM bS).f0))) (fun _ hk => hk.2) (.int .i64 ((aA dM bS).f1.f0))) (fun _ hk => hk.2) (.slice pR ((aA dM bS).f1.f1).length pU)) (fun _ hk => hk.2) (.slice qZ ((aA dM bS).f1.f2).length rC)) (fun _ h_ => h_.1))) hb); replace fV := aZ (Kd.V_below (by (with_reducible repeat (first | apply Kd.V_alloc | apply Kd.V_drewN | apply Kd.V_drew)); exact (Kd.V_mono (Kd.V_far (p := ⟨dL, 3, none⟩) (Kd.V_far (p := ⟨dL, 2, none⟩) (Kd.V_far (p := ⟨dL, 1, none⟩) (Kd.V_far (p := ⟨dL, 0, none⟩) (Kd.V_mono fV.out (fun k_ hk => (⟨hk, hk.2⟩ : _ ∧ k_ ≠ dL))) (fun _ hk => hk.2) (.int .i64 ((aA dM bS).f0))) (fun _ hk => hk.2) (.int .i64 ((aA dM bS).f1.f0))) (fun _ hk => hk.2) (.slice pR ((aA dM bS).f1.f1).length pU)) (fun _ hk => hk.2) (.slice qZ ((aA dM bS).f1.f2).length rC)) (fun _ h_ => h_.1))) hb); replace fZ := aZ (Kd.V_below (by (with_reducible repeat (first | apply Kd.V_alloc | apply Kd.V_drewN | apply Kd.V_drew)); exact (Kd.V_mono (Kd.V_far (p := ⟨dL, 3, none⟩) (Kd.V_far (p := ⟨dL, 2, none⟩) (Kd.V_far (p := ⟨dL, 1, none⟩) (Kd.V_far (p := ⟨dL, 0, none⟩) (Kd.V_mono fZ.out (fun k_ hk => (⟨hk, hk.2⟩ : _ ∧ k_ ≠ dL))) (fun _ hk => hk.2) (.int .i64 ((aA dM bS).f0))) (fun _ hk => hk.2) (.int .i64 ((aA dM bS).f1.f0))) (fun _ hk => hk.2) (.slice pR ((aA dM bS).f1.f1).length pU)) (fun _ hk => hk.2) (.slice qZ ((aA dM bS).f1.f2).length rC)) (fun _ h_ => h_.1))) hb); replace gX := aZ (Kd.N_below (by (with_reducible repeat (first | apply Kd.N_alloc | apply Kd.N_drewN | apply Kd.N_drew)); exact (Kd.N_mono (Kd.N_far (p := ⟨dL, 3, none⟩) (Kd.N_far (p := ⟨dL, 2, none⟩) (Kd.N_far (p := ⟨dL, 1, none⟩) (Kd.N_far (p := ⟨dL, 0, none⟩) (Kd.N_mono gX.out (fun k_ hk => (⟨hk, hk.2⟩ : _ ∧ k_ ≠ dL))) (fun _ hk => hk.2) (.int .i64 ((aA dM bS).f0))) (fun _ hk => hk.2) (.int .i64 ((aA dM bS).f1.f0))) (fun _ hk => hk.2) (.slice pR ((aA dM bS).f1.f1).length pU)) (fun _ hk => hk.2) (.slice qZ ((aA dM bS).f1.f2).length rC)) (fun _ h_ => h_.1))) hb); replace jW := xbb jW hb; replace kM := xbb kM hb; replace jX := xbb jX hb; replace jR := xbb jR hb; replace pF := xbb pF hb; replace vO := aZ (Kd.C_below ((Kd.V_reads' (by (with_reducible repeat (first | apply Kd.V_alloc | apply Kd.V_drewN | apply Kd.V_drew)); exact (Kd.V_mono (Kd.V_far (p := ⟨dL, 3, none⟩) (Kd.V_far (p := ⟨dL, 2, none⟩) (Kd.V_far (p := ⟨dL, 1, none⟩) (Kd.V_far (p := ⟨dL, 0, none⟩) (Kd.V_mono qP.out (fun k_ hk => (⟨hk, hk.2⟩ : _ ∧ k_ ≠ dL))) (fun _ hk => hk.2) (.int .i64 ((aA dM bS).f0))) (fun _ hk => hk.2) (.int .i64 ((aA dM bS).f1.f0))) (fun _ hk => hk.2) (.slice pR ((aA dM bS).f1.f1).length pU)) (fun _ hk => hk.2) (.slice qZ ((aA dM bS).f1.f2).length rC)) (fun _ h_ => h_.1)))).2.2) hb); replace qP := aZ (Kd.V_below (by (with_reducible repeat (first | apply Kd.V_alloc | apply Kd.V_drewN | apply Kd.V_drew)); exact (Kd.V_mono (Kd.V_far (p := ⟨dL, 3, none⟩) (Kd.V_far (p := ⟨dL, 2, none⟩) (Kd.V_far (p := ⟨dL, 1, none⟩) (Kd.V_far (p := ⟨dL, 0, none⟩) (Kd.V_mono qP.out (fun k_ hk => (⟨hk, hk.2⟩ : _ ∧ k_ ≠ dL))) (fun _ hk => hk.2) (.int .i64 ((aA dM bS).f0))) (fun _ hk => hk.2) (.int .i64 ((aA dM bS).f1.f0))) (fun _ hk => hk.2) (.slice pR ((aA dM bS).f1.f1).length pU)) (fun _ hk => hk.2) (.slice qZ ((aA dM bS).f1.f2).length rC)) (fun _ h_ => h_.1))) hb); replace vP := aZ (Kd.C_below ((Kd.V_reads' (by (with_reducible repeat (first | apply Kd.V_alloc | apply Kd.V_drewN | apply Kd.V_drew)); exact (Kd.V_mono (Kd.V_far (p := ⟨dL, 3, none⟩) (Kd.V_far (p := ⟨dL, 2, none⟩) (Kd.V_far (p := ⟨dL, 1, none⟩) (Kd.V_far (p := ⟨dL, 0, none⟩) (Kd.V_mono qQ.out (fun k_ hk => (⟨hk, hk.2⟩ : _ ∧ k_ ≠ dL))) (fun _ hk => hk.2) (.int .i64 ((aA dM bS).f0))) (fun _ hk => hk.2) (.int .i64 ((aA dM bS).f1.f0))) (fun _ hk => hk.2) (.slice pR ((aA dM bS).f1.f1).length pU)) (fun _ hk => hk.2) (.slice qZ ((aA dM bS).f1.f2).length rC)) (fun _ h_ => h_.1)))).2.2) hb); replace qQ := aZ (Kd.V_below (by (with_reducible repeat (first | apply Kd.V_alloc | apply Kd.V_drewN | apply Kd.V_drew)); exact (Kd.V_mono (Kd.V_far (p := ⟨dL, 3, none⟩) (Kd.V_far (p := ⟨dL, 2, none⟩) (Kd.V_far (p := ⟨dL, 1, none⟩) (Kd.V_far (p := ⟨dL, 0, none⟩) (Kd.V_mono qQ.out (fun k_ hk => (⟨hk, hk.2⟩ : _ ∧ k_ ≠ dL))) (fun _ hk => hk.2) (.int .i64 ((aA dM bS).f0))) (fun _ hk => hk.2) (.int .i64 ((aA dM bS).f1.f0))) (fun _ hk => hk.2) (.slice pR ((aA dM bS).f1.f1).length pU)) (fun _ hk => hk.2) (.slice qZ ((aA dM bS).f1.f2).length rC)) (fun _ h_ => h_.1))) hb); replace nS := aZ (blk_below (g := dL) (o := .cells #[.int .i64 ((aA dM bS).f0), .int .i64 ((aA dM bS).f1.f0), .slice pR ((aA dM bS).f1.f1).length pU, .slice qZ ((aA dM bS).f1.f2).length rC] 46 (0, 0)) (by (with_reducible repeat (first | refine bN ?_ _ | refine bD ?_ | refine bA ?_ _)); refine blk_put (cs := #[.int .i64 ((aA dM bS).f0), .int .i64 ((aA dM bS).f1.f0), .slice pR ((aA dM bS).f1.f1).length pU, .slice none 0 0]) ?_ 3 _ rfl; (with_reducible repeat (first | refine bN ?_ _ | refine bD ?_ | refine bA ?_ _)); refine blk_put (cs := #[.int .i64 ((aA dM bS).f0), .int .i64 ((aA dM bS).f1.f0), .slice none 0 0, .slice none 0 0]) ?_ 2 _ rfl; (with_reducible repeat (first | refine bN ?_ _ | refine bD ?_ | refine bA ?_ _)); refine blk_put (cs := #[.int .i64 ((aA dM bS).f0), .int .i64 0, .slice none 0 0, .slice none 0 0]) ?_ 1 _ rfl; (with_reducible repeat (first | refine bN ?_ _ | refine bD ?_ | refine bA ?_ _)); refine blk_put (cs := #[.int .i64 0, .int .i64 0, .slice none 0 0, .slice none 0 0]) ?_ 0 _ rfl; (with_reducible repeat (first | refine bN ?_ _ | refine bD ?_ | refine bA ?_ _)); exact nS.out) hb); replace HB := xhl HB hb; (try clear hb); (try clear iV); (try clear hk); (try clear hi)))
        replace xZ := aZ (Kd.N_drew xZ.out)
        replace fV := aZ (Kd.V_drew fV.out)
        replace fZ := aZ (Kd.V_drew fZ.out)
        replace gX := aZ (Kd.N_drew gX.out)
        replace qP := aZ (Kd.V_drew qP.out)
        replace qQ := aZ (Kd.V_drew qQ.out)
        replace jW := aZ (bD jW.out)
        replace kM := aZ (bD kM.out)
        replace jX := aZ (bD jX.out)
        replace jR := aZ (bD jR.out)
        replace pF := aZ (bD pF.out)
        replace nS := aZ (bD nS.out)
        replace vO := aZ (Kd.C_drew vO.out)
        replace vP := aZ (Kd.C_drew vP.out)
        replace HB := aZ (lD HB.out)
        have dAg : 0 ≤ (tV : Int) := of_decide_eq_true xas
        have dAh : tV < (dD.length : Int) := of_decide_eq_true xas
        obtain ⟨aSt, cPx, cPy, cPz, cP0, fQh, bZ2, bZ3, bKr, bKs, bZ4, bZ5, bZ6, bZ7⟩ := gY (Kd.N_reads' gX.out).2.2 tV dAg dAh
        cases fQh
        obtain ⟨gI1, dNg, dNh, bUw⟩ := Kd.N_get gX.out z46 tV dAg (by first | exact dAh | exact of_decide_eq_true xas | (have e_ := (Kd.N_reads' gX.out).1; omega))
        obtain ⟨eWi, eWj, eWk, eWl, rfl, bKt, bKu, bKv, bKw⟩ := rM dNh
        have aX1 := bUw 2 _ rfl
        rw [add_field _ _ 2 (by omega)] at aX1
        replace aX1 := Option.some.inj (aX1.symm.trans bKr)
        injection aX1 with hva_ hvn_ hvc_
        rw [hva_] at bKu
        rw [hvc_] at bKt
        have bKx := aZ (show Kd.V (Kd.int .i64) 3 _ w.heap.size _ _ ((aA dD tV).f1.f1) from Kd.V_mk bKt bKu)
        clear hva_ hvn_ hvc_ bKu bKt
        have aX2 := bUw 3 _ rfl
        rw [add_field _ _ 3 (by omega)] at aX2
        replace aX2 := Option.some.inj (aX2.symm.trans bKs)
        injection aX2 with hva_ hvn_ hvc_
        rw [hva_] at bKw
        rw [hvc_] at bKv
        have bKy := aZ (show Kd.V (Kd.int .u8) 5 _ w.heap.size _ _ ((aA dD tV).f1.f2) from Kd.V_mk bKv bKw)
        clear hva_ hvn_ hvc_ bKw bKv
        clear bUw dNg
        have aX3 := aZ bZ5
        have dAi := aZ bZ4
        clear bZ5 bZ4
        have aX4 := aZ bZ7
        have dAj := aZ bZ6
        clear bZ7 bZ6
        replace dAg := eq_true dAg
        replace dAh := eq_true dAh
        refine start_ (n := 14) (S := fun w' => w'.cell? ⟨qU, 0, none⟩ = some (.slice (some aSt) dD.length eLr) ∧ w'.cell? ⟨dL, 0, none⟩ = some (.int .i64 ((aA dM bS).f0)) ∧ w'.cell? ⟨dL, 1, none⟩ = some (.int .i64 ((aA dM bS).f1.f0)) ∧ w'.cell? ⟨dL, 2, none⟩ = some (.slice pR ((aA dM bS).f1.f1).length pU) ∧ w'.cell? ⟨dL, 3, none⟩ = some (.slice qZ ((aA dM bS).f1.f2).length rC) ∧ w'.cell? (aSt.add ((tV).toNat * 4)) = some (.int .i64 ((aA dD tV).f0)) ∧ w'.cell? ⟨(aSt.add ((tV).toNat * 4)).block, (aSt.add ((tV).toNat * 4)).off + 1, none⟩ = some (.int .i64 ((aA dD tV).f1.f0)) ∧ w'.cell? ⟨(aSt.add ((tV).toNat * 4)).block, (aSt.add ((tV).toNat * 4)).off + 2, none⟩ = some (.slice cPx ((aA dD tV).f1.f1).length cPy) ∧ w'.cell? ⟨(aSt.add ((tV).toNat * 4)).block, (aSt.add ((tV).toNat * 4)).off + 3, none⟩ = some (.slice cPz ((aA dD tV).f1.f2).length cP0)) (ds := []) Z1 (by kernel_rfl) rfl rfl ⟨(blk_cell pF.out 0).trans rfl, (blk_cell nS.out 0).trans rfl, (blk_cell nS.out 1).trans rfl, (blk_cell nS.out 2).trans rfl, (blk_cell nS.out 3).trans rfl, bZ2, bZ3, bKr, bKs⟩ (fun hHeld => ?_); refine with_tabW objects_Merge.tab13 objects_Merge.bits13 (fun HT_ HW_ => ?_)
        generalize w96.drew = w97 at xZ fV fZ gX qP qQ jW kM jX jR pF nS vO vP HB bKx bKy aX3 aX4 bZ2 bZ3 bKr bKs hHeld ⊢
        refine pu 0 49 Z2 HT_ rfl rfl (h := ?_)
        refine pu 1 50 Z3 HT_ rfl rfl (h := ?_)
        refine pu 2 51 Z4 HT_ rfl rfl (h := ?_)
        refine pu 4 53 Z5 HT_ rfl rfl (h := ?_)
        refine pu 8 57 Z6 HT_ rfl rfl (h := ?_)
        refine tk 3 52 Z7 HT_ HW_ rfl rfl hHeld (by rintro w' ⟨s0, s1, s2, s3, s4, s5, s6, s7, s8⟩; go_simp; with_reducible rfl) (h := ?_)
        refine pu 5 54 Z8 HT_ rfl rfl (h := ?_)
        refine pu 6 55 Z9 HT_ rfl rfl (h := ?_)
        refine tk 7 56 Z10 HT_ HW_ rfl rfl hHeld (by rintro w' ⟨s0, s1, s2, s3, s4, s5, s6, s7, s8⟩; go_simp; with_reducible rfl) (h := ?_)
        refine tk 9 58 Z11 HT_ HW_ rfl rfl hHeld (by rintro w' ⟨s0, s1, s2, s3, s4, s5, s6, s7, s8⟩; go_simp; with_reducible rfl) (h := ?_)
        refine one_ (i := 10) (N := some 59) Z12 rfl rfl (one_of HT_.out (by kernel_rfl)) (by decide) (fun K hK => ?_)
        refine goes_ Try.func49 (by kernel_rfl) rfl #[.agg #[.int .i64 ((aA dD tV).f1.f0), .slice cPx ((aA dD tV).f1.f1).length cPy, .slice cPz ((aA dD tV).f1.f2).length cP0], .agg #[.int .i64 ((aA dM bS).f1.f0), .slice pR ((aA dM bS).f1.f1).length pU, .slice qZ ((aA dM bS).f1.f2).length rC]] (by rfl) rfl rfl xmp ?_
        with_reducible refine (objects_Same.calls k2 ((aA dD tV).f1.f0) _ _ ((aA dD tV).f1.f1) _ _ ((aA dD tV).f1.f2) ((aA dM bS).f1.f0) _ _ ((aA dM bS).f1.f1) _ _ ((aA dM bS).f1.f2) true _ ?side1 ?side2 ?side3 ?side4 ?side5 ?side6 ?side7 ?side8 A81.out).mono ?_
        (case side1 => exact xcc aX3)
        (case side2 => exact dAi.out)
        (case side3 => exact xcc aX4)
        (case side4 => exact dAj.out)
        (case side5 => exact xcc vO)
        (case side6 => exact cLp.out)
        (case side7 => exact xcc vP)
        (case side8 => exact cLq.out)
        rintro e w98 ⟨rfl, hb⟩
        have cPf := (hb.cell (World.block_lt_of_cell? _ _ (hHeld.2.2.2.2.2.1))).trans (hHeld.2.2.2.2.2.1)
        have cD8 := (hb.cell (World.block_lt_of_cell? _ _ (hHeld.2.2.2.2.2.2.1))).trans (hHeld.2.2.2.2.2.2.1)
        have cD9 := (hb.cell (World.block_lt_of_cell? _ _ (hHeld.2.2.2.2.2.2.2.1))).trans (hHeld.2.2.2.2.2.2.2.1)
        have dAk := (hb.cell (World.block_lt_of_cell? _ _ (hHeld.2.2.2.2.2.2.2.2))).trans (hHeld.2.2.2.2.2.2.2.2)
        refine ⟨_, rfl, ?_⟩
        replace xZ := aZ (Kd.N_below (by (with_reducible repeat (first | apply Kd.N_alloc | apply Kd.N_drewN | apply Kd.N_drew)); exact xZ.out) hb)
        replace fV := xV fV hb
        replace fZ := xV fZ hb
        replace gX := aZ (Kd.N_below (by (with_reducible repeat (first | apply Kd.N_alloc | apply Kd.N_drewN | apply Kd.N_drew)); exact gX.out) hb)
        replace qP := xV qP hb
        replace qQ := xV qQ hb
        replace bKx := xV bKx hb
        replace bKy := xV bKy hb
        replace jW := xbb jW hb
        replace kM := xbb kM hb
        replace jX := xbb jX hb
        replace jR := xbb jR hb
        replace pF := xbb pF hb
        replace vO := xC vO hb
        replace vP := xC vP hb
        replace nS := aZ (blk_below (g := dL) (o := .cells #[.int .i64 ((aA dM bS).f0), .int .i64 ((aA dM bS).f1.f0), .slice pR ((aA dM bS).f1.f1).length pU, .slice qZ ((aA dM bS).f1.f2).length rC] 46 (0, 0)) (xkq nS) hb)
        replace aX3 := xC aX3 hb
        replace aX4 := xC aX4 hb
        replace HB := xhl HB hb
        (try clear hb)
        (try clear iV)
        (try clear hk)
        (try clear hi)
        refine hK.out _ _ ⟨(blk_cell pF.out 0).trans rfl, (blk_cell nS.out 0).trans rfl, (blk_cell nS.out 1).trans rfl, (blk_cell nS.out 2).trans rfl, (blk_cell nS.out 3).trans rfl, cPf, cD8, cD9, dAk⟩ (fun hHeld => ?_)
        clear hK K
        refine norm_ (a' := ?_) ?_ ?_
        rotate_left
        · show Act.put _ (some 59) _ = _
          simp only [Act.put, List.setIfInBounds_toArray, List.set_cons_zero, List.set_cons_succ, i64_w, i32_w]
          rfl
        refine pu 11 60 Z13 HT_ rfl rfl (h := ?_)
        refine pu 12 61 Z14 HT_ rfl rfl (h := ?_)
        refine pu 13 48 Z15 HT_ rfl rfl (h := ?_)
        refine done_ (done_of HT_.out (by kernel_rfl)) ?_
        try go_wp2
        go_roundg k2
        case measure => have := yS.out; have := HK2.out; omega
        case rel => exact ⟨(wrap64 (bS + 1)), (aC9), (zG), (dD), (.slice (some aSt) dD.length eLr), xrs, H', ⟨by have := yS.out; have := HK2.out; omega⟩, ⟨by (with_reducible repeat (first | apply Kd.N_alloc | apply Kd.N_drewN | apply Kd.N_drew)); exact Kd.N_mono xZ.out (fun _ hk => ⟨hk.1.1, ⟨hk.1.2.1, ⟨hk.1.2.2.1, ⟨hk.1.2.2.2.1, ⟨hk.1.2.2.2.2.1, ⟨hk.1.2.2.2.2.2.1, hk.1.2.2.2.2.2.2⟩⟩⟩⟩⟩⟩)⟩, ⟨by (with_reducible repeat (first | apply Kd.V_alloc | apply Kd.V_drewN | apply Kd.V_drew)); exact Kd.V_mono fV.out (fun _ hk => ⟨hk.1.1, ⟨hk.1.2.1, ⟨hk.1.2.2.1, ⟨hk.1.2.2.2.1, ⟨hk.1.2.2.2.2.1, ⟨hk.1.2.2.2.2.2.1, ⟨hk.1.2.2.2.2.2.2.1, hk.1.2.2.2.2.2.2.2⟩⟩⟩⟩⟩⟩⟩)⟩, ⟨by (with_reducible repeat (first | apply Kd.V_alloc | apply Kd.V_drewN | apply Kd.V_drew)); exact Kd.V_mono fZ.out (fun _ hk => ⟨hk.1.1, ⟨hk.1.2.1, ⟨hk.1.2.2.1, ⟨hk.1.2.2.2.1, ⟨hk.1.2.2.2.2.1, ⟨hk.1.2.2.2.2.2.1, ⟨hk.1.2.2.2.2.2.2.1, hk.1.2.2.2.2.2.2.2⟩⟩⟩⟩⟩⟩⟩)⟩, ⟨by (with_reducible repeat (first | apply Kd.N_alloc | apply Kd.N_drewN | apply Kd.N_drew)); exact Kd.N_mono gX.out (fun _ hk => ⟨hk.1.1, ⟨hk.1.2.1, ⟨hk.1.2.2.1, ⟨hk.1.2.2.2.1, ⟨hk.1.2.2.2.2.1, ⟨hk.1.2.2.2.2.2.1, hk.1.2.2.2.2.2.2⟩⟩⟩⟩⟩⟩)⟩, xk jW, xk kM, xk jX, xk jR, xk pF, xb HB⟩
      replace c82 := Bool.eq_false_iff.mpr c82
      subst c82
      have H1 : (some (([] : List (fB)), 19, bS)) = some (r1, r2, r3) := by rw [if_neg (show ¬ (false = true) by decide)] at H; exact H
      clear H
      have H := H1
      clear H1
      simp only [Option.some.injEq, Prod.mk.injEq] at H
      obtain ⟨rfl, rfl, rfl⟩ := H
      have bZy : 0 ≤ (bS : Int) := of_decide_eq_true xas
      have bZz : bS < (dM.length : Int) := of_decide_eq_true xas
      obtain ⟨bBc, pR, pU, qZ, rC, eLp, dVf, dVg, bZ0, bZ1, bC4, bC5, bC6, bC7⟩ := gY (Kd.N_reads' xZ.out).2.2 bS bZy bZz
      cases eLp
      obtain ⟨fCg, cPv, cPw, bBd⟩ := Kd.N_get xZ.out z46 bS bZy (by first | exact bZz | exact of_decide_eq_true xas | (have e_ := (Kd.N_reads' xZ.out).1; omega))
      obtain ⟨dVh, dVi, dVj, dVk, rfl, aRp, aRq, aRr, aRs⟩ := rM cPw
      have aIa := bBd 2 _ rfl
      rw [add_field _ _ 2 (by omega)] at aIa
      replace aIa := Option.some.inj (aIa.symm.trans bZ0)
      injection aIa with hva_ hvn_ hvc_
      rw [hva_] at aRq
      rw [hvc_] at aRp
      have qP := aZ (show Kd.V (Kd.int .i64) 3 _ w.heap.size _ _ ((aA dM bS).f1.f1) from Kd.V_mk aRp aRq)
      clear hva_ hvn_ hvc_ aRq aRp
      have aIb := bBd 3 _ rfl
      rw [add_field _ _ 3 (by omega)] at aIb
      replace aIb := Option.some.inj (aIb.symm.trans bZ1)
      injection aIb with hva_ hvn_ hvc_
      rw [hva_] at aRs
      rw [hvc_] at aRr
      have qQ := aZ (show Kd.V (Kd.int .u8) 5 _ w.heap.size _ _ ((aA dM bS).f1.f2) from Kd.V_mk aRr aRs)
      clear hva_ hvn_ hvc_ aRs aRr
      clear bBd cPv
      have vO := aZ bC5
      have cLp := aZ bC4
      clear bC5 bC4
      have vP := aZ bC7
      have cLq := aZ bC6
      clear bC7 bC6
      replace bZy := eq_true bZy
      replace bZz := eq_true bZz
      try go_wp2_with (first | ((with_reducible refine gate_dst (N := 11) rfl ?_); refine box_event ?hg (N := 11) ?hd (cs := #[.int .i64 0, .int .i64 0, .slice none 0 0, .slice none 0 0]) (t := 46) ?hr ?_; (case hd => rfl); (case hg => rfl); (case hr => first | (go_simp; done) | (go_simp; rfl)); intro dL hg w99 hbox hb; replace xZ := xeB xZ hg hb; replace fV := xVB fV hg hb; replace fZ := xVB fZ hg hb; replace gX := xeB gX hg hb; replace qP := xVB qP hg hb; replace qQ := xVB qQ hg hb; replace vO := xC vO hb; replace vP := xC vP hb; have nS := aZ (hbox); have fCh := xgh hg HB; have dHg := xgh hg HB; replace HB := xhl HB hb; have bFv := xnl hg jW; have bFw := xng hg jW; replace jW := xbb jW hb; have bFx := xnl hg kM; have bFy := xng hg kM; replace kM := xbb kM hb; have bFz := xnl hg jX; have bF0 := xng hg jX; replace jX := xbb jX hb; have bF1 := xnl hg jR; have bF2 := xng hg jR; replace jR := xbb jR hb; have bF3 := xnl hg pF; have bF4 := xng hg pF; replace pF := xbb pF hb; clear hb hbox hg; have cD4 := bFw.out; have cD5 := bFv.out; have bUr := bFy.out; have bUs := bFx.out; have bUm := bF0.out; have bUn := bFz.out; have cYz := bF2.out; have cY0 := bF1.out; have cD6 := bF4.out; have cD7 := bF3.out; have eHk : w99.cell? ⟨dL, 0, none⟩ = some (.int .i64 0) := (blk_cell nS.out 0).trans rfl; have gI2 : w99.cell? ⟨dL, 1, none⟩ = some (.int .i64 0) := (blk_cell nS.out 1).trans rfl; have gI3 : w99.cell? ⟨dL, 2, none⟩ = some (.slice none 0 0) := (blk_cell nS.out 2).trans rfl; have gI4 : w99.cell? ⟨dL, 3, none⟩ = some (.slice none 0 0) := (blk_cell nS.out 3).trans rfl; have eHl := blk_frozen nS.out 0; have gI5 := blk_frozen nS.out 1; have gI6 := blk_frozen nS.out 2; have gI7 := blk_frozen nS.out 3; have cDy := aZo.out; have cDz := aUf.out; have cD0 := aZp.out; have cD1 := aUg.out; have cNh := aZq.out; have cNi := aUh.out; have cC5 := aZr.out; have cC6 := aUi.out; have gI8 : w99.cell? ⟨qU, 0, none⟩ = some (u856000) := (blk_cell pF.out 0).trans rfl; have gI9 := blk_frozen pF.out 0; obtain ⟨gJa, eLs, gJb⟩ := Kd.N_slice gX.out; subst gJb) | ((with_reducible refine gate_callee (f := 48) rfl ?_); refine goesL_ (some 45) rfl rfl Try.func48 (by kernel_rfl) rfl #[.agg #[.slice gJa dD.length eLs], .int .i64 ((aA dM bS).f0)] rfl xmp ?_; (with_reducible refine (objects_find.calls k2 _ _ dD ((aA dM bS).f0) tV true _ ?side1 ?side2 A77.out).mono ?_); (case side1 => refine (Kd.N_reads' (e := 46) (base := w.heap.size) (ok := fun k_ => (((((eP k_ ∨ kT k_) ∨ w.heap.size ≤ k_)) ∧ (some k_ ≠ (.slice (some bBc) dM.length bNx : Value).ownBlock ∧ (k_ ≠ vD ∧ (k_ ≠ vE ∧ (k_ ≠ rQ ∧ (k_ ≠ pE ∧ k_ ≠ qU)))))) ∧ k_ ≠ dL)) (n := dD.length) (c := eLs) ?_).2.2; exact (by (with_reducible repeat (first | apply Kd.N_alloc | apply Kd.N_drewN | apply Kd.N_drew)); exact (Kd.N_mono (Kd.N_far (p := ⟨dL, 3, none⟩) (Kd.N_far (p := ⟨dL, 2, none⟩) (Kd.N_far (p := ⟨dL, 1, none⟩) (Kd.N_far (p := ⟨dL, 0, none⟩) (Kd.N_mono gX.out (fun k_ hk => (⟨hk, hk.2⟩ : _ ∧ k_ ≠ dL))) (fun _ hk => hk.2) (.int .i64 ((aA dM bS).f0))) (fun _ hk => hk.2) (.int .i64 ((aA dM bS).f1.f0))) (fun _ hk => hk.2) (.slice pR ((aA dM bS).f1.f1).length pU)) (fun _ hk => hk.2) (.slice qZ ((aA dM bS).f1.f2).length rC)) (fun _ h_ => h_.1)))); (case side2 => exact (Kd.N_reads' gX.out).2.1); rintro e fZ3 ⟨rfl, hb⟩; refine ⟨_, rfl, ?_⟩; replace xZ := aZ (Kd.N_below (by (with_reducible repeat (first | apply Kd.N_alloc | apply Kd.N_drewN | apply Kd.N_drew)); exact (Kd.N_mono (Kd.N_far (p := ⟨dL, 3, none⟩) (Kd.N_far (p := ⟨dL, 2, none⟩) (Kd.N_far (p := ⟨dL, 1, none⟩) (Kd.N_far (p := ⟨dL, 0, none⟩) (Kd.N_mono xZ.out (fun k_ hk => (⟨hk, hk.2⟩ : _ ∧ k_ ≠ dL))) (fun _ hk => hk.2) (.int .i64 ((aA dM bS).f0))) (fun _ hk => hk.2) (.int .i64 ((aA dM bS).f1.f0))) (fun _ hk => hk.2) (.slice pR ((aA dM bS).f1.f1).length pU)) (fun _ hk => hk.2) (.slice qZ ((aA dM bS).f1.f2).length rC)) (fun _ h_ => h_.1))) hb); replace fV := aZ (Kd.V_below (by (with_reducible repeat (first | apply Kd.V_alloc | apply Kd.V_drewN | apply Kd.V_drew)); exact (Kd.V_mono (Kd.V_far (p := ⟨dL, 3, none⟩) (Kd.V_far (p := ⟨dL, 2, none⟩) (Kd.V_far (p := ⟨dL, 1, none⟩) (Kd.V_far (p := ⟨dL, 0, none⟩) (Kd.V_mono fV.out (fun k_ hk => (⟨hk, hk.2⟩ : _ ∧ k_ ≠ dL))) (fun _ hk => hk.2) (.int .i64 ((aA dM bS).f0))) (fun _ hk => hk.2) (.int .i64 ((aA dM bS).f1.f0))) (fun _ hk => hk.2) (.slice pR ((aA dM bS).f1.f1).length pU)) (fun _ hk => hk.2) (.slice qZ ((aA dM bS).f1.f2).length rC)) (fun _ h_ => h_.1))) hb); replace fZ := aZ (Kd.V_below (by (with_reducible repeat (first | apply Kd.V_alloc | apply Kd.V_drewN | apply Kd.V_drew)); exact (Kd.V_mono (Kd.V_far (p := ⟨dL, 3, none⟩) (Kd.V_far (p := ⟨dL, 2, none⟩) (Kd.V_far (p := ⟨dL, 1, none⟩) (Kd.V_far (p := ⟨dL, 0, none⟩) (Kd.V_mono fZ.out (fun k_ hk => (⟨hk, hk.2⟩ : _ ∧ k_ ≠ dL))) (fun _ hk => hk.2) (.int .i64 ((aA dM bS).f0))) (fun _ hk => hk.2) (.int .i64 ((aA dM bS).f1.f0))) (fun _ hk => hk.2) (.slice pR ((aA dM bS).f1.f1).length pU)) (fun _ hk => hk.2) (.slice qZ ((aA dM bS).f1.f2).length rC)) (fun _ h_ => h_.1))) hb); replace gX := aZ (Kd.N_below (by (with_reducible repeat (first | apply Kd.N_alloc | apply Kd.N_drewN | apply Kd.N_drew)); exact (Kd.N_mono (Kd.N_far (p := ⟨dL, 3, none⟩) (Kd.N_far (p := ⟨dL, 2, none⟩) (Kd.N_far (p := ⟨dL, 1, none⟩) (Kd.N_far (p := ⟨dL, 0, none⟩) (Kd.N_mono gX.out (fun k_ hk => (⟨hk, hk.2⟩ : _ ∧ k_ ≠ dL))) (fun _ hk => hk.2) (.int .i64 ((aA dM bS).f0))) (fun _ hk => hk.2) (.int .i64 ((aA dM bS).f1.f0))) (fun _ hk => hk.2) (.slice pR ((aA dM bS).f1.f1).length pU)) (fun _ hk => hk.2) (.slice qZ ((aA dM bS).f1.f2).length rC)) (fun _ h_ => h_.1))) hb); replace jW := xbb jW hb; replace kM := xbb kM hb; replace jX := xbb jX hb; replace jR := xbb jR hb; replace pF := xbb pF hb; replace vO := aZ (Kd.C_below ((Kd.V_reads' (by (with_reducible repeat (first | apply Kd.V_alloc | apply Kd.V_drewN | apply Kd.V_drew)); exact (Kd.V_mono (Kd.V_far (p := ⟨dL, 3, none⟩) (Kd.V_far (p := ⟨dL, 2, none⟩) (Kd.V_far (p := ⟨dL, 1, none⟩) (Kd.V_far (p := ⟨dL, 0, none⟩) (Kd.V_mono qP.out (fun k_ hk => (⟨hk, hk.2⟩ : _ ∧ k_ ≠ dL))) (fun _ hk => hk.2) (.int .i64 ((aA dM bS).f0))) (fun _ hk => hk.2) (.int .i64 ((aA dM bS).f1.f0))) (fun _ hk => hk.2) (.slice pR ((aA dM bS).f1.f1).length pU)) (fun _ hk => hk.2) (.slice qZ ((aA dM bS).f1.f2).length rC)) (fun _ h_ => h_.1)))).2.2) hb); replace qP := aZ (Kd.V_below (by (with_reducible repeat (first | apply Kd.V_alloc | apply Kd.V_drewN | apply Kd.V_drew)); exact (Kd.V_mono (Kd.V_far (p := ⟨dL, 3, none⟩) (Kd.V_far (p := ⟨dL, 2, none⟩) (Kd.V_far (p := ⟨dL, 1, none⟩) (Kd.V_far (p := ⟨dL, 0, none⟩) (Kd.V_mono qP.out (fun k_ hk => (⟨hk, hk.2⟩ : _ ∧ k_ ≠ dL))) (fun _ hk => hk.2) (.int .i64 ((aA dM bS).f0))) (fun _ hk => hk.2) (.int .i64 ((aA dM bS).f1.f0))) (fun _ hk => hk.2) (.slice pR ((aA dM bS).f1.f1).length pU)) (fun _ hk => hk.2) (.slice qZ ((aA dM bS).f1.f2).length rC)) (fun _ h_ => h_.1))) hb); replace vP := aZ (Kd.C_below ((Kd.V_reads' (by (with_reducible repeat (first | apply Kd.V_alloc | apply Kd.V_drewN | apply Kd.V_drew)); exact (Kd.V_mono (Kd.V_far (p := ⟨dL, 3, none⟩) (Kd.V_far (p := ⟨dL, 2, none⟩) (Kd.V_far (p := ⟨dL, 1, none⟩) (Kd.V_far (p := ⟨dL, 0, none⟩) (Kd.V_mono qQ.out (fun k_ hk => (⟨hk, hk.2⟩ : _ ∧ k_ ≠ dL))) (fun _ hk => hk.2) (.int .i64 ((aA dM bS).f0))) (fun _ hk => hk.2) (.int .i64 ((aA dM bS).f1.f0))) (fun _ hk => hk.2) (.slice pR ((aA dM bS).f1.f1).length pU)) (fun _ hk => hk.2) (.slice qZ ((aA dM bS).f1.f2).length rC)) (fun _ h_ => h_.1)))).2.2) hb); replace qQ := aZ (Kd.V_below (by (with_reducible repeat (first | apply Kd.V_alloc | apply Kd.V_drewN | apply Kd.V_drew)); exact (Kd.V_mono (Kd.V_far (p := ⟨dL, 3, none⟩) (Kd.V_far (p := ⟨dL, 2, none⟩) (Kd.V_far (p := ⟨dL, 1, none⟩) (Kd.V_far (p := ⟨dL, 0, none⟩) (Kd.V_mono qQ.out (fun k_ hk => (⟨hk, hk.2⟩ : _ ∧ k_ ≠ dL))) (fun _ hk => hk.2) (.int .i64 ((aA dM bS).f0))) (fun _ hk => hk.2) (.int .i64 ((aA dM bS).f1.f0))) (fun _ hk => hk.2) (.slice pR ((aA dM bS).f1.f1).length pU)) (fun _ hk => hk.2) (.slice qZ ((aA dM bS).f1.f2).length rC)) (fun _ h_ => h_.1))) hb); replace nS := aZ (blk_below (g := dL) (o := .cells #[.int .i64 ((aA dM bS).f0), .int .i64 ((aA dM bS).f1.f0), .slice pR ((aA dM bS).f1.f1).length pU, .slice qZ ((aA dM bS).f1.f2).length rC] 46 (0, 0)) (by (with_reducible repeat (first | refine bN ?_ _ | refine bD ?_ | refine bA ?_ _)); refine blk_put (cs := #[.int .i64 ((aA dM bS).f0), .int .i64 ((aA dM bS).f1.f0), .slice pR ((aA dM bS).f1.f1).length pU, .slice none 0 0]) ?_ 3 _ rfl; (with_reducible repeat (first | refine bN ?_ _ | refine bD ?_ | refine bA ?_ _)); refine blk_put (cs := #[.int .i64 ((aA dM bS).f0), .int .i64 ((aA dM bS).f1.f0), .slice none 0 0, .slice none 0 0]) ?_ 2 _ rfl; (with_reducible repeat (first | refine bN ?_ _ | refine bD ?_ | refine bA ?_ _)); refine blk_put (cs := #[.int .i64 ((aA dM bS).f0), .int .i64 0, .slice none 0 0, .slice none 0 0]) ?_ 1 _ rfl; (with_reducible repeat (first | refine bN ?_ _ | refine bD ?_ | refine bA ?_ _)); refine blk_put (cs := #[.int .i64 0, .int .i64 0, .slice none 0 0, .slice none 0 0]) ?_ 0 _ rfl; (with_reducible repeat (first | refine bN ?_ _ | refine bD ?_ | refine bA ?_ _)); exact nS.out) hb); replace HB := xhl HB hb; (try clear hb); (try clear iV); (try clear hk); (try clear hi)))
      replace xZ := aZ (Kd.N_drew xZ.out)
      replace fV := aZ (Kd.V_drew fV.out)
      replace fZ := aZ (Kd.V_drew fZ.out)
      replace gX := aZ (Kd.N_drew gX.out)
      replace qP := aZ (Kd.V_drew qP.out)
      replace qQ := aZ (Kd.V_drew qQ.out)
      replace jW := aZ (bD jW.out)
      replace kM := aZ (bD kM.out)
      replace jX := aZ (bD jX.out)
      replace jR := aZ (bD jR.out)
      replace pF := aZ (bD pF.out)
      replace nS := aZ (bD nS.out)
      replace vO := aZ (Kd.C_drew vO.out)
      replace vP := aZ (Kd.C_drew vP.out)
      replace HB := aZ (lD HB.out)
      have dAg : 0 ≤ (tV : Int) := of_decide_eq_true xas
      have dAh : tV < (dD.length : Int) := of_decide_eq_true xas
      obtain ⟨aSt, cPx, cPy, cPz, cP0, fQh, bZ2, bZ3, bKr, bKs, bZ4, bZ5, bZ6, bZ7⟩ := gY (Kd.N_reads' gX.out).2.2 tV dAg dAh
      cases fQh
      obtain ⟨gI1, dNg, dNh, bUw⟩ := Kd.N_get gX.out z46 tV dAg (by first | exact dAh | exact of_decide_eq_true xas | (have e_ := (Kd.N_reads' gX.out).1; omega))
      obtain ⟨eWi, eWj, eWk, eWl, rfl, bKt, bKu, bKv, bKw⟩ := rM dNh
      have aX1 := bUw 2 _ rfl
      rw [add_field _ _ 2 (by omega)] at aX1
      replace aX1 := Option.some.inj (aX1.symm.trans bKr)
      injection aX1 with hva_ hvn_ hvc_
      rw [hva_] at bKu
      rw [hvc_] at bKt
      have bKx := aZ (show Kd.V (Kd.int .i64) 3 _ w.heap.size _ _ ((aA dD tV).f1.f1) from Kd.V_mk bKt bKu)
      clear hva_ hvn_ hvc_ bKu bKt
      have aX2 := bUw 3 _ rfl
      rw [add_field _ _ 3 (by omega)] at aX2
      replace aX2 := Option.some.inj (aX2.symm.trans bKs)
      injection aX2 with hva_ hvn_ hvc_
      rw [hva_] at bKw
      rw [hvc_] at bKv
      have bKy := aZ (show Kd.V (Kd.int .u8) 5 _ w.heap.size _ _ ((aA dD tV).f1.f2) from Kd.V_mk bKv bKw)
      clear hva_ hvn_ hvc_ bKw bKv
      clear bUw dNg
      have aX3 := aZ bZ5
      have dAi := aZ bZ4
      clear bZ5 bZ4
      have aX4 := aZ bZ7
      have dAj := aZ bZ6
      clear bZ7 bZ6
      replace dAg := eq_true dAg
      replace dAh := eq_true dAh
      refine start_ (n := 14) (S := fun w' => w'.cell? ⟨qU, 0, none⟩ = some (.slice (some aSt) dD.length eLs) ∧ w'.cell? ⟨dL, 0, none⟩ = some (.int .i64 ((aA dM bS).f0)) ∧ w'.cell? ⟨dL, 1, none⟩ = some (.int .i64 ((aA dM bS).f1.f0)) ∧ w'.cell? ⟨dL, 2, none⟩ = some (.slice pR ((aA dM bS).f1.f1).length pU) ∧ w'.cell? ⟨dL, 3, none⟩ = some (.slice qZ ((aA dM bS).f1.f2).length rC) ∧ w'.cell? (aSt.add ((tV).toNat * 4)) = some (.int .i64 ((aA dD tV).f0)) ∧ w'.cell? ⟨(aSt.add ((tV).toNat * 4)).block, (aSt.add ((tV).toNat * 4)).off + 1, none⟩ = some (.int .i64 ((aA dD tV).f1.f0)) ∧ w'.cell? ⟨(aSt.add ((tV).toNat * 4)).block, (aSt.add ((tV).toNat * 4)).off + 2, none⟩ = some (.slice cPx ((aA dD tV).f1.f1).length cPy) ∧ w'.cell? ⟨(aSt.add ((tV).toNat * 4)).block, (aSt.add ((tV).toNat * 4)).off + 3, none⟩ = some (.slice cPz ((aA dD tV).f1.f2).length cP0)) (ds := []) Z1 (by kernel_rfl) rfl rfl ⟨(blk_cell pF.out 0).trans rfl, (blk_cell nS.out 0).trans rfl, (blk_cell nS.out 1).trans rfl, (blk_cell nS.out 2).trans rfl, (blk_cell nS.out 3).trans rfl, bZ2, bZ3, bKr, bKs⟩ (fun hHeld => ?_); refine with_tabW objects_Merge.tab13 objects_Merge.bits13 (fun HT_ HW_ => ?_)
      generalize fZ3.drew = eTu at xZ fV fZ gX qP qQ jW kM jX jR pF nS vO vP HB bKx bKy aX3 aX4 bZ2 bZ3 bKr bKs hHeld ⊢
      refine pu 0 49 Z2 HT_ rfl rfl (h := ?_)
      refine pu 1 50 Z3 HT_ rfl rfl (h := ?_)
      refine pu 2 51 Z4 HT_ rfl rfl (h := ?_)
      refine pu 4 53 Z5 HT_ rfl rfl (h := ?_)
      refine pu 8 57 Z6 HT_ rfl rfl (h := ?_)
      refine tk 3 52 Z7 HT_ HW_ rfl rfl hHeld (by rintro w' ⟨s0, s1, s2, s3, s4, s5, s6, s7, s8⟩; go_simp; with_reducible rfl) (h := ?_)
      refine pu 5 54 Z8 HT_ rfl rfl (h := ?_)
      refine pu 6 55 Z9 HT_ rfl rfl (h := ?_)
      refine tk 7 56 Z10 HT_ HW_ rfl rfl hHeld (by rintro w' ⟨s0, s1, s2, s3, s4, s5, s6, s7, s8⟩; go_simp; with_reducible rfl) (h := ?_)
      refine tk 9 58 Z11 HT_ HW_ rfl rfl hHeld (by rintro w' ⟨s0, s1, s2, s3, s4, s5, s6, s7, s8⟩; go_simp; with_reducible rfl) (h := ?_)
      refine one_ (i := 10) (N := some 59) Z12 rfl rfl (one_of HT_.out (by kernel_rfl)) (by decide) (fun K hK => ?_)
      refine goes_ Try.func49 (by kernel_rfl) rfl #[.agg #[.int .i64 ((aA dD tV).f1.f0), .slice cPx ((aA dD tV).f1.f1).length cPy, .slice cPz ((aA dD tV).f1.f2).length cP0], .agg #[.int .i64 ((aA dM bS).f1.f0), .slice pR ((aA dM bS).f1.f1).length pU, .slice qZ ((aA dM bS).f1.f2).length rC]] (by rfl) rfl rfl xmp ?_
      with_reducible refine (objects_Same.calls k2 ((aA dD tV).f1.f0) _ _ ((aA dD tV).f1.f1) _ _ ((aA dD tV).f1.f2) ((aA dM bS).f1.f0) _ _ ((aA dM bS).f1.f1) _ _ ((aA dM bS).f1.f2) false _ ?side1 ?side2 ?side3 ?side4 ?side5 ?side6 ?side7 ?side8 A81.out).mono ?_
      (case side1 => exact xcc aX3)
      (case side2 => exact dAi.out)
      (case side3 => exact xcc aX4)
      (case side4 => exact dAj.out)
      (case side5 => exact xcc vO)
      (case side6 => exact cLp.out)
      (case side7 => exact xcc vP)
      (case side8 => exact cLq.out)
      rintro e eKx ⟨rfl, hb⟩
      have cPf := (hb.cell (World.block_lt_of_cell? _ _ (hHeld.2.2.2.2.2.1))).trans (hHeld.2.2.2.2.2.1)
      have cD8 := (hb.cell (World.block_lt_of_cell? _ _ (hHeld.2.2.2.2.2.2.1))).trans (hHeld.2.2.2.2.2.2.1)
      have cD9 := (hb.cell (World.block_lt_of_cell? _ _ (hHeld.2.2.2.2.2.2.2.1))).trans (hHeld.2.2.2.2.2.2.2.1)
      have dAk := (hb.cell (World.block_lt_of_cell? _ _ (hHeld.2.2.2.2.2.2.2.2))).trans (hHeld.2.2.2.2.2.2.2.2)
      refine ⟨_, rfl, ?_⟩
      replace xZ := aZ (Kd.N_below (by (with_reducible repeat (first | apply Kd.N_alloc | apply Kd.N_drewN | apply Kd.N_drew)); exact xZ.out) hb)
      replace fV := xV fV hb
      replace fZ := xV fZ hb
      replace gX := aZ (Kd.N_below (by (with_reducible repeat (first | apply Kd.N_alloc | apply Kd.N_drewN | apply Kd.N_drew)); exact gX.out) hb)
      replace qP := xV qP hb
      replace qQ := xV qQ hb
      replace bKx := xV bKx hb
      replace bKy := xV bKy hb
      replace jW := xbb jW hb
      replace kM := xbb kM hb
      replace jX := xbb jX hb
      replace jR := xbb jR hb
      replace pF := xbb pF hb
      replace vO := xC vO hb
      replace vP := xC vP hb
      replace nS := aZ (blk_below (g := dL) (o := .cells #[.int .i64 ((aA dM bS).f0), .int .i64 ((aA dM bS).f1.f0), .slice pR ((aA dM bS).f1.f1).length pU, .slice qZ ((aA dM bS).f1.f2).length rC] 46 (0, 0)) (xkq nS) hb)
      replace aX3 := xC aX3 hb
      replace aX4 := xC aX4 hb
      replace HB := xhl HB hb
      (try clear hb)
      (try clear iV)
      (try clear hk)
      (try clear hi)
      refine hK.out _ _ ⟨(blk_cell pF.out 0).trans rfl, (blk_cell nS.out 0).trans rfl, (blk_cell nS.out 1).trans rfl, (blk_cell nS.out 2).trans rfl, (blk_cell nS.out 3).trans rfl, cPf, cD8, cD9, dAk⟩ (fun hHeld => ?_)
      clear hK K
      refine norm_ (a' := ?_) ?_ ?_
      rotate_left
      · show Act.put _ (some 59) _ = _
        simp only [Act.put, List.setIfInBounds_toArray, List.set_cons_zero, List.set_cons_succ, i64_w, i32_w]
        rfl
      refine pu 11 60 Z13 HT_ rfl rfl (h := ?_)
      refine pu 12 61 Z14 HT_ rfl rfl (h := ?_)
      refine pu 13 48 Z15 HT_ rfl rfl (h := ?_)
      refine done_ (done_of HT_.out (by kernel_rfl)) ?_
      have cNj := aZk.out
      have cNk := aZj.out
      have cW4 := aZm.out
      have cW5 := aZl.out
      have bTv := aAh.out
      have bTw := aG3.out
      have dF2 : eKx.cell? ⟨rQ, 0, none⟩ = some (.slice none 0 0) := (blk_cell jX.out 0).trans rfl
      have dF3 := blk_frozen jX.out 0
      have bTx := aUc.out
      have bTy := aUb.out
      have cD2 := aUe.out
      have cD3 := aUd.out
      have dHk : eKx.cell? ⟨pE, 0, none⟩ = some (.int .i64 aC9) := (blk_cell jR.out 0).trans rfl
      have eLt : eKx.cell? ⟨pE, 1, none⟩ = some (.int .i64 zG) := (blk_cell jR.out 1).trans rfl
      have dHl := blk_frozen jR.out 0
      have eLu := blk_frozen jR.out 1
      try go_wp2
      refine bodyPost_ret (results_cc rfl _ _ rQ pE 24 28 #[.slice none 0 0] #[.int .i64 19, .int .i64 bS] (0, 0) (0, 0) _ _ rfl (by (with_reducible repeat (first | refine bN ?_ _ | refine bD ?_ | refine bA ?_ _)); refine blk_far ?_ aAh.out _; (with_reducible repeat (first | refine bN ?_ _ | refine bD ?_ | refine bA ?_ _)); refine blk_far ?_ aAh.out _; (with_reducible repeat (first | refine bN ?_ _ | refine bD ?_ | refine bA ?_ _)); refine blk_put (cs := #[.slice none 0 0]) ?_ 0 _ rfl; (with_reducible repeat (first | refine bN ?_ _ | refine bD ?_ | refine bA ?_ _)); exact jX.out) Try.underlying24 rfl (by kernel_rfl) rfl (by (with_reducible repeat (first | refine bN ?_ _ | refine bD ?_ | refine bA ?_ _)); refine blk_put (cs := #[.int .i64 19, .int .i64 zG]) ?_ 1 _ rfl; (with_reducible repeat (first | refine bN ?_ _ | refine bD ?_ | refine bA ?_ _)); refine blk_put (cs := #[.int .i64 aC9, .int .i64 zG]) ?_ 0 _ rfl; (with_reducible repeat (first | refine bN ?_ _ | refine bD ?_ | refine bA ?_ _)); refine blk_far ?_ aG3.out _; (with_reducible repeat (first | refine bN ?_ _ | refine bD ?_ | refine bA ?_ _)); exact jR.out) Try.underlying28 rfl (by kernel_rfl)) rfl ?_
      exact ⟨_, xre, by first | exact Kd.S_nil _ _ _ _ _ | exact Kd.N_nil _ _ _ _ _ | exact Kd.V_nil _ _ _ _ _ | exact Kd.Q_nil _ _ _ _ _ | exact Kd.R_nil _ _ _ _ _, xq HB⟩
end

end Go.Proofs.Ytnmkmamobhkcbaa.P
