/- Texts of the proofs of 4 statements: what the printed functions come to, plain laws, rows (no condition beyond the statements' own). -/
import Derived.Test.YtnmkmamobhkcbaaGP0
import Derived.Test.YtnmkmamobhkcbaaGP18
namespace Go.Proofs.Ytnmkmamobhkcbaa.P
open Go.RowKit Go.Proofs.YtnmkmamobhkcbaaW.PrintWords Go.Proofs.YtnmkmamobhkcbaaW.PrintLast Go.Proofs.YtnmkmamobhkcbaaW.PrintMore
attribute [local go_sem] max2_int min2_int max_two min_two max_three min_three max_four min_four   -- for this text's walks alone
set_option linter.unusedVariables false
set_option linter.unusedSimpArgs false
/-! 'append([]byte(text), Wide(DigestOf([]byte(text)))...)': five operations, told as one call -/
def pp_fin.f (k : Nat) (s : ByteArray) : Option (List Int) := if s.size ≤ 140737488351232 then (bG.f k (bytesOf s)).bind fun d => (bI.f k d).bind fun x => if 0 < x.length ∧ s.size + x.length ≤ 140737488355328 then some (bytesOf s ++ x) else none else none
theorem pp_fin.mono : ∀ a0 k, LeO (pp_fin.f k a0) (pp_fin.f (k + 1) a0) := by
  intro a0 k
  unfold pp_fin.f
  repeat' first
      | (with_reducible exact bG.mono _ _)
      | (with_reducible exact bI.mono _ _)
      | (with_reducible exact LeO.refl _)
      | (with_reducible exact LeO.none _)
      | (with_reducible refine LeO.ite ?_ ?_)
      | (with_reducible refine LeO.bind ?_ (fun _ => ?_))
theorem pp_fin.split {k : Nat} {s : ByteArray} {r : List Int} (h : pp_fin.f k s = some r) : s.size ≤ 140737488351232 ∧ ∃ d x, bG.f k (bytesOf s) = some d ∧ bI.f k d = some x ∧ 0 < x.length ∧ s.size + x.length ≤ 140737488355328 ∧ Aside0 (r = bytesOf s ++ x) := by
  unfold pp_fin.f at h
  split at h
  next hs =>
    obtain ⟨d, h1, h⟩ := Option.bind_eq_some_iff.mp h
    obtain ⟨x, h2, h⟩ := Option.bind_eq_some_iff.mp h
    split at h
    next hx => exact ⟨hs, d, x, h1, h2, hx.1, hx.2, ⟨(Option.some.inj h).symm⟩⟩
    next => cases h
  next => cases h
/-- The row that a conversion of a string has made. -/
def FinB (g : Nat) (s : ByteArray) (cap : Nat) (w : World) : Prop := ∃ w0 : World, cap = grownCap w0 s.size 0 5 ∧ w.heap[g]? = some (.cells (Lib.bytesCells w0 5 s) 5 ((Lib.bytesCells w0 5 s).size, (Lib.bytesCells w0 5 s).size + 1))
theorem FinB.below {g : Nat} {s : ByteArray} {cap : Nat} {w w1 : World} (h : FinB g s cap w) (hb : Below w.heap.size w w1) : FinB g s cap w1 := by
  obtain ⟨w0, h1, h2⟩ := h
  exact ⟨w0, h1, (hb.block g (blk_lt h2)).trans h2⟩
theorem FinB.lt {g : Nat} {s : ByteArray} {cap : Nat} {w : World} (h : FinB g s cap w) : g < w.heap.size := by
  obtain ⟨w0, h1, h2⟩ := h
  exact blk_lt h2
theorem FinB.drawn {g : Nat} {s : ByteArray} {cap : Nat} {w w1 : World} (h : FinB g s cap w) (hb : Drawn0 w w1) : FinB g s cap w1 := by
  obtain ⟨n, rfl⟩ := hb.out
  exact h.below (lN (Below.refl _ _) n)
theorem FinB.size {g : Nat} {s : ByteArray} {cap : Nat} {w : World} (h : FinB g s cap w) : s.size ≤ cap := by
  obtain ⟨w0, h1, h2⟩ := h
  rw [h1]; exact grownCap_ge w0 s.size 0 _
theorem fin_cells (w : World) (s : ByteArray) : (Lib.bytesCells w 5 s).size = grownCap w s.size 0 5 := by
  have h1 := grownCap_ge w s.size 0 5
  have h2 : s.data.size = s.size := rfl
  simp [Lib.bytesCells, h2]
  omega
theorem FinB.cell {g : Nat} {s : ByteArray} {cap : Nat} {w : World} (h : FinB g s cap w) {j : Nat} (hj : j < cap) : (w.cell? ⟨g, j, none⟩).isSome = true ∧ w.frozen? ⟨g, j, none⟩ = false := by
  obtain ⟨w0, h1, h2⟩ := h
  have h3 := fin_cells w0 s
  have h4 : j < (Lib.bytesCells w0 5 s).size := by omega
  constructor
  · simp [World.cell?, h2, h4]
  · simp [World.frozen?, h2]
    omega
theorem FinB.bytes {g : Nat} {s : ByteArray} {cap : Nat} {w : World} (h : FinB g s cap w) {j : Nat} (hj : j < (bytesOf s).length) : w.cell? ⟨g, j, none⟩ = some (.int .u8 ((bytesOf s).getD j 0)) := by
  obtain ⟨w0, h1, h2⟩ := h
  have hl : (bytesOf s).length = s.size := bytesOf_length s
  have hr := bytes_reads w0 5 s
  have hb := Lib.bytesWorld_cell w0 5 s j (by omega)
  have hn := Lib.bytesWorld_at_new w0 5 s
  have : w.cell? ⟨g, j, none⟩ = (Lib.bytesWorld w0 5 s).cell? ⟨w0.heap.size, j, none⟩ := by
    simp only [World.cell?, h2, hn]
  rw [this, hb]
  congr 2
  have h5 : j < s.data.toList.length := by rw [data_length]; omega
  simp [bytesOf, List.getD_eq_getElem?_getD, List.getElem?_eq_getElem h5]
theorem FinB.C {g : Nat} {s : ByteArray} {cap : Nat} {w : World} (h : FinB g s cap w) (hs : s.size ≤ 140737488351232) : Kd.C (Kd.int .u8) w (some ⟨g, 0, none⟩) (bytesOf s).length (bytesOf s) := by
  have hl : (bytesOf s).length = s.size := bytesOf_length s
  refine Kd.C_of_reads (d := (0 : Int)) (h1 := fun _ => rfl) ⟨rfl, by omega, fun _ => ⟨_, rfl, fun j hj => ?_⟩⟩
  rw [add_plain]
  exact h.bytes hj
theorem fin_setCells {B g : Nat} (hg : B ≤ g) : ∀ (vs : List Value) (o : Nat) (w : World), Below B w (w.setCells g o vs)
  | [], _, w => Below.refl B w
  | v :: r, o, w => ((Below.refl B w).setCell (p := ⟨g, o, none⟩) hg v).trans (fin_setCells hg r (o + 1) _)
theorem fin_below {w a b c d e : World} (h1 : Below w.heap.size w a) (h2 : Below a.heap.size a b) (h3 : Drawn0 b c) (h4 : Below c.heap.size c d) (h5 : Below w.heap.size d e) : Below w.heap.size w e := by
  obtain ⟨n, rfl⟩ := h3.out
  have h3' : Below b.heap.size b (b.drewN n) := lN (Below.refl _ _) n
  have s1 := h1.size
  have s2 := h2.size
  have s3 := h3'.size
  have lo : ∀ {B : Nat} {x y : World}, B ≤ x.heap.size → Below x.heap.size x y → Below B x y := fun hB h => ⟨h.os, h.tape, h.output, h.size, fun k hk => h.block k (by omega)⟩
  exact (((h1.trans (lo s1 h2)).trans (lo (by omega) h3')).trans (lo (by omega) h4)).trans h5
section
variable {P : Program} {ops : Array Oper} {Q : Exit → Act → World → Prop} {rest : List Oper} {oi : Oper} {a : Act} {s : ByteArray} {u : TypeDesc} {w : World}
theorem finL_ (src dst : TypeId) (hs : P.underlying src = some u) (hd : P.underlying dst = some (.slice 5)) (he : P.underlying 5 = some (.int .u8)) (N : Option Tmp) (hN : oi.dst = N) (hg : oi.guard = none)
    (hcv : (execOp a.eval oi).run P w = ((convert src dst (.string s)).run P w).andThen fun v w' => .ok (.value v) w')
    (h : ∀ (g cap : Nat) (w' : World), Aside0 (g = w.heap.size) → FinB g s cap w' → Below w.heap.size w w' → wpList P ops Q rest (a.put N (.slice (some ⟨g, 0, none⟩) (bytesOf s).length cap)) w') : wpList P ops Q (oi :: rest) a w := by
  subst hN
  refine Kd.event_run hg (by rw [hcv, print_bytes src dst 5 hs hd he s w]; rfl) ?_
  have := h w.heap.size (grownCap w s.size 0 5) (Lib.bytesWorld w 5 s) ⟨rfl⟩ ⟨w, rfl, Lib.bytesWorld_at_new w 5 s⟩ (bytes_below (Below.refl _ w) (Nat.le_refl _) 5 s)
  rw [bytesOf_length s] at this
  exact this
theorem finA_ (hg : oi.guard = none) (x y : Operand) (t : TypeId) (hop : oi.op = Op.call { callee := Callee.builtin Builtin.append, args := #[x, y], argTypes := #[t, t] })
    (h1 : P.underlying t = some (.slice 5)) (hinfo : (P.info? 5).map (fun i => (i.zero, i.size, i.bytes)) = some (some (.int .u8 0), 1, 1))
    {N : Option Tmp} (hN : oi.dst = N) {g cap : Nat} {base : Nat} {ok : Nat → Prop} {v : Value} {xs : List Int} (hs : a.eval x = .slice (some ⟨g, 0, none⟩) (bytesOf s).length cap) (hx : a.eval y = v)
    (hF : FinB g s cap w) (hR : Kd.R (Kd.int .u8) 5 w base ok v xs) (hp : 0 < xs.length) (hsz : s.size + xs.length ≤ 140737488355328)
    (h : ∀ (v' : Value) (w' : World), Kd.V (Kd.int .u8) 5 w' g (fun k => g ≤ k) v' (bytesOf s ++ xs) → Below g w w' → wpList P ops Q rest (a.put N v') w') : wpList P ops Q (oi :: rest) a w := by
  subst hN
  obtain ⟨i, h2, hzz⟩ := Option.map_eq_some_iff.1 hinfo
  simp only [Prod.mk.injEq] at hzz
  obtain ⟨h3, h4, h5⟩ := hzz
  have hl : (bytesOf s).length = s.size := bytesOf_length s
  obtain ⟨g2, c2, rfl, iV, hlt2, hrow⟩ := Kd.R_form hR hp
  have hC := (Kd.R_reads' hR).2.2
  have iLn := (Kd.R_reads' hR).2.1
  have hnew : ∀ j p, (encs (Value.int .u8) xs)[j]? = some p → w.cell? ((⟨g2, 0, none⟩ : Addr).add j) = some p := by
    intro j p hj
    obtain ⟨hj', rfl⟩ := List.getElem?_eq_some_iff.1 hj
    have hj2 : j < xs.length := by simpa [encs] using hj'
    rw [add_plain]
    have := (Kd.R_celln (h1 := fun _ => rfl) (0 : Int) hR (j : Int) (by omega) (by omega)).1
    simpa [encs, rdOf, List.getD_eq_getElem?_getD, List.getElem?_eq_getElem hj2] using this
  refine wpList_append_arg w hg x y t hop 5 i _ 1 1 h1 h2 h3 h4 h5 (by rfl) (by decide) g 0 (bytesOf s).length cap (encs (Value.int .u8) (bytesOf s)) hs (by simp [encs]) (fun j p hj => ?_) ⟨g2, 0, none⟩ xs.length c2 (encs (Value.int .u8) xs) hx (by simp [encs]) hnew (fun p hp => by simp only [encs, List.mem_map] at hp; obtain ⟨q, _, rfl⟩ := hp; rfl) (fun hroom j hj => ?_) (by simp only [maxLen]; omega) (by omega) (fun hroom => ?_) (fun hgr v' w' ho hgb => ?_)
  · obtain ⟨hj', rfl⟩ := List.getElem?_eq_some_iff.1 hj
    have hj2 : j < (bytesOf s).length := by simpa [encs] using hj'
    rw [Nat.zero_add, hF.bytes hj2]
    simp [encs, List.getD_eq_getElem?_getD, List.getElem?_eq_getElem hj2]
  · have hj2 : j < xs.length := by simpa [encs] using hj
    exact hF.cell (by omega)
  · refine h _ _ ⟨some ⟨g, 0, none⟩, cap, by simp, by simp; omega, ?_⟩ (fin_setCells (Nat.le_refl _) _ _ _)
    have hin := fun j hj => World.cell?_setCells_in g (encs (Value.int .u8) xs) (0 + (bytesOf s).length * 1) w (fun j hj => by
      have hj2 : j < xs.length := by simpa [encs] using hj
      exact (hF.cell (j := 0 + (bytesOf s).length * 1 + j) (by omega)).1) j hj
    have hout := fun j (hj : j < (bytesOf s).length) => World.cell?_setCells_out g (encs (Value.int .u8) xs) (0 + (bytesOf s).length * 1) w ⟨g, j, none⟩ (fun _ _ => .inl (by show j < _; omega))
    have hgl : g < (w.setCells g (0 + (bytesOf s).length * 1) (encs (Value.int .u8) xs)).heap.size := Nat.lt_of_lt_of_le hF.lt (fin_setCells (Nat.le_refl _) _ _ _).size
    intro W' hW
    have hblk := hW g (Nat.le_refl _) hgl
    refine Kd.C_of_reads (d := (0 : Int)) (h1 := fun _ => rfl) ⟨rfl, by simp only [List.length_append]; omega, fun _ => ⟨_, rfl, fun j hj => ?_⟩⟩
    rw [add_plain, World.cell?_of_block (a := ⟨g, j, none⟩) hblk]
    by_cases hj1 : j < (bytesOf s).length
    · rw [hout j hj1, hF.bytes hj1]
      simp only [List.getD_eq_getElem?_getD, List.getElem?_append_left hj1]
    have hj2 : j - (bytesOf s).length < xs.length := by simp only [List.length_append] at hj; omega
    have := hin (j - (bytesOf s).length) (by simpa [encs] using hj2)
    rw [show 0 + (bytesOf s).length * 1 + (j - (bytesOf s).length) = j by omega] at this
    rw [this]
    simp [encs, List.getD_eq_getElem?_getD, List.getElem?_append_right (Nat.le_of_not_lt hj1), List.getElem?_eq_getElem hj2]
  · have hgs := hF.lt
    have hR' : (Kd.int .u8).R 5 w' w.heap.size (fun k => w.heap.size ≤ k) v' (bytesOf s ++ xs) := Kd.R_of_own (h1 := fun _ => rfl) (by simpa [encs] using ho) (fun k hk => own_base ho k hk)
    refine h _ _ (Kd.V_mono (Kd.R_V hR') (fun k hk => by have : w.heap.size ≤ k := hk; omega)) ⟨hgb.os, hgb.tape, hgb.output, hgb.size, fun k hk => hgb.block k (by omega) (by simp)⟩
end
mutual
def aX.l0 : Nat → ByteArray → Int → List (fB) → Option (List Int)
  | 0, _, _, _ => none
  | k + 1, x3, x4, aN6 => if x4 < (aN6.length : Int) then (if 0 ≤ x4 then ((some (([((aA aN6 x4).f1.f0) % 256, ((((aA aN6 x4).f1.f1).length : Int)) % 256, (wrap64 ((((aA aN6 x4).f1.f2).length : Int) / 256)) % 256, (((aA aN6 x4).f1.f2).length : Int) % 256] : List Int) : List Int)).bind fun dCa => (if x3.size + (strOfNums dCa).size ≤ 9223372036854775807 then (aX.l1 k (x3 ++ (strOfNums dCa)) x4 0 aN6 ((aA aN6 x4).f1.f0) ((aA aN6 x4).f1.f1) ((aA aN6 x4).f1.f2)) else (none))) else (none)) else ((pp_fin.f k x3).bind fun fTg => (some fTg))
def aX.l1 : Nat → ByteArray → Int → Int → List (fB) → Int → List Int → List Int → Option (List Int)
  | 0, _, _, _, _, _, _, _ => none
  | k + 1, x3, x4, x6, aN6, eY4, dCb, dCc => if x6 < (dCb.length : Int) then (if 0 ≤ x6 then ((bI.f k (rd dCb x6)).bind fun cR6 => (if x3.size + (strOfNums cR6).size ≤ 9223372036854775807 then (aX.l1 k (x3 ++ (strOfNums cR6)) x4 (wrap64 (x6 + 1)) aN6 eY4 dCb dCc) else (none))) else (none)) else (if x3.size + (strOfNums dCc).size ≤ 9223372036854775807 then (aX.l0 k (x3 ++ (strOfNums dCc)) (wrap64 (x4 + 1)) aN6) else (none))
end
def aX.f (k : Nat) (aD : List (fB)) : Option (List Int) := (some (([((aD.length : Int)) % 256] : List Int) : List Int)).bind fun cJb => (if 2 + (strOfNums cJb).size ≤ 9223372036854775807 then (aX.l0 k ((⟨#[80, 75]⟩ : ByteArray) ++ (strOfNums cJb)) 0 aD) else (none))
theorem aX.mono_l : ∀ k, (∀ y0 y1 y2, LeO (aX.l0 k y0 y1 y2) (aX.l0 (k + 1) y0 y1 y2)) ∧ (∀ y0 y1 y2 y3 y4 y5 y6, LeO (aX.l1 k y0 y1 y2 y3 y4 y5 y6) (aX.l1 (k + 1) y0 y1 y2 y3 y4 y5 y6))
  | 0 => ⟨fun _ _ _ r h => by simp [aX.l0] at h, fun _ _ _ _ _ _ _ r h => by simp [aX.l1] at h⟩
  | k + 1 => by
    obtain ⟨mU, ih1⟩ := aX.mono_l k
    refine ⟨?_, ?_⟩
    all_goals intros; first | unfold aX.l0 | unfold aX.l1
    all_goals repeat' first | (with_reducible first | exact mU _ _ _ | exact ih1 _ _ _ _ _ _ _ | exact bI.mono _ _ | exact pp_fin.mono _ _ | exact LeO.refl _ | exact LeO.none _ | refine LeO.ite ?_ ?_ | refine LeO.bind ?_ (fun _ => ?_)) | exact mU _ _ _ | exact ih1 _ _ _ _ _ _ _ | exact bI.mono _ _ | exact pp_fin.mono _ _ | exact LeO.none _ | refine LeO.ite ?_ ?_ | refine LeO.bind ?_ (fun _ => ?_)
theorem aX.mono : ∀ a0 k, LeO (aX.f k a0) (aX.f (k + 1) a0) := by
  intro a0 k
  obtain ⟨mU, ih1⟩ := aX.mono_l k
  unfold aX.f
  repeat' first | (with_reducible first | exact mU _ _ _ | exact ih1 _ _ _ _ _ _ _ | exact bI.mono _ _ | exact pp_fin.mono _ _ | exact LeO.refl _ | exact LeO.none _ | refine LeO.ite ?_ ?_ | refine LeO.bind ?_ (fun _ => ?_)) | exact mU _ _ _ | exact ih1 _ _ _ _ _ _ _ | exact bI.mono _ _ | exact pp_fin.mono _ _ | exact LeO.none _ | refine LeO.ite ?_ ?_ | refine LeO.bind ?_ (fun _ => ?_)
set_option maxHeartbeats 8000000 in
set_option maxRecDepth 100000 in
theorem aX.calls (k : Nat) (bP : Option Addr) (bK : Nat) (aD : List (fB)) (r : List Int) (w : World) (mZ : Kd.C qL w bP aD.length aD) (nA : aD.length ≤ bK) (h : aX.f k aD = some r) :
  Calls Try.prog 17 #[.agg #[.slice bP aD.length bK]] w fun e w' => ∃ v0_ : Value, e = .returned (v0_) ∧ Kd.V (Kd.int .u8) 5 w' w.heap.size (fun k_ => (w.heap.size ≤ k_)) v0_ r ∧ Below w.heap.size w w' := by
  have aP7 := Try.underlying24
  have aQf := Try.underlying44
  have fI := aZ mZ
  have lC := aZ nA
  clear mZ nA
  have HB := aZ (Below.refl w.heap.size w)
  have H : ((some (([((aD.length : Int)) % 256] : List Int) : List Int)).bind fun cJb => (if 2 + (strOfNums cJb).size ≤ 9223372036854775807 then (aX.l0 k ((⟨#[80, 75]⟩ : ByteArray) ++ (strOfNums cJb)) 0 aD) else (none))) = some r := h
  clear h
  obtain ⟨cJb, dIk⟩ : ∃ y_ : List Int, y_ = (([((aD.length : Int)) % 256] : List Int)) := ⟨_, rfl⟩
  replace H : (if 2 + (strOfNums cJb).size ≤ 9223372036854775807 then (aX.l0 k ((⟨#[80, 75]⟩ : ByteArray) ++ (strOfNums cJb)) 0 aD) else (none)) = some r := by first | (rw [dIk]; with_reducible exact H) | (have qY := (Option.bind_some _ _).symm.trans H; rw [dIk]; with_reducible exact qY) | (have qY := (Option.bind_some _ _).symm.trans H; with_reducible exact qY) | with_reducible exact H | (rw [dIk]; exact H) | exact H
  have fDi := aZ dIk
  clear dIk
  by_cases c2 : 2 + (strOfNums cJb).size ≤ 9223372036854775807
  rotate_left
  · rw [if_neg c2] at H
    exact absurd H (by simp)

  rw [if_pos c2] at H
  have aW6 := eq_true c2
  have bEc : decide (2 + (strOfNums cJb).size ≤ 9223372036854775807) = true := decide_eq_true c2
  try have hYj : (9223372036854775807 < 2 + (strOfNums cJb).size) = False := eq_false (Nat.not_lt.2 c2)
  have H' := aZ H
  clear H
  go_enter Try.func17, Try.ntmps17
  go_wp2_with (first | ((with_reducible refine gate_dst (N := 1) rfl ?_); refine box_event ?hg (N := 1) ?hd (cs := #[.slice bP aD.length bK]) (t := 24) ?hr ?_; (case hd => rfl); (case hg => rfl); (case hr => first | (go_simp; done) | (go_simp; rfl)); intro cQx hg w3 hbox hb; have aGg := aZ (hbox); have iFh := xgh hg HB; have cH5 := xgh hg HB; replace HB := xhl HB hb; clear hb hbox hg; have cVu : w3.cell? ⟨cQx, 0, none⟩ = some (.slice bP aD.length bK) := (blk_cell aGg.out 0).trans rfl; have cVv := blk_frozen aGg.out 0) | ((with_reducible refine gate_dst (N := 11) rfl ?_); refine Kd.R_lit (Kd.int .u8) _ 5 ?hg (N := 11) ?hd (xs := ([((aD.length : Int)) % 256] : List Int)) (inner := [.int .u8 (((aD.length : Int)) % 256)]) (ok := fun _ => True) (okp := fun _ => True) ?hr ?hp (fun _ hk => hk) trivial (Below.refl _ _) (Nat.le_refl _) (by simp) ?_; (case hd => rfl); (case hg => rfl); (case hr => first | (go_simp; done) | (go_simp; rfl)); (case hp => exact (Reps.one (show Kd.M (Kd.int .u8) _ _ _ (((aD.length : Int)) % 256) [.int .u8 (((aD.length : Int)) % 256)] from rfl) (Reps.none _ _))); intro iLo w5 ho6 hb hg_ hnew_; clear hg_ hnew_; (first | rw [← fDi.out] at ho6 | (simp only [Int.reduceToNat] at ho6; rw [← fDi.out] at ho6)); have gQt := aZ (Kd.R_lower (Kd.R_newM (M := fun k_ => (w.heap.size ≤ k_)) ho6 (lZ (by repeat (first | (with_reducible first | exact HB.out | apply lA | apply lN | apply lD | refine lS ?_ cH5.out) | exact HB.out))) (fun k_ h_ => h_)) (lZ (by repeat (first | (with_reducible first | exact HB.out | apply lA | apply lN | apply lD | refine lS ?_ cH5.out) | exact HB.out)))); replace aGg := xbb aGg hb; replace HB := xhl HB hb; clear hb ho6; have hYk := own_string (P := Try.prog) Try.underlying26 Try.underlying5 Try.underlying9 (Kd.own_of_R gQt.out)))
  go_loopg [3, 4] k (fun kq v3 v4 w' => ∃ (cK : ByteArray) (iL : Int), v3 = .string cK ∧ v4 = .int .i64 iL ∧ Aside0 (aX.l0 kq cK iL aD = some r) ∧ Aside0 (kq ≤ k) ∧ Aside0 (w'.heap[cQx]? = some (.cells #[(.slice bP aD.length bK)] 24 (0, 0))) ∧ Aside0 (Below w.heap.size w w'))
  case atStart => exact ⟨((⟨#[80, 75]⟩ : ByteArray) ++ (strOfNums cJb)), (0), xrs, xrs, H', ⟨Nat.le_refl _⟩, xk aGg, xb HB⟩
  case round =>
   clear H'
   (try clear c2); (try clear aW6); (try clear bEc); (try clear hYj); (try clear hYk); (try clear cVu); (try clear cVv)
   obtain ⟨cK, iL, rfl, rfl, HA, yS, aGg, HB⟩ := hrel
   cases gk with
   | zero => exact absurd HA.out (by simp [aX.l0])
   | succ k1 =>
    have H := HA.out
    clear HA
    simp only [aX.l0] at H
    by_cases c8 : iL < (aD.length : Int)
    rotate_left
    · rw [if_neg c8] at H
      have bTn : decide (iL < (aD.length : Int)) = false := decide_eq_false c8
      clear c8
      replace H := Option.bind_eq_some_iff.mp H
      obtain ⟨fTg, eN4, H⟩ := H
      replace H : (some fTg) = some r := H
      have A30 := aZ eN4
      clear eN4
      obtain rfl := Option.some.inj H
      have bIn : wr.cell? ⟨cQx, 0, none⟩ = some (.slice bP aD.length bK) := (blk_cell aGg.out 0).trans rfl
      have bIo := blk_frozen aGg.out 0
      obtain ⟨hsz_, d_, y_, hd_, hw_, hp_, hs_, hr_⟩ := pp_fin.split A30.out
      go_wp2_with (first | ((with_reducible refine gate_dst (N := 70) rfl ?_); refine finL_ 9 26 Try.underlying9 Try.underlying26 Try.underlying5 (s := cK) (some 70) rfl rfl ?hcv ?_; (case hcv => first | (go_simp; done) | (go_simp; rfl) | (unfold execOp; rfl)); intro gA_ cA_ wA_ eA_ fA_ bA_) | ((with_reducible refine gate_dst (N := 72) rfl ?_); refine finL_ 9 26 Try.underlying9 Try.underlying26 Try.underlying5 (s := cK) (some 72) rfl rfl ?hcv ?_; (case hcv => first | (go_simp; done) | (go_simp; rfl) | (unfold execOp; rfl)); intro gB_ cB_ wB_ eB_ fB_ bB_) | ((with_reducible refine gate_callee (f := 43) rfl ?_); refine goesL_ (some 73) rfl rfl Try.func43 (by kernel_rfl) rfl #[.slice (some ⟨gB_, 0, none⟩) (bytesOf cK).length cB_] rfl xmp ?_; (with_reducible refine (bG.calls k1 _ _ (bytesOf cK) d_ _ ?sideA ?sideB hd_).mono ?_); (case sideA => exact FinB.C fB_ hsz_); (case sideB => exact (bytesOf_length _).symm ▸ FinB.size fB_); rintro e wC_ ⟨rfl, hC_⟩; refine ⟨_, rfl, ?_⟩) | ((with_reducible refine gate_callee (f := 42) rfl ?_); refine goesL_ (some 74) rfl rfl Try.func42 (by kernel_rfl) rfl #[.int .i64 d_] rfl xmp ?_; (with_reducible refine (bI.calls k1 d_ y_ _ hw_).mono ?_); rintro e wD_ ⟨vD_, rfl, oD_, bD_⟩; refine ⟨_, rfl, ?_⟩) | ((with_reducible refine gate_builtin (b := .append) (xs := #[.tmp 70, .tmp 74]) rfl ?_); at_builtin; refine finA_ rfl (.tmp 70) (.tmp 74) 26 rfl Try.underlying26 aFk (N := some 75) rfl rfl rfl (((fA_.below bB_).drawn hC_).below bD_) oD_ hp_ hs_ ?_; intro iLp w32 gZ hb; have hYm := eA_.out; clear eA_; subst hYm; rw [← hr_.out] at gZ; replace hb := fin_below bA_ bB_ hC_ bD_ hb; clear fA_ bA_ fB_ eB_ bB_ hC_ bD_ oD_; have gQu := aZ (Kd.V_lower (Kd.V_mono (ok' := fun k_ => (w.heap.size ≤ k_) ∧ k_ ≠ cQx) gZ (fun k_ hk_ => ⟨(Nat.le_trans (lZ (by repeat (first | (with_reducible first | exact HB.out | apply lA | apply lN | apply lD | refine lS ?_ cH5.out) | exact HB.out))) hk_), (Kd.freshB (g := cQx) (o := .cells #[.slice bP aD.length bK] 24 (0, 0)) (xkq aGg) k_ hk_)⟩)) (lZ (by repeat (first | (with_reducible first | exact HB.out | apply lA | apply lN | apply lD | refine lS ?_ cH5.out) | exact HB.out)))); replace aGg := xbb aGg hb; replace HB := xhl HB hb; (try clear hb); (try clear iV); (try clear hk); (try clear hi); (try clear gZ)))
      go_ret
      exact ⟨_, xre, by (with_reducible repeat (first | apply Kd.V_alloc | apply Kd.V_drewN | apply Kd.V_drew)); exact Kd.V_mono gQu.out (fun _ hk => hk.1), xq HB⟩
    rw [if_pos c8] at H
    have bTn : decide (iL < (aD.length : Int)) = true := decide_eq_true c8
    clear c8
    by_cases c9 : 0 ≤ iL
    rotate_left
    · rw [if_neg c9] at H
      exact absurd H (by simp)
    rw [if_pos c9] at H
    have cRm : decide (0 ≤ iL) = true := decide_eq_true c9
    clear c9
    obtain ⟨dCa, dIl⟩ : ∃ y_ : List Int, y_ = (([((aA aD iL).f1.f0) % 256, ((((aA aD iL).f1.f1).length : Int)) % 256, (wrap64 ((((aA aD iL).f1.f2).length : Int) / 256)) % 256, (((aA aD iL).f1.f2).length : Int) % 256] : List Int)) := ⟨_, rfl⟩
    replace H : (if cK.size + (strOfNums dCa).size ≤ 9223372036854775807 then (aX.l1 k1 (cK ++ (strOfNums dCa)) iL 0 aD ((aA aD iL).f1.f0) ((aA aD iL).f1.f1) ((aA aD iL).f1.f2)) else (none)) = some r := by first | (rw [dIl]; with_reducible exact H) | (have qY := (Option.bind_some _ _).symm.trans H; rw [dIl]; with_reducible exact qY) | (have qY := (Option.bind_some _ _).symm.trans H; with_reducible exact qY) | with_reducible exact H | (rw [dIl]; exact H) | exact H
    have fDj := aZ dIl
    clear dIl
    by_cases c10 : cK.size + (strOfNums dCa).size ≤ 9223372036854775807
    rotate_left
    · rw [if_neg c10] at H
      exact absurd H (by simp)
    rw [if_pos c10] at H
    have dR4 := eq_true c10
    have gQv : decide (cK.size + (strOfNums dCa).size ≤ 9223372036854775807) = true := decide_eq_true c10
    try have gQw : (9223372036854775807 < cK.size + (strOfNums dCa).size) = False := eq_false (Nat.not_lt.2 c10)
    have H' := aZ H
    clear H
    have bO7 : wr.cell? ⟨cQx, 0, none⟩ = some (.slice bP aD.length bK) := (blk_cell aGg.out 0).trans rfl
    have bO8 := blk_frozen aGg.out 0
    have eY5 : 0 ≤ (iL : Int) := of_decide_eq_true xas
    have eY6 : iL < (aD.length : Int) := of_decide_eq_true xas
    obtain ⟨gQx, cQy, cGm, cGn, cGo, hYn, dCd, dCe, dCf, dCg, dXh, dXi, dXj, dXk⟩ := gY fI.out iL eY5 eY6
    cases hYn
    replace dCd := xcl HB dCd
    replace dCe := xcl HB dCe
    replace dCf := xcl HB dCf
    replace dCg := xcl HB dCg
    have eY7 := aZ dXi
    have hFj := aZ dXh
    clear dXi dXh
    have eY8 := aZ dXk
    have hFk := aZ dXj
    clear dXk dXj
    replace eY5 := eq_true eY5
    replace eY6 := eq_true eY6
    go_wp2_with (first | ((with_reducible refine gate_dst (N := 5) rfl ?_); refine box_event ?hg (N := 5) ?hd (cs := #[.int .i64 0, .slice none 0 0, .slice none 0 0]) (t := 44) ?hr ?_; (case hd => rfl); (case hg => rfl); (case hr => first | (go_simp; done) | (go_simp; rfl)); intro bL1 hg w12 hbox hb; have aGh := aZ (hbox); have iFi := xgh hg HB; have dXl := xgh hg HB; replace HB := xhl HB hb; have cGp := xnl hg aGg; have cGq := xng hg aGg; replace aGg := xbb aGg hb; clear hb hbox hg; have bS1 := cGq.out; have bS2 := cGp.out; have aQl : w12.cell? ⟨bL1, 0, none⟩ = some (.int .i64 0) := (blk_cell aGh.out 0).trans rfl; have aVn : w12.cell? ⟨bL1, 1, none⟩ = some (.slice none 0 0) := (blk_cell aGh.out 1).trans rfl; have dP7 : w12.cell? ⟨bL1, 2, none⟩ = some (.slice none 0 0) := (blk_cell aGh.out 2).trans rfl; have aQm := blk_frozen aGh.out 0; have aVo := blk_frozen aGh.out 1; have dP8 := blk_frozen aGh.out 2) | ((with_reducible refine gate_dst (N := 45) rfl ?_); refine Kd.R_lit (Kd.int .u8) _ 5 ?hg (N := 45) ?hd (xs := ([((aA aD iL).f1.f0) % 256, ((((aA aD iL).f1.f1).length : Int)) % 256, (wrap64 ((((aA aD iL).f1.f2).length : Int) / 256)) % 256, (((aA aD iL).f1.f2).length : Int) % 256] : List Int)) (inner := [.int .u8 (((aA aD iL).f1.f0) % 256), .int .u8 (((((aA aD iL).f1.f1).length : Int)) % 256), .int .u8 ((wrap64 ((((aA aD iL).f1.f2).length : Int) / 256)) % 256), .int .u8 ((((aA aD iL).f1.f2).length : Int) % 256)]) (ok := fun _ => True) (okp := fun _ => True) ?hr ?hp (fun _ hk => hk) trivial (Below.refl _ _) (Nat.le_refl _) (by simp) ?_; (case hd => rfl); (case hg => rfl); (case hr => first | (go_simp; done) | (go_simp; rfl)); (case hp => exact (Reps.one (show Kd.M (Kd.int .u8) _ _ _ (((aA aD iL).f1.f0) % 256) [.int .u8 (((aA aD iL).f1.f0) % 256)] from rfl) (Reps.one (show Kd.M (Kd.int .u8) _ _ _ (((((aA aD iL).f1.f1).length : Int)) % 256) [.int .u8 (((((aA aD iL).f1.f1).length : Int)) % 256)] from rfl) (Reps.one (show Kd.M (Kd.int .u8) _ _ _ ((wrap64 ((((aA aD iL).f1.f2).length : Int) / 256)) % 256) [.int .u8 ((wrap64 ((((aA aD iL).f1.f2).length : Int) / 256)) % 256)] from rfl) (Reps.one (show Kd.M (Kd.int .u8) _ _ _ ((((aA aD iL).f1.f2).length : Int) % 256) [.int .u8 ((((aA aD iL).f1.f2).length : Int) % 256)] from rfl) (Reps.none _ _)))))); intro iLq w15 eN5 hb hg_ hnew_; clear hg_ hnew_; (first | rw [← fDj.out] at eN5 | (simp only [Int.reduceToNat] at eN5; rw [← fDj.out] at eN5)); have gQy := aZ (Kd.R_lower (Kd.R_newM (M := fun k_ => (w.heap.size ≤ k_)) eN5 (lZ (by repeat (first | (with_reducible first | exact HB.out | apply lA | apply lN | apply lD | refine lS ?_ cH5.out | refine lS ?_ dXl.out) | exact HB.out))) (fun k_ h_ => h_)) (lZ (by repeat (first | (with_reducible first | exact HB.out | apply lA | apply lN | apply lD | refine lS ?_ cH5.out | refine lS ?_ dXl.out) | exact HB.out)))); replace aGg := xbb aGg hb; replace aGh := aZ (blk_below (g := bL1) (o := .cells #[.int .i64 ((aA aD iL).f1.f0), .slice cQy ((aA aD iL).f1.f1).length cGm, .slice cGn ((aA aD iL).f1.f2).length cGo] 44 (0, 0)) (by (with_reducible repeat (first | refine bN ?_ _ | refine bD ?_ | refine bA ?_ _)); refine blk_put (cs := #[.int .i64 ((aA aD iL).f1.f0), .slice cQy ((aA aD iL).f1.f1).length cGm, .slice none 0 0]) ?_ 2 _ rfl; (with_reducible repeat (first | refine bN ?_ _ | refine bD ?_ | refine bA ?_ _)); refine blk_put (cs := #[.int .i64 ((aA aD iL).f1.f0), .slice none 0 0, .slice none 0 0]) ?_ 1 _ rfl; (with_reducible repeat (first | refine bN ?_ _ | refine bD ?_ | refine bA ?_ _)); refine blk_put (cs := #[.int .i64 0, .slice none 0 0, .slice none 0 0]) ?_ 0 _ rfl; (with_reducible repeat (first | refine bN ?_ _ | refine bD ?_ | refine bA ?_ _)); exact aGh.out) hb); replace HB := xhl HB hb; clear hb eN5; have gQz := own_string (P := Try.prog) Try.underlying26 Try.underlying5 Try.underlying9 (Kd.own_of_R gQy.out)))
    go_loopg [3, 6] k1 (fun kq v3 v6 w' => ∃ (aFq : ByteArray) (aMw : Int), v3 = .string aFq ∧ v6 = .int .i64 aMw ∧ Aside0 (aX.l1 kq aFq iL aMw aD ((aA aD iL).f1.f0) ((aA aD iL).f1.f1) ((aA aD iL).f1.f2) = some r) ∧ Aside0 (kq ≤ k1) ∧ Aside0 (w'.heap[cQx]? = some (.cells #[(.slice (some gQx) aD.length bK)] 24 (0, 0))) ∧ Aside0 (w'.heap[bL1]? = some (.cells #[.int .i64 ((aA aD iL).f1.f0), (.slice cQy ((aA aD iL).f1.f1).length cGm), (.slice cGn ((aA aD iL).f1.f2).length cGo)] 44 (0, 0))) ∧ Aside0 (Below w.heap.size w w'))
    case atStart => exact ⟨(cK ++ (strOfNums dCa)), (0), xrs, xrs, H', ⟨Nat.le_refl _⟩, xk aGg, xk aGh, xb HB⟩
    case round =>
     clear H'
     (try clear c8); (try clear bTn); (try clear c9); (try clear cRm); (try clear c10); (try clear dR4); (try clear gQv); (try clear gQw); (try clear gQz); (try clear bO7); (try clear aQl); (try clear aVn); (try clear dP7); (try clear bO8); (try clear aQm); (try clear aVo); (try clear dP8); (try clear dCd); (try clear dCe); (try clear dCf); (try clear dCg); (try clear eY5); (try clear eY6)
     obtain ⟨aFq, aMw, rfl, rfl, HA, HK2, aGg, aGh, HB⟩ := hrel
     cases gk with
     | zero => exact absurd HA.out (by simp [aX.l1])
     | succ k2 =>
      have H := HA.out
      clear HA
      simp only [aX.l1] at H
      by_cases c18 : aMw < (((aA aD iL).f1.f1).length : Int)
      rotate_left
      · rw [if_neg c18] at H
        have cMo : decide (aMw < (((aA aD iL).f1.f1).length : Int)) = false := decide_eq_false c18
        clear c18
        by_cases c26 : aFq.size + (strOfNums ((aA aD iL).f1.f2)).size ≤ 9223372036854775807
        rotate_left
        · rw [if_neg c26] at H
          exact absurd H (by simp)
        rw [if_pos c26] at H
        have bSt := eq_true c26
        have iFj : decide (aFq.size + (strOfNums ((aA aD iL).f1.f2)).size ≤ 9223372036854775807) = true := decide_eq_true c26
        try have iFk : (9223372036854775807 < aFq.size + (strOfNums ((aA aD iL).f1.f2)).size) = False := eq_false (Nat.not_lt.2 c26)
        have H' := aZ H
        clear H
        have dDx := cGq.out
        have dDy := cGp.out
        have cJ9 : wr.cell? ⟨bL1, 0, none⟩ = some (.int .i64 ((aA aD iL).f1.f0)) := (blk_cell aGh.out 0).trans rfl
        have dPo : wr.cell? ⟨bL1, 1, none⟩ = some (.slice cQy ((aA aD iL).f1.f1).length cGm) := (blk_cell aGh.out 1).trans rfl
        have eQe : wr.cell? ⟨bL1, 2, none⟩ = some (.slice cGn ((aA aD iL).f1.f2).length cGo) := (blk_cell aGh.out 2).trans rfl
        have cKa := blk_frozen aGh.out 0
        have dPp := blk_frozen aGh.out 1
        have eQf := blk_frozen aGh.out 2
        have iFl := Kd.C_string (P := Try.prog) (A := cGn) (c := cGo) Try.underlying26 Try.underlying5 Try.underlying9 (Kd.C_below eY8.out HB.out)
        go_wp2
        go_roundg k2
        case measure => have := yS.out; have := HK2.out; omega
        case rel => exact ⟨(aFq ++ (strOfNums ((aA aD iL).f1.f2))), (wrap64 (iL + 1)), xrs, xrs, H', ⟨by have := yS.out; have := HK2.out; omega⟩, xk aGg, xb HB⟩
      rw [if_pos c18] at H
      have cMo : decide (aMw < (((aA aD iL).f1.f1).length : Int)) = true := decide_eq_true c18
      clear c18
      by_cases c19 : 0 ≤ aMw
      rotate_left
      · rw [if_neg c19] at H
        exact absurd H (by simp)
      rw [if_pos c19] at H
      have dFw : decide (0 ≤ aMw) = true := decide_eq_true c19
      clear c19
      replace H := Option.bind_eq_some_iff.mp H
      obtain ⟨cR6, eLl, H⟩ := H
      replace H : (if aFq.size + (strOfNums cR6).size ≤ 9223372036854775807 then (aX.l1 k2 (aFq ++ (strOfNums cR6)) iL (wrap64 (aMw + 1)) aD ((aA aD iL).f1.f0) ((aA aD iL).f1.f1) ((aA aD iL).f1.f2)) else (none)) = some r := H
      have A20 := aZ eLl
      clear eLl
      by_cases c21 : aFq.size + (strOfNums cR6).size ≤ 9223372036854775807
      rotate_left
      · rw [if_neg c21] at H
        exact absurd H (by simp)
      rw [if_pos c21] at H
      have bA0 := eq_true c21
      have fDk : decide (aFq.size + (strOfNums cR6).size ≤ 9223372036854775807) = true := decide_eq_true c21
      try have iFm : (9223372036854775807 < aFq.size + (strOfNums cR6).size) = False := eq_false (Nat.not_lt.2 c21)
      have H' := aZ H
      clear H
      have cHp := cGq.out
      have cHq := cGp.out
      have bPd : wr.cell? ⟨bL1, 0, none⟩ = some (.int .i64 ((aA aD iL).f1.f0)) := (blk_cell aGh.out 0).trans rfl
      have cVi : wr.cell? ⟨bL1, 1, none⟩ = some (.slice cQy ((aA aD iL).f1.f1).length cGm) := (blk_cell aGh.out 1).trans rfl
      have ePy : wr.cell? ⟨bL1, 2, none⟩ = some (.slice cGn ((aA aD iL).f1.f2).length cGo) := (blk_cell aGh.out 2).trans rfl
      have bPe := blk_frozen aGh.out 0
      have cVj := blk_frozen aGh.out 1
      have ePz := blk_frozen aGh.out 2
      have fTh : 0 ≤ (aMw : Int) := of_decide_eq_true xas
      have fTi : aMw < (((aA aD iL).f1.f1).length : Int) := of_decide_eq_true xas
      obtain ⟨gQ0, hYo, dXm⟩ := Kd.at_int eY7.out aMw fTh fTi
      cases hYo
      replace dXm := xcl HB dXm
      replace fTh := eq_true fTh
      replace fTi := eq_true fTi
      go_wp2_with (first | ((with_reducible refine gate_callee (f := 42) rfl ?_); refine goesL_ (some 61) rfl rfl Try.func42 (by kernel_rfl) rfl #[.int .i64 (rd ((aA aD iL).f1.f1) aMw)] rfl xmp ?_; (with_reducible refine (bI.calls k2 (rd ((aA aD iL).f1.f1) aMw) cR6 _ A20.out).mono ?_); rintro e w24 ⟨iLr, rfl, gZ, hb⟩; refine ⟨_, rfl, ?_⟩; have gQ1 := aZ (Kd.R_lower (Kd.R_newM (M := fun k_ => (w.heap.size ≤ k_)) gZ (lZ (by repeat (first | (with_reducible first | exact HB.out | apply lA | apply lN | apply lD | refine lS ?_ cH5.out | refine lS ?_ dXl.out) | exact HB.out))) (fun k_ h_ => h_)) (lZ (by repeat (first | (with_reducible first | exact HB.out | apply lA | apply lN | apply lD | refine lS ?_ cH5.out | refine lS ?_ dXl.out) | exact HB.out)))); replace aGg := xbb aGg hb; replace aGh := aZ (blk_below (g := bL1) (o := .cells #[.int .i64 ((aA aD iL).f1.f0), .slice (some gQ0) ((aA aD iL).f1.f1).length cGm, .slice cGn ((aA aD iL).f1.f2).length cGo] 44 (0, 0)) (xkq aGh) hb); replace HB := xhl HB hb; (try clear hb); (try clear iV); (try clear hk); (try clear hi); (try clear gZ); have iFn := own_string (P := Try.prog) Try.underlying26 Try.underlying5 Try.underlying9 (Kd.own_of_R gQ1.out)))
      go_roundg k2
      case measure => have := yS.out; have := HK2.out; omega
      case rel => exact ⟨(aFq ++ (strOfNums cR6)), (wrap64 (aMw + 1)), xrs, xrs, H', ⟨by have := yS.out; have := HK2.out; omega⟩, xk aGg, xk aGh, xb HB⟩
def slices_Equal_byte_byte.l0 : Nat → List Int → List Int → Int → Int → Option (Bool)
  | 0, _, _, _, _ => none
  | k + 1, x0, x1, x12, x13 => if x13 < x12 then (if 0 ≤ x13 then (if x13 < (x0.length : Int) then (if x13 < (x1.length : Int) then (if (rd x0 x13) = (rd x1 x13) then (slices_Equal_byte_byte.l0 k x0 x1 x12 (wrap64 (x13 + 1))) else (some false)) else (none)) else (none)) else (none)) else (some true)
def slices_Equal_byte_byte.f (k : Nat) (l0 : List Int) (l1 : List Int) : Option (Bool) := if (l0.length : Int) = (l1.length : Int) then (slices_Equal_byte_byte.l0 k l0 l1 (l0.length : Int) 0) else (some false)
theorem slices_Equal_byte_byte.mono_l : ∀ k, (∀ y0 y1 y2 y3, LeO (slices_Equal_byte_byte.l0 k y0 y1 y2 y3) (slices_Equal_byte_byte.l0 (k + 1) y0 y1 y2 y3))
  | 0 => fun _ _ _ _ r h => by simp [slices_Equal_byte_byte.l0] at h
  | k + 1 => by
    have mU := slices_Equal_byte_byte.mono_l k
    · intro y0 y1 y2 y3
      unfold slices_Equal_byte_byte.l0
      repeat' first | (with_reducible first | exact mU _ _ _ _ | exact LeO.refl _ | exact LeO.none _ | refine LeO.ite ?_ ?_ | refine LeO.bind ?_ (fun _ => ?_)) | exact mU _ _ _ _ | exact LeO.none _ | refine LeO.ite ?_ ?_ | refine LeO.bind ?_ (fun _ => ?_)
theorem slices_Equal_byte_byte.mono : ∀ a0 a1 k, LeO (slices_Equal_byte_byte.f k a0 a1) (slices_Equal_byte_byte.f (k + 1) a0 a1) := by
  intro a0 a1 k
  have mU := slices_Equal_byte_byte.mono_l k
  unfold slices_Equal_byte_byte.f
  repeat' first | (with_reducible first | exact mU _ _ _ _ | exact LeO.refl _ | exact LeO.none _ | refine LeO.ite ?_ ?_ | refine LeO.bind ?_ (fun _ => ?_)) | exact mU _ _ _ _ | exact LeO.none _ | refine LeO.ite ?_ ?_ | refine LeO.bind ?_ (fun _ => ?_)
set_option maxHeartbeats 8000000 in
set_option maxRecDepth 100000 in
theorem slices_Equal_byte_byte.calls (k : Nat) (A0 : Option Addr) (c0 : Nat) (l0 : List Int) (A1 : Option Addr) (c1 : Nat) (l1 : List Int) (r : Bool) (w : World) (hr0 : Kd.C (Kd.int .u8) w A0 l0.length l0) (hc0 : l0.length ≤ c0) (hr1 : Kd.C (Kd.int .u8) w A1 l1.length l1) (hc1 : l1.length ≤ c1) (h : slices_Equal_byte_byte.f k l0 l1 = some r) :
  Calls Try.prog 54 #[.slice A0 l0.length c0, .slice A1 l1.length c1] w fun e w' => e = .returned (.bool r) ∧ Drawn0 w w' := by
  have HR0 := aZ hr0
  have HC0 := aZ hc0
  clear hr0 hc0
  have HR1 := aZ hr1
  have HC1 := aZ hc1
  clear hr1 hc1
  have H : (if (l0.length : Int) = (l1.length : Int) then (slices_Equal_byte_byte.l0 k l0 l1 (l0.length : Int) 0) else (some false)) = some r := h
  clear h
  by_cases c3 : (l0.length : Int) = (l1.length : Int)
  rotate_left
  · rw [if_neg c3] at H
    have aNk : ((l0.length : Int) == (l1.length : Int)) = false := beq_eq_false_iff_ne.mpr c3
    have bNc : ((l0.length : Int) != (l1.length : Int)) = true := bne_iff_ne.mpr c3
    have cOc : (l0.length == l1.length) = false := by first | simpa using c3 | (simp at c3 ⊢; omega)
    obtain rfl := Option.some.inj H
    go_enter Try.func54, Try.ntmps54
    go_wp2
    repeat (go_quiet (fail); try go_wp2)
    go_ret
    exact ⟨by first | rfl | (simp; done) | (simp [*]; done), by repeat (first | exact Drawn0.refl _ | apply Drawn0.step)⟩

  rw [if_pos c3] at H
  have aNk : ((l0.length : Int) == (l1.length : Int)) = true := beq_iff_eq.mpr c3
  have bNc : ((l0.length : Int) != (l1.length : Int)) = false := bne_eq_false_iff_eq.mpr c3
  have cOc : (l0.length == l1.length) = true := by first | simpa using c3 | (simp at c3 ⊢; omega)
  clear c3
  have H' := aZ H
  clear H
  go_enter Try.func54, Try.ntmps54
  go_wp2
  repeat (go_quiet (fail); try go_wp2)
  go_loopg [13] k (fun kq v13 w' => ∃ (kV : Int), v13 = .int .i64 kV ∧ Aside0 (slices_Equal_byte_byte.l0 kq l0 l1 (l0.length : Int) kV = some r) ∧ Aside0 (kq ≤ k) ∧ Drawn0 w w')
  case atStart => exact ⟨(0), xrs, H', ⟨Nat.le_refl _⟩, by repeat (first | exact Drawn0.refl _ | apply Drawn0.step)⟩
  case round =>
   clear H'
   (try clear c1); (try clear c3); (try clear aNk); (try clear bNc); (try clear cOc)
   obtain ⟨kV, rfl, HA, yS, ⟨m1, rfl⟩⟩ := hrel
   cases gk with
   | zero => exact absurd HA.out (by simp [slices_Equal_byte_byte.l0])
   | succ k1 =>
    have H := HA.out
    clear HA
    simp only [slices_Equal_byte_byte.l0] at H
    by_cases c4 : kV < (l0.length : Int)
    rotate_left
    · rw [if_neg c4] at H
      have aJy : decide (kV < (l0.length : Int)) = false := decide_eq_false c4
      clear c4
      obtain rfl := Option.some.inj H
      go_wp2
      repeat (go_quiet (fail); try go_wp2)
      go_ret
      exact ⟨by first | rfl | (simp; done) | (simp [*]; done), by repeat (first | exact Drawn0.refl _ | apply Drawn0.step)⟩
    rw [if_pos c4] at H
    have aJy : decide (kV < (l0.length : Int)) = true := decide_eq_true c4
    clear c4
    by_cases c5 : 0 ≤ kV
    rotate_left
    · rw [if_neg c5] at H
      exact absurd H (by simp)
    rw [if_pos c5] at H
    have bAy : decide (0 ≤ kV) = true := decide_eq_true c5
    clear c5
    by_cases c6 : kV < (l0.length : Int)
    rotate_left
    · rw [if_neg c6] at H
      exact absurd H (by simp)
    rw [if_pos c6] at H
    have aWf : decide (kV < (l0.length : Int)) = true := decide_eq_true c6
    clear c6
    by_cases c7 : kV < (l1.length : Int)
    rotate_left
    · rw [if_neg c7] at H
      exact absurd H (by simp)
    rw [if_pos c7] at H
    have bTm : decide (kV < (l1.length : Int)) = true := decide_eq_true c7
    clear c7
    by_cases c8 : (rd l0 kV) = (rd l1 kV)
    rotate_left
    · rw [if_neg c8] at H
      have bTn : ((rd l0 kV) == (rd l1 kV)) = false := beq_eq_false_iff_ne.mpr c8
      have cWk : ((rd l0 kV) != (rd l1 kV)) = true := bne_iff_ne.mpr c8
      obtain rfl := Option.some.inj H
      have dN9 : 0 ≤ (kV : Int) := of_decide_eq_true xas
      have dOa : kV < (l0.length : Int) := of_decide_eq_true xas
      obtain ⟨gQm, fTa, eY1⟩ := Kd.at_int HR0.out kV dN9 dOa
      cases fTa
      replace dN9 := eq_true dN9
      replace dOa := eq_true dOa
      have dOb : 0 ≤ (kV : Int) := of_decide_eq_true xas
      have dOc : kV < (l1.length : Int) := of_decide_eq_true xas
      obtain ⟨gQn, fTb, eY2⟩ := Kd.at_int HR1.out kV dOb dOc
      cases fTb
      replace dOb := eq_true dOb
      replace dOc := eq_true dOc
      go_wp2
      repeat (go_quiet (fail); try go_wp2)
      go_ret
      exact ⟨by first | rfl | (simp; done) | (simp [*]; done), by repeat (first | exact Drawn0.refl _ | apply Drawn0.step)⟩
    rw [if_pos c8] at H
    have bTn : ((rd l0 kV) == (rd l1 kV)) = true := beq_iff_eq.mpr c8
    have cWk : ((rd l0 kV) != (rd l1 kV)) = false := bne_eq_false_iff_eq.mpr c8
    clear c8
    have H' := aZ H
    clear H
    have dN9 : 0 ≤ (kV : Int) := of_decide_eq_true xas
    have dOa : kV < (l0.length : Int) := of_decide_eq_true xas
    obtain ⟨gQm, fTa, eY1⟩ := Kd.at_int HR0.out kV dN9 dOa
    cases fTa
    replace dN9 := eq_true dN9
    replace dOa := eq_true dOa
    have dOb : 0 ≤ (kV : Int) := of_decide_eq_true xas
    have dOc : kV < (l1.length : Int) := of_decide_eq_true xas
    obtain ⟨gQn, fTb, eY2⟩ := Kd.at_int HR1.out kV dOb dOc
    cases fTb
    replace dOb := eq_true dOb
    replace dOc := eq_true dOc
    go_wp2
    repeat (go_quiet (fail); try go_wp2)
    go_roundg k1
    case measure => have := yS.out; omega
    case rel => exact ⟨(wrap64 (kV + 1)), xrs, H', ⟨by have := yS.out; omega⟩, by repeat (first | exact Drawn0.refl _ | apply Drawn0.step)⟩
/-- A state of type 94 at block g of W; what its slices lead to came in by w0. -/
def aM (w0 W : World) (g : Nat) (f0 : List Int) (f1 : Int) (f2 : Bool) : Prop := ∃ A0 c0, W.heap[g]? = some (.cells #[.slice A0 f0.length c0, .int .i64 f1, .bool f2] 94 (0, 0)) ∧ w0.heap.size ≤ g ∧ (Kd.C (Kd.int .u8) w0 A0 f0.length f0 ∧ f0.length ≤ c0)
theorem aM.grown {w0 W : World} {g : Nat} {f0 : List Int} {f1 : Int} {f2 : Bool} {W1 : World} {row : Option Nat} (h : aM w0 W g f0 f1 f2) (hw : W.grownBy W1 row) (hne : some g ≠ row) : aM w0 W1 g f0 f1 f2 := by
  obtain ⟨A0, c0, hb, hg, hr0⟩ := h
  exact ⟨A0, c0, blk_grown hb hw hne, hg, hr0⟩
theorem aM.below {w0 W : World} {g : Nat} {f0 : List Int} {f1 : Int} {f2 : Bool} {W1 : World} (h : aM w0 W g f0 f1 f2) (hw : Below W.heap.size W W1) : aM w0 W1 g f0 f1 f2 := h.grown (grown_of_below hw none) (by simp)
theorem aM.alloc {w0 W : World} {g : Nat} {f0 : List Int} {f1 : Int} {f2 : Bool} (h : aM w0 W g f0 f1 f2) (o : Obj) : aM w0 (W.alloc o) g f0 f1 f2 := h.below (below_alloc (Below.refl _ _) o)
theorem aM.drewN {w0 W : World} {g : Nat} {f0 : List Int} {f1 : Int} {f2 : Bool} (h : aM w0 W g f0 f1 f2) (m : Nat) : aM w0 (W.drewN m) g f0 f1 f2 := h
theorem aM.drew {w0 W : World} {g : Nat} {f0 : List Int} {f1 : Int} {f2 : Bool} (h : aM w0 W g f0 f1 f2) : aM w0 W.drew g f0 f1 f2 := h
theorem aM.at_ {w0 W : World} {g : Nat} {f0 : List Int} {f1 : Int} {f2 : Bool} {w' : World} {m : Nat} (hq : W.drewN m = w') (h : aM w0 W g f0 f1 f2) : aM w0 w' g f0 f1 f2 := by subst hq; exact aM.drewN h m
theorem aM.apart {w0 W : World} {g : Nat} {f0 : List Int} {f1 : Int} {f2 : Bool} {α : Type} {d : Kd α} {e : Nat} {base : Nat} {ok : Nat → Prop} {v : Value} {xs : List α} (h : aM w0 W g f0 f1 f2) (ho : d.R e W base ok v xs) (ht : ∀ q, q ∈ e :: d.E → q ≠ 94) : d.R e W base (fun k => ok k ∧ k ≠ g) v xs := by
  obtain ⟨A0, c0, hb, hg, hr0⟩ := h
  exact Kd.R_types ho hb ht
theorem aM.own_ne {w0 W : World} {g : Nat} {f0 : List Int} {f1 : Int} {f2 : Bool} {α : Type} {d : Kd α} {e : Nat} {base : Nat} {ok : Nat → Prop} {v : Value} {xs : List α} (h : aM w0 W g f0 f1 f2) (ho : d.R e W base ok v xs) (ht : e ≠ 94) : some g ≠ v.ownBlock := by
  obtain ⟨A0, c0, hb, hg, hr0⟩ := h
  exact Kd.R_ne ho hb ht
theorem aM.apartS {w0 W : World} {g : Nat} {f0 : List Int} {f1 : Int} {f2 : Bool} {α : Type} {d : Kd α} {e : Nat} {base : Nat} {ok : Nat → Prop} {v : Value} {xs : List α} (h : aM w0 W g f0 f1 f2) (ho : d.S e W base ok v xs) (ht : ∀ q, q ∈ e :: d.E → q ≠ 94) : d.S e W base (fun k => ok k ∧ k ≠ g) v xs := by
  obtain ⟨A0, c0, hb, hg, hr0⟩ := h
  exact Kd.S_types ho hb ht
theorem aM.own_neS {w0 W : World} {g : Nat} {f0 : List Int} {f1 : Int} {f2 : Bool} {α : Type} {d : Kd α} {e : Nat} {base : Nat} {ok : Nat → Prop} {v : Value} {xs : List α} (h : aM w0 W g f0 f1 f2) (ho : d.S e W base ok v xs) (ht : e ≠ 94) : some g ≠ v.ownBlock := by
  obtain ⟨A0, c0, hb, hg, hr0⟩ := h
  exact Kd.S_ne ho hb ht
theorem aM.lt {w0 W : World} {g : Nat} {f0 : List Int} {f1 : Int} {f2 : Bool} (h : aM w0 W g f0 f1 f2) : g < W.heap.size := by
  obtain ⟨A0, c0, hb, hg, hr0⟩ := h
  exact blk_lt hb
theorem aM.ge {w0 W : World} {g : Nat} {f0 : List Int} {f1 : Int} {f2 : Bool} (h : aM w0 W g f0 f1 f2) : w0.heap.size ≤ g := by
  obtain ⟨A0, c0, hb, hg, hr0⟩ := h
  exact hg
theorem aM.ne_blk {w0 W : World} {g : Nat} {f0 : List Int} {f1 : Int} {f2 : Bool} {a : Nat} {cs : Array Value} {t : TypeId} {fr : Nat × Nat} (h : aM w0 W g f0 f1 f2) (iV : W.heap[a]? = some (.cells cs t fr)) (ht : t ≠ 94) : g ≠ a := by
  obtain ⟨A0, c0, hb, hg, hr0⟩ := h
  rintro rfl
  rw [hb] at iV
  injection iV with iV
  injection iV with _ ht2
  exact ht ht2.symm
theorem aM.far {w0 W : World} {g : Nat} {f0 : List Int} {f1 : Int} {f2 : Bool} {p : Addr} (h : aM w0 W g f0 f1 f2) (hne : g ≠ p.block) (u : Value) : aM w0 (W.setCell p u) g f0 f1 f2 := by
  obtain ⟨A0, c0, hb, hg, hr0⟩ := h
  exact ⟨A0, c0, blk_far hb hne u, hg, hr0⟩
theorem aDb {W : World} {g : Nat} {A0 : Option Addr} {c0 : Nat} {f0 : List Int} {f1 : Int} {f2 : Bool} (h : W.heap[g]? = some (.cells #[.slice A0 f0.length c0, .int .i64 f1, .bool f2] 94 (0, 0))) : W.cell? ⟨g, 0, none⟩ = some (.slice A0 f0.length c0) := (blk_cell h 0).trans rfl
theorem aDc {W : World} {g : Nat} {A0 : Option Addr} {c0 : Nat} {f0 : List Int} {f1 : Int} {f2 : Bool} (h : W.heap[g]? = some (.cells #[.slice A0 f0.length c0, .int .i64 f1, .bool f2] 94 (0, 0))) : W.cell? ⟨g, 1, none⟩ = some (.int .i64 f1) := (blk_cell h 1).trans rfl
theorem aM.set_1 {w0 W : World} {g : Nat} {f0 : List Int} {f1 : Int} {f2 : Bool} (h : aM w0 W g f0 f1 f2) (x : Int) : aM w0 (W.setCell ⟨g, 1, none⟩ (.int .i64 x)) g f0 x f2 := by
  obtain ⟨A0, c0, hb, hg, hr0⟩ := h
  exact ⟨A0, c0, by simpa using blk_set hb 1 (.int .i64 x), hg, hr0⟩
theorem aDd {W : World} {g : Nat} {A0 : Option Addr} {c0 : Nat} {f0 : List Int} {f1 : Int} {f2 : Bool} (h : W.heap[g]? = some (.cells #[.slice A0 f0.length c0, .int .i64 f1, .bool f2] 94 (0, 0))) : W.cell? ⟨g, 2, none⟩ = some (.bool f2) := (blk_cell h 2).trans rfl
theorem aM.set_2 {w0 W : World} {g : Nat} {f0 : List Int} {f1 : Int} {f2 : Bool} (h : aM w0 W g f0 f1 f2) (x : Bool) : aM w0 (W.setCell ⟨g, 2, none⟩ (.bool x)) g f0 f1 x := by
  obtain ⟨A0, c0, hb, hg, hr0⟩ := h
  exact ⟨A0, c0, by simpa using blk_set hb 2 (.bool x), hg, hr0⟩
theorem aM.new (w0 W : World) (A0 : Option Addr) (c0 : Nat) (f0 : List Int) (f1 : Int) (f2 : Bool) (hB : Below w0.heap.size w0 W) (hr0 : (Kd.C (Kd.int .u8) w0 A0 f0.length f0 ∧ f0.length ≤ c0)) : aM w0 (W.alloc (.cells #[.slice A0 f0.length c0, .int .i64 f1, .bool f2] 94)) W.heap.size f0 f1 f2 := ⟨A0, c0, by simpa using heap_alloc_new W _, hB.size, hr0⟩
/-! a reader: its slice came in, and it is no longer than its block -/
def pp_reader.f (b : List Int) (at_ : Int) (ok : Bool) : Option (List Int × Int × Bool) := some (b, at_, ok)
def pp_and.f (a b : Bool) : Option Bool := some (a && b)
def pack_reader_take.f (bBj : List Int) (aN2 : Int) (cJa : Bool) (a1 : Int) : Option (List Int × Int × Bool) := if bBj.length ≤ 100000 then (if cJa = true then (if a1 > (wrap64 ((bBj.length : Int) - aN2)) then (some ([], aN2, false)) else (if 0 ≤ wrap64 ((wrap64 (aN2 + a1)) - a1) then (if wrap64 ((wrap64 (aN2 + a1)) - a1) ≤ wrap64 (aN2 + a1) then (if wrap64 (aN2 + a1) ≤ (bBj.length : Int) then (some ((bBj.take (wrap64 (aN2 + a1)).toNat).drop (wrap64 ((wrap64 (aN2 + a1)) - a1)).toNat, wrap64 (aN2 + a1), cJa)) else none) else none) else none)) else (some ([], aN2, false))) else none
abbrev pp_takeapp.f := pack_reader_take.f
set_option maxHeartbeats 8000000 in
set_option maxRecDepth 100000 in
theorem pack_reader_take.calls (g : Nat) (bBj : List Int) (aN2 : Int) (cJa : Bool) (a1 : Int) (r1 : List Int) (r2 : Int) (r3 : Bool) (w0 w : World) (hI : aM w0 w g bBj aN2 cJa) (hB : Below w0.heap.size w0 w) (h : pack_reader_take.f bBj aN2 cJa a1 = some (r1, r2, r3)) :
  Calls Try.prog 56 #[.pointer (some ⟨g, 0, none⟩), .int .i64 a1] w fun e w' => ∃ A c, e = .returned (.slice A r1.length c) ∧ r1.length ≤ c ∧ r1.length ≤ 100000 ∧ Kd.C (Kd.int .u8) w0 A r1.length r1 ∧ aM w0 w' g bBj r2 r3 ∧ Below w0.heap.size w0 w' ∧ KeepBut w w' g none := by
  have HI0 := aZ hI
  have HK := aZ (KeepBut.refl w g none)
  have HL := aZ hB.size
  clear hI
  have HW0 := aZ hB.size
  have HB := aZ hB
  clear hB
  unfold pack_reader_take.f at h
  by_cases cl : bBj.length ≤ 100000
  rotate_left
  · rw [if_neg cl] at h
    cases h
  rw [if_pos cl] at h
  have HCL := aZ cl
  clear cl
  have H := h
  clear h
  by_cases c3 : cJa = true
  rotate_left
  · replace c3 := Bool.eq_false_iff.mpr c3
    subst c3
    rw [if_neg (show ¬ (false = true) by decide)] at H
    simp only [Option.some.injEq, Prod.mk.injEq] at H
    obtain ⟨rfl, rfl, rfl⟩ := H
    obtain ⟨hXz, hX3, eAy, hX4, hX5⟩ := HI0.out
    have bD1 := aDb eAy
    have dJo := aDc eAy
    have fFc := aDd eAy
    have dJp := blk_frozen eAy 1
    have fFd := blk_frozen eAy 2
    clear eAy hX4
    go_enter Try.func56, Try.ntmps56
    go_wp2
    repeat (go_quiet (fail); try go_wp2)
    go_ret
    exact ⟨none, 0, rfl, Nat.le_refl _, by simp, Kd.C_nil _ _, by repeat (first | (with_reducible first | exact HI0.out | apply aM.alloc | apply aM.drewN | apply aM.drew | apply aM.set_1 | apply aM.set_2) | exact HI0.out), by repeat (first | (with_reducible first | exact HB.out | apply lA | apply lN | apply lD | refine lS ?_ (aM.ge HI0.out)) | exact HB.out), by repeat (first | (with_reducible first | exact HK.out | apply KeepBut.set_ | apply keep_drewN | apply keep_drew | apply keep_alloc) | exact HK.out)⟩
  subst c3
  rw [if_pos rfl] at H
  by_cases c4 : a1 > (wrap64 ((bBj.length : Int) - aN2))
  · rw [if_pos c4] at H
    have aJy : decide ((wrap64 ((bBj.length : Int) - aN2)) < a1) = true := decide_eq_true c4
    clear c4
    simp only [Option.some.injEq, Prod.mk.injEq] at H
    obtain ⟨rfl, rfl, rfl⟩ := H
    obtain ⟨hX6, hX7, eAz, hX8, hX9⟩ := HI0.out
    have dKs := aDb eAz
    have eM9 := aDc eAz
    have eNa := aDd eAz
    have eNb := blk_frozen eAz 1
    have eNc := blk_frozen eAz 2
    clear eAz hX8
    go_enter Try.func56, Try.ntmps56
    go_wp2
    repeat (go_quiet (fail); try go_wp2)
    go_ret
    exact ⟨none, 0, rfl, Nat.le_refl _, by simp, Kd.C_nil _ _, by repeat (first | (with_reducible first | exact HI0.out | apply aM.alloc | apply aM.drewN | apply aM.drew | apply aM.set_1 | apply aM.set_2) | exact HI0.out), by repeat (first | (with_reducible first | exact HB.out | apply lA | apply lN | apply lD | refine lS ?_ (aM.ge HI0.out)) | exact HB.out), by repeat (first | (with_reducible first | exact HK.out | apply KeepBut.set_ | apply keep_drewN | apply keep_drew | apply keep_alloc) | exact HK.out)⟩
  rw [if_neg c4] at H
  have aJy : decide ((wrap64 ((bBj.length : Int) - aN2)) < a1) = false := decide_eq_false c4
  clear c4
  by_cases p0 : 0 ≤ wrap64 ((wrap64 (aN2 + a1)) - a1)
  rotate_left
  · rw [if_neg p0] at H
    cases H
  rw [if_pos p0] at H
  by_cases p1 : wrap64 ((wrap64 (aN2 + a1)) - a1) ≤ wrap64 (aN2 + a1)
  rotate_left
  · rw [if_neg p1] at H
    cases H
  rw [if_pos p1] at H
  by_cases p2 : wrap64 (aN2 + a1) ≤ (bBj.length : Int)
  rotate_left
  · rw [if_neg p2] at H
    cases H
  rw [if_pos p2] at H
  simp only [Option.some.injEq, Prod.mk.injEq] at H
  obtain ⟨rfl, rfl, rfl⟩ := H
  obtain ⟨fTc, fTd, eA0, hYa, eN1⟩ := HI0.out
  obtain ⟨i038, dIa, _, dIb, _⟩ := info_parts aFk
  obtain ⟨A38, fSu, eNq, eNr⟩ := print_mid_of (P := Try.prog) (Value.int .u8) 0 26 5 .i64 .i64 Try.underlying26 dIa dIb fTc fTd bBj (wrap64 ((wrap64 (aN2 + a1)) - a1)) (wrap64 (aN2 + a1)) p0 p1 p2 eN1.2
  have gQo := aZ (Kd.C_of_reads (h1 := fun _ => rfl) (eNq _ (Kd.reads_of_C eN1.1)))
  have gQp := aZ eNr
  have HCM : ((bBj.take (wrap64 (aN2 + a1)).toNat).drop (wrap64 ((wrap64 (aN2 + a1)) - a1)).toNat).length ≤ 100000 := by
    have := HCL.out
    rw [List.length_drop, List.length_take]
    omega
  clear eNq eNr dIa dIb
  have eD6 := aDb eA0
  have hYb := aDc eA0
  have hYc := aDd eA0
  have hYe := blk_frozen eA0 1
  have hYf := blk_frozen eA0 2
  clear eA0 hYa p0 p1 p2
  generalize hms : ((bBj.take (wrap64 (aN2 + a1)).toNat).drop (wrap64 ((wrap64 (aN2 + a1)) - a1)).toNat) = ms at *
  go_enter Try.func56, Try.ntmps56
  go_wp2
  repeat (go_quiet (fail); try go_wp2)
  go_ret
  exact ⟨A38, _, rfl, gQp.out, HCM, gQo.out, by repeat (first | (with_reducible first | exact HI0.out | apply aM.alloc | apply aM.drewN | apply aM.drew | apply aM.set_1 | apply aM.set_2) | exact HI0.out), by repeat (first | (with_reducible first | exact HB.out | apply lA | apply lN | apply lD | refine lS ?_ (aM.ge HI0.out)) | exact HB.out), by repeat (first | (with_reducible first | exact HK.out | apply KeepBut.set_ | apply keep_drewN | apply keep_drew | apply keep_alloc) | exact HK.out)⟩
def pack_reader_big.l0 : Nat → Int → List Int → Int → Int → Option (Int)
  | 0, _, _, _, _ => none
  | k + 1, x5, x10, x11, x12 => if x12 < x11 then (if 0 ≤ x12 then (if x12 < (x10.length : Int) then (pack_reader_big.l0 k (Go.bits .or .i64 (wrap64 (x5 * 256)) (wrap64 (rd x10 x12))) x10 x11 (wrap64 (x12 + 1))) else (none)) else (none)) else (some x5)
def pack_reader_big.f (k : Nat) (bBj : List Int) (aN2 : Int) (cJa : Bool) (a1 : Int) : Option (Int × Int × Bool) := (pack_reader_take.f bBj aN2 cJa a1).bind fun t => (pack_reader_big.l0 k 0 t.1 (t.1.length : Int) 0).bind fun v => some (v, t.2.1, t.2.2)
theorem pack_reader_big.mono_l : ∀ k, (∀ y0 y1 y2 y3, LeO (pack_reader_big.l0 k y0 y1 y2 y3) (pack_reader_big.l0 (k + 1) y0 y1 y2 y3))
  | 0 => fun _ _ _ _ r h => by simp [pack_reader_big.l0] at h
  | k + 1 => by
    have mU := pack_reader_big.mono_l k
    · intro y0 y1 y2 y3
      unfold pack_reader_big.l0
      repeat' first | (with_reducible first | exact mU _ _ _ _ | exact LeO.refl _ | exact LeO.none _ | refine LeO.ite ?_ ?_) | exact mU _ _ _ _ | exact LeO.none _ | refine LeO.ite ?_ ?_
theorem pack_reader_big.mono : ∀ a0 a1 a2 a3 k, LeO (pack_reader_big.f k a0 a1 a2 a3) (pack_reader_big.f (k + 1) a0 a1 a2 a3) := by
  intro a0 a1 a2 a3 k
  have mU := pack_reader_big.mono_l k
  unfold pack_reader_big.f
  repeat' first
      | (with_reducible exact mU _ _ _ _)
      | (with_reducible exact LeO.refl _)
      | (with_reducible exact LeO.none _)
      | (with_reducible refine LeO.bind ?_ (fun _ => ?_))
set_option maxHeartbeats 8000000 in
set_option maxRecDepth 100000 in
theorem pack_reader_big.calls (k : Nat) (g : Nat) (bBj : List Int) (aN2 : Int) (cJa : Bool) (a1 : Int) (r1 : Int) (r2 : Int) (r3 : Bool) (w0 w : World) (hI : aM w0 w g bBj aN2 cJa) (hB : Below w0.heap.size w0 w) (h : pack_reader_big.f k bBj aN2 cJa a1 = some (r1, r2, r3)) :
  Calls Try.prog 55 #[.pointer (some ⟨g, 0, none⟩), .int .i64 a1] w fun e w' => e = .returned (.int .i64 r1) ∧ aM w0 w' g bBj r2 r3 ∧ Below w0.heap.size w0 w' ∧ KeepBut w w' g none := by
  unfold pack_reader_big.f at h
  obtain ⟨⟨l0, t2, t3⟩, ht, h⟩ := Option.bind_eq_some_iff.mp h
  obtain ⟨v, hl, h⟩ := Option.bind_eq_some_iff.mp h
  simp only [Option.some.injEq, Prod.mk.injEq] at h
  obtain ⟨rfl, rfl, rfl⟩ := h
  have HT := aZ ht
  have H' := aZ (show pack_reader_big.l0 k 0 l0 (l0.length : Int) 0 = some v from hl)
  have HI := aZ hI
  have HB := aZ hB
  clear ht hl hI hB
  go_enter Try.func55, Try.ntmps55
  go_wp2_with (go_at_call 56; (with_reducible refine (pack_reader_take.calls g bBj aN2 cJa a1 l0 t2 t3 w0 _ HI.out HB.out HT.out).mono ?_); rintro e w1 ⟨A0, c0, rfl, hc0, hm0, hr0, hi, hb, hk⟩; have HR0 := aZ (Kd.C_below hr0 hb); have HC0 := aZ hc0; have HI1 := aZ hi; have HB1 := aZ hb; have hYg := aZ hk; clear hr0 hc0 hi hb hk hm0 HI HB HT)
  go_loopg [5, 12] k (fun kq v5 v12 w' => ∃ (dC : Int) (bBk : Int), v5 = .int .i64 dC ∧ v12 = .int .i64 bBk ∧ Aside0 (pack_reader_big.l0 kq dC l0 (l0.length : Int) bBk = some v) ∧ Aside0 (kq ≤ k) ∧ Drawn0 w1 w')
  case atStart => exact ⟨(0), (0), xrs, xrs, H', ⟨Nat.le_refl _⟩, by repeat (first | exact Drawn0.refl _ | apply Drawn0.step)⟩
  case round =>
   clear H'
   obtain ⟨dC, bBk, rfl, rfl, HA, yS, ⟨m1, rfl⟩⟩ := hrel
   cases gk with
   | zero => exact absurd HA.out (by simp [pack_reader_big.l0])
   | succ k1 =>
    have H := HA.out
    clear HA
    simp only [pack_reader_big.l0] at H
    by_cases c3 : bBk < (l0.length : Int)
    rotate_left
    · rw [if_neg c3] at H
      have aNk : decide (bBk < (l0.length : Int)) = false := decide_eq_false c3
      clear c3
      obtain rfl := Option.some.inj H
      go_wp2
      go_ret
      exact ⟨by first | rfl | (simp; done) | (simp [*]; done), by repeat (first | exact HI1.out | apply aM.drewN | apply aM.drew), by repeat (first | exact HB1.out | apply lN | apply lD), by repeat (first | exact hYg.out | apply keep_drewN | apply keep_drew)⟩
    rw [if_pos c3] at H
    have aNk : decide (bBk < (l0.length : Int)) = true := decide_eq_true c3
    clear c3
    by_cases c4 : 0 ≤ bBk
    rotate_left
    · rw [if_neg c4] at H
      exact absurd H (by simp)
    rw [if_pos c4] at H
    have aJy : decide (0 ≤ bBk) = true := decide_eq_true c4
    clear c4
    by_cases c5 : bBk < (l0.length : Int)
    rotate_left
    · rw [if_neg c5] at H
      exact absurd H (by simp)
    rw [if_pos c5] at H
    have bAy : decide (bBk < (l0.length : Int)) = true := decide_eq_true c5
    clear c5
    have H' := aZ H
    clear H
    have fTe : 0 ≤ (bBk : Int) := of_decide_eq_true xas
    have fTf : bBk < (l0.length : Int) := of_decide_eq_true xas
    obtain ⟨iFg, hYi, hFi⟩ := Kd.at_int HR0.out bBk fTe fTf
    cases hYi
    replace fTe := eq_true fTe
    replace fTf := eq_true fTf
    go_wp2
    go_roundg k1
    case measure => have := yS.out; omega
    case rel => exact ⟨(Go.bits .or .i64 (wrap64 (dC * 256)) (wrap64 (rd l0 bBk))), (wrap64 (bBk + 1)), xrs, xrs, H', ⟨by have := yS.out; omega⟩, by repeat (first | exact Drawn0.refl _ | apply Drawn0.step)⟩

end Go.Proofs.Ytnmkmamobhkcbaa.P
