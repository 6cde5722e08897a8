/- What the Go functions of this seat compute, and that they do: printed by a program over the kit's print. -/
import Derived.Test.YtnmkmamobhkcbaaP0
import Derived.Test.YtnmkmamobhkcbaaP17
import Derived.Test.YtnmkmamobhkcbaaP20
namespace Go.Proofs.Ytnmkmamobhkcbaa.P
open Go.RowKit Go.Proofs.YtnmkmamobhkcbaaW.PrintWords Go.Proofs.YtnmkmamobhkcbaaW.PrintLast Go.Proofs.YtnmkmamobhkcbaaW.PrintMore
attribute [local go_sem] max2_int min2_int max_two min_two max_three min_three max_four min_four   -- for this text's walks alone
set_option linter.unusedVariables false
set_option linter.unusedSimpArgs false

/-! 'append([]byte(text), Wide(DigestOf([]byte(text)))...)': five operations, told as one call -/
def pp_fin.f (k : Nat) (s : ByteArray) : Option (List Int) := if s.size ≤ 140737488351232 then (changeforgeref3_DigestOf.f k (bytesOf s)).bind fun d => (changeforgeref3_Wide.f k d).bind fun x => if 0 < x.length ∧ s.size + x.length ≤ 140737488355328 then some (bytesOf s ++ x) else none else none
theorem pp_fin.mono : ∀ a0 k, LeO (pp_fin.f k a0) (pp_fin.f (k + 1) a0) := by
  intro a0 k
  unfold pp_fin.f
  repeat' first
      | (with_reducible exact changeforgeref3_DigestOf.mono _ _)
      | (with_reducible exact changeforgeref3_Wide.mono _ _)
      | (with_reducible exact LeO.refl _)
      | (with_reducible exact LeO.none _)
      | (with_reducible refine LeO.ite ?_ ?_)
      | (with_reducible refine LeO.bind ?_ (fun _ => ?_))
theorem pp_fin.split {k : Nat} {s : ByteArray} {r : List Int} (h : pp_fin.f k s = some r) : s.size ≤ 140737488351232 ∧ ∃ d x, changeforgeref3_DigestOf.f k (bytesOf s) = some d ∧ changeforgeref3_Wide.f k d = some x ∧ 0 < x.length ∧ s.size + x.length ≤ 140737488355328 ∧ Aside0 (r = bytesOf s ++ x) := by
  unfold pp_fin.f at h
  split at h
  next hs =>
    obtain ⟨d, h1, h⟩ := Option.bind_eq_some_iff.mp h
    obtain ⟨x, h2, h⟩ := Option.bind_eq_some_iff.mp h
    split at h
    next hx => exact ⟨hs, d, x, h1, h2, hx.1, hx.2, ⟨(Option.some.inj h).symm⟩⟩
    next => cases h
  next => cases h
/-- The row that a conversion of a string has made. -/
def FinB (g : Nat) (s : ByteArray) (cap : Nat) (w : World) : Prop := ∃ w0 : World, cap = grownCap w0 s.size 0 5 ∧ w.heap[g]? = some (.cells (Lib.bytesCells w0 5 s) 5 ((Lib.bytesCells w0 5 s).size, (Lib.bytesCells w0 5 s).size + 1))
theorem FinB.below {g : Nat} {s : ByteArray} {cap : Nat} {w w1 : World} (h : FinB g s cap w) (hb : Below w.heap.size w w1) : FinB g s cap w1 := by
  obtain ⟨w0, h1, h2⟩ := h
  exact ⟨w0, h1, (hb.block g (blk_lt h2)).trans h2⟩
theorem FinB.lt {g : Nat} {s : ByteArray} {cap : Nat} {w : World} (h : FinB g s cap w) : g < w.heap.size := by
  obtain ⟨w0, h1, h2⟩ := h
  exact blk_lt h2
theorem FinB.drawn {g : Nat} {s : ByteArray} {cap : Nat} {w w1 : World} (h : FinB g s cap w) (hb : Drawn0 w w1) : FinB g s cap w1 := by
  obtain ⟨n, rfl⟩ := hb.out
  exact h.below (lN (Below.refl _ _) n)
theorem FinB.size {g : Nat} {s : ByteArray} {cap : Nat} {w : World} (h : FinB g s cap w) : s.size ≤ cap := by
  obtain ⟨w0, h1, h2⟩ := h
  rw [h1]; exact grownCap_ge w0 s.size 0 _
theorem fin_cells (w : World) (s : ByteArray) : (Lib.bytesCells w 5 s).size = grownCap w s.size 0 5 := by
  have h1 := grownCap_ge w s.size 0 5
  have h2 : s.data.size = s.size := rfl
  simp [Lib.bytesCells, h2]
  omega
theorem FinB.cell {g : Nat} {s : ByteArray} {cap : Nat} {w : World} (h : FinB g s cap w) {j : Nat} (hj : j < cap) : (w.cell? ⟨g, j, none⟩).isSome = true ∧ w.frozen? ⟨g, j, none⟩ = false := by
  obtain ⟨w0, h1, h2⟩ := h
  have h3 := fin_cells w0 s
  have h4 : j < (Lib.bytesCells w0 5 s).size := by omega
  constructor
  · simp [World.cell?, h2, h4]
  · simp [World.frozen?, h2]
    omega
theorem FinB.bytes {g : Nat} {s : ByteArray} {cap : Nat} {w : World} (h : FinB g s cap w) {j : Nat} (hj : j < (bytesOf s).length) : w.cell? ⟨g, j, none⟩ = some (.int .u8 ((bytesOf s).getD j 0)) := by
  obtain ⟨w0, h1, h2⟩ := h
  have hl : (bytesOf s).length = s.size := bytesOf_length s
  have hr := bytes_reads w0 5 s
  have hb := Lib.bytesWorld_cell w0 5 s j (by omega)
  have hn := Lib.bytesWorld_at_new w0 5 s
  have : w.cell? ⟨g, j, none⟩ = (Lib.bytesWorld w0 5 s).cell? ⟨w0.heap.size, j, none⟩ := by
    simp only [World.cell?, h2, hn]
  rw [this, hb]
  congr 2
  have h5 : j < s.data.toList.length := by rw [data_length]; omega
  simp [bytesOf, List.getD_eq_getElem?_getD, List.getElem?_eq_getElem h5]
theorem FinB.C {g : Nat} {s : ByteArray} {cap : Nat} {w : World} (h : FinB g s cap w) (hs : s.size ≤ 140737488351232) : Kd.C (Kd.int .u8) w (some ⟨g, 0, none⟩) (bytesOf s).length (bytesOf s) := by
  have hl : (bytesOf s).length = s.size := bytesOf_length s
  refine Kd.C_of_reads (d := (0 : Int)) (h1 := fun _ => rfl) ⟨rfl, by omega, fun _ => ⟨_, rfl, fun j hj => ?_⟩⟩
  rw [add_plain]
  exact h.bytes hj
theorem fin_setCells {B g : Nat} (hg : B ≤ g) : ∀ (vs : List Value) (o : Nat) (w : World), Below B w (w.setCells g o vs)
  | [], _, w => Below.refl B w
  | v :: r, o, w => ((Below.refl B w).setCell (p := ⟨g, o, none⟩) hg v).trans (fin_setCells hg r (o + 1) _)
theorem fin_below {w a b c d e : World} (h1 : Below w.heap.size w a) (h2 : Below a.heap.size a b) (h3 : Drawn0 b c) (h4 : Below c.heap.size c d) (h5 : Below w.heap.size d e) : Below w.heap.size w e := by
  obtain ⟨n, rfl⟩ := h3.out
  have h3' : Below b.heap.size b (b.drewN n) := lN (Below.refl _ _) n
  have s1 := h1.size
  have s2 := h2.size
  have s3 := h3'.size
  have lo : ∀ {B : Nat} {x y : World}, B ≤ x.heap.size → Below x.heap.size x y → Below B x y := fun hB h => ⟨h.os, h.tape, h.output, h.size, fun k hk => h.block k (by omega)⟩
  exact (((h1.trans (lo s1 h2)).trans (lo (by omega) h3')).trans (lo (by omega) h4)).trans h5
section
variable {P : Program} {ops : Array Oper} {Q : Exit → Act → World → Prop} {rest : List Oper} {oi : Oper} {a : Act} {s : ByteArray} {u : TypeDesc} {w : World}
theorem finL_ (src dst : TypeId) (hs : P.underlying src = some u) (hd : P.underlying dst = some (.slice 5)) (he : P.underlying 5 = some (.int .u8)) (N : Option Tmp) (hN : oi.dst = N) (hg : oi.guard = none)
    (hcv : (execOp a.eval oi).run P w = ((convert src dst (.string s)).run P w).andThen fun v w' => .ok (.value v) w')
    (h : ∀ (g cap : Nat) (w' : World), Aside0 (g = w.heap.size) → FinB g s cap w' → Below w.heap.size w w' → wpList P ops Q rest (a.put N (.slice (some ⟨g, 0, none⟩) (bytesOf s).length cap)) w') : wpList P ops Q (oi :: rest) a w := by
  subst hN
  refine Kd.event_run hg (by rw [hcv, print_bytes src dst 5 hs hd he s w]; rfl) ?_
  have := h w.heap.size (grownCap w s.size 0 5) (Lib.bytesWorld w 5 s) ⟨rfl⟩ ⟨w, rfl, Lib.bytesWorld_at_new w 5 s⟩ (bytes_below (Below.refl _ w) (Nat.le_refl _) 5 s)
  rw [bytesOf_length s] at this
  exact this
theorem finA_ (hg : oi.guard = none) (x y : Operand) (t : TypeId) (hop : oi.op = Op.call { callee := Callee.builtin Builtin.append, args := #[x, y], argTypes := #[t, t] })
    (h1 : P.underlying t = some (.slice 5)) (hinfo : (P.info? 5).map (fun i => (i.zero, i.size, i.bytes)) = some (some (.int .u8 0), 1, 1))
    {N : Option Tmp} (hN : oi.dst = N) {g cap : Nat} {base : Nat} {ok : Nat → Prop} {v : Value} {xs : List Int} (hs : a.eval x = .slice (some ⟨g, 0, none⟩) (bytesOf s).length cap) (hx : a.eval y = v)
    (hF : FinB g s cap w) (hR : Kd.R (Kd.int .u8) 5 w base ok v xs) (hp : 0 < xs.length) (hsz : s.size + xs.length ≤ 140737488355328)
    (h : ∀ (v' : Value) (w' : World), Kd.V (Kd.int .u8) 5 w' g (fun k => g ≤ k) v' (bytesOf s ++ xs) → Below g w w' → wpList P ops Q rest (a.put N v') w') : wpList P ops Q (oi :: rest) a w := by
  subst hN
  obtain ⟨i, h2, hzz⟩ := Option.map_eq_some_iff.1 hinfo
  simp only [Prod.mk.injEq] at hzz
  obtain ⟨h3, h4, h5⟩ := hzz
  have hl : (bytesOf s).length = s.size := bytesOf_length s
  obtain ⟨g2, c2, rfl, hb2, hlt2, hrow⟩ := Kd.R_form hR hp
  have hC := (Kd.R_reads' hR).2.2
  have hle2 := (Kd.R_reads' hR).2.1
  have hnew : ∀ j p, (encs (Value.int .u8) xs)[j]? = some p → w.cell? ((⟨g2, 0, none⟩ : Addr).add j) = some p := by
    intro j p hj
    obtain ⟨hj', rfl⟩ := List.getElem?_eq_some_iff.1 hj
    have hj2 : j < xs.length := by simpa [encs] using hj'
    rw [add_plain]
    have := (Kd.R_celln (h1 := fun _ => rfl) (0 : Int) hR (j : Int) (by omega) (by omega)).1
    simpa [encs, rdOf, List.getD_eq_getElem?_getD, List.getElem?_eq_getElem hj2] using this
  refine wpList_append_arg w hg x y t hop 5 i _ 1 1 h1 h2 h3 h4 h5 (by rfl) (by decide) g 0 (bytesOf s).length cap (encs (Value.int .u8) (bytesOf s)) hs (by simp [encs]) (fun j p hj => ?_) ⟨g2, 0, none⟩ xs.length c2 (encs (Value.int .u8) xs) hx (by simp [encs]) hnew (fun p hp => by simp only [encs, List.mem_map] at hp; obtain ⟨q, _, rfl⟩ := hp; rfl) (fun hroom j hj => ?_) (by simp only [maxLen]; omega) (by omega) (fun hroom => ?_) (fun hgr v' w' ho hgb => ?_)
  · obtain ⟨hj', rfl⟩ := List.getElem?_eq_some_iff.1 hj
    have hj2 : j < (bytesOf s).length := by simpa [encs] using hj'
    rw [Nat.zero_add, hF.bytes hj2]
    simp [encs, List.getD_eq_getElem?_getD, List.getElem?_eq_getElem hj2]
  · have hj2 : j < xs.length := by simpa [encs] using hj
    exact hF.cell (by omega)
  · refine h _ _ ⟨some ⟨g, 0, none⟩, cap, by simp, by simp; omega, ?_⟩ (fin_setCells (Nat.le_refl _) _ _ _)
    have hin := fun j hj => World.cell?_setCells_in g (encs (Value.int .u8) xs) (0 + (bytesOf s).length * 1) w (fun j hj => by
      have hj2 : j < xs.length := by simpa [encs] using hj
      exact (hF.cell (j := 0 + (bytesOf s).length * 1 + j) (by omega)).1) j hj
    have hout := fun j (hj : j < (bytesOf s).length) => World.cell?_setCells_out g (encs (Value.int .u8) xs) (0 + (bytesOf s).length * 1) w ⟨g, j, none⟩ (fun _ _ => .inl (by show j < _; omega))
    have hgl : g < (w.setCells g (0 + (bytesOf s).length * 1) (encs (Value.int .u8) xs)).heap.size := Nat.lt_of_lt_of_le hF.lt (fin_setCells (Nat.le_refl _) _ _ _).size
    intro W' hW
    have hblk := hW g (Nat.le_refl _) hgl
    refine Kd.C_of_reads (d := (0 : Int)) (h1 := fun _ => rfl) ⟨rfl, by simp only [List.length_append]; omega, fun _ => ⟨_, rfl, fun j hj => ?_⟩⟩
    rw [add_plain, World.cell?_of_block (a := ⟨g, j, none⟩) hblk]
    by_cases hj1 : j < (bytesOf s).length
    · rw [hout j hj1, hF.bytes hj1]
      simp only [List.getD_eq_getElem?_getD, List.getElem?_append_left hj1]
    have hj2 : j - (bytesOf s).length < xs.length := by simp only [List.length_append] at hj; omega
    have := hin (j - (bytesOf s).length) (by simpa [encs] using hj2)
    rw [show 0 + (bytesOf s).length * 1 + (j - (bytesOf s).length) = j by omega] at this
    rw [this]
    simp [encs, List.getD_eq_getElem?_getD, List.getElem?_append_right (Nat.le_of_not_lt hj1), List.getElem?_eq_getElem hj2]
  · have hgs := hF.lt
    have hR' : (Kd.int .u8).R 5 w' w.heap.size (fun k => w.heap.size ≤ k) v' (bytesOf s ++ xs) := Kd.R_of_own (h1 := fun _ => rfl) (by simpa [encs] using ho) (fun k hk => own_base ho k hk)
    refine h _ _ (Kd.V_mono (Kd.R_V hR') (fun k hk => by have : w.heap.size ≤ k := hk; omega)) ⟨hgb.os, hgb.tape, hgb.output, hgb.size, fun k hk => hgb.block k (by omega) (by simp)⟩
end
/-! ### changeforgeref3_PackBytes: function 17 -/
mutual
def changeforgeref3_PackBytes.l0 : Nat → ByteArray → Int → List (S46) → Option (List Int)
  | 0, _, _, _ => none
  | k + 1, x3, x4, x244000 => if x4 < (x244000.length : Int) then (if 0 ≤ x4 then ((some (([((rd_T46 x244000 x4).f1.f0) % 256, ((((rd_T46 x244000 x4).f1.f1).length : Int)) % 256, (wrap64 ((((rd_T46 x244000 x4).f1.f2).length : Int) / 256)) % 256, (((rd_T46 x244000 x4).f1.f2).length : Int) % 256] : List Int) : List Int)).bind fun y252 => (if x3.size + (strOfNums y252).size ≤ 9223372036854775807 then (changeforgeref3_PackBytes.l1 k (x3 ++ (strOfNums y252)) x4 0 x244000 ((rd_T46 x244000 x4).f1.f0) ((rd_T46 x244000 x4).f1.f1) ((rd_T46 x244000 x4).f1.f2)) else (none))) else (none)) else ((pp_fin.f k x3).bind fun t247 => (some t247))
def changeforgeref3_PackBytes.l1 : Nat → ByteArray → Int → Int → List (S46) → Int → List Int → List Int → Option (List Int)
  | 0, _, _, _, _, _, _, _ => none
  | k + 1, x3, x4, x6, x244000, x252000, x252001, x252002 => if x6 < (x252001.length : Int) then (if 0 ≤ x6 then ((changeforgeref3_Wide.f k (rd x252001 x6)).bind fun t256 => (if x3.size + (strOfNums t256).size ≤ 9223372036854775807 then (changeforgeref3_PackBytes.l1 k (x3 ++ (strOfNums t256)) x4 (wrap64 (x6 + 1)) x244000 x252000 x252001 x252002) else (none))) else (none)) else (if x3.size + (strOfNums x252002).size ≤ 9223372036854775807 then (changeforgeref3_PackBytes.l0 k (x3 ++ (strOfNums x252002)) (wrap64 (x4 + 1)) x244000) else (none))
end
def changeforgeref3_PackBytes.f (k : Nat) (l0_0 : List (S46)) : Option (List Int) := (some (([((l0_0.length : Int)) % 256] : List Int) : List Int)).bind fun y244 => (if 2 + (strOfNums y244).size ≤ 9223372036854775807 then (changeforgeref3_PackBytes.l0 k ((⟨#[80, 75]⟩ : ByteArray) ++ (strOfNums y244)) 0 l0_0) else (none))
theorem changeforgeref3_PackBytes.mono_l : ∀ k, (∀ y0 y1 y2, LeO (changeforgeref3_PackBytes.l0 k y0 y1 y2) (changeforgeref3_PackBytes.l0 (k + 1) y0 y1 y2)) ∧ (∀ y0 y1 y2 y3 y4 y5 y6, LeO (changeforgeref3_PackBytes.l1 k y0 y1 y2 y3 y4 y5 y6) (changeforgeref3_PackBytes.l1 (k + 1) y0 y1 y2 y3 y4 y5 y6))
  | 0 => ⟨fun _ _ _ r h => by simp [changeforgeref3_PackBytes.l0] at h, fun _ _ _ _ _ _ _ r h => by simp [changeforgeref3_PackBytes.l1] at h⟩
  | k + 1 => by
    obtain ⟨ih0, ih1⟩ := changeforgeref3_PackBytes.mono_l k
    refine ⟨?_, ?_⟩
    · intro y0 y1 y2
      unfold changeforgeref3_PackBytes.l0
      repeat' first
      | (with_reducible exact ih0 _ _ _)
      | (with_reducible exact ih1 _ _ _ _ _ _ _)
      | (with_reducible exact changeforgeref3_Wide.mono _ _)
      | (with_reducible exact pp_fin.mono _ _)
      | (with_reducible exact LeO.refl _)
      | (with_reducible exact LeO.none _)
      | (with_reducible refine LeO.ite ?_ ?_)
      | (with_reducible refine LeO.bind ?_ (fun _ => ?_))
      | exact ih0 _ _ _
      | exact ih1 _ _ _ _ _ _ _
      | exact changeforgeref3_Wide.mono _ _
      | exact pp_fin.mono _ _
      | exact LeO.none _
      | refine LeO.ite ?_ ?_
      | refine LeO.bind ?_ (fun _ => ?_)
    · intro y0 y1 y2 y3 y4 y5 y6
      unfold changeforgeref3_PackBytes.l1
      repeat' first
      | (with_reducible exact ih0 _ _ _)
      | (with_reducible exact ih1 _ _ _ _ _ _ _)
      | (with_reducible exact changeforgeref3_Wide.mono _ _)
      | (with_reducible exact pp_fin.mono _ _)
      | (with_reducible exact LeO.refl _)
      | (with_reducible exact LeO.none _)
      | (with_reducible refine LeO.ite ?_ ?_)
      | (with_reducible refine LeO.bind ?_ (fun _ => ?_))
      | exact ih0 _ _ _
      | exact ih1 _ _ _ _ _ _ _
      | exact changeforgeref3_Wide.mono _ _
      | exact pp_fin.mono _ _
      | exact LeO.none _
      | refine LeO.ite ?_ ?_
      | refine LeO.bind ?_ (fun _ => ?_)
theorem changeforgeref3_PackBytes.mono : ∀ a0 k, LeO (changeforgeref3_PackBytes.f k a0) (changeforgeref3_PackBytes.f (k + 1) a0) := by
  intro a0 k
  obtain ⟨ih0, ih1⟩ := changeforgeref3_PackBytes.mono_l k
  unfold changeforgeref3_PackBytes.f
  repeat' first
      | (with_reducible exact ih0 _ _ _)
      | (with_reducible exact ih1 _ _ _ _ _ _ _)
      | (with_reducible exact changeforgeref3_Wide.mono _ _)
      | (with_reducible exact pp_fin.mono _ _)
      | (with_reducible exact LeO.refl _)
      | (with_reducible exact LeO.none _)
      | (with_reducible refine LeO.ite ?_ ?_)
      | (with_reducible refine LeO.bind ?_ (fun _ => ?_))
      | exact ih0 _ _ _
      | exact ih1 _ _ _ _ _ _ _
      | exact changeforgeref3_Wide.mono _ _
      | exact pp_fin.mono _ _
      | exact LeO.none _
      | refine LeO.ite ?_ ?_
      | refine LeO.bind ?_ (fun _ => ?_)
set_option maxHeartbeats 8000000 in
set_option maxRecDepth 100000 in
theorem changeforgeref3_PackBytes.calls (k : Nat) (A0_0 : Option Addr) (c0_0 : Nat) (l0_0 : List (S46)) (r : List Int) (w : World) (hr0_0 : Kd.C k46 w A0_0 l0_0.length l0_0) (hc0_0 : l0_0.length ≤ c0_0) (h : changeforgeref3_PackBytes.f k l0_0 = some r) :
  Calls Try.prog 17 #[.agg #[.slice A0_0 l0_0.length c0_0]] w fun e w' => ∃ v0_ : Value, e = .returned (v0_) ∧ Kd.V (Kd.int .u8) 5 w' w.heap.size (fun k_ => (w.heap.size ≤ k_)) v0_ r ∧ Below w.heap.size w w' := by
  have hu24 := Try.underlying24
  have hu44 := Try.underlying44
  have HR0_0 := aZ hr0_0
  have HC0_0 := aZ hc0_0
  clear hr0_0 hc0_0
  have HB := aZ (Below.refl w.heap.size w)
  have H : ((some (([((l0_0.length : Int)) % 256] : List Int) : List Int)).bind fun y244 => (if 2 + (strOfNums y244).size ≤ 9223372036854775807 then (changeforgeref3_PackBytes.l0 k ((⟨#[80, 75]⟩ : ByteArray) ++ (strOfNums y244)) 0 l0_0) else (none))) = some r := h
  clear h
  obtain ⟨y244, hy244⟩ : ∃ y_ : List Int, y_ = (([((l0_0.length : Int)) % 256] : List Int)) := ⟨_, rfl⟩
  replace H : (if 2 + (strOfNums y244).size ≤ 9223372036854775807 then (changeforgeref3_PackBytes.l0 k ((⟨#[80, 75]⟩ : ByteArray) ++ (strOfNums y244)) 0 l0_0) else (none)) = some r := by first | (rw [hy244]; with_reducible exact H) | (have H2_ := (Option.bind_some _ _).symm.trans H; rw [hy244]; with_reducible exact H2_) | (have H2_ := (Option.bind_some _ _).symm.trans H; with_reducible exact H2_) | with_reducible exact H | (rw [hy244]; exact H) | exact H
  have Ny244 := aZ hy244
  clear hy244
  by_cases c2 : 2 + (strOfNums y244).size ≤ 9223372036854775807
  rotate_left
  · rw [if_neg c2] at H
    exact absurd H (by simp)

  rw [if_pos c2] at H
  have c2b0 := eq_true c2
  have c2b1 : decide (2 + (strOfNums y244).size ≤ 9223372036854775807) = true := decide_eq_true c2
  try have c2b2 : (9223372036854775807 < 2 + (strOfNums y244).size) = False := eq_false (Nat.not_lt.2 c2)
  have H' := aZ H
  clear H
  go_enter Try.func17, Try.ntmps17
  go_wp2_with (first | ((with_reducible refine gate_dst (N := 1) rfl ?_); refine box_event ?hg (N := 1) ?hd (cs := #[.slice A0_0 l0_0.length c0_0]) (t := 24) ?hr ?_; (case hd => rfl); (case hg => rfl); (case hr => first | (go_simp; done) | (go_simp; rfl)); intro gb243 hg w3 hbox hb; have n0_ := aZ (lT (by repeat (first | (with_reducible first | exact HB.out | apply lA | apply lN | apply lD) | exact HB.out)) hb); have n1_ := aZ (hbox); have n2_ := aZ ((by rw [hg]; exact (lZ (by repeat (first | (with_reducible first | exact HB.out | apply lA | apply lN | apply lD) | exact HB.out))) : w.heap.size ≤ gb243)); have n3_ := aZ ((by rw [hg]; exact (lZ (by repeat (first | (with_reducible first | exact HB.out | apply lA | apply lN | apply lD) | exact HB.out))) : w.heap.size ≤ gb243)); clear HB; have HB := n0_; have BK243 := n1_; have GW243 := n2_; have GE243 := n3_; clear n0_ n1_ n2_ n3_; clear hb hbox hg; have hcz4_0 : w3.cell? ⟨gb243, 0, none⟩ = some (.slice A0_0 l0_0.length c0_0) := (blk_cell BK243.out 0).trans rfl; have hfz4_0 := blk_frozen BK243.out 0) | ((with_reducible refine gate_dst (N := 11) rfl ?_); refine Kd.R_lit (Kd.int .u8) _ 5 ?hg (N := 11) ?hd (xs := ([((l0_0.length : Int)) % 256] : List Int)) (inner := [.int .u8 (((l0_0.length : Int)) % 256)]) (ok := fun _ => True) (okp := fun _ => True) ?hr ?hp (fun _ hk => hk) trivial (Below.refl _ _) (Nat.le_refl _) (by simp) ?_; (case hd => rfl); (case hg => rfl); (case hr => first | (go_simp; done) | (go_simp; rfl)); (case hp => exact (Reps.one (show Kd.M (Kd.int .u8) _ _ _ (((l0_0.length : Int)) % 256) [.int .u8 (((l0_0.length : Int)) % 256)] from rfl) (Reps.none _ _))); intro v245 w5 ho6 hb hg_ hnew_; clear hg_ hnew_; (first | rw [← Ny244.out] at ho6 | (simp only [Int.reduceToNat] at ho6; rw [← Ny244.out] at ho6)); have n0_ := aZ (Kd.R_lower (Kd.R_newM (M := fun k_ => (w.heap.size ≤ k_)) ho6 (lZ (by repeat (first | (with_reducible first | exact HB.out | apply lA | apply lN | apply lD | refine lS ?_ GE243.out) | exact HB.out))) (fun k_ h_ => h_)) (lZ (by repeat (first | (with_reducible first | exact HB.out | apply lA | apply lN | apply lD | refine lS ?_ GE243.out) | exact HB.out)))); have n1_ := aZ (blk_below (g := gb243) (o := .cells #[.slice A0_0 l0_0.length c0_0] 24 (0, 0)) (by (with_reducible repeat (first | refine bN ?_ _ | refine bD ?_ | refine bA ?_ _)); exact BK243.out) hb); have n2_ := aZ (lT (by repeat (first | (with_reducible first | exact HB.out | apply lA | apply lN | apply lD | refine lS ?_ GE243.out) | exact HB.out)) hb); clear BK243; clear HB; have HO246 := n0_; have BK243 := n1_; have HB := n2_; clear n0_ n1_ n2_; clear hb ho6; have hcv7 := own_string (P := Try.prog) Try.underlying26 Try.underlying5 Try.underlying9 (Kd.own_of_R HO246.out)))
  go_loopg [3, 4] k (fun kq v3 v4 w' => ∃ (x3_1 : ByteArray) (x4_1 : Int), v3 = .string x3_1 ∧ v4 = .int .i64 x4_1 ∧ Aside0 (changeforgeref3_PackBytes.l0 kq x3_1 x4_1 l0_0 = some r) ∧ Aside0 (kq ≤ k) ∧ Aside0 (w'.heap[gb243]? = some (.cells #[(.slice A0_0 l0_0.length c0_0)] 24 (0, 0))) ∧ Aside0 (Below w.heap.size w w'))
  case atStart => exact ⟨((⟨#[80, 75]⟩ : ByteArray) ++ (strOfNums y244)), (0), (by first | rfl | (simp; done) | (simp [*]; done) | (simp [i64_w]; done)), (by first | rfl | (simp; done) | (simp [*]; done) | (simp [i64_w]; done)), H', ⟨Nat.le_refl _⟩, ⟨by (with_reducible repeat (first | refine bN ?_ _ | refine bD ?_ | refine bA ?_ _)); exact BK243.out⟩, ⟨by repeat (first | (with_reducible first | exact HB.out | apply lA | apply lN | apply lD | refine lS ?_ GE243.out) | exact HB.out)⟩⟩
  case round =>
   clear H'
   (try clear c2); (try clear c2b0); (try clear c2b1); (try clear c2b2); (try clear hcv7); (try clear hcz4_0); (try clear hfz4_0)
   obtain ⟨x3_1, x4_1, rfl, rfl, HA, HK1, BK243, HB⟩ := hrel
   cases gk with
   | zero => exact absurd HA.out (by simp [changeforgeref3_PackBytes.l0])
   | succ k1 =>
    have H := HA.out
    clear HA
    simp only [changeforgeref3_PackBytes.l0] at H
    by_cases c8 : x4_1 < (l0_0.length : Int)
    rotate_left
    · rw [if_neg c8] at H
      have c8b0 : decide (x4_1 < (l0_0.length : Int)) = false := decide_eq_false c8
      clear c8
      replace H := Option.bind_eq_some_iff.mp H
      obtain ⟨t247, A300, H⟩ := H
      replace H : (some t247) = some r := H
      have A30 := aZ A300
      clear A300
      obtain rfl := Option.some.inj H
      have hcz31_0 : wr.cell? ⟨gb243, 0, none⟩ = some (.slice A0_0 l0_0.length c0_0) := (blk_cell BK243.out 0).trans rfl
      have hfz31_0 := blk_frozen BK243.out 0
      obtain ⟨hsz_, d_, y_, hd_, hw_, hp_, hs_, hr_⟩ := pp_fin.split A30.out
      go_wp2_with (first | ((with_reducible refine gate_dst (N := 70) rfl ?_); refine finL_ 9 26 Try.underlying9 Try.underlying26 Try.underlying5 (s := x3_1) (some 70) rfl rfl ?hcv ?_; (case hcv => first | (go_simp; done) | (go_simp; rfl) | (unfold execOp; rfl)); intro gA_ cA_ wA_ eA_ fA_ bA_) | ((with_reducible refine gate_dst (N := 72) rfl ?_); refine finL_ 9 26 Try.underlying9 Try.underlying26 Try.underlying5 (s := x3_1) (some 72) rfl rfl ?hcv ?_; (case hcv => first | (go_simp; done) | (go_simp; rfl) | (unfold execOp; rfl)); intro gB_ cB_ wB_ eB_ fB_ bB_) | ((with_reducible refine gate_callee (f := 43) rfl ?_); refine goesL_ (some 73) rfl rfl Try.func43 (by kernel_rfl) rfl #[.slice (some ⟨gB_, 0, none⟩) (bytesOf x3_1).length cB_] rfl (by (try simp only [List.map_toArray, List.map_cons, List.map_nil]); first | done | rfl | (simp only [List.length_drop, List.length_take]; rfl)) ?_; (with_reducible refine (changeforgeref3_DigestOf.calls k1 _ _ (bytesOf x3_1) d_ _ ?sideA ?sideB hd_).mono ?_); (case sideA => exact FinB.C fB_ hsz_); (case sideB => exact (bytesOf_length _).symm ▸ FinB.size fB_); rintro e wC_ ⟨rfl, hC_⟩; refine ⟨_, rfl, ?_⟩) | ((with_reducible refine gate_callee (f := 42) rfl ?_); refine goesL_ (some 74) rfl rfl Try.func42 (by kernel_rfl) rfl #[.int .i64 d_] rfl (by (try simp only [List.map_toArray, List.map_cons, List.map_nil]); first | done | rfl | (simp only [List.length_drop, List.length_take]; rfl)) ?_; (with_reducible refine (changeforgeref3_Wide.calls k1 d_ y_ _ hw_).mono ?_); rintro e wD_ ⟨vD_, rfl, oD_, bD_⟩; refine ⟨_, rfl, ?_⟩) | ((with_reducible refine gate_builtin (b := .append) (xs := #[.tmp 70, .tmp 74]) rfl ?_); at_builtin; refine finA_ rfl (.tmp 70) (.tmp 74) 26 rfl Try.underlying26 info5 (N := some 75) rfl rfl rfl (((fA_.below bB_).drawn hC_).below bD_) oD_ hp_ hs_ ?_; intro v248 w32 ho0 hb; have eA0_ := eA_.out; clear eA_; subst eA0_; rw [← hr_.out] at ho0; replace hb := fin_below bA_ bB_ hC_ bD_ hb; clear fA_ bA_ fB_ eB_ bB_ hC_ bD_ oD_; have n0_ := aZ (Kd.V_lower (Kd.V_mono (ok' := fun k_ => (w.heap.size ≤ k_) ∧ k_ ≠ gb243) ho0 (fun k_ hk_ => ⟨(Nat.le_trans (lZ (by repeat (first | (with_reducible first | exact HB.out | apply lA | apply lN | apply lD | refine lS ?_ GE243.out) | exact HB.out))) hk_), (Kd.freshB (g := gb243) (o := .cells #[.slice A0_0 l0_0.length c0_0] 24 (0, 0)) (by (with_reducible repeat (first | refine bN ?_ _ | refine bD ?_ | refine bA ?_ _)); exact BK243.out) k_ hk_)⟩)) (lZ (by repeat (first | (with_reducible first | exact HB.out | apply lA | apply lN | apply lD | refine lS ?_ GE243.out) | exact HB.out)))); have n1_ := aZ (blk_below (g := gb243) (o := .cells #[.slice A0_0 l0_0.length c0_0] 24 (0, 0)) (by (with_reducible repeat (first | refine bN ?_ _ | refine bD ?_ | refine bA ?_ _)); exact BK243.out) hb); have n2_ := aZ (lT (by repeat (first | (with_reducible first | exact HB.out | apply lA | apply lN | apply lD | refine lS ?_ GE243.out) | exact HB.out)) hb); clear BK243; clear HB; have HO249 := n0_; have BK243 := n1_; have HB := n2_; clear n0_ n1_ n2_; (try clear hb); (try clear hb2); (try clear hk); (try clear hi); (try clear ho0)))
      go_ret
      exact ⟨_, by first | rfl | (simp [errW_none, errW_some] <;> rfl) | (simp [*, errW_none, errW_some] <;> rfl), by (with_reducible repeat (first | apply Kd.V_alloc | apply Kd.V_drewN | apply Kd.V_drew)); exact Kd.V_mono HO249.out (fun _ hk => hk.1), by repeat (first | (with_reducible first | exact HB.out | apply lA | apply lN | apply lD | refine lS ?_ GE243.out) | exact HB.out)⟩
    rw [if_pos c8] at H
    have c8b0 : decide (x4_1 < (l0_0.length : Int)) = true := decide_eq_true c8
    clear c8
    by_cases c9 : 0 ≤ x4_1
    rotate_left
    · rw [if_neg c9] at H
      exact absurd H (by simp)
    rw [if_pos c9] at H
    have c9b0 : decide (0 ≤ x4_1) = true := decide_eq_true c9
    clear c9
    obtain ⟨y252, hy252⟩ : ∃ y_ : List Int, y_ = (([((rd_T46 l0_0 x4_1).f1.f0) % 256, ((((rd_T46 l0_0 x4_1).f1.f1).length : Int)) % 256, (wrap64 ((((rd_T46 l0_0 x4_1).f1.f2).length : Int) / 256)) % 256, (((rd_T46 l0_0 x4_1).f1.f2).length : Int) % 256] : List Int)) := ⟨_, rfl⟩
    replace H : (if x3_1.size + (strOfNums y252).size ≤ 9223372036854775807 then (changeforgeref3_PackBytes.l1 k1 (x3_1 ++ (strOfNums y252)) x4_1 0 l0_0 ((rd_T46 l0_0 x4_1).f1.f0) ((rd_T46 l0_0 x4_1).f1.f1) ((rd_T46 l0_0 x4_1).f1.f2)) else (none)) = some r := by first | (rw [hy252]; with_reducible exact H) | (have H2_ := (Option.bind_some _ _).symm.trans H; rw [hy252]; with_reducible exact H2_) | (have H2_ := (Option.bind_some _ _).symm.trans H; with_reducible exact H2_) | with_reducible exact H | (rw [hy252]; exact H) | exact H
    have Ny252 := aZ hy252
    clear hy252
    by_cases c10 : x3_1.size + (strOfNums y252).size ≤ 9223372036854775807
    rotate_left
    · rw [if_neg c10] at H
      exact absurd H (by simp)
    rw [if_pos c10] at H
    have c10b0 := eq_true c10
    have c10b1 : decide (x3_1.size + (strOfNums y252).size ≤ 9223372036854775807) = true := decide_eq_true c10
    try have c10b2 : (9223372036854775807 < x3_1.size + (strOfNums y252).size) = False := eq_false (Nat.not_lt.2 c10)
    have H' := aZ H
    clear H
    have hcz11_0 : wr.cell? ⟨gb243, 0, none⟩ = some (.slice A0_0 l0_0.length c0_0) := (blk_cell BK243.out 0).trans rfl
    have hfz11_0 := blk_frozen BK243.out 0
    have p250 : 0 ≤ (x4_1 : Int) := of_decide_eq_true (by first | (with_reducible assumption) | assumption)
    have q250 : x4_1 < (l0_0.length : Int) := of_decide_eq_true (by first | (with_reducible assumption) | assumption)
    obtain ⟨ad250, A250_2, c250_2, A250_3, c250_3, e250, hx250_0, hx250_1, hx250_2, hx250_3, hl250_2, hi250_2, hl250_3, hi250_3⟩ := at_T46 HR0_0.out x4_1 p250 q250
    cases e250
    replace hx250_0 := (HB.out.cell (World.block_lt_of_cell? w _ hx250_0)).trans hx250_0
    replace hx250_1 := (HB.out.cell (World.block_lt_of_cell? w _ hx250_1)).trans hx250_1
    replace hx250_2 := (HB.out.cell (World.block_lt_of_cell? w _ hx250_2)).trans hx250_2
    replace hx250_3 := (HB.out.cell (World.block_lt_of_cell? w _ hx250_3)).trans hx250_3
    have HR250_2 := aZ hi250_2
    have HC250_2 := aZ hl250_2
    clear hi250_2 hl250_2
    have HR250_3 := aZ hi250_3
    have HC250_3 := aZ hl250_3
    clear hi250_3 hl250_3
    replace p250 := eq_true p250
    replace q250 := eq_true q250
    go_wp2_with (first | ((with_reducible refine gate_dst (N := 5) rfl ?_); refine box_event ?hg (N := 5) ?hd (cs := #[.int .i64 0, .slice none 0 0, .slice none 0 0]) (t := 44) ?hr ?_; (case hd => rfl); (case hg => rfl); (case hr => first | (go_simp; done) | (go_simp; rfl)); intro gb251 hg w12 hbox hb; have n0_ := aZ (blk_below (g := gb243) (o := .cells #[.slice (some ad250) l0_0.length c0_0] 24 (0, 0)) (by (with_reducible repeat (first | refine bN ?_ _ | refine bD ?_ | refine bA ?_ _)); exact BK243.out) hb); have n1_ := aZ (lT (by repeat (first | (with_reducible first | exact HB.out | apply lA | apply lN | apply lD | refine lS ?_ GE243.out) | exact HB.out)) hb); have n2_ := aZ (hbox); have n3_ := aZ ((by rw [hg]; exact (lZ (by repeat (first | (with_reducible first | exact HB.out | apply lA | apply lN | apply lD | refine lS ?_ GE243.out) | exact HB.out))) : w.heap.size ≤ gb251)); have n4_ := aZ ((by rw [hg]; exact (lZ (by repeat (first | (with_reducible first | exact HB.out | apply lA | apply lN | apply lD | refine lS ?_ GE243.out) | exact HB.out))) : w.heap.size ≤ gb251)); have n5_ := aZ ((by rw [hg]; exact Nat.ne_of_lt (blk_lt (g := gb243) (o := .cells #[.slice (some ad250) l0_0.length c0_0] 24 (0, 0)) (by (with_reducible repeat (first | refine bN ?_ _ | refine bD ?_ | refine bA ?_ _)); exact BK243.out)) : gb243 ≠ gb251)); have n6_ := aZ ((by rw [hg]; exact Nat.ne_of_gt (blk_lt (g := gb243) (o := .cells #[.slice (some ad250) l0_0.length c0_0] 24 (0, 0)) (by (with_reducible repeat (first | refine bN ?_ _ | refine bD ?_ | refine bA ?_ _)); exact BK243.out)) : gb251 ≠ gb243)); clear BK243; clear HB; have BK243 := n0_; have HB := n1_; have BK251 := n2_; have GW251 := n3_; have GE251 := n4_; have NB243_251 := n5_; have NB251_243 := n6_; clear n0_ n1_ n2_ n3_ n4_ n5_ n6_; clear hb hbox hg; have hnb13 := NB251_243.out; have hnc13 := NB243_251.out; have hcz14_0 : w12.cell? ⟨gb251, 0, none⟩ = some (.int .i64 0) := (blk_cell BK251.out 0).trans rfl; have hcz14_1 : w12.cell? ⟨gb251, 1, none⟩ = some (.slice none 0 0) := (blk_cell BK251.out 1).trans rfl; have hcz14_2 : w12.cell? ⟨gb251, 2, none⟩ = some (.slice none 0 0) := (blk_cell BK251.out 2).trans rfl; have hfz14_0 := blk_frozen BK251.out 0; have hfz14_1 := blk_frozen BK251.out 1; have hfz14_2 := blk_frozen BK251.out 2) | ((with_reducible refine gate_dst (N := 45) rfl ?_); refine Kd.R_lit (Kd.int .u8) _ 5 ?hg (N := 45) ?hd (xs := ([((rd_T46 l0_0 x4_1).f1.f0) % 256, ((((rd_T46 l0_0 x4_1).f1.f1).length : Int)) % 256, (wrap64 ((((rd_T46 l0_0 x4_1).f1.f2).length : Int) / 256)) % 256, (((rd_T46 l0_0 x4_1).f1.f2).length : Int) % 256] : List Int)) (inner := [.int .u8 (((rd_T46 l0_0 x4_1).f1.f0) % 256), .int .u8 (((((rd_T46 l0_0 x4_1).f1.f1).length : Int)) % 256), .int .u8 ((wrap64 ((((rd_T46 l0_0 x4_1).f1.f2).length : Int) / 256)) % 256), .int .u8 ((((rd_T46 l0_0 x4_1).f1.f2).length : Int) % 256)]) (ok := fun _ => True) (okp := fun _ => True) ?hr ?hp (fun _ hk => hk) trivial (Below.refl _ _) (Nat.le_refl _) (by simp) ?_; (case hd => rfl); (case hg => rfl); (case hr => first | (go_simp; done) | (go_simp; rfl)); (case hp => exact (Reps.one (show Kd.M (Kd.int .u8) _ _ _ (((rd_T46 l0_0 x4_1).f1.f0) % 256) [.int .u8 (((rd_T46 l0_0 x4_1).f1.f0) % 256)] from rfl) (Reps.one (show Kd.M (Kd.int .u8) _ _ _ (((((rd_T46 l0_0 x4_1).f1.f1).length : Int)) % 256) [.int .u8 (((((rd_T46 l0_0 x4_1).f1.f1).length : Int)) % 256)] from rfl) (Reps.one (show Kd.M (Kd.int .u8) _ _ _ ((wrap64 ((((rd_T46 l0_0 x4_1).f1.f2).length : Int) / 256)) % 256) [.int .u8 ((wrap64 ((((rd_T46 l0_0 x4_1).f1.f2).length : Int) / 256)) % 256)] from rfl) (Reps.one (show Kd.M (Kd.int .u8) _ _ _ ((((rd_T46 l0_0 x4_1).f1.f2).length : Int) % 256) [.int .u8 ((((rd_T46 l0_0 x4_1).f1.f2).length : Int) % 256)] from rfl) (Reps.none _ _)))))); intro v253 w15 ho16 hb hg_ hnew_; clear hg_ hnew_; (first | rw [← Ny252.out] at ho16 | (simp only [Int.reduceToNat] at ho16; rw [← Ny252.out] at ho16)); have n0_ := aZ (Kd.R_lower (Kd.R_newM (M := fun k_ => (w.heap.size ≤ k_)) ho16 (lZ (by repeat (first | (with_reducible first | exact HB.out | apply lA | apply lN | apply lD | refine lS ?_ GE243.out | refine lS ?_ GE251.out) | exact HB.out))) (fun k_ h_ => h_)) (lZ (by repeat (first | (with_reducible first | exact HB.out | apply lA | apply lN | apply lD | refine lS ?_ GE243.out | refine lS ?_ GE251.out) | exact HB.out)))); have n1_ := aZ (blk_below (g := gb243) (o := .cells #[.slice (some ad250) l0_0.length c0_0] 24 (0, 0)) (by (with_reducible repeat (first | refine bN ?_ _ | refine bD ?_ | refine bA ?_ _)); refine blk_far ?_ NB243_251.out _; (with_reducible repeat (first | refine bN ?_ _ | refine bD ?_ | refine bA ?_ _)); refine blk_far ?_ NB243_251.out _; (with_reducible repeat (first | refine bN ?_ _ | refine bD ?_ | refine bA ?_ _)); refine blk_far ?_ NB243_251.out _; (with_reducible repeat (first | refine bN ?_ _ | refine bD ?_ | refine bA ?_ _)); exact BK243.out) hb); have n2_ := aZ (blk_below (g := gb251) (o := .cells #[.int .i64 ((rd_T46 l0_0 x4_1).f1.f0), .slice A250_2 ((rd_T46 l0_0 x4_1).f1.f1).length c250_2, .slice A250_3 ((rd_T46 l0_0 x4_1).f1.f2).length c250_3] 44 (0, 0)) (by (with_reducible repeat (first | refine bN ?_ _ | refine bD ?_ | refine bA ?_ _)); refine blk_put (cs := #[.int .i64 ((rd_T46 l0_0 x4_1).f1.f0), .slice A250_2 ((rd_T46 l0_0 x4_1).f1.f1).length c250_2, .slice none 0 0]) ?_ 2 _ rfl; (with_reducible repeat (first | refine bN ?_ _ | refine bD ?_ | refine bA ?_ _)); refine blk_put (cs := #[.int .i64 ((rd_T46 l0_0 x4_1).f1.f0), .slice none 0 0, .slice none 0 0]) ?_ 1 _ rfl; (with_reducible repeat (first | refine bN ?_ _ | refine bD ?_ | refine bA ?_ _)); refine blk_put (cs := #[.int .i64 0, .slice none 0 0, .slice none 0 0]) ?_ 0 _ rfl; (with_reducible repeat (first | refine bN ?_ _ | refine bD ?_ | refine bA ?_ _)); exact BK251.out) hb); have n3_ := aZ (lT (by repeat (first | (with_reducible first | exact HB.out | apply lA | apply lN | apply lD | refine lS ?_ GE243.out | refine lS ?_ GE251.out) | exact HB.out)) hb); clear BK243; clear BK251; clear HB; have HO254 := n0_; have BK243 := n1_; have BK251 := n2_; have HB := n3_; clear n0_ n1_ n2_ n3_; clear hb ho16; have hcv17 := own_string (P := Try.prog) Try.underlying26 Try.underlying5 Try.underlying9 (Kd.own_of_R HO254.out)))
    go_loopg [3, 6] k1 (fun kq v3 v6 w' => ∃ (x3_2 : ByteArray) (x6_2 : Int), v3 = .string x3_2 ∧ v6 = .int .i64 x6_2 ∧ Aside0 (changeforgeref3_PackBytes.l1 kq x3_2 x4_1 x6_2 l0_0 ((rd_T46 l0_0 x4_1).f1.f0) ((rd_T46 l0_0 x4_1).f1.f1) ((rd_T46 l0_0 x4_1).f1.f2) = some r) ∧ Aside0 (kq ≤ k1) ∧ Aside0 (w'.heap[gb243]? = some (.cells #[(.slice (some ad250) l0_0.length c0_0)] 24 (0, 0))) ∧ Aside0 (w'.heap[gb251]? = some (.cells #[.int .i64 ((rd_T46 l0_0 x4_1).f1.f0), (.slice A250_2 ((rd_T46 l0_0 x4_1).f1.f1).length c250_2), (.slice A250_3 ((rd_T46 l0_0 x4_1).f1.f2).length c250_3)] 44 (0, 0))) ∧ Aside0 (Below w.heap.size w w'))
    case atStart => exact ⟨(x3_1 ++ (strOfNums y252)), (0), (by first | rfl | (simp; done) | (simp [*]; done) | (simp [i64_w]; done)), (by first | rfl | (simp; done) | (simp [*]; done) | (simp [i64_w]; done)), H', ⟨Nat.le_refl _⟩, ⟨by (with_reducible repeat (first | refine bN ?_ _ | refine bD ?_ | refine bA ?_ _)); exact BK243.out⟩, ⟨by (with_reducible repeat (first | refine bN ?_ _ | refine bD ?_ | refine bA ?_ _)); exact BK251.out⟩, ⟨by repeat (first | (with_reducible first | exact HB.out | apply lA | apply lN | apply lD | refine lS ?_ GE243.out | refine lS ?_ GE251.out) | exact HB.out)⟩⟩
    case round =>
     clear H'
     (try clear c8); (try clear c8b0); (try clear c9); (try clear c9b0); (try clear c10); (try clear c10b0); (try clear c10b1); (try clear c10b2); (try clear hcv17); (try clear hcz11_0); (try clear hcz14_0); (try clear hcz14_1); (try clear hcz14_2); (try clear hfz11_0); (try clear hfz14_0); (try clear hfz14_1); (try clear hfz14_2); (try clear hx250_0); (try clear hx250_1); (try clear hx250_2); (try clear hx250_3); (try clear p250); (try clear q250)
     obtain ⟨x3_2, x6_2, rfl, rfl, HA, HK2, BK243, BK251, HB⟩ := hrel
     cases gk with
     | zero => exact absurd HA.out (by simp [changeforgeref3_PackBytes.l1])
     | succ k2 =>
      have H := HA.out
      clear HA
      simp only [changeforgeref3_PackBytes.l1] at H
      by_cases c18 : x6_2 < (((rd_T46 l0_0 x4_1).f1.f1).length : Int)
      rotate_left
      · rw [if_neg c18] at H
        have c18b0 : decide (x6_2 < (((rd_T46 l0_0 x4_1).f1.f1).length : Int)) = false := decide_eq_false c18
        clear c18
        by_cases c26 : x3_2.size + (strOfNums ((rd_T46 l0_0 x4_1).f1.f2)).size ≤ 9223372036854775807
        rotate_left
        · rw [if_neg c26] at H
          exact absurd H (by simp)
        rw [if_pos c26] at H
        have c26b0 := eq_true c26
        have c26b1 : decide (x3_2.size + (strOfNums ((rd_T46 l0_0 x4_1).f1.f2)).size ≤ 9223372036854775807) = true := decide_eq_true c26
        try have c26b2 : (9223372036854775807 < x3_2.size + (strOfNums ((rd_T46 l0_0 x4_1).f1.f2)).size) = False := eq_false (Nat.not_lt.2 c26)
        have H' := aZ H
        clear H
        have hnb27 := NB251_243.out
        have hnc27 := NB243_251.out
        have hcz28_0 : wr.cell? ⟨gb251, 0, none⟩ = some (.int .i64 ((rd_T46 l0_0 x4_1).f1.f0)) := (blk_cell BK251.out 0).trans rfl
        have hcz28_1 : wr.cell? ⟨gb251, 1, none⟩ = some (.slice A250_2 ((rd_T46 l0_0 x4_1).f1.f1).length c250_2) := (blk_cell BK251.out 1).trans rfl
        have hcz28_2 : wr.cell? ⟨gb251, 2, none⟩ = some (.slice A250_3 ((rd_T46 l0_0 x4_1).f1.f2).length c250_3) := (blk_cell BK251.out 2).trans rfl
        have hfz28_0 := blk_frozen BK251.out 0
        have hfz28_1 := blk_frozen BK251.out 1
        have hfz28_2 := blk_frozen BK251.out 2
        have hcv29 := Kd.C_string (P := Try.prog) (A := A250_3) (c := c250_3) Try.underlying26 Try.underlying5 Try.underlying9 (Kd.C_below HR250_3.out HB.out)
        go_wp2
        go_roundg k2
        case measure => have := HK1.out; have := HK2.out; omega
        case rel => exact ⟨(x3_2 ++ (strOfNums ((rd_T46 l0_0 x4_1).f1.f2))), (wrap64 (x4_1 + 1)), (by first | rfl | (simp; done) | (simp [*]; done) | (simp [i64_w]; done)), (by first | rfl | (simp; done) | (simp [*]; done) | (simp [i64_w]; done)), H', ⟨by have := HK1.out; have := HK2.out; omega⟩, ⟨by (with_reducible repeat (first | refine bN ?_ _ | refine bD ?_ | refine bA ?_ _)); exact BK243.out⟩, ⟨by repeat (first | (with_reducible first | exact HB.out | apply lA | apply lN | apply lD | refine lS ?_ GE243.out | refine lS ?_ GE251.out) | exact HB.out)⟩⟩
      rw [if_pos c18] at H
      have c18b0 : decide (x6_2 < (((rd_T46 l0_0 x4_1).f1.f1).length : Int)) = true := decide_eq_true c18
      clear c18
      by_cases c19 : 0 ≤ x6_2
      rotate_left
      · rw [if_neg c19] at H
        exact absurd H (by simp)
      rw [if_pos c19] at H
      have c19b0 : decide (0 ≤ x6_2) = true := decide_eq_true c19
      clear c19
      replace H := Option.bind_eq_some_iff.mp H
      obtain ⟨t256, A200, H⟩ := H
      replace H : (if x3_2.size + (strOfNums t256).size ≤ 9223372036854775807 then (changeforgeref3_PackBytes.l1 k2 (x3_2 ++ (strOfNums t256)) x4_1 (wrap64 (x6_2 + 1)) l0_0 ((rd_T46 l0_0 x4_1).f1.f0) ((rd_T46 l0_0 x4_1).f1.f1) ((rd_T46 l0_0 x4_1).f1.f2)) else (none)) = some r := H
      have A20 := aZ A200
      clear A200
      by_cases c21 : x3_2.size + (strOfNums t256).size ≤ 9223372036854775807
      rotate_left
      · rw [if_neg c21] at H
        exact absurd H (by simp)
      rw [if_pos c21] at H
      have c21b0 := eq_true c21
      have c21b1 : decide (x3_2.size + (strOfNums t256).size ≤ 9223372036854775807) = true := decide_eq_true c21
      try have c21b2 : (9223372036854775807 < x3_2.size + (strOfNums t256).size) = False := eq_false (Nat.not_lt.2 c21)
      have H' := aZ H
      clear H
      have hnb22 := NB251_243.out
      have hnc22 := NB243_251.out
      have hcz23_0 : wr.cell? ⟨gb251, 0, none⟩ = some (.int .i64 ((rd_T46 l0_0 x4_1).f1.f0)) := (blk_cell BK251.out 0).trans rfl
      have hcz23_1 : wr.cell? ⟨gb251, 1, none⟩ = some (.slice A250_2 ((rd_T46 l0_0 x4_1).f1.f1).length c250_2) := (blk_cell BK251.out 1).trans rfl
      have hcz23_2 : wr.cell? ⟨gb251, 2, none⟩ = some (.slice A250_3 ((rd_T46 l0_0 x4_1).f1.f2).length c250_3) := (blk_cell BK251.out 2).trans rfl
      have hfz23_0 := blk_frozen BK251.out 0
      have hfz23_1 := blk_frozen BK251.out 1
      have hfz23_2 := blk_frozen BK251.out 2
      have p255 : 0 ≤ (x6_2 : Int) := of_decide_eq_true (by first | (with_reducible assumption) | assumption)
      have q255 : x6_2 < (((rd_T46 l0_0 x4_1).f1.f1).length : Int) := of_decide_eq_true (by first | (with_reducible assumption) | assumption)
      obtain ⟨ad255, e255, hx255_0⟩ := Kd.at_int HR250_2.out x6_2 p255 q255
      cases e255
      replace hx255_0 := (HB.out.cell (World.block_lt_of_cell? w _ hx255_0)).trans hx255_0
      replace p255 := eq_true p255
      replace q255 := eq_true q255
      go_wp2_with (first | ((with_reducible refine gate_callee (f := 42) rfl ?_); refine goesL_ (some 61) rfl rfl Try.func42 (by kernel_rfl) rfl #[.int .i64 (rd ((rd_T46 l0_0 x4_1).f1.f1) x6_2)] rfl (by (try simp only [List.map_toArray, List.map_cons, List.map_nil]); first | done | rfl | (simp only [List.length_drop, List.length_take]; rfl)) ?_; (with_reducible refine (changeforgeref3_Wide.calls k2 (rd ((rd_T46 l0_0 x4_1).f1.f1) x6_2) t256 _ A20.out).mono ?_); rintro e w24 ⟨v257, rfl, ho0, hb⟩; refine ⟨_, rfl, ?_⟩; have n0_ := aZ (Kd.R_lower (Kd.R_newM (M := fun k_ => (w.heap.size ≤ k_)) ho0 (lZ (by repeat (first | (with_reducible first | exact HB.out | apply lA | apply lN | apply lD | refine lS ?_ GE243.out | refine lS ?_ GE251.out) | exact HB.out))) (fun k_ h_ => h_)) (lZ (by repeat (first | (with_reducible first | exact HB.out | apply lA | apply lN | apply lD | refine lS ?_ GE243.out | refine lS ?_ GE251.out) | exact HB.out)))); have n1_ := aZ (blk_below (g := gb243) (o := .cells #[.slice (some ad250) l0_0.length c0_0] 24 (0, 0)) (by (with_reducible repeat (first | refine bN ?_ _ | refine bD ?_ | refine bA ?_ _)); exact BK243.out) hb); have n2_ := aZ (blk_below (g := gb251) (o := .cells #[.int .i64 ((rd_T46 l0_0 x4_1).f1.f0), .slice (some ad255) ((rd_T46 l0_0 x4_1).f1.f1).length c250_2, .slice A250_3 ((rd_T46 l0_0 x4_1).f1.f2).length c250_3] 44 (0, 0)) (by (with_reducible repeat (first | refine bN ?_ _ | refine bD ?_ | refine bA ?_ _)); exact BK251.out) hb); have n3_ := aZ (lT (by repeat (first | (with_reducible first | exact HB.out | apply lA | apply lN | apply lD | refine lS ?_ GE243.out | refine lS ?_ GE251.out) | exact HB.out)) hb); clear BK243; clear BK251; clear HB; have HO258 := n0_; have BK243 := n1_; have BK251 := n2_; have HB := n3_; clear n0_ n1_ n2_ n3_; (try clear hb); (try clear hb2); (try clear hk); (try clear hi); (try clear ho0); have hcv25 := own_string (P := Try.prog) Try.underlying26 Try.underlying5 Try.underlying9 (Kd.own_of_R HO258.out)))
      go_roundg k2
      case measure => have := HK1.out; have := HK2.out; omega
      case rel => exact ⟨(x3_2 ++ (strOfNums t256)), (wrap64 (x6_2 + 1)), (by first | rfl | (simp; done) | (simp [*]; done) | (simp [i64_w]; done)), (by first | rfl | (simp; done) | (simp [*]; done) | (simp [i64_w]; done)), H', ⟨by have := HK1.out; have := HK2.out; omega⟩, ⟨by (with_reducible repeat (first | refine bN ?_ _ | refine bD ?_ | refine bA ?_ _)); exact BK243.out⟩, ⟨by (with_reducible repeat (first | refine bN ?_ _ | refine bD ?_ | refine bA ?_ _)); exact BK251.out⟩, ⟨by repeat (first | (with_reducible first | exact HB.out | apply lA | apply lN | apply lD | refine lS ?_ GE243.out | refine lS ?_ GE251.out) | exact HB.out)⟩⟩
end Go.Proofs.Ytnmkmamobhkcbaa.P
