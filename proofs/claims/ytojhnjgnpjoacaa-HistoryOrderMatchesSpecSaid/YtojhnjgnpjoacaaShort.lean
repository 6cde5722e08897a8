/- Short names for words that the printed texts use often. -/
import Derived.Test.YtojhnjgnpjoacaaWWords
import Derived.Test.YtojhnjgnpjoacaaWTab
import Derived.Test.YtojhnjgnpjoacaaWRepsOne
import Derived.Lib.SlBytesConst
import Derived.Lib.SliceRun
namespace Go.Proofs.YtojhnjgnpjoacaaW.PrintWords
open Go.RowKit
theorem bA {w : World} {g : Nat} {o : Obj} (h : w.heap[g]? = some o) (o' : Obj) : (w.alloc o').heap[g]? = some o := blk_alloc h o'
theorem bD {w : World} {g : Nat} {o : Obj} (h : w.heap[g]? = some o) : w.drew.heap[g]? = some o := h
theorem bN {w : World} {g : Nat} {o : Obj} (h : w.heap[g]? = some o) (n : Nat) : (w.drewN n).heap[g]? = some o := h
theorem lA {w W : World} (h : Below w.heap.size w W) (o : Obj) : Below w.heap.size w (W.alloc o) := below_alloc h o
theorem lN {B : Nat} {w W : World} (h : Below B w W) (n : Nat) : Below B w (W.drewN n) := pw_below_drewN h n
theorem lD {base : Nat} {w W : World} (h : Below base w W) : Below base w W.drew := below_drew1 h
theorem aZ {p : Prop} (h : p) : Aside0 p := ⟨h⟩
theorem lS {w W : World} {g j : Nat} {v : Value} (h : Below w.heap.size w W) (hg : w.heap.size ≤ g) : Below w.heap.size w (W.setCell ⟨g, j, none⟩ v) := below_set h hg
theorem lT {w W w2 : World} (h : Below w.heap.size w W) (k : Below W.heap.size W w2) : Below w.heap.size w w2 := below_step h k
theorem lZ {w W : World} (h : Below w.heap.size w W) : w.heap.size ≤ W.heap.size := below_size h
namespace Kd
variable {α : Type} {d : Kd α} {e : Nat} {w : World} {base : Nat} {ok : Nat → Prop} {v : Value} {xs : List α}
theorem rA (h : d.R e w base ok v xs) (o : Obj) : d.R e (w.alloc o) base ok v xs := R_alloc h o
theorem rD (h : d.R e w base ok v xs) : d.R e w.drew base ok v xs := R_drew h
theorem rN (h : d.R e w base ok v xs) (m : Nat) : d.R e (w.drewN m) base ok v xs := R_drewN h m
end Kd
section
variable {P : Program} {ops : Array Oper} {Q : Exit → Act → World → Prop} {rest : List Oper} {o : Oper} {a : Act}
/-- A literal of rows whose elements are only read. -/
theorem Kd.lit_read {α : Type} (d : Kd α) {W : World} (e : Nat) (hgd : o.guard = none) {N : Tmp} (_hd : o.dst = some N) {xs ys : List α} {inner : List Value} (hy : ys = xs)
    (hrun : (execOp a.eval o).run P W = .ok (.value (.slice (some ⟨W.heap.size, 0, none⟩) xs.length xs.length)) (W.alloc (.cells inner.toArray e)))
    (hrep : Reps (d.K W) d.sz xs inner) (hm : xs.length ≤ 9223372036854775807)
    (h : ∀ A1 w1, d.C w1 A1 ys.length ys → Below W.heap.size W w1 → wpList P ops Q rest (a.put o.dst (.slice A1 ys.length ys.length)) w1) : wpList P ops Q (o :: rest) a W := by
  subst hy
  have hb : Below W.heap.size W (W.alloc (.cells inner.toArray e)) := below_alloc (Below.refl _ _) _
  refine event_run hgd hrun (h _ _ ?_ hb)
  have h2 := World.ownsRow_lit (base := W.heap.size) (e := e) (size := d.sz) W inner.toArray ys.length (Nat.le_refl _) (by simpa [maxLen] using hm) (by simpa using hrep.1)
  obtain ⟨A, c, he, hr⟩ := own_reads_row (R := d.K (W.alloc (.cells inner.toArray e))) h2 (by simpa using hrep.imp_ (fun p c hp => d.K_below hb hp)) rfl
  injection he with ha _ hc
  subst ha
  exact hr
/-- Whole numbers, each in a cell of its own. -/
theorem Kd.reps_int (k : IntKind) (w : World) (xs : List Int) : Reps (Kd.K (Kd.int k) w) 1 xs (xs.map (Value.int k)) := by
  induction xs with
  | nil => exact Reps.none _ _
  | cons x xs ih => exact Reps.one (show Kd.K (Kd.int k) w x [.int k x] from rfl) ih
/-- '[]byte("..")' of a constant that is only read: the literal, and its conversion to its own type. -/
theorem Kd.lit_const {α : Type} (d : Kd α) {W : World} (e t : Nat) {o2 : Oper} (hgd : o.guard = none) {N : Tmp} (_hd : o.dst = some N) (hgd2 : o2.guard = none) {xs ys : List α} {inner : List Value} (hy : ys = xs) (ht : P.underlying t = some (.slice e)) (he : P.underlying e = some (.int .u8))
    (hrun : (execOp a.eval o).run P W = .ok (.value (.slice (some ⟨W.heap.size, 0, none⟩) xs.length xs.length)) (W.alloc (.cells inner.toArray e)))
    (hrun2 : ∀ (w1 w2 : World) (v : Value), (convert t t v).run P w1 = .ok v w2 → v = .slice (some ⟨W.heap.size, 0, none⟩) xs.length xs.length → (execOp (a.put o.dst v).eval o2).run P w1 = .ok (.value v) w2)
    (hrep : Reps (d.K W) d.sz xs inner) (hm : xs.length ≤ 9223372036854775807)
    (h : ∀ A1 w1, d.C w1 A1 ys.length ys → Below W.heap.size W w1 → wpList P ops Q rest ((a.put o.dst (.slice A1 ys.length ys.length)).put o2.dst (.slice A1 ys.length ys.length)) w1) : wpList P ops Q (o :: o2 :: rest) a W := by
  subst hy
  have hb : Below W.heap.size W (W.alloc (.cells inner.toArray e)) := below_alloc (Below.refl _ _) _
  have hb2 : Below W.heap.size W (W.alloc (.cells inner.toArray e (inner.toArray.size, inner.toArray.size + 1))) := below_alloc (Below.refl _ _) _
  refine event_run hgd hrun (event_run hgd2 (hrun2 _ _ _ (Lib.run_convert_bytes_const W t e inner.toArray ys.length ys.length ht he) rfl) (h _ _ ?_ hb2))
  have h2 := World.ownsRow_lit (base := W.heap.size) (e := e) (size := d.sz) W inner.toArray ys.length (Nat.le_refl _) (by simpa [maxLen] using hm) (by simpa using hrep.1)
  obtain ⟨A, c, hv, hr⟩ := own_reads_row (R := d.K (W.alloc (.cells inner.toArray e (inner.toArray.size, inner.toArray.size + 1)))) h2 (by simpa using hrep.imp_ (fun p c hp => d.K_below hb2 hp)) rfl
  injection hv with ha _ hc
  subst ha
  have hc' : ∀ p : Addr, (W.alloc (.cells inner.toArray e (inner.toArray.size, inner.toArray.size + 1))).cell? p = (W.alloc (.cells inner.toArray e)).cell? p := by
    intro p
    simp only [World.cell?, World.alloc, Array.getElem?_push]
    by_cases hp : p.block = W.heap.size <;> simp [hp]
  refine ⟨hr.1, hr.2.1, fun hn => ?_⟩
  obtain ⟨ad, ea, hx⟩ := hr.2.2 hn
  refine ⟨ad, ea, fun q p hq => ?_⟩
  obtain ⟨c1, h1, h3, h4⟩ := hx q p hq
  exact ⟨c1, h1, h3, fun i u hu => (hc' _).trans (h4 i u hu)⟩
end
open Go.Proofs.YtojhnjgnpjoacaaW.PrintLast
section
variable {P : Program} {ops : Array Oper} {Q : Exit → Act → World → Prop} {S : World → Prop} {ds : List Nat}
/-- 'pure_' with what is alike at each use: the operation's place, what it writes, the marks behind it. -/
theorem pu (i : Nat) (N : Tmp) (l' : Array Bool) {T : Bool × List (List Nat × List Nat)} (hT : Aside0 (rtab .any ops = T)) {oi : Oper} {v : Value} {fuel : Nat} {l : Array Bool} {a a' : Act} {w : World} (hi : ops[i]? = some oi) (hN : oi.dst = some N)
    (hg : Region.wanted oi (yielded ops a.tmps) = true := by rfl) (hy : ∀ w', (execOp a.eval oi).run P w' = .ok (.value v) w' := by intro w'; go_simp; with_reducible rfl) (ha : a.put (some N) v = a' := by simp only [Act.put, List.setIfInBounds_toArray, List.set_cons_zero, List.set_cons_succ, i64_w, i32_w]; rfl) (hc : anyT T l.toList l'.toList i = true := by kernel_rfl)
    (hQ : ∀ c a w, Q (.panic c) (a.put oi.dst v) w → Q (.panic c) a w := by exact fun _ _ _ h => h)
    (h : wpAnyLast P .any ops Q S ds fuel l' a' w) : wpAnyLast P .any ops Q S ds (fuel + 1) l a w := by
  refine pure_ l' hi hN (any_of hT.out hc) hQ (Or.inl ⟨hg, hy⟩) ha h
/-- An operation that is not wanted. -/
theorem pv (i : Nat) (N : Tmp) (l' : Array Bool) {T : Bool × List (List Nat × List Nat)} (hT : Aside0 (rtab .any ops = T)) {oi : Oper} {fuel : Nat} {l : Array Bool} {a a' : Act} {w : World} (hi : ops[i]? = some oi) (hN : oi.dst = some N)
    (hg : Region.wanted oi (yielded ops a.tmps) = false := by rfl) (ha : a.put (some N) undef = a' := by simp only [Act.put, List.setIfInBounds_toArray, List.set_cons_zero, List.set_cons_succ, i64_w, i32_w]; rfl) (hc : anyT T l.toList l'.toList i = true := by kernel_rfl)
    (hQ : ∀ c a w, Q (.panic c) (a.put oi.dst undef) w → Q (.panic c) a w := by exact fun _ _ _ h => h)
    (h : wpAnyLast P .any ops Q S ds fuel l' a' w) : wpAnyLast P .any ops Q S ds (fuel + 1) l a w := by
  refine pure_ l' hi hN (any_of hT.out hc) hQ (Or.inr ⟨hg, rfl⟩) ha h
/-- 'take_', likewise: what the operation reads is held. -/
theorem tk (i : Nat) (N : Tmp) (l' : Array Bool) {T : Bool × List (List Nat × List Nat)} {B : List Nat} (hT : Aside0 (rtab .any ops = T)) (hB : Aside0 (waitsOk T.2 B = true)) {oi : Oper} {v : Value} {fuel : Nat} {l : Array Bool} {a a' : Act} {w : World} (hi : ops[i]? = some oi) (hN : oi.dst = some N) (hS : S w)
    (hy : ∀ w', S w' → (execOp a.eval oi).run P w' = .ok (.value v) w') (hg : Region.wanted oi (yielded ops a.tmps) = true := by rfl) (ha : a.put (some N) v = a' := by simp only [Act.put, List.setIfInBounds_toArray, List.set_cons_zero, List.set_cons_succ, i64_w, i32_w]; rfl) (hc : takeW T B ds l.toList l'.toList i = true := by kernel_rfl)
    (hQ : ∀ c a w, Q (.panic c) (a.put oi.dst v) w → Q (.panic c) a w := by exact fun _ _ _ h => h)
    (h : wpAnyLast P .any ops Q S ds fuel l' a' w) : wpAnyLast P .any ops Q S ds (fuel + 1) l a w := by
  refine take_ l' hi hN (take_ofW hT.out hB.out hc) hQ (Or.inl ⟨hg, hy⟩) hS ha h
end
end Go.Proofs.YtojhnjgnpjoacaaW.PrintWords
