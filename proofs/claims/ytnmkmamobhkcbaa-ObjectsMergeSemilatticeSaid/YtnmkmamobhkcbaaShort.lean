/- Short names for words that the printed texts use often. -/
import Derived.Test.YtnmkmamobhkcbaaWWords
import Derived.Test.YtnmkmamobhkcbaaWTab
import Derived.Test.YtnmkmamobhkcbaaWRepsOne
import Derived.Test.YtnmkmamobhkcbaaWMore
import Derived.Lib.SlBytesConst
import Derived.Lib.SliceRun
namespace Go.Proofs.YtnmkmamobhkcbaaW.PrintWords
open Go.RowKit
theorem bA {w : World} {g : Nat} {o : Obj} (h : w.heap[g]? = some o) (o' : Obj) : (w.alloc o').heap[g]? = some o := blk_alloc h o'
theorem bD {w : World} {g : Nat} {o : Obj} (h : w.heap[g]? = some o) : w.drew.heap[g]? = some o := h
theorem bN {w : World} {g : Nat} {o : Obj} (h : w.heap[g]? = some o) (n : Nat) : (w.drewN n).heap[g]? = some o := h
theorem lA {w W : World} (h : Below w.heap.size w W) (o : Obj) : Below w.heap.size w (W.alloc o) := below_alloc h o
theorem lN {B : Nat} {w W : World} (h : Below B w W) (n : Nat) : Below B w (W.drewN n) := pw_below_drewN h n
theorem lD {base : Nat} {w W : World} (h : Below base w W) : Below base w W.drew := below_drew1 h
theorem aZ {p : Prop} (h : p) : Aside0 p := ⟨h⟩
theorem lS {w W : World} {g j : Nat} {v : Value} (h : Below w.heap.size w W) (hg : w.heap.size ≤ g) : Below w.heap.size w (W.setCell ⟨g, j, none⟩ v) := below_set h hg
theorem lT {w W w2 : World} (h : Below w.heap.size w W) (k : Below W.heap.size W w2) : Below w.heap.size w w2 := below_step h k
theorem lZ {w W : World} (h : Below w.heap.size w W) : w.heap.size ≤ W.heap.size := below_size h
namespace Kd
variable {α : Type} {d : Kd α} {e : Nat} {w : World} {base : Nat} {ok : Nat → Prop} {v : Value} {xs : List α}
theorem rA (h : d.R e w base ok v xs) (o : Obj) : d.R e (w.alloc o) base ok v xs := R_alloc h o
theorem rD (h : d.R e w base ok v xs) : d.R e w.drew base ok v xs := R_drew h
theorem rN (h : d.R e w base ok v xs) (m : Nat) : d.R e (w.drewN m) base ok v xs := R_drewN h m
end Kd
namespace Kd
end Kd
namespace Kd
section
variable {α : Type} {d : Kd α} {e base n c : Nat} {ok : Nat → Prop} {W : World} {v : Value} {xs : List α}
theorem V_string {P : Program} {src dst t : TypeId} {ys : List Int} (hs : P.underlying src = some (.slice t)) (he : P.underlying t = some (.int .u8)) (hd : P.underlying dst = some .string) (h : V (int .u8) e W base ok v ys) : (convert src dst v).run P W = .ok (.string (strOfNums ys)) W := by
  obtain ⟨A, c, rfl⟩ := V_slice h
  exact C_string hs he hd (V_reads' h).2.2
end
end Kd
open Go.Proofs.YtnmkmamobhkcbaaW.PrintLast
section
variable {P : Program} {ops : Array Oper} {Q : Exit → Act → World → Prop} {S : World → Prop} {ds : List Nat}
/-- 'pure_' with what is alike at each use: the operation's place, what it writes, the marks behind it. -/
theorem pu (i : Nat) (N : Tmp) (l' : Array Bool) {T : Bool × List (List Nat × List Nat)} (hT : Aside0 (rtab .any ops = T)) {oi : Oper} {v : Value} {fuel : Nat} {l : Array Bool} {a a' : Act} {w : World} (hi : ops[i]? = some oi) (hN : oi.dst = some N)
    (hg : Region.wanted oi (yielded ops a.tmps) = true := by rfl) (hy : ∀ w', (execOp a.eval oi).run P w' = .ok (.value v) w' := by intro w'; go_simp; with_reducible rfl) (ha : a.put (some N) v = a' := by simp only [Act.put, List.setIfInBounds_toArray, List.set_cons_zero, List.set_cons_succ, i64_w, i32_w]; rfl) (hc : anyT T l.toList l'.toList i = true := by kernel_rfl)
    (hQ : ∀ c a w, Q (.panic c) (a.put oi.dst v) w → Q (.panic c) a w := by exact fun _ _ _ h => h)
    (h : wpAnyLast P .any ops Q S ds fuel l' a' w) : wpAnyLast P .any ops Q S ds (fuel + 1) l a w := by
  refine pure_ l' hi hN (any_of hT.out hc) hQ (Or.inl ⟨hg, hy⟩) ha h
/-- An operation that is not wanted. -/
theorem pv (i : Nat) (N : Tmp) (l' : Array Bool) {T : Bool × List (List Nat × List Nat)} (hT : Aside0 (rtab .any ops = T)) {oi : Oper} {fuel : Nat} {l : Array Bool} {a a' : Act} {w : World} (hi : ops[i]? = some oi) (hN : oi.dst = some N)
    (hg : Region.wanted oi (yielded ops a.tmps) = false := by rfl) (ha : a.put (some N) undef = a' := by simp only [Act.put, List.setIfInBounds_toArray, List.set_cons_zero, List.set_cons_succ, i64_w, i32_w]; rfl) (hc : anyT T l.toList l'.toList i = true := by kernel_rfl)
    (hQ : ∀ c a w, Q (.panic c) (a.put oi.dst undef) w → Q (.panic c) a w := by exact fun _ _ _ h => h)
    (h : wpAnyLast P .any ops Q S ds fuel l' a' w) : wpAnyLast P .any ops Q S ds (fuel + 1) l a w := by
  refine pure_ l' hi hN (any_of hT.out hc) hQ (Or.inr ⟨hg, rfl⟩) ha h
/-- 'take_', likewise: what the operation reads is held. -/
theorem tk (i : Nat) (N : Tmp) (l' : Array Bool) {T : Bool × List (List Nat × List Nat)} {B : List Nat} (hT : Aside0 (rtab .any ops = T)) (hB : Aside0 (waitsOk T.2 B = true)) {oi : Oper} {v : Value} {fuel : Nat} {l : Array Bool} {a a' : Act} {w : World} (hi : ops[i]? = some oi) (hN : oi.dst = some N) (hS : S w)
    (hy : ∀ w', S w' → (execOp a.eval oi).run P w' = .ok (.value v) w') (hg : Region.wanted oi (yielded ops a.tmps) = true := by rfl) (ha : a.put (some N) v = a' := by simp only [Act.put, List.setIfInBounds_toArray, List.set_cons_zero, List.set_cons_succ, i64_w, i32_w]; rfl) (hc : takeW T B ds l.toList l'.toList i = true := by kernel_rfl)
    (hQ : ∀ c a w, Q (.panic c) (a.put oi.dst v) w → Q (.panic c) a w := by exact fun _ _ _ h => h)
    (h : wpAnyLast P .any ops Q S ds fuel l' a' w) : wpAnyLast P .any ops Q S ds (fuel + 1) l a w := by
  refine take_ l' hi hN (take_ofW hT.out hB.out hc) hQ (Or.inl ⟨hg, hy⟩) hS ha h
end
theorem xbb {w w1 w2 : World} {g : Nat} {o : Obj} (B : Aside0 (w.heap[g]? = some o)) (hb : Below w1.heap.size w1 w2) (h : w.heap[g]? = some o → w1.heap[g]? = some o := by (intro h_; (repeat (first | (with_reducible first | refine bN ?_ _ | refine bD ?_ | refine bA ?_ _) | refine blk_far ?_ (Aside0.out (by assumption)) _)); exact h_)) : Aside0 (w2.heap[g]? = some o) := aZ (blk_below (h B.out) hb)
theorem xnl {w w1 : World} {g g' : Nat} {o : Obj} (hg : g' = w1.heap.size) (B : Aside0 (w.heap[g]? = some o)) (h : w.heap[g]? = some o → w1.heap[g]? = some o := by (intro h_; (repeat (first | (with_reducible first | refine bN ?_ _ | refine bD ?_ | refine bA ?_ _) | refine blk_far ?_ (Aside0.out (by assumption)) _)); exact h_)) : Aside0 (g ≠ g') := aZ (by rw [hg]; exact Nat.ne_of_lt (blk_lt (h B.out)))
theorem xng {w w1 : World} {g g' : Nat} {o : Obj} (hg : g' = w1.heap.size) (B : Aside0 (w.heap[g]? = some o)) (h : w.heap[g]? = some o → w1.heap[g]? = some o := by (intro h_; (repeat (first | (with_reducible first | refine bN ?_ _ | refine bD ?_ | refine bA ?_ _) | refine blk_far ?_ (Aside0.out (by assumption)) _)); exact h_)) : Aside0 (g' ≠ g) := aZ (by rw [hg]; exact Nat.ne_of_gt (blk_lt (h B.out)))
theorem xsB {w w1 W : World} {g : Nat} {o : Obj} (B : Aside0 (w.heap[g]? = some o)) (hw : w1 = W) (h : w.heap[g]? = some o → W.heap[g]? = some o := by (intro h_; (repeat (first | (with_reducible first | refine bN ?_ _ | refine bD ?_ | refine bA ?_ _) | refine blk_far ?_ (Aside0.out (by assumption)) _)); exact h_)) : Aside0 (w1.heap[g]? = some o) := aZ (by rw [hw]; exact h B.out)
theorem xhl {w w1 w2 w3 : World} (H : Aside0 (Below w.heap.size w w1)) (hb : Below w2.heap.size w2 w3) (h : Below w.heap.size w w1 → Below w.heap.size w w2 := by (intro h_; (repeat (first | (with_reducible first | exact h_ | apply lA | apply lN | apply lD) | refine lS ?_ (Aside0.out (by assumption)))))) : Aside0 (Below w.heap.size w w3) := aZ (lT (h H.out) hb)
theorem xgh {w w1 w2 : World} {g : Nat} (hg : g = w2.heap.size) (H : Aside0 (Below w.heap.size w w1)) (h : Below w.heap.size w w1 → Below w.heap.size w w2 := by (intro h_; (repeat (first | (with_reducible first | exact h_ | apply lA | apply lN | apply lD) | refine lS ?_ (Aside0.out (by assumption)))))) : Aside0 (w.heap.size ≤ g) := aZ (by rw [hg]; exact lZ (h H.out))
theorem xfB {w0 w w1 : World} {k g : Nat} {o : Obj} (hk : (k < w0.heap.size ∨ k < w0.heap.size) ∨ w1.heap.size ≤ k) (G : Aside0 (w0.heap.size ≤ g)) (B : Aside0 (w.heap[g]? = some o)) (h : w.heap[g]? = some o → w1.heap[g]? = some o := by (intro h_; (with_reducible repeat (first | refine bN ?_ _ | refine bD ?_ | refine bA ?_ _)); exact h_)) : k ≠ g := fun e => hk.elim (fun hs => hs.elim (fun hs => Nat.not_le.2 hs (by rw [e]; exact G.out)) (fun hs => Nat.not_le.2 hs (by rw [e]; exact G.out))) (fun hn => Kd.freshB (h B.out) k hn e)
theorem xfN {α : Type} {d : Kd α} {e : Nat} {w0 w w1 : World} {ok : Nat → Prop} {v : Value} {xs : List α} {k : Nat} (hk : (k < w0.heap.size ∨ k < w0.heap.size) ∨ w1.heap.size ≤ k) (H : Aside0 (Kd.N d e w w0.heap.size ok v xs)) (h : Kd.N d e w w0.heap.size ok v xs → Kd.N d e w1 w0.heap.size ok v xs := by (intro h_; (with_reducible repeat (first | apply Kd.N_alloc | apply Kd.N_drewN | apply Kd.N_drew)); exact h_)) : some k ≠ v.ownBlock := hk.elim (fun hs => hs.elim (fun hs => fun e_ => Nat.not_le.2 hs (Kd.N_base H.out k e_.symm)) (fun hs => fun e_ => Nat.not_le.2 hs (Kd.N_base H.out k e_.symm))) (fun hn => Kd.fresh' (Kd.N_lt (h H.out)) k hn)
theorem xeB {α : Type} {d : Kd α} {e : Nat} {w w1 w2 : World} {base : Nat} {ok : Nat → Prop} {v : Value} {xs : List α} {g : Nat} (H : Aside0 (Kd.N d e w base ok v xs)) (hg : g = w1.heap.size) (hb : Below w1.heap.size w1 w2) (h : Kd.N d e w base ok v xs → Kd.N d e w1 base ok v xs := by (intro h_; (with_reducible repeat (first | apply Kd.N_alloc | apply Kd.N_drewN | apply Kd.N_drew)); exact h_)) : Aside0 (Kd.N d e w2 base (fun k => ok k ∧ k ≠ g) v xs) := aZ (Kd.N_below (Kd.N_elderB (h H.out) g (Nat.le_of_eq hg.symm)) hb)
theorem xk {w w1 : World} {g : Nat} {o : Obj} (B : Aside0 (w.heap[g]? = some o)) (h : w.heap[g]? = some o → w1.heap[g]? = some o := by (intro h_; (repeat (first | (with_reducible first | refine bN ?_ _ | refine bD ?_ | refine bA ?_ _) | refine blk_far ?_ (Aside0.out (by assumption)) _)); exact h_)) : Aside0 (w1.heap[g]? = some o) := aZ (h B.out)
theorem xb {w w1 w2 : World} (H : Aside0 (Below w.heap.size w w1)) (h : Below w.heap.size w w1 → Below w.heap.size w w2 := by (intro h_; (repeat (first | (with_reducible first | exact h_ | apply lA | apply lN | apply lD) | refine lS ?_ (Aside0.out (by assumption)))))) : Aside0 (Below w.heap.size w w2) := aZ (h H.out)
theorem xq {w w1 w2 : World} (H : Aside0 (Below w.heap.size w w1)) (h : Below w.heap.size w w1 → Below w.heap.size w w2 := by (intro h_; (repeat (first | (with_reducible first | exact h_ | apply lA | apply lN | apply lD) | refine lS ?_ (Aside0.out (by assumption)))))) : Below w.heap.size w w2 := h H.out
section
variable {α : Type} {d : Kd α} {e : Nat} {w w1 w2 : World} {base : Nat} {ok : Nat → Prop} {v : Value} {xs : List α}
theorem xS (H : Aside0 (Kd.S d e w base ok v xs)) (hb : Below w1.heap.size w1 w2) (h : Kd.S d e w base ok v xs → Kd.S d e w1 base ok v xs := by (intro h_; (with_reducible repeat (first | apply Kd.S_alloc | apply Kd.S_drewN | apply Kd.S_drew)); exact h_)) : Aside0 (Kd.S d e w2 base ok v xs) := aZ (Kd.S_below (h H.out) hb)
theorem xR (H : Aside0 (d.R e w base ok v xs)) (hb : Below w1.heap.size w1 w2) (h : d.R e w base ok v xs → d.R e w1 base ok v xs := by (intro h_; (with_reducible repeat (first | apply Kd.rA | apply Kd.rN | apply Kd.rD)); exact h_)) : Aside0 (d.R e w2 base ok v xs) := aZ (Kd.R_below (h H.out) hb)
theorem xV (H : Aside0 (Kd.V d e w base ok v xs)) (hb : Below w1.heap.size w1 w2) (h : Kd.V d e w base ok v xs → Kd.V d e w1 base ok v xs := by (intro h_; (with_reducible repeat (first | apply Kd.V_alloc | apply Kd.V_drewN | apply Kd.V_drew)); exact h_)) : Aside0 (Kd.V d e w2 base ok v xs) := aZ (Kd.V_below (h H.out) hb)
end
end Go.Proofs.YtnmkmamobhkcbaaW.PrintWords
