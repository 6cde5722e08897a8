/- Texts of the proofs of 10 statements: what the printed functions come to, plain laws, rows (no condition beyond the statements' own). -/
import Derived.Test.YtnmkmamobhkcbaaProg
import Derived.Below
import Derived.Deep.Draws
import Derived.Deep.AppendLies
import Derived.Maps.AppendAt
import Derived.OwnWalk
import Derived.Laws.BytesArg
import Derived.Laws.MakeOwn
import Derived.Laws.OwnMore
import Derived.Deep.OwnRows
import Derived.Tactics
import Derived.Lib.ConvBytes
import Derived.Laws.Slices
import Derived.WalkKit
import Derived.KernelRfl
import Derived.RowKit3
import Derived.Deep.LoopGhost
import Derived.Deep.QuietTactic
import Derived.BigQuiet
import Derived.WideLaws
import Derived.Deep.DeepCutAuto
import Derived.Deep.CutBlock
import Derived.Deep.RegionHeld3
import Derived.Laws.Rows
import Derived.Lib.AppendStr
import Derived.ArgAppend
import Derived.Laws.IdiomCopy
import Derived.OrdersHeld
import Derived.Laws.BitsLemmas
import Derived.RowKit
import Derived.Test.YtnmkmamobhkcbaaLayObj
import Derived.Shelf.Spec.SlicesInsertGrow
import Derived.Test.YtnmkmamobhkcbaaWWords
import Derived.Test.YtnmkmamobhkcbaaWLast
import Derived.Test.YtnmkmamobhkcbaaWTab
import Derived.Test.YtnmkmamobhkcbaaWApart
import Derived.Test.YtnmkmamobhkcbaaWArr
import Derived.Test.YtnmkmamobhkcbaaWFoot
import Derived.Test.YtnmkmamobhkcbaaWKept
import Derived.Test.YtnmkmamobhkcbaaWShare
import Derived.Test.YtnmkmamobhkcbaaWN
import Derived.Test.YtnmkmamobhkcbaaWEqStruct
import Derived.Test.YtnmkmamobhkcbaaWRepsOne
import Derived.Test.YtnmkmamobhkcbaaWInv
import Derived.Test.YtnmkmamobhkcbaaWGuard
import Derived.Test.YtnmkmamobhkcbaaWNEv
import Derived.Test.YtnmkmamobhkcbaaWMore
import Derived.Test.YtnmkmamobhkcbaaShort
import Derived.Test.YtnmkmamobhkcbaaConv
namespace Go.Proofs.Ytnmkmamobhkcbaa.P
open Go.RowKit Go.Proofs.YtnmkmamobhkcbaaW.PrintWords Go.Proofs.YtnmkmamobhkcbaaW.PrintLast Go.Proofs.YtnmkmamobhkcbaaW.PrintMore
section
abbrev J : Bool := true
abbrev U : Bool := false
theorem xmp {α : Sort _} {a b : α} (h : a = b := by ((try simp only [List.map_toArray, List.map_cons, List.map_nil]); first | done | rfl | (simp only [List.length_drop, List.length_take]; rfl))) : a = b := h
theorem xas {p : Prop} (h : p := by (first | (with_reducible assumption) | assumption)) : p := h
theorem xrs {α : Sort _} {a b : α} (h : a = b := by (first | rfl | (simp; done) | (simp [*]; done) | (simp [i64_w]; done))) : a = b := h
theorem xre {α : Sort _} {a b : α} (h : a = b := by (first | rfl | (simp [errW_none, errW_some] <;> rfl) | (simp [*, errW_none, errW_some] <;> rfl))) : a = b := h
theorem xkq {w w1 : World} {g : Nat} {o : Obj} (B : Aside0 (w.heap[g]? = some o)) (h : w.heap[g]? = some o → w1.heap[g]? = some o := by (intro h_; (with_reducible repeat (first | refine bN ?_ _ | refine bD ?_ | refine bA ?_ _)); exact h_)) : w1.heap[g]? = some o := h B.out
theorem xcl {w w' : World} {p : Addr} {v : Value} (HB : Aside0 (Below w.heap.size w w')) (h : w.cell? p = some v) : w'.cell? p = some v := (HB.out.cell (World.block_lt_of_cell? w _ h)).trans h
section
variable {α : Type} {d : Kd α} {A : Option Addr} {n : Nat} {xs : List α} {w0 w w1 w2 : World}
theorem xcc (X : Aside0 (d.C w A n xs)) (h : d.C w A n xs → d.C w1 A n xs := by (intro h_; repeat (first | (with_reducible exact h_) | (with_reducible refine Kd.C_alloc ?_ _) | (with_reducible refine Kd.C_drewN ?_ _) | (with_reducible refine Kd.C_drew ?_) | exact h_))) : d.C w1 A n xs := h X.out
theorem xcb (X : Aside0 (d.C w0 A n xs)) (HB : Aside0 (Below w0.heap.size w0 w)) (h : d.C w A n xs → d.C w1 A n xs := by (intro h_; repeat (first | (with_reducible exact h_) | (with_reducible refine Kd.C_alloc ?_ _) | (with_reducible refine Kd.C_drewN ?_ _) | (with_reducible refine Kd.C_drew ?_) | exact h_))) : d.C w1 A n xs := h (Kd.C_below X.out HB.out)
theorem xC (X : Aside0 (d.C w A n xs)) (hb : Below w1.heap.size w1 w2) (h : d.C w A n xs → d.C w1 A n xs := by (intro h_; repeat (first | (with_reducible exact h_) | (with_reducible refine Kd.C_alloc ?_ _) | (with_reducible refine Kd.C_drewN ?_ _) | (with_reducible refine Kd.C_drew ?_) | exact h_))) : Aside0 (d.C w2 A n xs) := aZ (Kd.C_below (h X.out) hb)
end
theorem xVB {α : Type} {d : Kd α} {e : Nat} {w w1 w2 : World} {base : Nat} {ok : Nat → Prop} {v : Value} {xs : List α} {g : Nat} (H : Aside0 (Kd.V d e w base ok v xs)) (hg : g = w1.heap.size) (hb : Below w1.heap.size w1 w2) (h : Kd.V d e w base ok v xs → Kd.V d e w1 base ok v xs := by (intro h_; (with_reducible repeat (first | apply Kd.V_alloc | apply Kd.V_drewN | apply Kd.V_drew)); exact h_)) : Aside0 (Kd.V d e w2 base (fun k => ok k ∧ k ≠ g) v xs) := aZ (Kd.V_below (Kd.V_elderB (h H.out) g (Nat.le_of_eq hg.symm)) hb)
attribute [local go_sem] max2_int min2_int max_two min_two max_three min_three max_four min_four   -- for this text's walks alone
set_option linter.unusedVariables false
set_option linter.unusedSimpArgs false



def errW : Option Int → Value
  | none => .nilIface
  | some c => .iface 0 (.int .i64 c)
theorem errW_none : errW none = .nilIface := rfl
theorem errW_some (c : Int) : errW (some c) = .iface 0 (.int .i64 c) := rfl

theorem info3 : (Try.prog.info? 3).map (fun i => (i.zero, i.size, i.bytes)) = some (some (.int .i64 0), 1, 8) := by kernel_rfl
theorem aFk : (Try.prog.info? 5).map (fun i => (i.zero, i.size, i.bytes)) = some (some (.int .u8 0), 1, 1) := by kernel_rfl
theorem hGy : (Try.prog.info? 24).map (fun i => (i.zero, i.size, i.bytes)) = some (some (.agg #[(.slice none 0 0)]), 1, 24) := by kernel_rfl
theorem aNg : (Try.prog.info? 46).map (fun i => (i.zero, i.size, i.bytes)) = some (some (.agg #[(.int .i64 0), (.int .i64 0), (.slice none 0 0), (.slice none 0 0)]), 4, 64) := by kernel_rfl
theorem eBq : (Try.prog.info? 48).map (fun i => (i.zero, i.size, i.bytes)) = some (some (.agg #[(.int .i64 0), (.int .i64 0), (.int .i64 0)]), 3, 24) := by kernel_rfl
-- the values' own types
def dOp (xs : List (List Int)) (i : Int) : (List Int) := xs.getD i.toNat ([] : List Int)
theorem iAo {w : World} {A : Option Addr} {n : Nat} {xs : List (List Int)} (h : Kd.C (Kd.slice 3 (Kd.int .i64)) w A n xs) (i : Int) (h0 : 0 ≤ i) (h1 : i < n) : ∃ ad A0 c0, A = some ad ∧ w.cell? (ad.add i.toNat) = some (.slice A0 (dOp xs i).length c0) ∧ (dOp xs i).length ≤ c0 ∧ (Kd.int .i64).C w A0 (dOp xs i).length (dOp xs i) := by
  obtain ⟨ad, c, e, _, hK, hc0⟩ := Kd.C_get h ([] : List Int) i h0 h1
  have hc : ∀ j u, c[j]? = some u → w.cell? (ad.add (i.toNat * 1 + j)) = some u := hc0
  obtain ⟨A0, c0, rfl, l0, g0⟩ := hK
  exact ⟨ad, A0, c0, e, by have hq := hc 0 _ rfl; rwa [Nat.mul_one, Nat.add_zero] at hq, l0, g0⟩

def dOq (xs : List (List Int)) (i : Int) : (List Int) := xs.getD i.toNat ([] : List Int)
theorem iAp {w : World} {A : Option Addr} {n : Nat} {xs : List (List Int)} (h : Kd.C (Kd.slice 5 (Kd.int .u8)) w A n xs) (i : Int) (h0 : 0 ≤ i) (h1 : i < n) : ∃ ad A0 c0, A = some ad ∧ w.cell? (ad.add i.toNat) = some (.slice A0 (dOq xs i).length c0) ∧ (dOq xs i).length ≤ c0 ∧ (Kd.int .u8).C w A0 (dOq xs i).length (dOq xs i) := by
  obtain ⟨ad, c, e, _, hK, hc0⟩ := Kd.C_get h ([] : List Int) i h0 h1
  have hc : ∀ j u, c[j]? = some u → w.cell? (ad.add (i.toNat * 1 + j)) = some u := hc0
  obtain ⟨A0, c0, rfl, l0, g0⟩ := hK
  exact ⟨ad, A0, c0, e, by have hq := hc 0 _ rfl; rwa [Nat.mul_one, Nat.add_zero] at hq, l0, g0⟩

structure S44 where
  f0 : Int
  f1 : (List Int)
  f2 : (List Int)
def z44 : S44 := ⟨(0 : Int), ([] : List Int), ([] : List Int)⟩
def k44 : Kd S44 := Kd.iso (Kd.pair (Kd.int .i64) (Kd.pair (Kd.slice 3 (Kd.int .i64)) (Kd.slice 5 (Kd.int .u8)))) (fun x : S44 => (x.f0, x.f1, x.f2))
theorem eBr : Kd.Heap k44 := Kd.heap_iso _ (Kd.heap_pair (Kd.heap_int .i64) (Kd.heap_pair (Kd.heap_slice 3 (Kd.heap_int .i64)) (Kd.heap_slice 5 (Kd.heap_int .u8))))
theorem aQd {w : World} {x : S44} {cs : List Value} (h : k44.K w x cs) : ∃ A1 c1 A2 c2, cs = [.int .i64 x.f0, .slice A1 x.f1.length c1, .slice A2 x.f2.length c2] ∧ x.f1.length ≤ c1 ∧ (Kd.int .i64).C w A1 x.f1.length x.f1 ∧ x.f2.length ≤ c2 ∧ (Kd.int .u8).C w A2 x.f2.length x.f2 := by
  obtain ⟨_, _, rfl, rfl, ⟨_, _, rfl, ⟨A1, c1, rfl, l1, g1⟩, ⟨A2, c2, rfl, l2, g2⟩⟩⟩ := h
  exact ⟨A1, c1, A2, c2, rfl, l1, g1, l2, g2⟩
theorem dYl {w : World} {base : Nat} {ok : Nat → Prop} {x : S44} {cs : List Value} (h : k44.M w base ok x cs) : ∃ v1 v2, cs = [.int .i64 x.f0, v1, v2] ∧ (Kd.int .i64).R 3 w base ok v1 x.f1 ∧ (Kd.int .u8).R 5 w base ok v2 x.f2 := by
  obtain ⟨_, _, rfl, rfl, ⟨_, _, rfl, ⟨v1, rfl, g1⟩, ⟨v2, rfl, g2⟩⟩⟩ := h
  exact ⟨v1, v2, rfl, g1, g2⟩
theorem eBs (w : World) (x : S44) {A1 : Option Addr} {c1 : Nat} (l1 : x.f1.length ≤ c1) (g1 : (Kd.int .i64).C w A1 x.f1.length x.f1) {A2 : Option Addr} {c2 : Nat} (l2 : x.f2.length ≤ c2) (g2 : (Kd.int .u8).C w A2 x.f2.length x.f2) : k44.K w x [.int .i64 x.f0, .slice A1 x.f1.length c1, .slice A2 x.f2.length c2] := ⟨[.int .i64 x.f0], [.slice A1 x.f1.length c1, .slice A2 x.f2.length c2], rfl, rfl, ⟨[.slice A1 x.f1.length c1], [.slice A2 x.f2.length c2], rfl, ⟨A1, c1, rfl, l1, g1⟩, ⟨A2, c2, rfl, l2, g2⟩⟩⟩
theorem ePo (w : World) (base : Nat) (ok : Nat → Prop) (x : S44) {v1 : Value} (g1 : (Kd.int .i64).R 3 w base ok v1 x.f1) {v2 : Value} (g2 : (Kd.int .u8).R 5 w base ok v2 x.f2) : k44.M w base ok x [.int .i64 x.f0, v1, v2] := ⟨[.int .i64 x.f0], [v1, v2], rfl, rfl, ⟨[v1], [v2], rfl, ⟨v1, rfl, g1⟩, ⟨v2, rfl, g2⟩⟩⟩
theorem fUy {W : World} {ok : Nat → Prop} {x : S44} {cs : List Value} (h : Kd.FK k44 W ok x cs) : ∃ A1 c1 A2 c2, cs = [.int .i64 x.f0, .slice A1 x.f1.length c1, .slice A2 x.f2.length c2] ∧ x.f1.length ≤ c1 ∧ Kd.F (Kd.int .i64) W ok A1 x.f1.length x.f1 ∧ x.f2.length ≤ c2 ∧ Kd.F (Kd.int .u8) W ok A2 x.f2.length x.f2 := by
  obtain ⟨A1, c1, A2, c2, rfl, l1, _, l2, _⟩ := aQd (Kd.FK_now h)
  exact ⟨A1, c1, A2, c2, rfl, l1, (fun W' hW => by obtain ⟨A1_, c1_, A2_, c2_, he, l1_, g1_, l2_, g2_⟩ := aQd (h W' hW); injection (Option.some.inj (show some (Value.slice A1 x.f1.length c1) = some (Value.slice A1_ x.f1.length c1_) from congrArg (fun l => l[1]?) he)) with ha_ _ _; rw [ha_]; exact g1_), l2, (fun W' hW => by obtain ⟨A1_, c1_, A2_, c2_, he, l1_, g1_, l2_, g2_⟩ := aQd (h W' hW); injection (Option.some.inj (show some (Value.slice A2 x.f2.length c2) = some (Value.slice A2_ x.f2.length c2_) from congrArg (fun l => l[2]?) he)) with ha_ _ _; rw [ha_]; exact g2_)⟩
theorem gVa (W : World) (ok : Nat → Prop) (x : S44) {A1 : Option Addr} {c1 : Nat} (l1 : x.f1.length ≤ c1) (g1 : Kd.F (Kd.int .i64) W ok A1 x.f1.length x.f1) {A2 : Option Addr} {c2 : Nat} (l2 : x.f2.length ≤ c2) (g2 : Kd.F (Kd.int .u8) W ok A2 x.f2.length x.f2) : Kd.FK k44 W ok x [.int .i64 x.f0, .slice A1 x.f1.length c1, .slice A2 x.f2.length c2] := fun W2 hW => eBs W2 x l1 (g1 W2 hW) l2 (g2 W2 hW)
def bIk (xs : List S44) (i : Int) : S44 := xs.getD i.toNat z44
theorem hG6 {w : World} {A : Option Addr} {n : Nat} {xs : List S44} (h : Kd.C k44 w A n xs) (i : Int) (h0 : 0 ≤ i) (h1 : i < n) : ∃ ad A1 c1 A2 c2, A = some ad ∧ w.cell? (ad.add (i.toNat * 3)) = some (.int .i64 (bIk xs i).f0) ∧ w.cell? ⟨(ad.add (i.toNat * 3)).block, (ad.add (i.toNat * 3)).off + 1, none⟩ = some (.slice A1 (bIk xs i).f1.length c1) ∧ w.cell? ⟨(ad.add (i.toNat * 3)).block, (ad.add (i.toNat * 3)).off + 2, none⟩ = some (.slice A2 (bIk xs i).f2.length c2) ∧ (bIk xs i).f1.length ≤ c1 ∧ (Kd.int .i64).C w A1 (bIk xs i).f1.length (bIk xs i).f1 ∧ (bIk xs i).f2.length ≤ c2 ∧ (Kd.int .u8).C w A2 (bIk xs i).f2.length (bIk xs i).f2 := by
  obtain ⟨ad, c, e, _, hK, hc0⟩ := Kd.C_get h z44 i h0 h1
  have hc : ∀ j u, c[j]? = some u → w.cell? (ad.add (i.toNat * 3 + j)) = some u := hc0
  obtain ⟨A1, c1, A2, c2, rfl, l1, g1, l2, g2⟩ := aQd hK
  exact ⟨ad, A1, c1, A2, c2, e, hc 0 _ rfl, by rw [← add_field _ _ 1 (by omega)]; exact hc 1 _ rfl, by rw [← add_field _ _ 2 (by omega)]; exact hc 2 _ rfl, l1, g1, l2, g2⟩

structure fB where
  f0 : Int
  f1 : S44
def z46 : fB := ⟨(0 : Int), z44⟩
def qL : Kd fB := Kd.iso (Kd.pair (Kd.int .i64) k44) (fun x : fB => (x.f0, x.f1))
theorem uK : Kd.Heap qL := Kd.heap_iso _ (Kd.heap_pair (Kd.heap_int .i64) eBr)
theorem bVb {w : World} {x : fB} {cs : List Value} (h : qL.K w x cs) : ∃ A2 c2 A3 c3, cs = [.int .i64 x.f0, .int .i64 x.f1.f0, .slice A2 x.f1.f1.length c2, .slice A3 x.f1.f2.length c3] ∧ x.f1.f1.length ≤ c2 ∧ (Kd.int .i64).C w A2 x.f1.f1.length x.f1.f1 ∧ x.f1.f2.length ≤ c3 ∧ (Kd.int .u8).C w A3 x.f1.f2.length x.f1.f2 := by
  obtain ⟨_, _, rfl, rfl, s1⟩ := h
  obtain ⟨A2, c2, A3, c3, rfl, l2, g2, l3, g3⟩ := aQd s1
  exact ⟨A2, c2, A3, c3, rfl, l2, g2, l3, g3⟩
theorem dYm {w : World} {base : Nat} {ok : Nat → Prop} {x : fB} {cs : List Value} (h : qL.M w base ok x cs) : ∃ v2 v3, cs = [.int .i64 x.f0, .int .i64 x.f1.f0, v2, v3] ∧ (Kd.int .i64).R 3 w base ok v2 x.f1.f1 ∧ (Kd.int .u8).R 5 w base ok v3 x.f1.f2 := by
  obtain ⟨_, _, rfl, rfl, s1⟩ := h
  obtain ⟨v2, v3, rfl, g2, g3⟩ := dYl s1
  exact ⟨v2, v3, rfl, g2, g3⟩
theorem fE7 (w : World) (x : fB) {A2 : Option Addr} {c2 : Nat} (l2 : x.f1.f1.length ≤ c2) (g2 : (Kd.int .i64).C w A2 x.f1.f1.length x.f1.f1) {A3 : Option Addr} {c3 : Nat} (l3 : x.f1.f2.length ≤ c3) (g3 : (Kd.int .u8).C w A3 x.f1.f2.length x.f1.f2) : qL.K w x [.int .i64 x.f0, .int .i64 x.f1.f0, .slice A2 x.f1.f1.length c2, .slice A3 x.f1.f2.length c3] := ⟨[.int .i64 x.f0], [.int .i64 x.f1.f0, .slice A2 x.f1.f1.length c2, .slice A3 x.f1.f2.length c3], rfl, rfl, (eBs w x.f1 l2 g2 l3 g3)⟩
theorem cJg (w : World) (base : Nat) (ok : Nat → Prop) (x : fB) {v2 : Value} (g2 : (Kd.int .i64).R 3 w base ok v2 x.f1.f1) {v3 : Value} (g3 : (Kd.int .u8).R 5 w base ok v3 x.f1.f2) : qL.M w base ok x [.int .i64 x.f0, .int .i64 x.f1.f0, v2, v3] := ⟨[.int .i64 x.f0], [.int .i64 x.f1.f0, v2, v3], rfl, rfl, (ePo w base ok x.f1 g2 g3)⟩
theorem rM {W : World} {ok : Nat → Prop} {x : fB} {cs : List Value} (h : Kd.FK qL W ok x cs) : ∃ A2 c2 A3 c3, cs = [.int .i64 x.f0, .int .i64 x.f1.f0, .slice A2 x.f1.f1.length c2, .slice A3 x.f1.f2.length c3] ∧ x.f1.f1.length ≤ c2 ∧ Kd.F (Kd.int .i64) W ok A2 x.f1.f1.length x.f1.f1 ∧ x.f1.f2.length ≤ c3 ∧ Kd.F (Kd.int .u8) W ok A3 x.f1.f2.length x.f1.f2 := by
  obtain ⟨A2, c2, A3, c3, rfl, l2, _, l3, _⟩ := bVb (Kd.FK_now h)
  exact ⟨A2, c2, A3, c3, rfl, l2, (fun W' hW => by obtain ⟨A2_, c2_, A3_, c3_, he, l2_, g2_, l3_, g3_⟩ := bVb (h W' hW); injection (Option.some.inj (show some (Value.slice A2 x.f1.f1.length c2) = some (Value.slice A2_ x.f1.f1.length c2_) from congrArg (fun l => l[2]?) he)) with ha_ _ _; rw [ha_]; exact g2_), l3, (fun W' hW => by obtain ⟨A2_, c2_, A3_, c3_, he, l2_, g2_, l3_, g3_⟩ := bVb (h W' hW); injection (Option.some.inj (show some (Value.slice A3 x.f1.f2.length c3) = some (Value.slice A3_ x.f1.f2.length c3_) from congrArg (fun l => l[3]?) he)) with ha_ _ _; rw [ha_]; exact g3_)⟩
theorem aW2 (W : World) (ok : Nat → Prop) (x : fB) {A2 : Option Addr} {c2 : Nat} (l2 : x.f1.f1.length ≤ c2) (g2 : Kd.F (Kd.int .i64) W ok A2 x.f1.f1.length x.f1.f1) {A3 : Option Addr} {c3 : Nat} (l3 : x.f1.f2.length ≤ c3) (g3 : Kd.F (Kd.int .u8) W ok A3 x.f1.f2.length x.f1.f2) : Kd.FK qL W ok x [.int .i64 x.f0, .int .i64 x.f1.f0, .slice A2 x.f1.f1.length c2, .slice A3 x.f1.f2.length c3] := fun W2 hW => fE7 W2 x l2 (g2 W2 hW) l3 (g3 W2 hW)
def aA (xs : List fB) (i : Int) : fB := xs.getD i.toNat z46
theorem gY {w : World} {A : Option Addr} {n : Nat} {xs : List fB} (h : Kd.C qL w A n xs) (i : Int) (h0 : 0 ≤ i) (h1 : i < n) : ∃ ad A2 c2 A3 c3, A = some ad ∧ w.cell? (ad.add (i.toNat * 4)) = some (.int .i64 (aA xs i).f0) ∧ w.cell? ⟨(ad.add (i.toNat * 4)).block, (ad.add (i.toNat * 4)).off + 1, none⟩ = some (.int .i64 (aA xs i).f1.f0) ∧ w.cell? ⟨(ad.add (i.toNat * 4)).block, (ad.add (i.toNat * 4)).off + 2, none⟩ = some (.slice A2 (aA xs i).f1.f1.length c2) ∧ w.cell? ⟨(ad.add (i.toNat * 4)).block, (ad.add (i.toNat * 4)).off + 3, none⟩ = some (.slice A3 (aA xs i).f1.f2.length c3) ∧ (aA xs i).f1.f1.length ≤ c2 ∧ (Kd.int .i64).C w A2 (aA xs i).f1.f1.length (aA xs i).f1.f1 ∧ (aA xs i).f1.f2.length ≤ c3 ∧ (Kd.int .u8).C w A3 (aA xs i).f1.f2.length (aA xs i).f1.f2 := by
  obtain ⟨ad, c, e, _, hK, hc0⟩ := Kd.C_get h z46 i h0 h1
  have hc : ∀ j u, c[j]? = some u → w.cell? (ad.add (i.toNat * 4 + j)) = some u := hc0
  obtain ⟨A2, c2, A3, c3, rfl, l2, g2, l3, g3⟩ := bVb hK
  exact ⟨ad, A2, c2, A3, c3, e, hc 0 _ rfl, by rw [← add_field _ _ 1 (by omega)]; exact hc 1 _ rfl, by rw [← add_field _ _ 2 (by omega)]; exact hc 2 _ rfl, by rw [← add_field _ _ 3 (by omega)]; exact hc 3 _ rfl, l2, g2, l3, g3⟩

def dOr (xs : List (List fB)) (i : Int) : (List fB) := xs.getD i.toNat ([] : List fB)
theorem iAw {w : World} {A : Option Addr} {n : Nat} {xs : List (List fB)} (h : Kd.C (Kd.slice 46 qL) w A n xs) (i : Int) (h0 : 0 ≤ i) (h1 : i < n) : ∃ ad A0 c0, A = some ad ∧ w.cell? (ad.add i.toNat) = some (.slice A0 (dOr xs i).length c0) ∧ (dOr xs i).length ≤ c0 ∧ qL.C w A0 (dOr xs i).length (dOr xs i) := by
  obtain ⟨ad, c, e, _, hK, hc0⟩ := Kd.C_get h ([] : List fB) i h0 h1
  have hc : ∀ j u, c[j]? = some u → w.cell? (ad.add (i.toNat * 1 + j)) = some u := hc0
  obtain ⟨A0, c0, rfl, l0, g0⟩ := hK
  exact ⟨ad, A0, c0, e, by have hq := hc 0 _ rfl; rwa [Nat.mul_one, Nat.add_zero] at hq, l0, g0⟩

structure S24 where
  f0 : (List fB)
def z24 : S24 := ⟨([] : List fB)⟩
def k24 : Kd S24 := Kd.iso (Kd.slice 46 qL) (fun x : S24 => x.f0)
theorem fVr : Kd.Heap k24 := Kd.heap_iso _ (Kd.heap_slice 46 uK)
theorem aDk {w : World} {x : S24} {cs : List Value} (h : k24.K w x cs) : ∃ A0 c0, cs = [.slice A0 x.f0.length c0] ∧ x.f0.length ≤ c0 ∧ qL.C w A0 x.f0.length x.f0 := by
  obtain ⟨A0, c0, rfl, l0, g0⟩ := h
  exact ⟨A0, c0, rfl, l0, g0⟩
theorem fUz {w : World} {base : Nat} {ok : Nat → Prop} {x : S24} {cs : List Value} (h : k24.M w base ok x cs) : ∃ v0, cs = [v0] ∧ qL.R 46 w base ok v0 x.f0 := by
  obtain ⟨v0, rfl, g0⟩ := h
  exact ⟨v0, rfl, g0⟩
theorem fE8 (w : World) (x : S24) {A0 : Option Addr} {c0 : Nat} (l0 : x.f0.length ≤ c0) (g0 : qL.C w A0 x.f0.length x.f0) : k24.K w x [.slice A0 x.f0.length c0] := ⟨A0, c0, rfl, l0, g0⟩
theorem gVc (w : World) (base : Nat) (ok : Nat → Prop) (x : S24) {v0 : Value} (g0 : qL.R 46 w base ok v0 x.f0) : k24.M w base ok x [v0] := ⟨v0, rfl, g0⟩
theorem cR8 {W : World} {ok : Nat → Prop} {x : S24} {cs : List Value} (h : Kd.FK k24 W ok x cs) : ∃ A0 c0, cs = [.slice A0 x.f0.length c0] ∧ x.f0.length ≤ c0 ∧ Kd.F qL W ok A0 x.f0.length x.f0 := by
  obtain ⟨A0, c0, rfl, l0, _⟩ := aDk (Kd.FK_now h)
  exact ⟨A0, c0, rfl, l0, (fun W' hW => by obtain ⟨A0_, c0_, he, l0_, g0_⟩ := aDk (h W' hW); injection (Option.some.inj (show some (Value.slice A0 x.f0.length c0) = some (Value.slice A0_ x.f0.length c0_) from congrArg (fun l => l[0]?) he)) with ha_ _ _; rw [ha_]; exact g0_)⟩
theorem dOs (W : World) (ok : Nat → Prop) (x : S24) {A0 : Option Addr} {c0 : Nat} (l0 : x.f0.length ≤ c0) (g0 : Kd.F qL W ok A0 x.f0.length x.f0) : Kd.FK k24 W ok x [.slice A0 x.f0.length c0] := fun W2 hW => fE8 W2 x l0 (g0 W2 hW)
def uP (xs : List S24) (i : Int) : S24 := xs.getD i.toNat z24
theorem eBt {w : World} {A : Option Addr} {n : Nat} {xs : List S24} (h : Kd.C k24 w A n xs) (i : Int) (h0 : 0 ≤ i) (h1 : i < n) : ∃ ad A0 c0, A = some ad ∧ w.cell? (ad.add i.toNat) = some (.slice A0 (uP xs i).f0.length c0) ∧ (uP xs i).f0.length ≤ c0 ∧ qL.C w A0 (uP xs i).f0.length (uP xs i).f0 := by
  obtain ⟨ad, c, e, _, hK, hc0⟩ := Kd.C_get h z24 i h0 h1
  have hc : ∀ j u, c[j]? = some u → w.cell? (ad.add (i.toNat * 1 + j)) = some u := hc0
  obtain ⟨A0, c0, rfl, l0, g0⟩ := aDk hK
  exact ⟨ad, A0, c0, e, by have hq := hc 0 _ rfl; rwa [Nat.mul_one, Nat.add_zero] at hq, l0, g0⟩

structure S48 where
  f0 : Int
  f1 : Int
  f2 : Int
def z48 : S48 := ⟨(0 : Int), (0 : Int), (0 : Int)⟩
def k48 : Kd S48 := Kd.iso (Kd.pair (Kd.int .i64) (Kd.pair (Kd.int .i64) (Kd.int .i64))) (fun x : S48 => (x.f0, x.f1, x.f2))
theorem fVs : Kd.Heap k48 := Kd.heap_iso _ (Kd.heap_pair (Kd.heap_int .i64) (Kd.heap_pair (Kd.heap_int .i64) (Kd.heap_int .i64)))
theorem eBu {w : World} {x : S48} {cs : List Value} (h : k48.K w x cs) : cs = [.int .i64 x.f0, .int .i64 x.f1, .int .i64 x.f2] := by
  obtain ⟨_, _, rfl, rfl, ⟨_, _, rfl, rfl, rfl⟩⟩ := h
  exact rfl
theorem fU0 {w : World} {base : Nat} {ok : Nat → Prop} {x : S48} {cs : List Value} (h : k48.M w base ok x cs) : cs = [.int .i64 x.f0, .int .i64 x.f1, .int .i64 x.f2] := by
  obtain ⟨_, _, rfl, rfl, ⟨_, _, rfl, rfl, rfl⟩⟩ := h
  exact rfl
theorem fE9 (w : World) (x : S48)  : k48.K w x [.int .i64 x.f0, .int .i64 x.f1, .int .i64 x.f2] := ⟨[.int .i64 x.f0], [.int .i64 x.f1, .int .i64 x.f2], rfl, rfl, ⟨[.int .i64 x.f1], [.int .i64 x.f2], rfl, rfl, rfl⟩⟩
theorem dOt (w : World) (base : Nat) (ok : Nat → Prop) (x : S48)  : k48.M w base ok x [.int .i64 x.f0, .int .i64 x.f1, .int .i64 x.f2] := ⟨[.int .i64 x.f0], [.int .i64 x.f1, .int .i64 x.f2], rfl, rfl, ⟨[.int .i64 x.f1], [.int .i64 x.f2], rfl, rfl, rfl⟩⟩
theorem gVd (W : World) (ok : Nat → Prop) (x : S48) : Kd.FK k48 W ok x [.int .i64 x.f0, .int .i64 x.f1, .int .i64 x.f2] := fun W2 _ => fE9 W2 x
def mD (xs : List S48) (i : Int) : S48 := xs.getD i.toNat z48
theorem uQ {w : World} {A : Option Addr} {n : Nat} {xs : List S48} (h : Kd.C k48 w A n xs) (i : Int) (h0 : 0 ≤ i) (h1 : i < n) : ∃ ad , A = some ad ∧ w.cell? (ad.add (i.toNat * 3)) = some (.int .i64 (mD xs i).f0) ∧ w.cell? ⟨(ad.add (i.toNat * 3)).block, (ad.add (i.toNat * 3)).off + 1, none⟩ = some (.int .i64 (mD xs i).f1) ∧ w.cell? ⟨(ad.add (i.toNat * 3)).block, (ad.add (i.toNat * 3)).off + 2, none⟩ = some (.int .i64 (mD xs i).f2) := by
  obtain ⟨ad, c, e, _, hK, hc0⟩ := Kd.C_get h z48 i h0 h1
  have hc : ∀ j u, c[j]? = some u → w.cell? (ad.add (i.toNat * 3 + j)) = some u := hc0
  obtain rfl := eBu hK
  exact ⟨ad, e, hc 0 _ rfl, by rw [← add_field _ _ 1 (by omega)]; exact hc 1 _ rfl, by rw [← add_field _ _ 2 (by omega)]; exact hc 2 _ rfl⟩

/-- What is known of a value of struct type 44 that came in. -/
def S44.ok (x : S44) : Prop := (Lit.int .i64 x.f0).wf = true ∧ (x.f1.length * 8 ≤ 140737488351232 ∧ ∀ x_ ∈ x.f1, (Lit.int .i64 x_).wf = true) ∧ (x.f2.length * 1 ≤ 140737488351232 ∧ ∀ x_ ∈ x.f2, (Lit.int .u8 x_).wf = true)
/-- What is known of a value of struct type 46 that came in. -/
def fB.ok (x : fB) : Prop := (Lit.int .i64 x.f0).wf = true ∧ S44.ok x.f1
/-- What is known of a value of struct type 24 that came in. -/
def S24.ok (x : S24) : Prop := (x.f0.length * 64 ≤ 140737488351232 ∧ ∀ x_ ∈ x.f0, fB.ok x_)
end

end Go.Proofs.Ytnmkmamobhkcbaa.P

namespace Go.Proofs.Ytnmkmamobhkcbaa.P
open Go.RowKit Go.Proofs.YtnmkmamobhkcbaaW.PrintWords Go.Proofs.YtnmkmamobhkcbaaW.PrintLast Go.Proofs.YtnmkmamobhkcbaaW.PrintMore
attribute [local go_sem] max2_int min2_int max_two min_two max_three min_three max_four min_four   -- for this text's walks alone
set_option linter.unusedVariables false
set_option linter.unusedSimpArgs false
theorem bAt (d : Nat) (w : World) (x0 y0 : Int) (x1 y1 : Int) :
    (Op.equalIn (d + 2) 28 (.agg #[.int .i64 x0, .int .i64 x1]) (.agg #[.int .i64 y0, .int .i64 y1])).run Try.prog w = .ok (x0 == y0 && (x1 == y1)) w := by
  refine eqA_of Try.underlying28 (by kernel_rfl) ?_
  refine eqf_cons (by rfl) (by go_simp; rfl) (by go_simp; rfl) (by go_simp) ?_
  exact eqf_last (by rfl) (by go_simp; rfl) (by go_simp; rfl) (by go_simp)
def bits_Mul64.f (a0 : Int) (a1 : Int) : Option (Int × Int) := some (IntKind.u64.wrap ((IntKind.u64.wrap ((IntKind.u64.wrap ((a0 / 4294967296) * (a1 / 4294967296))) + ((IntKind.u64.wrap ((IntKind.u64.wrap ((a0 / 4294967296) * (Go.bits .and .u64 a1 4294967295))) + ((IntKind.u64.wrap ((Go.bits .and .u64 a0 4294967295) * (Go.bits .and .u64 a1 4294967295))) / 4294967296))) / 4294967296))) + ((IntKind.u64.wrap ((Go.bits .and .u64 (IntKind.u64.wrap ((IntKind.u64.wrap ((a0 / 4294967296) * (Go.bits .and .u64 a1 4294967295))) + ((IntKind.u64.wrap ((Go.bits .and .u64 a0 4294967295) * (Go.bits .and .u64 a1 4294967295))) / 4294967296))) 4294967295) + (IntKind.u64.wrap ((Go.bits .and .u64 a0 4294967295) * (a1 / 4294967296))))) / 4294967296)), IntKind.u64.wrap (a0 * a1))
set_option maxHeartbeats 8000000 in
set_option maxRecDepth 100000 in
theorem bits_Mul64.calls (a0 : Int) (a1 : Int) (r1 : Int) (r2 : Int) (w : World) (h : bits_Mul64.f a0 a1 = some (r1, r2)) :
    Calls Try.prog 65 #[.int .u64 a0, .int .u64 a1] w fun e w' => e = .returned (.tuple #[.int .u64 r1, .int .u64 r2]) ∧ Drawn0 w w' := by
  have H : (some (IntKind.u64.wrap ((IntKind.u64.wrap ((IntKind.u64.wrap ((a0 / 4294967296) * (a1 / 4294967296))) + ((IntKind.u64.wrap ((IntKind.u64.wrap ((a0 / 4294967296) * (Go.bits .and .u64 a1 4294967295))) + ((IntKind.u64.wrap ((Go.bits .and .u64 a0 4294967295) * (Go.bits .and .u64 a1 4294967295))) / 4294967296))) / 4294967296))) + ((IntKind.u64.wrap ((Go.bits .and .u64 (IntKind.u64.wrap ((IntKind.u64.wrap ((a0 / 4294967296) * (Go.bits .and .u64 a1 4294967295))) + ((IntKind.u64.wrap ((Go.bits .and .u64 a0 4294967295) * (Go.bits .and .u64 a1 4294967295))) / 4294967296))) 4294967295) + (IntKind.u64.wrap ((Go.bits .and .u64 a0 4294967295) * (a1 / 4294967296))))) / 4294967296)), IntKind.u64.wrap (a0 * a1))) = some (r1, r2) := h
  clear h
  simp only [Option.some.injEq, Prod.mk.injEq] at H
  obtain ⟨rfl, rfl⟩ := H
  go_enter Try.func65, Try.ntmps65
  go_wp2
  go_ret2
  exact ⟨by first | rfl | (simp; done) | (simp [*]; done), by repeat (first | exact Drawn0.refl _ | apply Drawn0.step)⟩
def bits_LeadingZeros64.f (a0 : Int) : Option Int := if a0 = 2305843009213693951 then some 3 else none
theorem bits_LeadingZeros64.calls (a0 : Int) (r : Int) (w : World) (h : bits_LeadingZeros64.f a0 = some r) :
    Calls Try.prog 69 #[.int .u64 a0] w fun e w' => e = .returned (.int .i64 r) ∧ Drawn0 w w' := by
  unfold bits_LeadingZeros64.f at h
  split at h
  next hh =>
    subst hh
    obtain rfl := Option.some.inj h
    have hcon := Any.bits_LeadingZeros64 Try.l69 2305843009213693951 w (by decide) (by decide)
    change Calls Try.prog 69 _ _ _ at hcon
    refine hcon.mono fun e w' ⟨he, hw⟩ => ⟨?_, hw ▸ Drawn0.refl _⟩
    rw [he]
    rfl
  next => cases h
mutual
def bT.j2 : Nat → Int → Int → Int → Int → Int → Int → Int → Int → Option (Int × Int)
  | 0, _, _, _, _, _, _, _, _ => none
  | k + 1, x2, x8, x9, x10, x11, x13, x14, x15 => if x9 = 0 then (none) else (bT.l1 k x2 x8 x9 x10 x14 x15 (IntKind.u64.wrap ((IntKind.u64.wrap ((IntKind.u64.wrap ((IntKind.u64.wrap (x11 * 4294967296)) + x13)) - (IntKind.u64.wrap (x15 * x2)))) - (IntKind.u64.wrap ((IntKind.u64.wrap (Int.tdiv (IntKind.u64.wrap ((IntKind.u64.wrap ((IntKind.u64.wrap (x11 * 4294967296)) + x13)) - (IntKind.u64.wrap (x15 * x2)))) x9)) * x9)))) (IntKind.u64.wrap ((IntKind.u64.wrap ((IntKind.u64.wrap (x11 * 4294967296)) + x13)) - (IntKind.u64.wrap (x15 * x2)))) (IntKind.u64.wrap (Int.tdiv (IntKind.u64.wrap ((IntKind.u64.wrap ((IntKind.u64.wrap (x11 * 4294967296)) + x13)) - (IntKind.u64.wrap (x15 * x2)))) x9)))
def bT.l1 : Nat → Int → Int → Int → Int → Int → Int → Int → Int → Int → Option (Int × Int)
  | 0, _, _, _, _, _, _, _, _, _ => none
  | k + 1, x2, x8, x9, x10, x14, x15, x16, x17, x18 => if x18 ≥ 4294967296 then (bT.j4 k x2 x8 x9 x10 x14 x15 x16 x17 x18 true) else (bT.j4 k x2 x8 x9 x10 x14 x15 x16 x17 x18 (decide ((IntKind.u64.wrap (x18 * x10)) > (IntKind.u64.wrap ((IntKind.u64.wrap (4294967296 * x16)) + x14)))))
def bT.j4 : Nat → Int → Int → Int → Int → Int → Int → Int → Int → Int → Bool → Option (Int × Int)
  | 0, _, _, _, _, _, _, _, _, _, _ => none
  | k + 1, x2, x8, x9, x10, x14, x15, x16, x17, x18, hHe => if hHe = true then (if (IntKind.u64.wrap (x16 + x9)) ≥ 4294967296 then (if 0 ≤ x8 then (some (IntKind.u64.wrap ((IntKind.u64.wrap (x15 * 4294967296)) + (IntKind.u64.wrap (x18 - 1))), shr .u64 (IntKind.u64.wrap ((IntKind.u64.wrap ((IntKind.u64.wrap (x17 * 4294967296)) + x14)) - (IntKind.u64.wrap ((IntKind.u64.wrap (x18 - 1)) * x2)))) x8)) else (none)) else (bT.l1 k x2 x8 x9 x10 x14 x15 (IntKind.u64.wrap (x16 + x9)) x17 (IntKind.u64.wrap (x18 - 1)))) else (if 0 ≤ x8 then (some (IntKind.u64.wrap ((IntKind.u64.wrap (x15 * 4294967296)) + x18), shr .u64 (IntKind.u64.wrap ((IntKind.u64.wrap ((IntKind.u64.wrap (x17 * 4294967296)) + x14)) - (IntKind.u64.wrap (x18 * x2)))) x8)) else (none))
def bT.l0 : Nat → Int → Int → Int → Int → Int → Int → Int → Int → Int → Option (Int × Int)
  | 0, _, _, _, _, _, _, _, _, _ => none
  | k + 1, x2, x8, x9, x10, x11, x13, x14, x15, x16 => if x15 ≥ 4294967296 then (bT.j1 k x2 x8 x9 x10 x11 x13 x14 x15 x16 true) else (bT.j1 k x2 x8 x9 x10 x11 x13 x14 x15 x16 (decide ((IntKind.u64.wrap (x15 * x10)) > (IntKind.u64.wrap ((IntKind.u64.wrap (4294967296 * x16)) + x13)))))
def bT.j1 : Nat → Int → Int → Int → Int → Int → Int → Int → Int → Int → Bool → Option (Int × Int)
  | 0, _, _, _, _, _, _, _, _, _, _ => none
  | k + 1, x2, x8, x9, x10, x11, x13, x14, x15, x16, x78 => if x78 = true then (if (IntKind.u64.wrap (x16 + x9)) ≥ 4294967296 then (bT.j2 k x2 x8 x9 x10 x11 x13 x14 (IntKind.u64.wrap (x15 - 1))) else (bT.l0 k x2 x8 x9 x10 x11 x13 x14 (IntKind.u64.wrap (x15 - 1)) (IntKind.u64.wrap (x16 + x9)))) else (bT.j2 k x2 x8 x9 x10 x11 x13 x14 x15)
end
def bT.f (k : Nat) (a0 : Int) (a1 : Int) (a2 : Int) : Option (Int × Int) := if a2 = 0 then (none) else (if a2 ≤ a0 then (none) else (if a0 = 0 then (some (IntKind.u64.wrap (Int.tdiv a1 a2), Int.tmod a1 a2)) else ((bits_LeadingZeros64.f a2).bind fun vS => (if 0 ≤ (IntKind.u64.wrap (vS)) then (if 0 ≤ (IntKind.u64.wrap (64 - (IntKind.u64.wrap (vS)))) then (if ((shl .u64 a2 (IntKind.u64.wrap (vS))) / 4294967296) = 0 then (none) else (bT.l0 k (shl .u64 a2 (IntKind.u64.wrap (vS))) (IntKind.u64.wrap (vS)) ((shl .u64 a2 (IntKind.u64.wrap (vS))) / 4294967296) (Go.bits .and .u64 (shl .u64 a2 (IntKind.u64.wrap (vS))) 4294967295) (Go.bits .or .u64 (shl .u64 a0 (IntKind.u64.wrap (vS))) (shr .u64 a1 (IntKind.u64.wrap (64 - (IntKind.u64.wrap (vS)))))) ((shl .u64 a1 (IntKind.u64.wrap (vS))) / 4294967296) (Go.bits .and .u64 (shl .u64 a1 (IntKind.u64.wrap (vS))) 4294967295) (IntKind.u64.wrap (Int.tdiv (Go.bits .or .u64 (shl .u64 a0 (IntKind.u64.wrap (vS))) (shr .u64 a1 (IntKind.u64.wrap (64 - (IntKind.u64.wrap (vS)))))) ((shl .u64 a2 (IntKind.u64.wrap (vS))) / 4294967296))) (IntKind.u64.wrap ((Go.bits .or .u64 (shl .u64 a0 (IntKind.u64.wrap (vS))) (shr .u64 a1 (IntKind.u64.wrap (64 - (IntKind.u64.wrap (vS)))))) - (IntKind.u64.wrap ((IntKind.u64.wrap (Int.tdiv (Go.bits .or .u64 (shl .u64 a0 (IntKind.u64.wrap (vS))) (shr .u64 a1 (IntKind.u64.wrap (64 - (IntKind.u64.wrap (vS)))))) ((shl .u64 a2 (IntKind.u64.wrap (vS))) / 4294967296))) * ((shl .u64 a2 (IntKind.u64.wrap (vS))) / 4294967296))))))) else (none)) else (none)))))
theorem bT.mono_l : ∀ k, (∀ y0 y1 y2 y3 y4 y5 y6 y7, LeO (bT.j2 k y0 y1 y2 y3 y4 y5 y6 y7) (bT.j2 (k + 1) y0 y1 y2 y3 y4 y5 y6 y7)) ∧ (∀ y0 y1 y2 y3 y4 y5 y6 y7 y8, LeO (bT.l1 k y0 y1 y2 y3 y4 y5 y6 y7 y8) (bT.l1 (k + 1) y0 y1 y2 y3 y4 y5 y6 y7 y8)) ∧ (∀ y0 y1 y2 y3 y4 y5 y6 y7 y8 y9, LeO (bT.j4 k y0 y1 y2 y3 y4 y5 y6 y7 y8 y9) (bT.j4 (k + 1) y0 y1 y2 y3 y4 y5 y6 y7 y8 y9)) ∧ (∀ y0 y1 y2 y3 y4 y5 y6 y7 y8, LeO (bT.l0 k y0 y1 y2 y3 y4 y5 y6 y7 y8) (bT.l0 (k + 1) y0 y1 y2 y3 y4 y5 y6 y7 y8)) ∧ (∀ y0 y1 y2 y3 y4 y5 y6 y7 y8 y9, LeO (bT.j1 k y0 y1 y2 y3 y4 y5 y6 y7 y8 y9) (bT.j1 (k + 1) y0 y1 y2 y3 y4 y5 y6 y7 y8 y9))
  | 0 => ⟨fun _ _ _ _ _ _ _ _ r h => by simp [bT.j2] at h, fun _ _ _ _ _ _ _ _ _ r h => by simp [bT.l1] at h, fun _ _ _ _ _ _ _ _ _ _ r h => by simp [bT.j4] at h, fun _ _ _ _ _ _ _ _ _ r h => by simp [bT.l0] at h, fun _ _ _ _ _ _ _ _ _ _ r h => by simp [bT.j1] at h⟩
  | k + 1 => by
    obtain ⟨mU, ih1, ih2, ih3, ih4⟩ := bT.mono_l k
    refine ⟨?_, ?_, ?_, ?_, ?_⟩
    all_goals intros; first | unfold bT.j2 | unfold bT.l1 | unfold bT.j4 | unfold bT.l0 | unfold bT.j1
    all_goals repeat' first | (with_reducible first | exact mU _ _ _ _ _ _ _ _ | exact ih1 _ _ _ _ _ _ _ _ _ | exact ih2 _ _ _ _ _ _ _ _ _ _ | exact ih3 _ _ _ _ _ _ _ _ _ | exact ih4 _ _ _ _ _ _ _ _ _ _ | exact LeO.refl _ | exact LeO.none _ | refine LeO.ite ?_ ?_ | refine LeO.bind ?_ (fun _ => ?_)) | exact mU _ _ _ _ _ _ _ _ | exact ih1 _ _ _ _ _ _ _ _ _ | exact ih2 _ _ _ _ _ _ _ _ _ _ | exact ih3 _ _ _ _ _ _ _ _ _ | exact ih4 _ _ _ _ _ _ _ _ _ _ | exact LeO.none _ | refine LeO.ite ?_ ?_ | refine LeO.bind ?_ (fun _ => ?_)
theorem bT.mono : ∀ a0 a1 a2 k, LeO (bT.f k a0 a1 a2) (bT.f (k + 1) a0 a1 a2) := by
  intro a0 a1 a2 k
  obtain ⟨mU, ih1, ih2, ih3, ih4⟩ := bT.mono_l k
  unfold bT.f
  repeat' first | (with_reducible first | exact mU _ _ _ _ _ _ _ _ | exact ih1 _ _ _ _ _ _ _ _ _ | exact ih2 _ _ _ _ _ _ _ _ _ _ | exact ih3 _ _ _ _ _ _ _ _ _ | exact ih4 _ _ _ _ _ _ _ _ _ _ | exact LeO.refl _ | exact LeO.none _ | refine LeO.ite ?_ ?_ | refine LeO.bind ?_ (fun _ => ?_)) | exact mU _ _ _ _ _ _ _ _ | exact ih1 _ _ _ _ _ _ _ _ _ | exact ih2 _ _ _ _ _ _ _ _ _ _ | exact ih3 _ _ _ _ _ _ _ _ _ | exact ih4 _ _ _ _ _ _ _ _ _ _ | exact LeO.none _ | refine LeO.ite ?_ ?_ | refine LeO.bind ?_ (fun _ => ?_)
set_option maxHeartbeats 8000000 in
set_option maxRecDepth 100000 in
theorem bT.calls (k : Nat) (a0 : Int) (a1 : Int) (a2 : Int) (r1 : Int) (r2 : Int) (w : World) (h : bT.f k a0 a1 a2 = some (r1, r2)) :
  Calls Try.prog 66 #[.int .u64 a0, .int .u64 a1, .int .u64 a2] w fun e w' => e = .returned (.tuple #[.int .u64 r1, .int .u64 r2]) ∧ Drawn0 w w' := by
  have H : (if a2 = 0 then (none) else (if a2 ≤ a0 then (none) else (if a0 = 0 then (some (IntKind.u64.wrap (Int.tdiv a1 a2), Int.tmod a1 a2)) else ((bits_LeadingZeros64.f a2).bind fun vS => (if 0 ≤ (IntKind.u64.wrap (vS)) then (if 0 ≤ (IntKind.u64.wrap (64 - (IntKind.u64.wrap (vS)))) then (if ((shl .u64 a2 (IntKind.u64.wrap (vS))) / 4294967296) = 0 then (none) else (bT.l0 k (shl .u64 a2 (IntKind.u64.wrap (vS))) (IntKind.u64.wrap (vS)) ((shl .u64 a2 (IntKind.u64.wrap (vS))) / 4294967296) (Go.bits .and .u64 (shl .u64 a2 (IntKind.u64.wrap (vS))) 4294967295) (Go.bits .or .u64 (shl .u64 a0 (IntKind.u64.wrap (vS))) (shr .u64 a1 (IntKind.u64.wrap (64 - (IntKind.u64.wrap (vS)))))) ((shl .u64 a1 (IntKind.u64.wrap (vS))) / 4294967296) (Go.bits .and .u64 (shl .u64 a1 (IntKind.u64.wrap (vS))) 4294967295) (IntKind.u64.wrap (Int.tdiv (Go.bits .or .u64 (shl .u64 a0 (IntKind.u64.wrap (vS))) (shr .u64 a1 (IntKind.u64.wrap (64 - (IntKind.u64.wrap (vS)))))) ((shl .u64 a2 (IntKind.u64.wrap (vS))) / 4294967296))) (IntKind.u64.wrap ((Go.bits .or .u64 (shl .u64 a0 (IntKind.u64.wrap (vS))) (shr .u64 a1 (IntKind.u64.wrap (64 - (IntKind.u64.wrap (vS)))))) - (IntKind.u64.wrap ((IntKind.u64.wrap (Int.tdiv (Go.bits .or .u64 (shl .u64 a0 (IntKind.u64.wrap (vS))) (shr .u64 a1 (IntKind.u64.wrap (64 - (IntKind.u64.wrap (vS)))))) ((shl .u64 a2 (IntKind.u64.wrap (vS))) / 4294967296))) * ((shl .u64 a2 (IntKind.u64.wrap (vS))) / 4294967296))))))) else (none)) else (none)))))) = some (r1, r2) := h
  clear h
  by_cases c4 : a2 = 0
  · rw [if_pos c4] at H
    exact absurd H (by simp)
  rw [if_neg c4] at H
  have aJy : (a2 == 0) = false := beq_eq_false_iff_ne.mpr c4
  have cMl : (a2 != 0) = true := bne_iff_ne.mpr c4
  by_cases c5 : a2 ≤ a0
  · rw [if_pos c5] at H
    exact absurd H (by simp)
  rw [if_neg c5] at H
  have bAy : decide (a2 ≤ a0) = false := decide_eq_false c5
  clear c5
  by_cases c6 : a0 = 0
  · rw [if_pos c6] at H
    have aWf : (a0 == 0) = true := beq_iff_eq.mpr c6
    have cU7 : (a0 != 0) = false := bne_eq_false_iff_eq.mpr c6
    clear c6
    simp only [Option.some.injEq, Prod.mk.injEq] at H
    obtain ⟨rfl, rfl⟩ := H
    go_enter Try.func66, Try.ntmps66
    go_wp2
    repeat (go_quiet (fail); try go_wp2)
    go_ret2
    exact ⟨by first | rfl | (simp; done) | (simp [*]; done), by repeat (first | exact Drawn0.refl _ | apply Drawn0.step)⟩
  rw [if_neg c6] at H
  have aWf : (a0 == 0) = false := beq_eq_false_iff_ne.mpr c6
  have cU7 : (a0 != 0) = true := bne_iff_ne.mpr c6
  replace H := Option.bind_eq_some_iff.mp H
  obtain ⟨vS, A70, H⟩ := H
  replace H : (if 0 ≤ (IntKind.u64.wrap (vS)) then (if 0 ≤ (IntKind.u64.wrap (64 - (IntKind.u64.wrap (vS)))) then (if ((shl .u64 a2 (IntKind.u64.wrap (vS))) / 4294967296) = 0 then (none) else (bT.l0 k (shl .u64 a2 (IntKind.u64.wrap (vS))) (IntKind.u64.wrap (vS)) ((shl .u64 a2 (IntKind.u64.wrap (vS))) / 4294967296) (Go.bits .and .u64 (shl .u64 a2 (IntKind.u64.wrap (vS))) 4294967295) (Go.bits .or .u64 (shl .u64 a0 (IntKind.u64.wrap (vS))) (shr .u64 a1 (IntKind.u64.wrap (64 - (IntKind.u64.wrap (vS)))))) ((shl .u64 a1 (IntKind.u64.wrap (vS))) / 4294967296) (Go.bits .and .u64 (shl .u64 a1 (IntKind.u64.wrap (vS))) 4294967295) (IntKind.u64.wrap (Int.tdiv (Go.bits .or .u64 (shl .u64 a0 (IntKind.u64.wrap (vS))) (shr .u64 a1 (IntKind.u64.wrap (64 - (IntKind.u64.wrap (vS)))))) ((shl .u64 a2 (IntKind.u64.wrap (vS))) / 4294967296))) (IntKind.u64.wrap ((Go.bits .or .u64 (shl .u64 a0 (IntKind.u64.wrap (vS))) (shr .u64 a1 (IntKind.u64.wrap (64 - (IntKind.u64.wrap (vS)))))) - (IntKind.u64.wrap ((IntKind.u64.wrap (Int.tdiv (Go.bits .or .u64 (shl .u64 a0 (IntKind.u64.wrap (vS))) (shr .u64 a1 (IntKind.u64.wrap (64 - (IntKind.u64.wrap (vS)))))) ((shl .u64 a2 (IntKind.u64.wrap (vS))) / 4294967296))) * ((shl .u64 a2 (IntKind.u64.wrap (vS))) / 4294967296))))))) else (none)) else (none)) = some (r1, r2) := H
  have A7 := aZ A70
  clear A70
  obtain ⟨ji8, eB3⟩ : ∃ j_ : Int, (IntKind.u64.wrap (vS)) = j_ := ⟨_, rfl⟩
  replace H : (if 0 ≤ (ji8) then (if 0 ≤ (IntKind.u64.wrap (64 - (ji8))) then (if ((shl .u64 a2 (ji8)) / 4294967296) = 0 then (none) else (bT.l0 k (shl .u64 a2 (ji8)) ji8 ((shl .u64 a2 (ji8)) / 4294967296) (Go.bits .and .u64 (shl .u64 a2 (ji8)) 4294967295) (Go.bits .or .u64 (shl .u64 a0 (ji8)) (shr .u64 a1 (IntKind.u64.wrap (64 - (ji8))))) ((shl .u64 a1 (ji8)) / 4294967296) (Go.bits .and .u64 (shl .u64 a1 (ji8)) 4294967295) (IntKind.u64.wrap (Int.tdiv (Go.bits .or .u64 (shl .u64 a0 (ji8)) (shr .u64 a1 (IntKind.u64.wrap (64 - (ji8))))) ((shl .u64 a2 (ji8)) / 4294967296))) (IntKind.u64.wrap ((Go.bits .or .u64 (shl .u64 a0 (ji8)) (shr .u64 a1 (IntKind.u64.wrap (64 - (ji8))))) - (IntKind.u64.wrap ((IntKind.u64.wrap (Int.tdiv (Go.bits .or .u64 (shl .u64 a0 (ji8)) (shr .u64 a1 (IntKind.u64.wrap (64 - (ji8))))) ((shl .u64 a2 (ji8)) / 4294967296))) * ((shl .u64 a2 (ji8)) / 4294967296))))))) else (none)) else (none)) = some (r1, r2) := by first | (rw [eB3] at H; exact H) | (simp only [eB3] at H ⊢; exact H)
  (try rw [eB3] at A7)
  by_cases c9 : 0 ≤ (ji8)
  rotate_left
  · rw [if_neg c9] at H
    exact absurd H (by simp)

  rw [if_pos c9] at H
  have cRm := eq_true c9
  have dYu : decide (0 ≤ (ji8)) = true := decide_eq_true c9
  clear c9
  obtain ⟨nE, bAz⟩ : ∃ j_ : Int, (shl .u64 a2 (ji8)) = j_ := ⟨_, rfl⟩
  replace H : (if 0 ≤ (IntKind.u64.wrap (64 - (ji8))) then (if ((nE) / 4294967296) = 0 then (none) else (bT.l0 k nE ji8 ((nE) / 4294967296) (Go.bits .and .u64 (nE) 4294967295) (Go.bits .or .u64 (shl .u64 a0 (ji8)) (shr .u64 a1 (IntKind.u64.wrap (64 - (ji8))))) ((shl .u64 a1 (ji8)) / 4294967296) (Go.bits .and .u64 (shl .u64 a1 (ji8)) 4294967295) (IntKind.u64.wrap (Int.tdiv (Go.bits .or .u64 (shl .u64 a0 (ji8)) (shr .u64 a1 (IntKind.u64.wrap (64 - (ji8))))) ((nE) / 4294967296))) (IntKind.u64.wrap ((Go.bits .or .u64 (shl .u64 a0 (ji8)) (shr .u64 a1 (IntKind.u64.wrap (64 - (ji8))))) - (IntKind.u64.wrap ((IntKind.u64.wrap (Int.tdiv (Go.bits .or .u64 (shl .u64 a0 (ji8)) (shr .u64 a1 (IntKind.u64.wrap (64 - (ji8))))) ((nE) / 4294967296))) * ((nE) / 4294967296))))))) else (none)) = some (r1, r2) := by first | (rw [bAz] at H; exact H) | (simp only [bAz] at H ⊢; exact H)
  (try rw [bAz] at A7)
  have hHf : (IntKind.u64.wrap (a2 * 2 ^ min (ji8).toNat 64)) = nE := bAz
  have hHg : (ji8) ≤ 64 → (IntKind.u64.wrap (a2 * 2 ^ (ji8).toNat)) = nE := shl_small bAz
  have cG6 := eq_true (of_decide_eq_true xas : 0 ≤ (ji8))
  obtain ⟨aEn, bMn⟩ : ∃ j_ : Int, (shl .u64 a0 (ji8)) = j_ := ⟨_, rfl⟩
  replace H : (if 0 ≤ (IntKind.u64.wrap (64 - (ji8))) then (if ((nE) / 4294967296) = 0 then (none) else (bT.l0 k nE ji8 ((nE) / 4294967296) (Go.bits .and .u64 (nE) 4294967295) (Go.bits .or .u64 (aEn) (shr .u64 a1 (IntKind.u64.wrap (64 - (ji8))))) ((shl .u64 a1 (ji8)) / 4294967296) (Go.bits .and .u64 (shl .u64 a1 (ji8)) 4294967295) (IntKind.u64.wrap (Int.tdiv (Go.bits .or .u64 (aEn) (shr .u64 a1 (IntKind.u64.wrap (64 - (ji8))))) ((nE) / 4294967296))) (IntKind.u64.wrap ((Go.bits .or .u64 (aEn) (shr .u64 a1 (IntKind.u64.wrap (64 - (ji8))))) - (IntKind.u64.wrap ((IntKind.u64.wrap (Int.tdiv (Go.bits .or .u64 (aEn) (shr .u64 a1 (IntKind.u64.wrap (64 - (ji8))))) ((nE) / 4294967296))) * ((nE) / 4294967296))))))) else (none)) = some (r1, r2) := by first | (rw [bMn] at H; exact H) | (simp only [bMn] at H ⊢; exact H)
  (try rw [bMn] at A7)
  have hHh : (IntKind.u64.wrap (a0 * 2 ^ min (ji8).toNat 64)) = aEn := bMn
  have hHl : (ji8) ≤ 64 → (IntKind.u64.wrap (a0 * 2 ^ (ji8).toNat)) = aEn := shl_small bMn
  obtain ⟨cMm, dDt⟩ : ∃ j_ : Int, (IntKind.u64.wrap (64 - (ji8))) = j_ := ⟨_, rfl⟩
  replace H : (if 0 ≤ (cMm) then (if ((nE) / 4294967296) = 0 then (none) else (bT.l0 k nE ji8 ((nE) / 4294967296) (Go.bits .and .u64 (nE) 4294967295) (Go.bits .or .u64 (aEn) (shr .u64 a1 (cMm))) ((shl .u64 a1 (ji8)) / 4294967296) (Go.bits .and .u64 (shl .u64 a1 (ji8)) 4294967295) (IntKind.u64.wrap (Int.tdiv (Go.bits .or .u64 (aEn) (shr .u64 a1 (cMm))) ((nE) / 4294967296))) (IntKind.u64.wrap ((Go.bits .or .u64 (aEn) (shr .u64 a1 (cMm))) - (IntKind.u64.wrap ((IntKind.u64.wrap (Int.tdiv (Go.bits .or .u64 (aEn) (shr .u64 a1 (cMm))) ((nE) / 4294967296))) * ((nE) / 4294967296))))))) else (none)) = some (r1, r2) := by first | (rw [dDt] at H; exact H) | (simp only [dDt] at H ⊢; exact H)
  (try rw [dDt] at A7)
  by_cases c14 : 0 ≤ (cMm)
  rotate_left
  · rw [if_neg c14] at H
    exact absurd H (by simp)
  rw [if_pos c14] at H
  have bEd := eq_true c14
  have dPh : decide (0 ≤ (cMm)) = true := decide_eq_true c14
  clear c14
  obtain ⟨yT, aVu⟩ : ∃ j_ : Int, (shr .u64 a1 (cMm)) = j_ := ⟨_, rfl⟩
  replace H : (if ((nE) / 4294967296) = 0 then (none) else (bT.l0 k nE ji8 ((nE) / 4294967296) (Go.bits .and .u64 (nE) 4294967295) (Go.bits .or .u64 (aEn) (yT)) ((shl .u64 a1 (ji8)) / 4294967296) (Go.bits .and .u64 (shl .u64 a1 (ji8)) 4294967295) (IntKind.u64.wrap (Int.tdiv (Go.bits .or .u64 (aEn) (yT)) ((nE) / 4294967296))) (IntKind.u64.wrap ((Go.bits .or .u64 (aEn) (yT)) - (IntKind.u64.wrap ((IntKind.u64.wrap (Int.tdiv (Go.bits .or .u64 (aEn) (yT)) ((nE) / 4294967296))) * ((nE) / 4294967296))))))) = some (r1, r2) := by first | (rw [aVu] at H; exact H) | (simp only [aVu] at H ⊢; exact H)
  (try rw [aVu] at A7)
  have hHm : (a1 / 2 ^ min (cMm).toNat 64) = yT := aVu
  have hHn : (cMm) ≤ 64 → (a1 / 2 ^ (cMm).toNat) = yT := shr_small aVu
  have cMn := eq_true (of_decide_eq_true xas : 0 ≤ (ji8))
  obtain ⟨aD2, bMo⟩ : ∃ j_ : Int, (shl .u64 a1 (ji8)) = j_ := ⟨_, rfl⟩
  replace H : (if ((nE) / 4294967296) = 0 then (none) else (bT.l0 k nE ji8 ((nE) / 4294967296) (Go.bits .and .u64 (nE) 4294967295) (Go.bits .or .u64 (aEn) (yT)) ((aD2) / 4294967296) (Go.bits .and .u64 (aD2) 4294967295) (IntKind.u64.wrap (Int.tdiv (Go.bits .or .u64 (aEn) (yT)) ((nE) / 4294967296))) (IntKind.u64.wrap ((Go.bits .or .u64 (aEn) (yT)) - (IntKind.u64.wrap ((IntKind.u64.wrap (Int.tdiv (Go.bits .or .u64 (aEn) (yT)) ((nE) / 4294967296))) * ((nE) / 4294967296))))))) = some (r1, r2) := by first | (rw [bMo] at H; exact H) | (simp only [bMo] at H ⊢; exact H)
  (try rw [bMo] at A7)
  have hHo : (IntKind.u64.wrap (a1 * 2 ^ min (ji8).toNat 64)) = aD2 := bMo
  have hHp : (ji8) ≤ 64 → (IntKind.u64.wrap (a1 * 2 ^ (ji8).toNat)) = aD2 := shl_small bMo
  by_cases c18 : ((nE) / 4294967296) = 0
  · rw [if_pos c18] at H
    exact absurd H (by simp)
  rw [if_neg c18] at H
  have cMo : (((nE) / 4294967296) == 0) = false := beq_eq_false_iff_ne.mpr c18
  have dPi : (((nE) / 4294967296) != 0) = true := bne_iff_ne.mpr c18
  have fFm := aZ H
  clear H
  go_enter Try.func66, Try.ntmps66
  go_upto_block 0 with (first | (go_at_call 69; (with_reducible refine (bits_LeadingZeros64.calls a2 vS _ A7.out).mono ?_); rintro e w' ⟨rfl, ⟨nd, rfl⟩⟩; (try first | exact ⟨rfl, _, World.drewN_drewN _ _ _⟩ | exact ⟨rfl, _, Eq.trans (World.drewN_drewN _ _ _) (congrArg (World.drewN _) (Nat.add_assoc _ _ _))⟩)))
  repeat (go_quiet (first | (go_at_call 69; (with_reducible refine (bits_LeadingZeros64.calls a2 vS _ A7.out).mono ?_); rintro e w' ⟨rfl, ⟨nd, rfl⟩⟩; (try first | exact ⟨rfl, _, World.drewN_drewN _ _ _⟩ | exact ⟨rfl, _, Eq.trans (World.drewN_drewN _ _ _) (congrArg (World.drewN _) (Nat.add_assoc _ _ _))⟩))); go_upto_block 0 with (first | (go_at_call 69; (with_reducible refine (bits_LeadingZeros64.calls a2 vS _ A7.out).mono ?_); rintro e w' ⟨rfl, ⟨nd, rfl⟩⟩; (try first | exact ⟨rfl, _, World.drewN_drewN _ _ _⟩ | exact ⟨rfl, _, Eq.trans (World.drewN_drewN _ _ _) (congrArg (World.drewN _) (Nat.add_assoc _ _ _))⟩))))
  (try simp only [Act.put, List.setIfInBounds_toArray, List.set_cons_zero, List.set_cons_succ])
  go_cut [15] (fun v15 wc => ∃ (kq : Nat) (aA5 : Int), v15 = .int .u64 aA5 ∧ Aside0 (bT.j2 kq nE ji8 ((nE) / 4294967296) (Go.bits .and .u64 (nE) 4294967295) (Go.bits .or .u64 (aEn) (yT)) ((aD2) / 4294967296) (Go.bits .and .u64 (aD2) 4294967295) aA5 = some (r1, r2)) ∧ Aside0 (kq ≤ k) ∧ Drawn0 w wc)
  case first =>
   have H := fFm.out
   clear fFm
   have H' := aZ H
   clear H
   go_wp2
   repeat (go_quiet (fail); try go_wp2)
   go_loopg [15, 16] k (fun kq v15 v16 w' => ∃ (bW : Int) (bMp : Int), v15 = .int .u64 bW ∧ v16 = .int .u64 bMp ∧ Aside0 (bT.l0 kq nE ji8 ((nE) / 4294967296) (Go.bits .and .u64 (nE) 4294967295) (Go.bits .or .u64 (aEn) (yT)) ((aD2) / 4294967296) (Go.bits .and .u64 (aD2) 4294967295) bW bMp = some (r1, r2)) ∧ Aside0 (kq ≤ k) ∧ Drawn0 w w')
   case atStart => exact ⟨(IntKind.u64.wrap (Int.tdiv (Go.bits .or .u64 (aEn) (yT)) ((nE) / 4294967296))), (IntKind.u64.wrap ((Go.bits .or .u64 (aEn) (yT)) - (IntKind.u64.wrap ((IntKind.u64.wrap (Int.tdiv (Go.bits .or .u64 (aEn) (yT)) ((nE) / 4294967296))) * ((nE) / 4294967296))))), (by first | rfl | (simp; done) | (simp only [← bAz, ← bMn, ← aVu] <;> (first | rfl | simp)) | (simp [*]; done)), (by first | rfl | (simp; done) | (simp only [← bAz, ← bMn, ← aVu] <;> (first | rfl | simp)) | (simp [*]; done)), H', ⟨Nat.le_refl _⟩, by repeat (first | exact Drawn0.refl _ | apply Drawn0.step)⟩
   case round =>
    clear H'
    (try clear c4); (try clear aJy); (try clear cMl); (try clear c5); (try clear bAy); (try clear c6); (try clear aWf); (try clear cU7); (try clear c9); (try clear cRm); (try clear dYu); (try clear cG6); (try clear c14); (try clear bEd); (try clear dPh); (try clear cMn); (try clear c18); (try clear cMo); (try clear dPi)
    obtain ⟨bW, bMp, rfl, rfl, HA, yS, ⟨m1, rfl⟩⟩ := hrel
    cases gk with
    | zero => exact absurd HA.out (by simp [bT.l0])
    | succ k1 =>
     have H := HA.out
     clear HA
     simp only [bT.l0] at H
     have fFn := aZ H
     clear H
     go_upto_region 17 with (fail)
     repeat (go_quiet (fail); go_upto_region 17 with (fail))
     go_cut [78] (fun v78 wc => ∃ (kq : Nat) (cVw : Bool), v78 = .bool cVw ∧ Aside0 (bT.j1 kq nE ji8 ((nE) / 4294967296) (Go.bits .and .u64 (nE) 4294967295) (Go.bits .or .u64 (aEn) (yT)) ((aD2) / 4294967296) (Go.bits .and .u64 (aD2) 4294967295) bW bMp cVw = some (r1, r2)) ∧ Aside0 (kq ≤ k1) ∧ Drawn0 w wc)
     case first =>
      have H := fFn.out
      clear fFn
      by_cases c21 : bW ≥ 4294967296
      · rw [if_pos c21] at H
        have bA0 : decide (4294967296 ≤ bW) = true := decide_eq_true c21
        clear c21
        (first | rw [bA0] | (simp only [i64_w, i32_w]; rw [bA0]) | skip)
        have H' := aZ H
        clear H
        go_wp2
        repeat (go_quiet (fail); try go_wp2)
        go_meet
        case rel => exact ⟨_, (true), xrs, H', ⟨by have := yS.out; first | omega | exact Nat.le_refl _⟩, by repeat (first | exact Drawn0.refl _ | apply Drawn0.step)⟩
      rw [if_neg c21] at H
      have bA0 : decide (4294967296 ≤ bW) = false := decide_eq_false c21
      clear c21
      (first | rw [bA0] | (simp only [i64_w, i32_w]; rw [bA0]) | skip)
      have H' := aZ H
      clear H
      go_wp2
      repeat (go_quiet (fail); try go_wp2)
      go_meet
      case rel => exact ⟨_, (decide ((IntKind.u64.wrap (bW * (Go.bits .and .u64 (nE) 4294967295))) > (IntKind.u64.wrap ((IntKind.u64.wrap (4294967296 * bMp)) + ((aD2) / 4294967296))))), (by first | rfl | (simp; done) | (simp only [← bAz, ← bMo] <;> (first | rfl | simp)) | (simp [*]; done)), H', ⟨by have := yS.out; first | omega | exact Nat.le_refl _⟩, by repeat (first | exact Drawn0.refl _ | apply Drawn0.step)⟩
     case rest =>
      clear fFn
      obtain ⟨kq, cVw, rfl, HA, eQa, ⟨iGu, rfl⟩⟩ := hcut
      cases kq with
      | zero => exact absurd HA.out (by simp [bT.j1])
      | succ eQb =>
       have H := HA.out
       clear HA
       simp only [bT.j1] at H
       by_cases c22 : cVw = true
       rotate_left
       · replace c22 := Bool.eq_false_iff.mpr c22
         subst c22
         have H1 : (bT.j2 eQb nE ji8 ((nE) / 4294967296) (Go.bits .and .u64 (nE) 4294967295) (Go.bits .or .u64 (aEn) (yT)) ((aD2) / 4294967296) (Go.bits .and .u64 (aD2) 4294967295) bW) = some (r1, r2) := by rw [if_neg (show ¬ (false = true) by decide)] at H; exact H
         clear H
         have H := H1
         clear H1
         have H' := aZ H
         clear H
         go_wp2
         repeat (go_quiet (fail); try go_wp2)
         go_meet
         case rel => exact ⟨_, (bW), xrs, H', ⟨by have := yS.out; have := eQa.out; first | omega | exact Nat.le_refl _⟩, by repeat (first | exact Drawn0.refl _ | apply Drawn0.step)⟩
       subst c22
       have H1 : (if (IntKind.u64.wrap (bMp + ((nE) / 4294967296))) ≥ 4294967296 then (bT.j2 eQb nE ji8 ((nE) / 4294967296) (Go.bits .and .u64 (nE) 4294967295) (Go.bits .or .u64 (aEn) (yT)) ((aD2) / 4294967296) (Go.bits .and .u64 (aD2) 4294967295) (IntKind.u64.wrap (bW - 1))) else (bT.l0 eQb nE ji8 ((nE) / 4294967296) (Go.bits .and .u64 (nE) 4294967295) (Go.bits .or .u64 (aEn) (yT)) ((aD2) / 4294967296) (Go.bits .and .u64 (aD2) 4294967295) (IntKind.u64.wrap (bW - 1)) (IntKind.u64.wrap (bMp + ((nE) / 4294967296))))) = some (r1, r2) := by rw [if_pos rfl] at H; exact H
       clear H
       have H := H1
       clear H1
       by_cases c23 : (IntKind.u64.wrap (bMp + ((nE) / 4294967296))) ≥ 4294967296
       · rw [if_pos c23] at H
         have cSh : decide (4294967296 ≤ (IntKind.u64.wrap (bMp + ((nE) / 4294967296)))) = true := decide_eq_true c23
         clear c23
         have H' := aZ H
         clear H
         go_wp2
         repeat (go_quiet (fail); try go_wp2)
         go_meet
         case rel => exact ⟨_, (IntKind.u64.wrap (bW - 1)), xrs, H', ⟨by have := yS.out; have := eQa.out; first | omega | exact Nat.le_refl _⟩, by repeat (first | exact Drawn0.refl _ | apply Drawn0.step)⟩
       rw [if_neg c23] at H
       have cSh : decide (4294967296 ≤ (IntKind.u64.wrap (bMp + ((nE) / 4294967296)))) = false := decide_eq_false c23
       clear c23
       have H' := aZ H
       clear H
       go_wp2
       repeat (go_quiet (fail); try go_wp2)
       go_roundg eQb
       case measure => have := yS.out; have := eQa.out; omega
       case rel => exact ⟨(IntKind.u64.wrap (bW - 1)), (IntKind.u64.wrap (bMp + ((nE) / 4294967296))), xrs, (by first | rfl | (simp; done) | (simp only [← bAz] <;> (first | rfl | simp)) | (simp [*]; done)), H', ⟨by have := yS.out; have := eQa.out; omega⟩, by repeat (first | exact Drawn0.refl _ | apply Drawn0.step)⟩
  case rest =>
   clear fFm
   (try clear c4); (try clear aJy); (try clear cMl); (try clear c5); (try clear bAy); (try clear c6); (try clear aWf); (try clear cU7); (try clear c9); (try clear cRm); (try clear dYu); (try clear cG6); (try clear c14); (try clear bEd); (try clear dPh); (try clear cMn); (try clear c18); (try clear cMo); (try clear dPi)
   obtain ⟨kq, aA5, rfl, HA, eQc, ⟨iGv, rfl⟩⟩ := hcut
   cases kq with
   | zero => exact absurd HA.out (by simp [bT.j2])
   | succ fWh =>
    have H := HA.out
    clear HA
    simp only [bT.j2] at H
    by_cases c24 : ((nE) / 4294967296) = 0
    · rw [if_pos c24] at H
      exact absurd H (by simp)
    rw [if_neg c24] at H
    have dDu : (((nE) / 4294967296) == 0) = false := beq_eq_false_iff_ne.mpr c24
    have eB4 : (((nE) / 4294967296) != 0) = true := bne_iff_ne.mpr c24
    have H' := aZ H
    clear H
    go_wp2
    repeat (go_quiet (fail); try go_wp2)
    go_loopg [16, 18] fWh (fun kq v16 v18 w' => ∃ (bMq : Int) (aM7 : Int), v16 = .int .u64 bMq ∧ v18 = .int .u64 aM7 ∧ Aside0 (bT.l1 kq nE ji8 ((nE) / 4294967296) (Go.bits .and .u64 (nE) 4294967295) (Go.bits .and .u64 (aD2) 4294967295) aA5 bMq (IntKind.u64.wrap ((IntKind.u64.wrap ((IntKind.u64.wrap ((Go.bits .or .u64 (aEn) (yT)) * 4294967296)) + ((aD2) / 4294967296))) - (IntKind.u64.wrap (aA5 * nE)))) aM7 = some (r1, r2)) ∧ Aside0 (kq ≤ fWh) ∧ Drawn0 w w')
    case atStart => exact ⟨(IntKind.u64.wrap ((IntKind.u64.wrap ((IntKind.u64.wrap ((IntKind.u64.wrap ((Go.bits .or .u64 (aEn) (yT)) * 4294967296)) + ((aD2) / 4294967296))) - (IntKind.u64.wrap (aA5 * nE)))) - (IntKind.u64.wrap ((IntKind.u64.wrap (Int.tdiv (IntKind.u64.wrap ((IntKind.u64.wrap ((IntKind.u64.wrap ((Go.bits .or .u64 (aEn) (yT)) * 4294967296)) + ((aD2) / 4294967296))) - (IntKind.u64.wrap (aA5 * nE)))) ((nE) / 4294967296))) * ((nE) / 4294967296))))), (IntKind.u64.wrap (Int.tdiv (IntKind.u64.wrap ((IntKind.u64.wrap ((IntKind.u64.wrap ((Go.bits .or .u64 (aEn) (yT)) * 4294967296)) + ((aD2) / 4294967296))) - (IntKind.u64.wrap (aA5 * nE)))) ((nE) / 4294967296))), (by first | rfl | (simp; done) | (simp only [← bAz, ← bMn, ← aVu, ← bMo] <;> (first | rfl | simp)) | (simp [*]; done)), (by first | rfl | (simp; done) | (simp only [← bAz, ← bMn, ← aVu, ← bMo] <;> (first | rfl | simp)) | (simp [*]; done)), H', ⟨Nat.le_refl _⟩, by repeat (first | exact Drawn0.refl _ | apply Drawn0.step)⟩
    case round =>
     clear H'
     (try clear c24); (try clear dDu); (try clear eB4)
     obtain ⟨bMq, aM7, rfl, rfl, HA, HK2, ⟨m2, rfl⟩⟩ := hrel
     cases gk with
     | zero => exact absurd HA.out (by simp [bT.l1])
     | succ k2 =>
      have H := HA.out
      clear HA
      simp only [bT.l1] at H
      have fFo := aZ H
      clear H
      go_upto_region 24 with (fail)
      repeat (go_quiet (fail); go_upto_region 24 with (fail))
      go_cut [113] (fun hHs wc => ∃ (kq : Nat) (cJ3 : Bool), hHs = .bool cJ3 ∧ Aside0 (bT.j4 kq nE ji8 ((nE) / 4294967296) (Go.bits .and .u64 (nE) 4294967295) (Go.bits .and .u64 (aD2) 4294967295) aA5 bMq (IntKind.u64.wrap ((IntKind.u64.wrap ((IntKind.u64.wrap ((Go.bits .or .u64 (aEn) (yT)) * 4294967296)) + ((aD2) / 4294967296))) - (IntKind.u64.wrap (aA5 * nE)))) aM7 cJ3 = some (r1, r2)) ∧ Aside0 (kq ≤ k2) ∧ Drawn0 w wc)
      case first =>
       have H := fFo.out
       clear fFo
       by_cases c26 : aM7 ≥ 4294967296
       · rw [if_pos c26] at H
         have bSt : decide (4294967296 ≤ aM7) = true := decide_eq_true c26
         clear c26
         (first | rw [bSt] | (simp only [i64_w, i32_w]; rw [bSt]) | skip)
         have H' := aZ H
         clear H
         go_wp2
         repeat (go_quiet (fail); try go_wp2)
         go_meet
         case rel => exact ⟨_, (true), xrs, H', ⟨by have := eQc.out; have := HK2.out; first | omega | exact Nat.le_refl _⟩, by repeat (first | exact Drawn0.refl _ | apply Drawn0.step)⟩
       rw [if_neg c26] at H
       have bSt : decide (4294967296 ≤ aM7) = false := decide_eq_false c26
       clear c26
       (first | rw [bSt] | (simp only [i64_w, i32_w]; rw [bSt]) | skip)
       have H' := aZ H
       clear H
       go_wp2
       repeat (go_quiet (fail); try go_wp2)
       go_meet
       case rel => exact ⟨_, (decide ((IntKind.u64.wrap (aM7 * (Go.bits .and .u64 (nE) 4294967295))) > (IntKind.u64.wrap ((IntKind.u64.wrap (4294967296 * bMq)) + (Go.bits .and .u64 (aD2) 4294967295))))), (by first | rfl | (simp; done) | (simp only [← bAz, ← bMo] <;> (first | rfl | simp)) | (simp [*]; done)), H', ⟨by have := eQc.out; have := HK2.out; first | omega | exact Nat.le_refl _⟩, by repeat (first | exact Drawn0.refl _ | apply Drawn0.step)⟩
      case rest =>
       clear fFo
       obtain ⟨kq, cJ3, rfl, HA, fWj, ⟨iGw, rfl⟩⟩ := hcut
       cases kq with
       | zero => exact absurd HA.out (by simp [bT.j4])
       | succ fWk =>
        have H := HA.out
        clear HA
        simp only [bT.j4] at H
        by_cases c27 : cJ3 = true
        rotate_left
        · replace c27 := Bool.eq_false_iff.mpr c27
          subst c27
          have H1 : (if 0 ≤ ji8 then (some (IntKind.u64.wrap ((IntKind.u64.wrap (aA5 * 4294967296)) + aM7), shr .u64 (IntKind.u64.wrap ((IntKind.u64.wrap ((IntKind.u64.wrap ((IntKind.u64.wrap ((IntKind.u64.wrap ((IntKind.u64.wrap ((Go.bits .or .u64 (aEn) (yT)) * 4294967296)) + ((aD2) / 4294967296))) - (IntKind.u64.wrap (aA5 * nE)))) * 4294967296)) + (Go.bits .and .u64 (aD2) 4294967295))) - (IntKind.u64.wrap (aM7 * nE)))) ji8)) else (none)) = some (r1, r2) := by rw [if_neg (show ¬ (false = true) by decide)] at H; exact H
          clear H
          have H := H1
          clear H1
          by_cases c31 : 0 ≤ ji8
          rotate_left
          · rw [if_neg c31] at H
            exact absurd H (by simp)
          rw [if_pos c31] at H
          have bVt := eq_true c31
          have eZ3 : decide (0 ≤ ji8) = true := decide_eq_true c31
          clear c31
          obtain ⟨fFp, dDv⟩ : ∃ j_ : Int, (shr .u64 (IntKind.u64.wrap ((IntKind.u64.wrap ((IntKind.u64.wrap ((IntKind.u64.wrap ((IntKind.u64.wrap ((IntKind.u64.wrap ((Go.bits .or .u64 (aEn) (yT)) * 4294967296)) + ((aD2) / 4294967296))) - (IntKind.u64.wrap (aA5 * nE)))) * 4294967296)) + (Go.bits .and .u64 (aD2) 4294967295))) - (IntKind.u64.wrap (aM7 * nE)))) ji8) = j_ := ⟨_, rfl⟩
          replace H : (some (IntKind.u64.wrap ((IntKind.u64.wrap (aA5 * 4294967296)) + aM7), fFp)) = some (r1, r2) := by first | (rw [dDv] at H; exact H) | (simp only [dDv] at H ⊢; exact H)
          have hHt : ((IntKind.u64.wrap ((IntKind.u64.wrap ((IntKind.u64.wrap ((IntKind.u64.wrap ((IntKind.u64.wrap ((IntKind.u64.wrap ((Go.bits .or .u64 (aEn) (yT)) * 4294967296)) + ((aD2) / 4294967296))) - (IntKind.u64.wrap (aA5 * nE)))) * 4294967296)) + (Go.bits .and .u64 (aD2) 4294967295))) - (IntKind.u64.wrap (aM7 * nE)))) / 2 ^ min ji8.toNat 64) = fFp := dDv
          have hHu : ji8 ≤ 64 → ((IntKind.u64.wrap ((IntKind.u64.wrap ((IntKind.u64.wrap ((IntKind.u64.wrap ((IntKind.u64.wrap ((IntKind.u64.wrap ((Go.bits .or .u64 (aEn) (yT)) * 4294967296)) + ((aD2) / 4294967296))) - (IntKind.u64.wrap (aA5 * nE)))) * 4294967296)) + (Go.bits .and .u64 (aD2) 4294967295))) - (IntKind.u64.wrap (aM7 * nE)))) / 2 ^ ji8.toNat) = fFp := shr_small dDv
          simp only [Option.some.injEq, Prod.mk.injEq] at H
          obtain ⟨rfl, rfl⟩ := H
          go_wp2
          repeat (go_quiet (fail); try go_wp2)
          go_ret2
          exact ⟨by first | rfl | (simp; done) | (simp only [← eB3, ← bAz, ← bMn, ← dDt, ← aVu, ← bMo, ← dDv] <;> (first | rfl | simp)) | (simp [*]; done), by repeat (first | exact Drawn0.refl _ | apply Drawn0.step)⟩
        subst c27
        have H1 : (if (IntKind.u64.wrap (bMq + ((nE) / 4294967296))) ≥ 4294967296 then (if 0 ≤ ji8 then (some (IntKind.u64.wrap ((IntKind.u64.wrap (aA5 * 4294967296)) + (IntKind.u64.wrap (aM7 - 1))), shr .u64 (IntKind.u64.wrap ((IntKind.u64.wrap ((IntKind.u64.wrap ((IntKind.u64.wrap ((IntKind.u64.wrap ((IntKind.u64.wrap ((Go.bits .or .u64 (aEn) (yT)) * 4294967296)) + ((aD2) / 4294967296))) - (IntKind.u64.wrap (aA5 * nE)))) * 4294967296)) + (Go.bits .and .u64 (aD2) 4294967295))) - (IntKind.u64.wrap ((IntKind.u64.wrap (aM7 - 1)) * nE)))) ji8)) else (none)) else (bT.l1 fWk nE ji8 ((nE) / 4294967296) (Go.bits .and .u64 (nE) 4294967295) (Go.bits .and .u64 (aD2) 4294967295) aA5 (IntKind.u64.wrap (bMq + ((nE) / 4294967296))) (IntKind.u64.wrap ((IntKind.u64.wrap ((IntKind.u64.wrap ((Go.bits .or .u64 (aEn) (yT)) * 4294967296)) + ((aD2) / 4294967296))) - (IntKind.u64.wrap (aA5 * nE)))) (IntKind.u64.wrap (aM7 - 1)))) = some (r1, r2) := by rw [if_pos rfl] at H; exact H
        clear H
        have H := H1
        clear H1
        by_cases c28 : (IntKind.u64.wrap (bMq + ((nE) / 4294967296))) ≥ 4294967296
        rotate_left
        · rw [if_neg c28] at H
          have eB5 : decide (4294967296 ≤ (IntKind.u64.wrap (bMq + ((nE) / 4294967296)))) = false := decide_eq_false c28
          clear c28
          have H' := aZ H
          clear H
          go_wp2
          repeat (go_quiet (fail); try go_wp2)
          go_roundg fWk
          case measure => have := eQc.out; have := HK2.out; have := fWj.out; omega
          case rel => exact ⟨(IntKind.u64.wrap (bMq + ((nE) / 4294967296))), (IntKind.u64.wrap (aM7 - 1)), (by first | rfl | (simp; done) | (simp only [← bAz] <;> (first | rfl | simp)) | (simp [*]; done)), xrs, H', ⟨by have := eQc.out; have := HK2.out; have := fWj.out; omega⟩, by repeat (first | exact Drawn0.refl _ | apply Drawn0.step)⟩
        rw [if_pos c28] at H
        have eB5 : decide (4294967296 ≤ (IntKind.u64.wrap (bMq + ((nE) / 4294967296)))) = true := decide_eq_true c28
        clear c28
        by_cases c29 : 0 ≤ ji8
        rotate_left
        · rw [if_neg c29] at H
          exact absurd H (by simp)
        rw [if_pos c29] at H
        have eZ4 := eq_true c29
        have eZ5 : decide (0 ≤ ji8) = true := decide_eq_true c29
        clear c29
        obtain ⟨fFq, dDw⟩ : ∃ j_ : Int, (shr .u64 (IntKind.u64.wrap ((IntKind.u64.wrap ((IntKind.u64.wrap ((IntKind.u64.wrap ((IntKind.u64.wrap ((IntKind.u64.wrap ((Go.bits .or .u64 (aEn) (yT)) * 4294967296)) + ((aD2) / 4294967296))) - (IntKind.u64.wrap (aA5 * nE)))) * 4294967296)) + (Go.bits .and .u64 (aD2) 4294967295))) - (IntKind.u64.wrap ((IntKind.u64.wrap (aM7 - 1)) * nE)))) ji8) = j_ := ⟨_, rfl⟩
        replace H : (some (IntKind.u64.wrap ((IntKind.u64.wrap (aA5 * 4294967296)) + (IntKind.u64.wrap (aM7 - 1))), fFq)) = some (r1, r2) := by first | (rw [dDw] at H; exact H) | (simp only [dDw] at H ⊢; exact H)
        have hHv : ((IntKind.u64.wrap ((IntKind.u64.wrap ((IntKind.u64.wrap ((IntKind.u64.wrap ((IntKind.u64.wrap ((IntKind.u64.wrap ((Go.bits .or .u64 (aEn) (yT)) * 4294967296)) + ((aD2) / 4294967296))) - (IntKind.u64.wrap (aA5 * nE)))) * 4294967296)) + (Go.bits .and .u64 (aD2) 4294967295))) - (IntKind.u64.wrap ((IntKind.u64.wrap (aM7 - 1)) * nE)))) / 2 ^ min ji8.toNat 64) = fFq := dDw
        have hHx : ji8 ≤ 64 → ((IntKind.u64.wrap ((IntKind.u64.wrap ((IntKind.u64.wrap ((IntKind.u64.wrap ((IntKind.u64.wrap ((IntKind.u64.wrap ((Go.bits .or .u64 (aEn) (yT)) * 4294967296)) + ((aD2) / 4294967296))) - (IntKind.u64.wrap (aA5 * nE)))) * 4294967296)) + (Go.bits .and .u64 (aD2) 4294967295))) - (IntKind.u64.wrap ((IntKind.u64.wrap (aM7 - 1)) * nE)))) / 2 ^ ji8.toNat) = fFq := shr_small dDw
        simp only [Option.some.injEq, Prod.mk.injEq] at H
        obtain ⟨rfl, rfl⟩ := H
        go_wp2
        repeat (go_quiet (fail); try go_wp2)
        go_ret2
        exact ⟨by first | rfl | (simp; done) | (simp only [← eB3, ← bAz, ← bMn, ← dDt, ← aVu, ← bMo, ← dDw] <;> (first | rfl | simp)) | (simp [*]; done), by repeat (first | exact Drawn0.refl _ | apply Drawn0.step)⟩
def digest_mul.f (k : Nat) (a0 : Int) (a1 : Int) : Option (Int) := (bits_Mul64.f a0 a1).bind fun dDo => ((bT.f k (Int.tmod dDo.1 2305843009213693951) dDo.2 2305843009213693951).bind fun dDp => (some dDp.2))
theorem digest_mul.mono : ∀ a0 a1 k, LeO (digest_mul.f k a0 a1) (digest_mul.f (k + 1) a0 a1) := by
  intro a0 a1 k
  unfold digest_mul.f
  repeat' first | (with_reducible first | exact bT.mono _ _ _ _ | exact LeO.refl _ | exact LeO.none _ | refine LeO.ite ?_ ?_ | refine LeO.bind ?_ (fun _ => ?_)) | exact bT.mono _ _ _ _ | exact LeO.none _ | refine LeO.ite ?_ ?_ | refine LeO.bind ?_ (fun _ => ?_)
set_option maxHeartbeats 8000000 in
set_option maxRecDepth 100000 in
theorem digest_mul.calls (k : Nat) (a0 : Int) (a1 : Int) (r : Int) (w : World) (h : digest_mul.f k a0 a1 = some r) :
    Calls Try.prog 52 #[.int .u64 a0, .int .u64 a1] w fun e w' => e = .returned (.int .u64 r) ∧ Drawn0 w w' := by
  have H : ((bits_Mul64.f a0 a1).bind fun dDo => ((bT.f k (Int.tmod dDo.1 2305843009213693951) dDo.2 2305843009213693951).bind fun dDp => (some dDp.2))) = some r := h
  clear h
  replace H := Option.bind_eq_some_iff.mp H
  obtain ⟨⟨eP7, eP8⟩, A30, H⟩ := H
  replace H : ((bT.f k (Int.tmod eP7 2305843009213693951) eP8 2305843009213693951).bind fun dDp => (some dDp.2)) = some r := H
  have A3 := aZ A30
  clear A30
  replace H := Option.bind_eq_some_iff.mp H
  obtain ⟨⟨hHb, fWe⟩, A40, H⟩ := H
  replace H : (some fWe) = some r := H
  have A4 := aZ A40
  clear A40
  obtain rfl := Option.some.inj H
  go_enter Try.func52, Try.ntmps52
  go_wp2_with (first | ((with_reducible refine gate_callee (f := 65) rfl ?_); refine goesL_ (some 12) rfl rfl Try.func65 (by kernel_rfl) rfl #[.int .u64 a0, .int .u64 a1] rfl xmp ?_; (with_reducible refine (bits_Mul64.calls a0 a1 eP7 eP8 _ A3.out).mono ?_); rintro e w' ⟨rfl, ⟨nd, rfl⟩⟩; refine ⟨_, rfl, ?_⟩) | ((with_reducible refine gate_callee (f := 66) rfl ?_); refine goesL_ (some 19) rfl rfl Try.func66 (by kernel_rfl) rfl #[.int .u64 (Int.tmod eP7 2305843009213693951), .int .u64 eP8, .int .u64 2305843009213693951] rfl xmp ?_; (with_reducible refine (bT.calls k (Int.tmod eP7 2305843009213693951) eP8 2305843009213693951 hHb fWe _ A4.out).mono ?_); rintro e w' ⟨rfl, ⟨nd, rfl⟩⟩; refine ⟨_, rfl, ?_⟩))
  go_ret
  exact ⟨by first | rfl | (simp; done) | (simp [*]; done), by repeat (first | exact Drawn0.refl _ | apply Drawn0.step)⟩
def digest_Of.l0 : Nat → Int → List Int → Int → Int → Option (Int × Int × Int)
  | 0, _, _, _, _ => none
  | k + 1, x4, x11, x12, x13 => if x13 < x12 then (if 0 ≤ x13 then (if x13 < (x11.length : Int) then ((digest_mul.f k x4 257).bind fun eB0 => (digest_Of.l0 k (Int.tmod (IntKind.u64.wrap ((IntKind.u64.wrap (eB0 + (IntKind.u64.wrap (rd x11 x13)))) + 1)) 2305843009213693951) x11 x12 (wrap64 (x13 + 1)))) else (none)) else (none)) else (some (wrap64 (x4), 0, 0))
def digest_Of.f (k : Nat) (l0 : List Int) : Option (Int × Int × Int) := if (l0.length : Int) > 4096 then (some (0, 2, 0)) else (digest_Of.l0 k 1 l0 (l0.length : Int) 0)
theorem digest_Of.mono_l : ∀ k, (∀ y0 y1 y2 y3, LeO (digest_Of.l0 k y0 y1 y2 y3) (digest_Of.l0 (k + 1) y0 y1 y2 y3))
  | 0 => fun _ _ _ _ r h => by simp [digest_Of.l0] at h
  | k + 1 => by
    have mU := digest_Of.mono_l k
    · intro y0 y1 y2 y3
      unfold digest_Of.l0
      repeat' first | (with_reducible first | exact mU _ _ _ _ | exact digest_mul.mono _ _ _ | exact LeO.refl _ | exact LeO.none _ | refine LeO.ite ?_ ?_ | refine LeO.bind ?_ (fun _ => ?_)) | exact mU _ _ _ _ | exact digest_mul.mono _ _ _ | exact LeO.none _ | refine LeO.ite ?_ ?_ | refine LeO.bind ?_ (fun _ => ?_)
theorem digest_Of.mono : ∀ a0 k, LeO (digest_Of.f k a0) (digest_Of.f (k + 1) a0) := by
  intro a0 k
  have mU := digest_Of.mono_l k
  unfold digest_Of.f
  repeat' first | (with_reducible first | exact mU _ _ _ _ | exact digest_mul.mono _ _ _ | exact LeO.refl _ | exact LeO.none _ | refine LeO.ite ?_ ?_ | refine LeO.bind ?_ (fun _ => ?_)) | exact mU _ _ _ _ | exact digest_mul.mono _ _ _ | exact LeO.none _ | refine LeO.ite ?_ ?_ | refine LeO.bind ?_ (fun _ => ?_)
set_option maxHeartbeats 8000000 in
set_option maxRecDepth 100000 in
theorem digest_Of.calls (k : Nat) (A0 : Option Addr) (c0 : Nat) (l0 : List Int) (r1 : Int) (r2 : Int) (r3 : Int) (w : World) (hr0 : Kd.C (Kd.int .u8) w A0 l0.length l0) (hc0 : l0.length ≤ c0) (h : digest_Of.f k l0 = some (r1, r2, r3)) :
  Calls Try.prog 40 #[.slice A0 l0.length c0] w fun e w' => e = .returned (.tuple #[.int .i64 r1, .agg #[.int .i64 r2, .int .i64 r3]]) ∧ Below w.heap.size w w' := by
  have aQg := Try.underlying28
  have HR0 := aZ hr0
  have HC0 := aZ hc0
  clear hr0 hc0
  have HB := aZ (Below.refl w.heap.size w)
  have H : (if (l0.length : Int) > 4096 then (some (0, 2, 0)) else (digest_Of.l0 k 1 l0 (l0.length : Int) 0)) = some (r1, r2, r3) := h
  clear h
  by_cases c2 : (l0.length : Int) > 4096
  · rw [if_pos c2] at H
    have aW6 : decide (4096 < (l0.length : Int)) = true := decide_eq_true c2
    have bEc : decide (4096 < l0.length) = true := decide_eq_true (by omega)
    clear c2
    simp only [Option.some.injEq, Prod.mk.injEq] at H
    obtain ⟨rfl, rfl, rfl⟩ := H
    go_enter Try.func40, Try.ntmps40
    go_wp2_with (first | ((with_reducible refine gate_dst (N := 3) rfl ?_); refine box_event ?hg (N := 3) ?hd (cs := #[.int .i64 0, .int .i64 0]) (t := 28) ?hr ?_; (case hd => rfl); (case hg => rfl); (case hr => first | (go_simp; done) | (go_simp; rfl)); intro cG5 hg w3 hbox hb; have bCc := aZ (hbox); have fWa := xgh hg HB; have fWb := xgh hg HB; replace HB := xhl HB hb; clear hb hbox hg; have cVu : w3.cell? ⟨cG5, 0, none⟩ = some (.int .i64 0) := (blk_cell bCc.out 0).trans rfl; have eB1 : w3.cell? ⟨cG5, 1, none⟩ = some (.int .i64 0) := (blk_cell bCc.out 1).trans rfl; have cVv := blk_frozen bCc.out 0; have eB2 := blk_frozen bCc.out 1))
    refine bodyPost_ret (results_tc rfl _ _ cG5 28 #[.int .i64 2, .int .i64 0] (0, 0) _ rfl (by (with_reducible repeat (first | refine bN ?_ _ | refine bD ?_ | refine bA ?_ _)); refine blk_put (cs := #[.int .i64 2, .int .i64 0]) ?_ 1 _ rfl; (with_reducible repeat (first | refine bN ?_ _ | refine bD ?_ | refine bA ?_ _)); refine blk_put (cs := #[.int .i64 0, .int .i64 0]) ?_ 0 _ rfl; (with_reducible repeat (first | refine bN ?_ _ | refine bD ?_ | refine bA ?_ _)); exact bCc.out) Try.underlying28 rfl (by kernel_rfl)) rfl ?_
    exact ⟨xre, xq HB⟩
  rw [if_neg c2] at H
  have aW6 : decide (4096 < (l0.length : Int)) = false := decide_eq_false c2
  have bEc : decide (4096 < l0.length) = false := decide_eq_false (by omega)
  clear c2
  have H' := aZ H
  clear H
  go_enter Try.func40, Try.ntmps40
  go_wp2_with (first | ((with_reducible refine gate_dst (N := 3) rfl ?_); refine box_event ?hg (N := 3) ?hd (cs := #[.int .i64 0, .int .i64 0]) (t := 28) ?hr ?_; (case hd => rfl); (case hg => rfl); (case hr => first | (go_simp; done) | (go_simp; rfl)); intro cG5 hg w5 hbox hb; have bCc := aZ (hbox); have fWa := xgh hg HB; have fWb := xgh hg HB; replace HB := xhl HB hb; clear hb hbox hg))
  go_loopg [4, 13] k (fun kq v4 v13 w' => ∃ (iL : Int) (kV : Int), v4 = .int .u64 iL ∧ v13 = .int .i64 kV ∧ Aside0 (digest_Of.l0 kq iL l0 (l0.length : Int) kV = some (r1, r2, r3)) ∧ Aside0 (kq ≤ k) ∧ Aside0 (w'.heap[cG5]? = some (.cells #[.int .i64 0, .int .i64 0] 28 (0, 0))) ∧ Aside0 (Below w.heap.size w w'))
  case atStart => exact ⟨(1), (0), xrs, xrs, H', ⟨Nat.le_refl _⟩, xk bCc, xb HB⟩
  case round =>
   clear H'
   (try clear c2); (try clear aW6); (try clear bEc)
   obtain ⟨iL, kV, rfl, rfl, HA, yS, bCc, HB⟩ := hrel
   cases gk with
   | zero => exact absurd HA.out (by simp [digest_Of.l0])
   | succ k1 =>
    have H := HA.out
    clear HA
    simp only [digest_Of.l0] at H
    by_cases c6 : kV < (l0.length : Int)
    rotate_left
    · rw [if_neg c6] at H
      have aWf : decide (kV < (l0.length : Int)) = false := decide_eq_false c6
      clear c6
      simp only [Option.some.injEq, Prod.mk.injEq] at H
      obtain ⟨rfl, rfl, rfl⟩ := H
      have aA3 : wr.cell? ⟨cG5, 0, none⟩ = some (.int .i64 0) := (blk_cell bCc.out 0).trans rfl
      have bIv : wr.cell? ⟨cG5, 1, none⟩ = some (.int .i64 0) := (blk_cell bCc.out 1).trans rfl
      have aA4 := blk_frozen bCc.out 0
      have bIw := blk_frozen bCc.out 1
      go_wp2
      refine bodyPost_ret (results_tc rfl _ _ cG5 28 #[.int .i64 0, .int .i64 0] (0, 0) _ rfl (by (with_reducible repeat (first | refine bN ?_ _ | refine bD ?_ | refine bA ?_ _)); refine blk_put (cs := #[.int .i64 0, .int .i64 0]) ?_ 1 _ rfl; (with_reducible repeat (first | refine bN ?_ _ | refine bD ?_ | refine bA ?_ _)); refine blk_put (cs := #[.int .i64 0, .int .i64 0]) ?_ 0 _ rfl; (with_reducible repeat (first | refine bN ?_ _ | refine bD ?_ | refine bA ?_ _)); exact bCc.out) Try.underlying28 rfl (by kernel_rfl)) rfl ?_
      exact ⟨xre, xq HB⟩

    rw [if_pos c6] at H
    have aWf : decide (kV < (l0.length : Int)) = true := decide_eq_true c6
    clear c6
    by_cases c7 : 0 ≤ kV
    rotate_left
    · rw [if_neg c7] at H
      exact absurd H (by simp)
    rw [if_pos c7] at H
    have bTm : decide (0 ≤ kV) = true := decide_eq_true c7
    clear c7
    by_cases c8 : kV < (l0.length : Int)
    rotate_left
    · rw [if_neg c8] at H
      exact absurd H (by simp)
    rw [if_pos c8] at H
    have bTn : decide (kV < (l0.length : Int)) = true := decide_eq_true c8
    clear c8
    replace H := Option.bind_eq_some_iff.mp H
    obtain ⟨eB0, A90, H⟩ := H
    replace H : (digest_Of.l0 k1 (Int.tmod (IntKind.u64.wrap ((IntKind.u64.wrap (eB0 + (IntKind.u64.wrap (rd l0 kV)))) + 1)) 2305843009213693951) l0 (l0.length : Int) (wrap64 (kV + 1))) = some (r1, r2, r3) := H
    have A9 := aZ A90
    clear A90
    have H' := aZ H
    clear H
    have fFk : 0 ≤ (kV : Int) := of_decide_eq_true xas
    have fFl : kV < (l0.length : Int) := of_decide_eq_true xas
    obtain ⟨iAz, hHa, dPg⟩ := Kd.at_int HR0.out kV fFk fFl
    cases hHa
    replace dPg := xcl HB dPg
    replace fFk := eq_true fFk
    replace fFl := eq_true fFl
    go_wp2_with (first | ((with_reducible refine gate_callee (f := 52) rfl ?_); refine goesL_ (some 18) rfl rfl Try.func52 (by kernel_rfl) rfl #[.int .u64 iL, .int .u64 257] rfl xmp ?_; (with_reducible refine (digest_mul.calls k1 iL 257 eB0 _ A9.out).mono ?_); rintro e w' ⟨rfl, ⟨nd, rfl⟩⟩; refine ⟨_, rfl, ?_⟩))
    go_roundg k1
    case measure => have := yS.out; omega
    case rel => exact ⟨(Int.tmod (IntKind.u64.wrap ((IntKind.u64.wrap (eB0 + (IntKind.u64.wrap (rd l0 kV)))) + 1)) 2305843009213693951), (wrap64 (kV + 1)), xrs, xrs, H', ⟨by have := yS.out; omega⟩, xk bCc, xb HB⟩
mutual
def objects_check.j1 : Nat → Int → List Int → List Int → Option (Int × Int)
  | 0, _, _, _ => none
  | k + 1, cJ5, bIx, cJ6 => objects_check.l0 k bIx (bIx.length : Int) 0
def objects_check.l0 : Nat → List Int → Int → Int → Option (Int × Int)
  | 0, _, _, _ => none
  | k + 1, x39, x40, x41 => if x41 < x40 then (if 0 ≤ x41 then (if x41 < (x39.length : Int) then (if (rd x39 x41) < 0 then (some (3, x41)) else (if (rd x39 x41) ≥ 2305843009213693951 then (some (3, x41)) else (objects_check.l0 k x39 x40 (wrap64 (x41 + 1))))) else (none)) else (none)) else (some (0, 0))
def objects_check.j0 : Nat → Bool → Int → List Int → List Int → Option (Int × Int)
  | 0, _, _, _, _ => none
  | k + 1, x5, cJ5, bIx, cJ6 => if x5 = true then (some (4, 0)) else (if (bIx.length : Int) > 30 then (some (2, 0)) else (if (cJ6.length : Int) > 1000 then (some (10, 0)) else (if cJ5 = 1 then (if (bIx.length : Int) > 0 then (some (5, 0)) else (objects_check.j1 k cJ5 bIx cJ6)) else (objects_check.j1 k cJ5 bIx cJ6))))
end
def objects_check.f (k : Nat) (dP : Int) (dA : List Int) (dZ : List Int) : Option (Int × Int) := if dP < 1 then (objects_check.j0 k true dP dA dZ) else (objects_check.j0 k (decide (dP > 3)) dP dA dZ)
theorem objects_check.mono_l : ∀ k, (∀ y0 y1 y2, LeO (objects_check.j1 k y0 y1 y2) (objects_check.j1 (k + 1) y0 y1 y2)) ∧ (∀ y0 y1 y2, LeO (objects_check.l0 k y0 y1 y2) (objects_check.l0 (k + 1) y0 y1 y2)) ∧ (∀ y0 y1 y2 y3, LeO (objects_check.j0 k y0 y1 y2 y3) (objects_check.j0 (k + 1) y0 y1 y2 y3))
  | 0 => ⟨fun _ _ _ r h => by simp [objects_check.j1] at h, fun _ _ _ r h => by simp [objects_check.l0] at h, fun _ _ _ _ r h => by simp [objects_check.j0] at h⟩
  | k + 1 => by
    obtain ⟨mU, ih1, ih2⟩ := objects_check.mono_l k
    refine ⟨?_, ?_, ?_⟩
    all_goals intros; first | unfold objects_check.j1 | unfold objects_check.l0 | unfold objects_check.j0
    all_goals repeat' first | (with_reducible first | exact mU _ _ _ | exact ih1 _ _ _ | exact ih2 _ _ _ _ | exact LeO.refl _ | exact LeO.none _ | refine LeO.ite ?_ ?_ | refine LeO.bind ?_ (fun _ => ?_)) | exact mU _ _ _ | exact ih1 _ _ _ | exact ih2 _ _ _ _ | exact LeO.none _ | refine LeO.ite ?_ ?_ | refine LeO.bind ?_ (fun _ => ?_)
theorem objects_check.mono : ∀ a0 a1 a2 k, LeO (objects_check.f k a0 a1 a2) (objects_check.f (k + 1) a0 a1 a2) := by
  intro a0 a1 a2 k
  obtain ⟨mU, ih1, ih2⟩ := objects_check.mono_l k
  unfold objects_check.f
  repeat' first | (with_reducible first | exact mU _ _ _ | exact ih1 _ _ _ | exact ih2 _ _ _ _ | exact LeO.refl _ | exact LeO.none _ | refine LeO.ite ?_ ?_ | refine LeO.bind ?_ (fun _ => ?_)) | exact mU _ _ _ | exact ih1 _ _ _ | exact ih2 _ _ _ _ | exact LeO.none _ | refine LeO.ite ?_ ?_ | refine LeO.bind ?_ (fun _ => ?_)
set_option maxHeartbeats 8000000 in
set_option maxRecDepth 100000 in
theorem objects_check.calls (k : Nat) (dP : Int) (nK : Option Addr) (mY : Nat) (dA : List Int) (mE : Option Addr) (mF : Nat) (dZ : List Int) (r1 : Int) (r2 : Int) (w : World) (aFz : Kd.C (Kd.int .i64) w nK dA.length dA) (aFy : dA.length ≤ mY) (aD6 : Kd.C (Kd.int .u8) w mE dZ.length dZ) (aD5 : dZ.length ≤ mF) (h : objects_check.f k dP dA dZ = some (r1, r2)) :
  Calls Try.prog 46 #[.agg #[.int .i64 dP, .slice nK dA.length mY, .slice mE dZ.length mF]] w fun e w' => e = .returned (.agg #[.int .i64 r1, .int .i64 r2]) ∧ Below w.heap.size w w' := by
  have aQf := Try.underlying44
  have aQg := Try.underlying28
  have aCl := aZ aFz
  have aIz := aZ aFy
  clear aFz aFy
  have aF0 := aZ aD6
  have aNm := aZ aD5
  clear aD6 aD5
  have HB := aZ (Below.refl w.heap.size w)
  have H : (if dP < 1 then (objects_check.j0 k true dP dA dZ) else (objects_check.j0 k (decide (dP > 3)) dP dA dZ)) = some (r1, r2) := h
  clear h
  have HC2 := aZ H
  clear H
  go_enter Try.func46, Try.ntmps46
  go_upto_block 0 with (first | ((with_reducible refine gate_dst (N := 1) rfl ?_); (try (refine gate_guard (by rfl) ?_; dsimp only)); refine box_event ?hg (N := 1) ?hd (cs := #[.int .i64 dP, .slice nK dA.length mY, .slice mE dZ.length mF]) (t := 44) ?hr ?_; (case hd => rfl); (case hg => rfl); (case hr => first | (go_simp; done) | (go_simp; rfl)); intro aEo hg w3 hbox hb; have pJ := aZ (hbox); have iA0 := xgh hg HB; have iA1 := xgh hg HB; replace HB := xhl HB hb; clear hb hbox hg) | ((with_reducible refine gate_dst (N := 2) rfl ?_); (try (refine gate_guard (by rfl) ?_; dsimp only)); refine box_event ?hg (N := 2) ?hd (cs := #[.int .i64 0, .int .i64 0]) (t := 28) ?hr ?_; (case hd => rfl); (case hg => rfl); (case hr => first | (go_simp; done) | (go_simp; rfl)); intro aHj hg w4 hbox hb; have vK := aZ (hbox); have iA2 := xgh hg HB; have iA3 := xgh hg HB; replace HB := xhl HB hb; have aCr := xnl hg pJ; have aCs := xng hg pJ; replace pJ := xbb pJ hb; clear hb hbox hg))
  (try simp only [Act.put, List.setIfInBounds_toArray, List.set_cons_zero, List.set_cons_succ])
  go_cut [] (fun wc => ∃ (kq : Nat) (cCe : Int) (cCf : Int), Aside0 (objects_check.j1 kq dP dA dZ = some (r1, r2)) ∧ Aside0 (kq ≤ k) ∧ Aside0 (wc.heap[aEo]? = some (.cells #[.int .i64 dP, (.slice nK dA.length mY), (.slice mE dZ.length mF)] 44 (0, 0))) ∧ Aside0 (wc.heap[aHj]? = some (.cells #[.int .i64 cCe, .int .i64 cCf] 28 (0, 0))) ∧ Aside0 (Below w.heap.size w wc))
  case first =>
   have H := HC2.out
   clear HC2
   have HC5 := aZ H
   clear H
   go_upto_region 1 with (fail)
   go_cut [5] (fun v5 wc => ∃ (kq : Nat) (eQd : Bool), v5 = .bool eQd ∧ Aside0 (objects_check.j0 kq eQd dP dA dZ = some (r1, r2)) ∧ Aside0 (kq ≤ k) ∧ Aside0 (wc.heap[aEo]? = some (.cells #[.int .i64 dP, (.slice nK dA.length mY), (.slice mE dZ.length mF)] 44 (0, 0))) ∧ Aside0 (wc.heap[aHj]? = some (.cells #[.int .i64 0, .int .i64 0] 28 (0, 0))) ∧ Aside0 (Below w.heap.size w wc))
   case first =>
    have H := HC5.out
    clear HC5
    by_cases c6 : dP < 1
    · rw [if_pos c6] at H
      have aWf : decide (dP < 1) = true := decide_eq_true c6
      clear c6
      (first | rw [aWf] | (simp only [i64_w, i32_w]; rw [aWf]) | skip)
      have H' := aZ H
      clear H
      have fFs := aCr.out
      have fFt := aCs.out
      have cMq : w4.cell? ⟨aEo, 0, none⟩ = some (.int .i64 dP) := (blk_cell pJ.out 0).trans rfl
      have hHz : w4.cell? ⟨aEo, 1, none⟩ = some (.slice nK dA.length mY) := (blk_cell pJ.out 1).trans rfl
      have hH4 : w4.cell? ⟨aEo, 2, none⟩ = some (.slice mE dZ.length mF) := (blk_cell pJ.out 2).trans rfl
      have cMr := blk_frozen pJ.out 0
      have hH8 := blk_frozen pJ.out 1
      have hH9 := blk_frozen pJ.out 2
      go_wp2
      go_meet
      case rel => exact ⟨_, (true), xrs, H', ⟨by first | omega | exact Nat.le_refl _⟩, xk pJ, xk vK, xb HB⟩
    rw [if_neg c6] at H
    have aWf : decide (dP < 1) = false := decide_eq_false c6
    clear c6
    (first | rw [aWf] | (simp only [i64_w, i32_w]; rw [aWf]) | skip)
    have H' := aZ H
    clear H
    have dJq := aCr.out
    have dJr := aCs.out
    have aA3 : w4.cell? ⟨aEo, 0, none⟩ = some (.int .i64 dP) := (blk_cell pJ.out 0).trans rfl
    have bIv : w4.cell? ⟨aEo, 1, none⟩ = some (.slice nK dA.length mY) := (blk_cell pJ.out 1).trans rfl
    have bPl : w4.cell? ⟨aEo, 2, none⟩ = some (.slice mE dZ.length mF) := (blk_cell pJ.out 2).trans rfl
    have aA4 := blk_frozen pJ.out 0
    have bIw := blk_frozen pJ.out 1
    have bPm := blk_frozen pJ.out 2
    go_wp2
    go_meet
    case rel => exact ⟨_, (decide (dP > 3)), xrs, H', ⟨by first | omega | exact Nat.le_refl _⟩, xk pJ, xk vK, xb HB⟩
   case rest =>
    clear HC5
    obtain ⟨kq, eQd, rfl, HA, HJ4, pJ, vK, HB⟩ := hcut
    cases kq with
    | zero => exact absurd HA.out (by simp [objects_check.j0])
    | succ kj4 =>
     have H := HA.out
     clear HA
     simp only [objects_check.j0] at H
     by_cases c11 : eQd = true
     · subst c11
       have H1 : (some (4, 0)) = some (r1, r2) := by rw [if_pos rfl] at H; exact H
       clear H
       have H := H1
       clear H1
       simp only [Option.some.injEq, Prod.mk.injEq] at H
       obtain ⟨rfl, rfl⟩ := H
       have dPk := aCs.out
       have dPl := aCr.out
       have bCd : wc.cell? ⟨aHj, 0, none⟩ = some (.int .i64 0) := (blk_cell vK.out 0).trans rfl
       have dPm : wc.cell? ⟨aHj, 1, none⟩ = some (.int .i64 0) := (blk_cell vK.out 1).trans rfl
       have bCe := blk_frozen vK.out 0
       have dPn := blk_frozen vK.out 1
       go_wp2
       refine bodyPost_ret (results_cell_row rfl _ _ aHj 28 #[.int .i64 4, .int .i64 0] (0, 0) _ rfl (by (with_reducible repeat (first | refine bN ?_ _ | refine bD ?_ | refine bA ?_ _)); refine blk_put (cs := #[.int .i64 4, .int .i64 0]) ?_ 1 _ rfl; (with_reducible repeat (first | refine bN ?_ _ | refine bD ?_ | refine bA ?_ _)); refine blk_put (cs := #[.int .i64 0, .int .i64 0]) ?_ 0 _ rfl; (with_reducible repeat (first | refine bN ?_ _ | refine bD ?_ | refine bA ?_ _)); exact vK.out) Try.underlying28 rfl (by kernel_rfl)) rfl ?_
       exact ⟨xre, xq HB⟩
     replace c11 := Bool.eq_false_iff.mpr c11
     subst c11
     have H1 : (if (dA.length : Int) > 30 then (some (2, 0)) else (if (dZ.length : Int) > 1000 then (some (10, 0)) else (if dP = 1 then (if (dA.length : Int) > 0 then (some (5, 0)) else (objects_check.j1 kj4 dP dA dZ)) else (objects_check.j1 kj4 dP dA dZ)))) = some (r1, r2) := by rw [if_neg (show ¬ (false = true) by decide)] at H; exact H
     clear H
     have H := H1
     clear H1
     by_cases c14 : (dA.length : Int) > 30
     · rw [if_pos c14] at H
       have bEd : decide (30 < (dA.length : Int)) = true := decide_eq_true c14
       have dPh : decide (30 < dA.length) = true := decide_eq_true (by omega)
       clear c14
       simp only [Option.some.injEq, Prod.mk.injEq] at H
       obtain ⟨rfl, rfl⟩ := H
       have bVv := aCr.out
       have bVw := aCs.out
       have aQj : wc.cell? ⟨aEo, 0, none⟩ = some (.int .i64 dP) := (blk_cell pJ.out 0).trans rfl
       have bIp : wc.cell? ⟨aEo, 1, none⟩ = some (.slice nK dA.length mY) := (blk_cell pJ.out 1).trans rfl
       have cJo : wc.cell? ⟨aEo, 2, none⟩ = some (.slice mE dZ.length mF) := (blk_cell pJ.out 2).trans rfl
       have aQk := blk_frozen pJ.out 0
       have bIq := blk_frozen pJ.out 1
       have cJp := blk_frozen pJ.out 2
       have bIy : wc.cell? ⟨aHj, 0, none⟩ = some (.int .i64 0) := (blk_cell vK.out 0).trans rfl
       have cVx : wc.cell? ⟨aHj, 1, none⟩ = some (.int .i64 0) := (blk_cell vK.out 1).trans rfl
       have bIz := blk_frozen vK.out 0
       have cVy := blk_frozen vK.out 1
       go_wp2
       refine bodyPost_ret (results_cell_row rfl _ _ aHj 28 #[.int .i64 2, .int .i64 0] (0, 0) _ rfl (by (with_reducible repeat (first | refine bN ?_ _ | refine bD ?_ | refine bA ?_ _)); refine blk_put (cs := #[.int .i64 2, .int .i64 0]) ?_ 1 _ rfl; (with_reducible repeat (first | refine bN ?_ _ | refine bD ?_ | refine bA ?_ _)); refine blk_put (cs := #[.int .i64 0, .int .i64 0]) ?_ 0 _ rfl; (with_reducible repeat (first | refine bN ?_ _ | refine bD ?_ | refine bA ?_ _)); exact vK.out) Try.underlying28 rfl (by kernel_rfl)) rfl ?_
       exact ⟨xre, xq HB⟩
     rw [if_neg c14] at H
     have bEd : decide (30 < (dA.length : Int)) = false := decide_eq_false c14
     have dPh : decide (30 < dA.length) = false := decide_eq_false (by omega)
     clear c14
     by_cases c18 : (dZ.length : Int) > 1000
     · rw [if_pos c18] at H
       have cMo : decide (1000 < (dZ.length : Int)) = true := decide_eq_true c18
       have dPi : decide (1000 < dZ.length) = true := decide_eq_true (by omega)
       clear c18
       simp only [Option.some.injEq, Prod.mk.injEq] at H
       obtain ⟨rfl, rfl⟩ := H
       have bMh := aCr.out
       have bMi := aCs.out
       have aJw : wc.cell? ⟨aEo, 0, none⟩ = some (.int .i64 dP) := (blk_cell pJ.out 0).trans rfl
       have aW4 : wc.cell? ⟨aEo, 1, none⟩ = some (.slice nK dA.length mY) := (blk_cell pJ.out 1).trans rfl
       have cJw : wc.cell? ⟨aEo, 2, none⟩ = some (.slice mE dZ.length mF) := (blk_cell pJ.out 2).trans rfl
       have aJx := blk_frozen pJ.out 0
       have aW5 := blk_frozen pJ.out 1
       have cJx := blk_frozen pJ.out 2
       have bPb : wc.cell? ⟨aHj, 0, none⟩ = some (.int .i64 0) := (blk_cell vK.out 0).trans rfl
       have cJq : wc.cell? ⟨aHj, 1, none⟩ = some (.int .i64 0) := (blk_cell vK.out 1).trans rfl
       have bPc := blk_frozen vK.out 0
       have cJr := blk_frozen vK.out 1
       go_wp2
       refine bodyPost_ret (results_cell_row rfl _ _ aHj 28 #[.int .i64 10, .int .i64 0] (0, 0) _ rfl (by (with_reducible repeat (first | refine bN ?_ _ | refine bD ?_ | refine bA ?_ _)); refine blk_put (cs := #[.int .i64 10, .int .i64 0]) ?_ 1 _ rfl; (with_reducible repeat (first | refine bN ?_ _ | refine bD ?_ | refine bA ?_ _)); refine blk_put (cs := #[.int .i64 0, .int .i64 0]) ?_ 0 _ rfl; (with_reducible repeat (first | refine bN ?_ _ | refine bD ?_ | refine bA ?_ _)); exact vK.out) Try.underlying28 rfl (by kernel_rfl)) rfl ?_
       exact ⟨xre, xq HB⟩
     rw [if_neg c18] at H
     have cMo : decide (1000 < (dZ.length : Int)) = false := decide_eq_false c18
     have dPi : decide (1000 < dZ.length) = false := decide_eq_false (by omega)
     clear c18
     by_cases c22 : dP = 1
     rotate_left
     · rw [if_neg c22] at H
       have eZ7 : (dP == 1) = false := beq_eq_false_iff_ne.mpr c22
       have fWm : (dP != 1) = true := bne_iff_ne.mpr c22
       have H' := aZ H
       clear H
       have bVx := aCr.out
       have bVy := aCs.out
       have bI0 : wc.cell? ⟨aEo, 0, none⟩ = some (.int .i64 dP) := (blk_cell pJ.out 0).trans rfl
       have cJ7 : wc.cell? ⟨aEo, 1, none⟩ = some (.slice nK dA.length mY) := (blk_cell pJ.out 1).trans rfl
       have gVn : wc.cell? ⟨aEo, 2, none⟩ = some (.slice mE dZ.length mF) := (blk_cell pJ.out 2).trans rfl
       have bI1 := blk_frozen pJ.out 0
       have cJ8 := blk_frozen pJ.out 1
       have gVo := blk_frozen pJ.out 2
       go_wp2
       go_meet
       case rel => exact ⟨_, (0), (0), H', ⟨by have := HJ4.out; first | omega | exact Nat.le_refl _⟩, xk pJ, xk vK, xb HB⟩
     rw [if_pos c22] at H
     have eZ7 : (dP == 1) = true := beq_iff_eq.mpr c22
     have fWm : (dP != 1) = false := bne_eq_false_iff_eq.mpr c22
     clear c22
     by_cases c23 : (dA.length : Int) > 0
     rotate_left
     · rw [if_neg c23] at H
       have cSh : decide (0 < (dA.length : Int)) = false := decide_eq_false c23
       have eB7 : decide (0 < dA.length) = false := decide_eq_false (by omega)
       clear c23
       have H' := aZ H
       clear H
       have dDx := aCr.out
       have dDy := aCs.out
       have cJ9 : wc.cell? ⟨aEo, 0, none⟩ = some (.int .i64 dP) := (blk_cell pJ.out 0).trans rfl
       have dPo : wc.cell? ⟨aEo, 1, none⟩ = some (.slice nK dA.length mY) := (blk_cell pJ.out 1).trans rfl
       have eQe : wc.cell? ⟨aEo, 2, none⟩ = some (.slice mE dZ.length mF) := (blk_cell pJ.out 2).trans rfl
       have cKa := blk_frozen pJ.out 0
       have dPp := blk_frozen pJ.out 1
       have eQf := blk_frozen pJ.out 2
       go_wp2
       go_meet
       case rel => exact ⟨_, (0), (0), H', ⟨by have := HJ4.out; first | omega | exact Nat.le_refl _⟩, xk pJ, xk vK, xb HB⟩
     rw [if_pos c23] at H
     have cSh : decide (0 < (dA.length : Int)) = true := decide_eq_true c23
     have eB7 : decide (0 < dA.length) = true := decide_eq_true (by omega)
     clear c23
     simp only [Option.some.injEq, Prod.mk.injEq] at H
     obtain ⟨rfl, rfl⟩ := H
     have cG3 := aCr.out
     have cG4 := aCs.out
     have bPi : wc.cell? ⟨aEo, 0, none⟩ = some (.int .i64 dP) := (blk_cell pJ.out 0).trans rfl
     have cJz : wc.cell? ⟨aEo, 1, none⟩ = some (.slice nK dA.length mY) := (blk_cell pJ.out 1).trans rfl
     have gVp : wc.cell? ⟨aEo, 2, none⟩ = some (.slice mE dZ.length mF) := (blk_cell pJ.out 2).trans rfl
     have bPj := blk_frozen pJ.out 0
     have cJ0 := blk_frozen pJ.out 1
     have gVq := blk_frozen pJ.out 2
     have aN4 : wc.cell? ⟨aHj, 0, none⟩ = some (.int .i64 0) := (blk_cell vK.out 0).trans rfl
     have bCa : wc.cell? ⟨aHj, 1, none⟩ = some (.int .i64 0) := (blk_cell vK.out 1).trans rfl
     have aN5 := blk_frozen vK.out 0
     have bCb := blk_frozen vK.out 1
     go_wp2
     refine bodyPost_ret (results_cell_row rfl _ _ aHj 28 #[.int .i64 5, .int .i64 0] (0, 0) _ rfl (by (with_reducible repeat (first | refine bN ?_ _ | refine bD ?_ | refine bA ?_ _)); refine blk_put (cs := #[.int .i64 5, .int .i64 0]) ?_ 1 _ rfl; (with_reducible repeat (first | refine bN ?_ _ | refine bD ?_ | refine bA ?_ _)); refine blk_put (cs := #[.int .i64 0, .int .i64 0]) ?_ 0 _ rfl; (with_reducible repeat (first | refine bN ?_ _ | refine bD ?_ | refine bA ?_ _)); exact vK.out) Try.underlying28 rfl (by kernel_rfl)) rfl ?_
     exact ⟨xre, xq HB⟩
  case rest =>
   clear HC2
   obtain ⟨kq, cCe, cCf, HA, HJ1, pJ, vK, HB⟩ := hcut
   cases kq with
   | zero => exact absurd HA.out (by simp [objects_check.j1])
   | succ kj1 =>
    have H := HA.out
    clear HA
    simp only [objects_check.j1] at H
    have H' := aZ H
    clear H
    have bVz := aCr.out
    have bV0 := aCs.out
    have aFo : wc.cell? ⟨aEo, 0, none⟩ = some (.int .i64 dP) := (blk_cell pJ.out 0).trans rfl
    have aJu : wc.cell? ⟨aEo, 1, none⟩ = some (.slice nK dA.length mY) := (blk_cell pJ.out 1).trans rfl
    have bO3 : wc.cell? ⟨aEo, 2, none⟩ = some (.slice mE dZ.length mF) := (blk_cell pJ.out 2).trans rfl
    have aFp := blk_frozen pJ.out 0
    have aJv := blk_frozen pJ.out 1
    have bO4 := blk_frozen pJ.out 2
    go_wp2
    go_loopg [41] kj1 (fun kq v41 w' => ∃ (aD7 : Int) (aJz : Int) (aCt : Int), v41 = .int .i64 aD7 ∧ Aside0 (objects_check.l0 kq dA (dA.length : Int) aD7 = some (r1, r2)) ∧ Aside0 (kq ≤ kj1) ∧ Aside0 (w'.heap[aEo]? = some (.cells #[.int .i64 dP, (.slice nK dA.length mY), (.slice mE dZ.length mF)] 44 (0, 0))) ∧ Aside0 (w'.heap[aHj]? = some (.cells #[.int .i64 aJz, .int .i64 aCt] 28 (0, 0))) ∧ Aside0 (Below w.heap.size w w'))
    case atStart => exact ⟨(0), (cCe), (cCf), xrs, H', ⟨Nat.le_refl _⟩, xk pJ, xk vK, xb HB⟩
    case round =>
     clear H'
     (try clear aFo); (try clear aJu); (try clear bO3); (try clear aFp); (try clear aJv); (try clear bO4)
     obtain ⟨aD7, aJz, aCt, rfl, HA, HK2, pJ, vK, HB⟩ := hrel
     cases gk with
     | zero => exact absurd HA.out (by simp [objects_check.l0])
     | succ k2 =>
      have H := HA.out
      clear HA
      simp only [objects_check.l0] at H
      by_cases c33 : aD7 < (dA.length : Int)
      rotate_left
      · rw [if_neg c33] at H
        have bEb : decide (aD7 < (dA.length : Int)) = false := decide_eq_false c33
        clear c33
        simp only [Option.some.injEq, Prod.mk.injEq] at H
        obtain ⟨rfl, rfl⟩ := H
        have bSu := aCs.out
        have bSv := aCr.out
        have cKb : wr.cell? ⟨aHj, 0, none⟩ = some (.int .i64 aJz) := (blk_cell vK.out 0).trans rfl
        have eQg : wr.cell? ⟨aHj, 1, none⟩ = some (.int .i64 aCt) := (blk_cell vK.out 1).trans rfl
        have cKc := blk_frozen vK.out 0
        have eQh := blk_frozen vK.out 1
        go_wp2
        refine bodyPost_ret (results_cell_row rfl _ _ aHj 28 #[.int .i64 0, .int .i64 0] (0, 0) _ rfl (by (with_reducible repeat (first | refine bN ?_ _ | refine bD ?_ | refine bA ?_ _)); refine blk_put (cs := #[.int .i64 0, .int .i64 aCt]) ?_ 1 _ rfl; (with_reducible repeat (first | refine bN ?_ _ | refine bD ?_ | refine bA ?_ _)); refine blk_put (cs := #[.int .i64 aJz, .int .i64 aCt]) ?_ 0 _ rfl; (with_reducible repeat (first | refine bN ?_ _ | refine bD ?_ | refine bA ?_ _)); exact vK.out) Try.underlying28 rfl (by kernel_rfl)) rfl ?_
        exact ⟨xre, xq HB⟩

      rw [if_pos c33] at H
      have bEb : decide (aD7 < (dA.length : Int)) = true := decide_eq_true c33
      clear c33
      by_cases c34 : 0 ≤ aD7
      rotate_left
      · rw [if_neg c34] at H
        exact absurd H (by simp)
      rw [if_pos c34] at H
      have dDm : decide (0 ≤ aD7) = true := decide_eq_true c34
      clear c34
      by_cases c35 : aD7 < (dA.length : Int)
      rotate_left
      · rw [if_neg c35] at H
        exact absurd H (by simp)
      rw [if_pos c35] at H
      have cSi : decide (aD7 < (dA.length : Int)) = true := decide_eq_true c35
      clear c35
      by_cases c36 : (rd dA aD7) < 0
      · rw [if_pos c36] at H
        have dDz : decide ((rd dA aD7) < 0) = true := decide_eq_true c36
        clear c36
        simp only [Option.some.injEq, Prod.mk.injEq] at H
        obtain ⟨rfl, rfl⟩ := H
        have cMs : 0 ≤ (aD7 : Int) := of_decide_eq_true xas
        have cMt : aD7 < (dA.length : Int) := of_decide_eq_true xas
        obtain ⟨eZ8, eB8, bCf⟩ := Kd.at_int aCl.out aD7 cMs cMt
        cases eB8
        replace bCf := xcl HB bCf
        replace cMs := eq_true cMs
        replace cMt := eq_true cMt
        have bV1 := aCs.out
        have bV2 := aCr.out
        have bB6 : wr.cell? ⟨aHj, 0, none⟩ = some (.int .i64 aJz) := (blk_cell vK.out 0).trans rfl
        have bB7 : wr.cell? ⟨aHj, 1, none⟩ = some (.int .i64 aCt) := (blk_cell vK.out 1).trans rfl
        have bB8 := blk_frozen vK.out 0
        have bB9 := blk_frozen vK.out 1
        go_wp2
        refine bodyPost_ret (results_cell_row rfl _ _ aHj 28 #[.int .i64 3, .int .i64 aD7] (0, 0) _ rfl (by (with_reducible repeat (first | refine bN ?_ _ | refine bD ?_ | refine bA ?_ _)); refine blk_put (cs := #[.int .i64 3, .int .i64 aCt]) ?_ 1 _ rfl; (with_reducible repeat (first | refine bN ?_ _ | refine bD ?_ | refine bA ?_ _)); refine blk_put (cs := #[.int .i64 aJz, .int .i64 aCt]) ?_ 0 _ rfl; (with_reducible repeat (first | refine bN ?_ _ | refine bD ?_ | refine bA ?_ _)); exact vK.out) Try.underlying28 rfl (by kernel_rfl)) rfl ?_
        exact ⟨xre, xq HB⟩
      rw [if_neg c36] at H
      have dDz : decide ((rd dA aD7) < 0) = false := decide_eq_false c36
      clear c36
      by_cases c39 : (rd dA aD7) ≥ 2305843009213693951
      rotate_left
      · rw [if_neg c39] at H
        have dC8 : decide (2305843009213693951 ≤ (rd dA aD7)) = false := decide_eq_false c39
        clear c39
        have H' := aZ H
        clear H
        have cMs : 0 ≤ (aD7 : Int) := of_decide_eq_true xas
        have cMt : aD7 < (dA.length : Int) := of_decide_eq_true xas
        obtain ⟨eZ8, eB8, bCf⟩ := Kd.at_int aCl.out aD7 cMs cMt
        cases eB8
        replace bCf := xcl HB bCf
        replace cMs := eq_true cMs
        replace cMt := eq_true cMt
        go_wp2
        go_roundg k2
        case measure => have := HJ1.out; have := HK2.out; omega
        case rel => exact ⟨(wrap64 (aD7 + 1)), (aJz), (aCt), xrs, H', ⟨by have := HJ1.out; have := HK2.out; omega⟩, xk pJ, xk vK, xb HB⟩
      rw [if_pos c39] at H
      have dC8 : decide (2305843009213693951 ≤ (rd dA aD7)) = true := decide_eq_true c39
      clear c39
      simp only [Option.some.injEq, Prod.mk.injEq] at H
      obtain ⟨rfl, rfl⟩ := H
      have cMs : 0 ≤ (aD7 : Int) := of_decide_eq_true xas
      have cMt : aD7 < (dA.length : Int) := of_decide_eq_true xas
      obtain ⟨eZ8, eB8, bCf⟩ := Kd.at_int aCl.out aD7 cMs cMt
      cases eB8
      replace bCf := xcl HB bCf
      replace cMs := eq_true cMs
      replace cMt := eq_true cMt
      have cMh := aCs.out
      have cMi := aCr.out
      have cKd : wr.cell? ⟨aHj, 0, none⟩ = some (.int .i64 aJz) := (blk_cell vK.out 0).trans rfl
      have dPq : wr.cell? ⟨aHj, 1, none⟩ = some (.int .i64 aCt) := (blk_cell vK.out 1).trans rfl
      have cKe := blk_frozen vK.out 0
      have dPr := blk_frozen vK.out 1
      go_wp2
      refine bodyPost_ret (results_cell_row rfl _ _ aHj 28 #[.int .i64 3, .int .i64 aD7] (0, 0) _ rfl (by (with_reducible repeat (first | refine bN ?_ _ | refine bD ?_ | refine bA ?_ _)); refine blk_put (cs := #[.int .i64 3, .int .i64 aCt]) ?_ 1 _ rfl; (with_reducible repeat (first | refine bN ?_ _ | refine bD ?_ | refine bA ?_ _)); refine blk_put (cs := #[.int .i64 aJz, .int .i64 aCt]) ?_ 0 _ rfl; (with_reducible repeat (first | refine bN ?_ _ | refine bD ?_ | refine bA ?_ _)); exact vK.out) Try.underlying28 rfl (by kernel_rfl)) rfl ?_
      exact ⟨xre, xq HB⟩

end Go.Proofs.Ytnmkmamobhkcbaa.P
