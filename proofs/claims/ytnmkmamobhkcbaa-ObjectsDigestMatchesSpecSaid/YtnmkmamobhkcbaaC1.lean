/- Part 1 of 4 of the proof of ObjectsDigestMatchesSpec: what the printed functions come to, and the row (no condition beyond the statement's own). -/
import Derived.Test.YtnmkmamobhkcbaaProg
import Derived.Below
import Derived.Deep.Draws
import Derived.Deep.AppendLies
import Derived.Maps.AppendAt
import Derived.OwnWalk
import Derived.Laws.BytesArg
import Derived.Laws.MakeOwn
import Derived.Laws.OwnMore
import Derived.Deep.OwnRows
import Derived.Tactics
import Derived.Lib.ConvBytes
import Derived.Laws.Slices
import Derived.WalkKit
import Derived.KernelRfl
import Derived.RowKit3
import Derived.Deep.LoopGhost
import Derived.Deep.QuietTactic
import Derived.BigQuiet
import Derived.WideLaws
import Derived.Deep.DeepCutAuto
import Derived.Deep.CutBlock
import Derived.Deep.RegionHeld3
import Derived.Laws.Rows
import Derived.Lib.AppendStr
import Derived.ArgAppend
import Derived.Laws.IdiomCopy
import Derived.OrdersHeld
import Derived.Laws.BitsLemmas
import Derived.RowKit
import Derived.Test.YtnmkmamobhkcbaaLayObj
import Derived.Shelf.Spec.SlicesInsertGrow
import Derived.Test.YtnmkmamobhkcbaaWWords
import Derived.Test.YtnmkmamobhkcbaaWLast
import Derived.Test.YtnmkmamobhkcbaaWTab
import Derived.Test.YtnmkmamobhkcbaaWApart
import Derived.Test.YtnmkmamobhkcbaaWArr
import Derived.Test.YtnmkmamobhkcbaaWFoot
import Derived.Test.YtnmkmamobhkcbaaWKept
import Derived.Test.YtnmkmamobhkcbaaWShare
import Derived.Test.YtnmkmamobhkcbaaWN
import Derived.Test.YtnmkmamobhkcbaaWEqStruct
import Derived.Test.YtnmkmamobhkcbaaWRepsOne
import Derived.Test.YtnmkmamobhkcbaaWInv
import Derived.Test.YtnmkmamobhkcbaaWGuard
import Derived.Test.YtnmkmamobhkcbaaWNEv
import Derived.Test.YtnmkmamobhkcbaaWMore
import Derived.Test.YtnmkmamobhkcbaaShort
import Derived.Test.YtnmkmamobhkcbaaConv
namespace Go.Proofs.Ytnmkmamobhkcbaa.P
open Go.RowKit Go.Proofs.YtnmkmamobhkcbaaW.PrintWords Go.Proofs.YtnmkmamobhkcbaaW.PrintLast Go.Proofs.YtnmkmamobhkcbaaW.PrintMore
section
abbrev J : Bool := true
abbrev I : Bool := false
theorem xmp {α : Sort _} {a b : α} (h : a = b := by ((try simp only [List.map_toArray, List.map_cons, List.map_nil]); first | done | rfl | (simp only [List.length_drop, List.length_take]; rfl))) : a = b := h
theorem xas {p : Prop} (h : p := by (first | (with_reducible assumption) | assumption)) : p := h
theorem xrs {α : Sort _} {a b : α} (h : a = b := by (first | rfl | (simp; done) | (simp [*]; done) | (simp [i64_w]; done))) : a = b := h
theorem xre {α : Sort _} {a b : α} (h : a = b := by (first | rfl | (simp [errW_none, errW_some] <;> rfl) | (simp [*, errW_none, errW_some] <;> rfl))) : a = b := h
theorem xkq {w w1 : World} {g : Nat} {o : Obj} (B : Aside0 (w.heap[g]? = some o)) (h : w.heap[g]? = some o → w1.heap[g]? = some o := by (intro h_; (with_reducible repeat (first | refine bN ?_ _ | refine bD ?_ | refine bA ?_ _)); exact h_)) : w1.heap[g]? = some o := h B.out
theorem xcl {w w' : World} {p : Addr} {v : Value} (HB : Aside0 (Below w.heap.size w w')) (h : w.cell? p = some v) : w'.cell? p = some v := (HB.out.cell (World.block_lt_of_cell? w _ h)).trans h
section
variable {α : Type} {d : Kd α} {A : Option Addr} {n : Nat} {xs : List α} {w0 w w1 w2 : World}
theorem xcc (X : Aside0 (d.C w A n xs)) (h : d.C w A n xs → d.C w1 A n xs := by (intro h_; repeat (first | (with_reducible exact h_) | (with_reducible refine Kd.C_alloc ?_ _) | (with_reducible refine Kd.C_drewN ?_ _) | (with_reducible refine Kd.C_drew ?_) | exact h_))) : d.C w1 A n xs := h X.out
theorem xcb (X : Aside0 (d.C w0 A n xs)) (HB : Aside0 (Below w0.heap.size w0 w)) (h : d.C w A n xs → d.C w1 A n xs := by (intro h_; repeat (first | (with_reducible exact h_) | (with_reducible refine Kd.C_alloc ?_ _) | (with_reducible refine Kd.C_drewN ?_ _) | (with_reducible refine Kd.C_drew ?_) | exact h_))) : d.C w1 A n xs := h (Kd.C_below X.out HB.out)
theorem xC (X : Aside0 (d.C w A n xs)) (hb : Below w1.heap.size w1 w2) (h : d.C w A n xs → d.C w1 A n xs := by (intro h_; repeat (first | (with_reducible exact h_) | (with_reducible refine Kd.C_alloc ?_ _) | (with_reducible refine Kd.C_drewN ?_ _) | (with_reducible refine Kd.C_drew ?_) | exact h_))) : Aside0 (d.C w2 A n xs) := aZ (Kd.C_below (h X.out) hb)
end
theorem xVB {α : Type} {d : Kd α} {e : Nat} {w w1 w2 : World} {base : Nat} {ok : Nat → Prop} {v : Value} {xs : List α} {g : Nat} (H : Aside0 (Kd.V d e w base ok v xs)) (hg : g = w1.heap.size) (hb : Below w1.heap.size w1 w2) (h : Kd.V d e w base ok v xs → Kd.V d e w1 base ok v xs := by (intro h_; (with_reducible repeat (first | apply Kd.V_alloc | apply Kd.V_drewN | apply Kd.V_drew)); exact h_)) : Aside0 (Kd.V d e w2 base (fun k => ok k ∧ k ≠ g) v xs) := aZ (Kd.V_below (Kd.V_elderB (h H.out) g (Nat.le_of_eq hg.symm)) hb)
attribute [local go_sem] max2_int min2_int max_two min_two max_three min_three max_four min_four   -- for this text's walks alone
set_option linter.unusedVariables false
set_option linter.unusedSimpArgs false



def errW : Option Int → Value
  | none => .nilIface
  | some c => .iface 0 (.int .i64 c)
theorem errW_none : errW none = .nilIface := rfl
theorem errW_some (c : Int) : errW (some c) = .iface 0 (.int .i64 c) := rfl

theorem info3 : (Try.prog.info? 3).map (fun i => (i.zero, i.size, i.bytes)) = some (some (.int .i64 0), 1, 8) := by kernel_rfl
theorem aI5 : (Try.prog.info? 5).map (fun i => (i.zero, i.size, i.bytes)) = some (some (.int .u8 0), 1, 1) := by kernel_rfl
theorem dk2 : (Try.prog.info? 24).map (fun i => (i.zero, i.size, i.bytes)) = some (some (.agg #[(.slice none 0 0)]), 1, 24) := by kernel_rfl
theorem aK5 : (Try.prog.info? 46).map (fun i => (i.zero, i.size, i.bytes)) = some (some (.agg #[(.int .i64 0), (.int .i64 0), (.slice none 0 0), (.slice none 0 0)]), 4, 64) := by kernel_rfl
theorem dk3 : (Try.prog.info? 48).map (fun i => (i.zero, i.size, i.bytes)) = some (some (.agg #[(.int .i64 0), (.int .i64 0), (.int .i64 0)]), 3, 24) := by kernel_rfl
-- the values' own types
def bd0 (xs : List (List Int)) (i : Int) : (List Int) := xs.getD i.toNat ([] : List Int)
theorem dI3 {w : World} {A : Option Addr} {n : Nat} {xs : List (List Int)} (h : Kd.C (Kd.slice 3 (Kd.int .i64)) w A n xs) (i : Int) (h0 : 0 ≤ i) (h1 : i < n) : ∃ ad A0 c0, A = some ad ∧ w.cell? (ad.add i.toNat) = some (.slice A0 (bd0 xs i).length c0) ∧ (bd0 xs i).length ≤ c0 ∧ (Kd.int .i64).C w A0 (bd0 xs i).length (bd0 xs i) := by
  obtain ⟨ad, c, e, _, hK, hc0⟩ := Kd.C_get h ([] : List Int) i h0 h1
  have hc : ∀ j u, c[j]? = some u → w.cell? (ad.add (i.toNat * 1 + j)) = some u := hc0
  obtain ⟨A0, c0, rfl, l0, g0⟩ := hK
  exact ⟨ad, A0, c0, e, by have hq := hc 0 _ rfl; rwa [Nat.mul_one, Nat.add_zero] at hq, l0, g0⟩

def bd1 (xs : List (List Int)) (i : Int) : (List Int) := xs.getD i.toNat ([] : List Int)
theorem dI4 {w : World} {A : Option Addr} {n : Nat} {xs : List (List Int)} (h : Kd.C (Kd.slice 5 (Kd.int .u8)) w A n xs) (i : Int) (h0 : 0 ≤ i) (h1 : i < n) : ∃ ad A0 c0, A = some ad ∧ w.cell? (ad.add i.toNat) = some (.slice A0 (bd1 xs i).length c0) ∧ (bd1 xs i).length ≤ c0 ∧ (Kd.int .u8).C w A0 (bd1 xs i).length (bd1 xs i) := by
  obtain ⟨ad, c, e, _, hK, hc0⟩ := Kd.C_get h ([] : List Int) i h0 h1
  have hc : ∀ j u, c[j]? = some u → w.cell? (ad.add (i.toNat * 1 + j)) = some u := hc0
  obtain ⟨A0, c0, rfl, l0, g0⟩ := hK
  exact ⟨ad, A0, c0, e, by have hq := hc 0 _ rfl; rwa [Nat.mul_one, Nat.add_zero] at hq, l0, g0⟩

structure S44 where
  f0 : Int
  f1 : (List Int)
  f2 : (List Int)
def z44 : S44 := ⟨(0 : Int), ([] : List Int), ([] : List Int)⟩
def k44 : Kd S44 := Kd.iso (Kd.pair (Kd.int .i64) (Kd.pair (Kd.slice 3 (Kd.int .i64)) (Kd.slice 5 (Kd.int .u8)))) (fun x : S44 => (x.f0, x.f1, x.f2))
theorem br4 : Kd.Heap k44 := Kd.heap_iso _ (Kd.heap_pair (Kd.heap_int .i64) (Kd.heap_pair (Kd.heap_slice 3 (Kd.heap_int .i64)) (Kd.heap_slice 5 (Kd.heap_int .u8))))
theorem ab7 {w : World} {x : S44} {cs : List Value} (h : k44.K w x cs) : ∃ A1 c1 A2 c2, cs = [.int .i64 x.f0, .slice A1 x.f1.length c1, .slice A2 x.f2.length c2] ∧ x.f1.length ≤ c1 ∧ (Kd.int .i64).C w A1 x.f1.length x.f1 ∧ x.f2.length ≤ c2 ∧ (Kd.int .u8).C w A2 x.f2.length x.f2 := by
  obtain ⟨_, _, rfl, rfl, ⟨_, _, rfl, ⟨A1, c1, rfl, l1, g1⟩, ⟨A2, c2, rfl, l2, g2⟩⟩⟩ := h
  exact ⟨A1, c1, A2, c2, rfl, l1, g1, l2, g2⟩
theorem bo9 {w : World} {base : Nat} {ok : Nat → Prop} {x : S44} {cs : List Value} (h : k44.M w base ok x cs) : ∃ v1 v2, cs = [.int .i64 x.f0, v1, v2] ∧ (Kd.int .i64).R 3 w base ok v1 x.f1 ∧ (Kd.int .u8).R 5 w base ok v2 x.f2 := by
  obtain ⟨_, _, rfl, rfl, ⟨_, _, rfl, ⟨v1, rfl, g1⟩, ⟨v2, rfl, g2⟩⟩⟩ := h
  exact ⟨v1, v2, rfl, g1, g2⟩
theorem br5 (w : World) (x : S44) {A1 : Option Addr} {c1 : Nat} (l1 : x.f1.length ≤ c1) (g1 : (Kd.int .i64).C w A1 x.f1.length x.f1) {A2 : Option Addr} {c2 : Nat} (l2 : x.f2.length ≤ c2) (g2 : (Kd.int .u8).C w A2 x.f2.length x.f2) : k44.K w x [.int .i64 x.f0, .slice A1 x.f1.length c1, .slice A2 x.f2.length c2] := ⟨[.int .i64 x.f0], [.slice A1 x.f1.length c1, .slice A2 x.f2.length c2], rfl, rfl, ⟨[.slice A1 x.f1.length c1], [.slice A2 x.f2.length c2], rfl, ⟨A1, c1, rfl, l1, g1⟩, ⟨A2, c2, rfl, l2, g2⟩⟩⟩
theorem bA1 (w : World) (base : Nat) (ok : Nat → Prop) (x : S44) {v1 : Value} (g1 : (Kd.int .i64).R 3 w base ok v1 x.f1) {v2 : Value} (g2 : (Kd.int .u8).R 5 w base ok v2 x.f2) : k44.M w base ok x [.int .i64 x.f0, v1, v2] := ⟨[.int .i64 x.f0], [v1, v2], rfl, rfl, ⟨[v1], [v2], rfl, ⟨v1, rfl, g1⟩, ⟨v2, rfl, g2⟩⟩⟩
theorem ck0 {W : World} {ok : Nat → Prop} {x : S44} {cs : List Value} (h : Kd.FK k44 W ok x cs) : ∃ A1 c1 A2 c2, cs = [.int .i64 x.f0, .slice A1 x.f1.length c1, .slice A2 x.f2.length c2] ∧ x.f1.length ≤ c1 ∧ Kd.F (Kd.int .i64) W ok A1 x.f1.length x.f1 ∧ x.f2.length ≤ c2 ∧ Kd.F (Kd.int .u8) W ok A2 x.f2.length x.f2 := by
  obtain ⟨A1, c1, A2, c2, rfl, l1, _, l2, _⟩ := ab7 (Kd.FK_now h)
  exact ⟨A1, c1, A2, c2, rfl, l1, (fun W' hW => by obtain ⟨A1_, c1_, A2_, c2_, he, l1_, g1_, l2_, g2_⟩ := ab7 (h W' hW); injection (Option.some.inj (show some (Value.slice A1 x.f1.length c1) = some (Value.slice A1_ x.f1.length c1_) from congrArg (fun l => l[1]?) he)) with ha_ _ _; rw [ha_]; exact g1_), l2, (fun W' hW => by obtain ⟨A1_, c1_, A2_, c2_, he, l1_, g1_, l2_, g2_⟩ := ab7 (h W' hW); injection (Option.some.inj (show some (Value.slice A2 x.f2.length c2) = some (Value.slice A2_ x.f2.length c2_) from congrArg (fun l => l[2]?) he)) with ha_ _ _; rw [ha_]; exact g2_)⟩
theorem cJ5 (W : World) (ok : Nat → Prop) (x : S44) {A1 : Option Addr} {c1 : Nat} (l1 : x.f1.length ≤ c1) (g1 : Kd.F (Kd.int .i64) W ok A1 x.f1.length x.f1) {A2 : Option Addr} {c2 : Nat} (l2 : x.f2.length ≤ c2) (g2 : Kd.F (Kd.int .u8) W ok A2 x.f2.length x.f2) : Kd.FK k44 W ok x [.int .i64 x.f0, .slice A1 x.f1.length c1, .slice A2 x.f2.length c2] := fun W2 hW => br5 W2 x l1 (g1 W2 hW) l2 (g2 W2 hW)
def ae2 (xs : List S44) (i : Int) : S44 := xs.getD i.toNat z44
theorem dk6 {w : World} {A : Option Addr} {n : Nat} {xs : List S44} (h : Kd.C k44 w A n xs) (i : Int) (h0 : 0 ≤ i) (h1 : i < n) : ∃ ad A1 c1 A2 c2, A = some ad ∧ w.cell? (ad.add (i.toNat * 3)) = some (.int .i64 (ae2 xs i).f0) ∧ w.cell? ⟨(ad.add (i.toNat * 3)).block, (ad.add (i.toNat * 3)).off + 1, none⟩ = some (.slice A1 (ae2 xs i).f1.length c1) ∧ w.cell? ⟨(ad.add (i.toNat * 3)).block, (ad.add (i.toNat * 3)).off + 2, none⟩ = some (.slice A2 (ae2 xs i).f2.length c2) ∧ (ae2 xs i).f1.length ≤ c1 ∧ (Kd.int .i64).C w A1 (ae2 xs i).f1.length (ae2 xs i).f1 ∧ (ae2 xs i).f2.length ≤ c2 ∧ (Kd.int .u8).C w A2 (ae2 xs i).f2.length (ae2 xs i).f2 := by
  obtain ⟨ad, c, e, _, hK, hc0⟩ := Kd.C_get h z44 i h0 h1
  have hc : ∀ j u, c[j]? = some u → w.cell? (ad.add (i.toNat * 3 + j)) = some u := hc0
  obtain ⟨A1, c1, A2, c2, rfl, l1, g1, l2, g2⟩ := ab7 hK
  exact ⟨ad, A1, c1, A2, c2, e, hc 0 _ rfl, by rw [← add_field _ _ 1 (by omega)]; exact hc 1 _ rfl, by rw [← add_field _ _ 2 (by omega)]; exact hc 2 _ rfl, l1, g1, l2, g2⟩

structure r9 where
  f0 : Int
  f1 : S44
def z46 : r9 := ⟨(0 : Int), z44⟩
def k46 : Kd r9 := Kd.iso (Kd.pair (Kd.int .i64) k44) (fun x : r9 => (x.f0, x.f1))
theorem br6 : Kd.Heap k46 := Kd.heap_iso _ (Kd.heap_pair (Kd.heap_int .i64) br4)
theorem an6 {w : World} {x : r9} {cs : List Value} (h : k46.K w x cs) : ∃ A2 c2 A3 c3, cs = [.int .i64 x.f0, .int .i64 x.f1.f0, .slice A2 x.f1.f1.length c2, .slice A3 x.f1.f2.length c3] ∧ x.f1.f1.length ≤ c2 ∧ (Kd.int .i64).C w A2 x.f1.f1.length x.f1.f1 ∧ x.f1.f2.length ≤ c3 ∧ (Kd.int .u8).C w A3 x.f1.f2.length x.f1.f2 := by
  obtain ⟨_, _, rfl, rfl, s1⟩ := h
  obtain ⟨A2, c2, A3, c3, rfl, l2, g2, l3, g3⟩ := ab7 s1
  exact ⟨A2, c2, A3, c3, rfl, l2, g2, l3, g3⟩
theorem ck1 {w : World} {base : Nat} {ok : Nat → Prop} {x : r9} {cs : List Value} (h : k46.M w base ok x cs) : ∃ v2 v3, cs = [.int .i64 x.f0, .int .i64 x.f1.f0, v2, v3] ∧ (Kd.int .i64).R 3 w base ok v2 x.f1.f1 ∧ (Kd.int .u8).R 5 w base ok v3 x.f1.f2 := by
  obtain ⟨_, _, rfl, rfl, s1⟩ := h
  obtain ⟨v2, v3, rfl, g2, g3⟩ := bo9 s1
  exact ⟨v2, v3, rfl, g2, g3⟩
theorem b_2 (w : World) (x : r9) {A2 : Option Addr} {c2 : Nat} (l2 : x.f1.f1.length ≤ c2) (g2 : (Kd.int .i64).C w A2 x.f1.f1.length x.f1.f1) {A3 : Option Addr} {c3 : Nat} (l3 : x.f1.f2.length ≤ c3) (g3 : (Kd.int .u8).C w A3 x.f1.f2.length x.f1.f2) : k46.K w x [.int .i64 x.f0, .int .i64 x.f1.f0, .slice A2 x.f1.f1.length c2, .slice A3 x.f1.f2.length c3] := ⟨[.int .i64 x.f0], [.int .i64 x.f1.f0, .slice A2 x.f1.f1.length c2, .slice A3 x.f1.f2.length c3], rfl, rfl, (br5 w x.f1 l2 g2 l3 g3)⟩
theorem bd2 (w : World) (base : Nat) (ok : Nat → Prop) (x : r9) {v2 : Value} (g2 : (Kd.int .i64).R 3 w base ok v2 x.f1.f1) {v3 : Value} (g3 : (Kd.int .u8).R 5 w base ok v3 x.f1.f2) : k46.M w base ok x [.int .i64 x.f0, .int .i64 x.f1.f0, v2, v3] := ⟨[.int .i64 x.f0], [.int .i64 x.f1.f0, v2, v3], rfl, rfl, (bA1 w base ok x.f1 g2 g3)⟩
theorem ck2 {W : World} {ok : Nat → Prop} {x : r9} {cs : List Value} (h : Kd.FK k46 W ok x cs) : ∃ A2 c2 A3 c3, cs = [.int .i64 x.f0, .int .i64 x.f1.f0, .slice A2 x.f1.f1.length c2, .slice A3 x.f1.f2.length c3] ∧ x.f1.f1.length ≤ c2 ∧ Kd.F (Kd.int .i64) W ok A2 x.f1.f1.length x.f1.f1 ∧ x.f1.f2.length ≤ c3 ∧ Kd.F (Kd.int .u8) W ok A3 x.f1.f2.length x.f1.f2 := by
  obtain ⟨A2, c2, A3, c3, rfl, l2, _, l3, _⟩ := an6 (Kd.FK_now h)
  exact ⟨A2, c2, A3, c3, rfl, l2, (fun W' hW => by obtain ⟨A2_, c2_, A3_, c3_, he, l2_, g2_, l3_, g3_⟩ := an6 (h W' hW); injection (Option.some.inj (show some (Value.slice A2 x.f1.f1.length c2) = some (Value.slice A2_ x.f1.f1.length c2_) from congrArg (fun l => l[2]?) he)) with ha_ _ _; rw [ha_]; exact g2_), l3, (fun W' hW => by obtain ⟨A2_, c2_, A3_, c3_, he, l2_, g2_, l3_, g3_⟩ := an6 (h W' hW); injection (Option.some.inj (show some (Value.slice A3 x.f1.f2.length c3) = some (Value.slice A3_ x.f1.f2.length c3_) from congrArg (fun l => l[3]?) he)) with ha_ _ _; rw [ha_]; exact g3_)⟩
theorem cJ6 (W : World) (ok : Nat → Prop) (x : r9) {A2 : Option Addr} {c2 : Nat} (l2 : x.f1.f1.length ≤ c2) (g2 : Kd.F (Kd.int .i64) W ok A2 x.f1.f1.length x.f1.f1) {A3 : Option Addr} {c3 : Nat} (l3 : x.f1.f2.length ≤ c3) (g3 : Kd.F (Kd.int .u8) W ok A3 x.f1.f2.length x.f1.f2) : Kd.FK k46 W ok x [.int .i64 x.f0, .int .i64 x.f1.f0, .slice A2 x.f1.f1.length c2, .slice A3 x.f1.f2.length c3] := fun W2 hW => b_2 W2 x l2 (g2 W2 hW) l3 (g3 W2 hW)
def a7 (xs : List r9) (i : Int) : r9 := xs.getD i.toNat z46
theorem l8 {w : World} {A : Option Addr} {n : Nat} {xs : List r9} (h : Kd.C k46 w A n xs) (i : Int) (h0 : 0 ≤ i) (h1 : i < n) : ∃ ad A2 c2 A3 c3, A = some ad ∧ w.cell? (ad.add (i.toNat * 4)) = some (.int .i64 (a7 xs i).f0) ∧ w.cell? ⟨(ad.add (i.toNat * 4)).block, (ad.add (i.toNat * 4)).off + 1, none⟩ = some (.int .i64 (a7 xs i).f1.f0) ∧ w.cell? ⟨(ad.add (i.toNat * 4)).block, (ad.add (i.toNat * 4)).off + 2, none⟩ = some (.slice A2 (a7 xs i).f1.f1.length c2) ∧ w.cell? ⟨(ad.add (i.toNat * 4)).block, (ad.add (i.toNat * 4)).off + 3, none⟩ = some (.slice A3 (a7 xs i).f1.f2.length c3) ∧ (a7 xs i).f1.f1.length ≤ c2 ∧ (Kd.int .i64).C w A2 (a7 xs i).f1.f1.length (a7 xs i).f1.f1 ∧ (a7 xs i).f1.f2.length ≤ c3 ∧ (Kd.int .u8).C w A3 (a7 xs i).f1.f2.length (a7 xs i).f1.f2 := by
  obtain ⟨ad, c, e, _, hK, hc0⟩ := Kd.C_get h z46 i h0 h1
  have hc : ∀ j u, c[j]? = some u → w.cell? (ad.add (i.toNat * 4 + j)) = some u := hc0
  obtain ⟨A2, c2, A3, c3, rfl, l2, g2, l3, g3⟩ := an6 hK
  exact ⟨ad, A2, c2, A3, c3, e, hc 0 _ rfl, by rw [← add_field _ _ 1 (by omega)]; exact hc 1 _ rfl, by rw [← add_field _ _ 2 (by omega)]; exact hc 2 _ rfl, by rw [← add_field _ _ 3 (by omega)]; exact hc 3 _ rfl, l2, g2, l3, g3⟩

def bd3 (xs : List (List r9)) (i : Int) : (List r9) := xs.getD i.toNat ([] : List r9)
theorem dJ1 {w : World} {A : Option Addr} {n : Nat} {xs : List (List r9)} (h : Kd.C (Kd.slice 46 k46) w A n xs) (i : Int) (h0 : 0 ≤ i) (h1 : i < n) : ∃ ad A0 c0, A = some ad ∧ w.cell? (ad.add i.toNat) = some (.slice A0 (bd3 xs i).length c0) ∧ (bd3 xs i).length ≤ c0 ∧ k46.C w A0 (bd3 xs i).length (bd3 xs i) := by
  obtain ⟨ad, c, e, _, hK, hc0⟩ := Kd.C_get h ([] : List r9) i h0 h1
  have hc : ∀ j u, c[j]? = some u → w.cell? (ad.add (i.toNat * 1 + j)) = some u := hc0
  obtain ⟨A0, c0, rfl, l0, g0⟩ := hK
  exact ⟨ad, A0, c0, e, by have hq := hc 0 _ rfl; rwa [Nat.mul_one, Nat.add_zero] at hq, l0, g0⟩

structure S24 where
  f0 : (List r9)
def z24 : S24 := ⟨([] : List r9)⟩
def k24 : Kd S24 := Kd.iso (Kd.slice 46 k46) (fun x : S24 => x.f0)
theorem cm6 : Kd.Heap k24 := Kd.heap_iso _ (Kd.heap_slice 46 br6)
theorem aE6 {w : World} {x : S24} {cs : List Value} (h : k24.K w x cs) : ∃ A0 c0, cs = [.slice A0 x.f0.length c0] ∧ x.f0.length ≤ c0 ∧ k46.C w A0 x.f0.length x.f0 := by
  obtain ⟨A0, c0, rfl, l0, g0⟩ := h
  exact ⟨A0, c0, rfl, l0, g0⟩
theorem ck3 {w : World} {base : Nat} {ok : Nat → Prop} {x : S24} {cs : List Value} (h : k24.M w base ok x cs) : ∃ v0, cs = [v0] ∧ k46.R 46 w base ok v0 x.f0 := by
  obtain ⟨v0, rfl, g0⟩ := h
  exact ⟨v0, rfl, g0⟩
theorem b_3 (w : World) (x : S24) {A0 : Option Addr} {c0 : Nat} (l0 : x.f0.length ≤ c0) (g0 : k46.C w A0 x.f0.length x.f0) : k24.K w x [.slice A0 x.f0.length c0] := ⟨A0, c0, rfl, l0, g0⟩
theorem cJ7 (w : World) (base : Nat) (ok : Nat → Prop) (x : S24) {v0 : Value} (g0 : k46.R 46 w base ok v0 x.f0) : k24.M w base ok x [v0] := ⟨v0, rfl, g0⟩
theorem ck4 {W : World} {ok : Nat → Prop} {x : S24} {cs : List Value} (h : Kd.FK k24 W ok x cs) : ∃ A0 c0, cs = [.slice A0 x.f0.length c0] ∧ x.f0.length ≤ c0 ∧ Kd.F k46 W ok A0 x.f0.length x.f0 := by
  obtain ⟨A0, c0, rfl, l0, _⟩ := aE6 (Kd.FK_now h)
  exact ⟨A0, c0, rfl, l0, (fun W' hW => by obtain ⟨A0_, c0_, he, l0_, g0_⟩ := aE6 (h W' hW); injection (Option.some.inj (show some (Value.slice A0 x.f0.length c0) = some (Value.slice A0_ x.f0.length c0_) from congrArg (fun l => l[0]?) he)) with ha_ _ _; rw [ha_]; exact g0_)⟩
theorem cJ8 (W : World) (ok : Nat → Prop) (x : S24) {A0 : Option Addr} {c0 : Nat} (l0 : x.f0.length ≤ c0) (g0 : Kd.F k46 W ok A0 x.f0.length x.f0) : Kd.FK k24 W ok x [.slice A0 x.f0.length c0] := fun W2 hW => b_3 W2 x l0 (g0 W2 hW)
def aK6 (xs : List S24) (i : Int) : S24 := xs.getD i.toNat z24
theorem dk7 {w : World} {A : Option Addr} {n : Nat} {xs : List S24} (h : Kd.C k24 w A n xs) (i : Int) (h0 : 0 ≤ i) (h1 : i < n) : ∃ ad A0 c0, A = some ad ∧ w.cell? (ad.add i.toNat) = some (.slice A0 (aK6 xs i).f0.length c0) ∧ (aK6 xs i).f0.length ≤ c0 ∧ k46.C w A0 (aK6 xs i).f0.length (aK6 xs i).f0 := by
  obtain ⟨ad, c, e, _, hK, hc0⟩ := Kd.C_get h z24 i h0 h1
  have hc : ∀ j u, c[j]? = some u → w.cell? (ad.add (i.toNat * 1 + j)) = some u := hc0
  obtain ⟨A0, c0, rfl, l0, g0⟩ := aE6 hK
  exact ⟨ad, A0, c0, e, by have hq := hc 0 _ rfl; rwa [Nat.mul_one, Nat.add_zero] at hq, l0, g0⟩

structure S48 where
  f0 : Int
  f1 : Int
  f2 : Int
def z48 : S48 := ⟨(0 : Int), (0 : Int), (0 : Int)⟩
def k48 : Kd S48 := Kd.iso (Kd.pair (Kd.int .i64) (Kd.pair (Kd.int .i64) (Kd.int .i64))) (fun x : S48 => (x.f0, x.f1, x.f2))
theorem cm7 : Kd.Heap k48 := Kd.heap_iso _ (Kd.heap_pair (Kd.heap_int .i64) (Kd.heap_pair (Kd.heap_int .i64) (Kd.heap_int .i64)))
theorem br8 {w : World} {x : S48} {cs : List Value} (h : k48.K w x cs) : cs = [.int .i64 x.f0, .int .i64 x.f1, .int .i64 x.f2] := by
  obtain ⟨_, _, rfl, rfl, ⟨_, _, rfl, rfl, rfl⟩⟩ := h
  exact rfl
theorem ck5 {w : World} {base : Nat} {ok : Nat → Prop} {x : S48} {cs : List Value} (h : k48.M w base ok x cs) : cs = [.int .i64 x.f0, .int .i64 x.f1, .int .i64 x.f2] := by
  obtain ⟨_, _, rfl, rfl, ⟨_, _, rfl, rfl, rfl⟩⟩ := h
  exact rfl
theorem b_5 (w : World) (x : S48)  : k48.K w x [.int .i64 x.f0, .int .i64 x.f1, .int .i64 x.f2] := ⟨[.int .i64 x.f0], [.int .i64 x.f1, .int .i64 x.f2], rfl, rfl, ⟨[.int .i64 x.f1], [.int .i64 x.f2], rfl, rfl, rfl⟩⟩
theorem cJ9 (w : World) (base : Nat) (ok : Nat → Prop) (x : S48)  : k48.M w base ok x [.int .i64 x.f0, .int .i64 x.f1, .int .i64 x.f2] := ⟨[.int .i64 x.f0], [.int .i64 x.f1, .int .i64 x.f2], rfl, rfl, ⟨[.int .i64 x.f1], [.int .i64 x.f2], rfl, rfl, rfl⟩⟩
theorem cK0 (W : World) (ok : Nat → Prop) (x : S48) : Kd.FK k48 W ok x [.int .i64 x.f0, .int .i64 x.f1, .int .i64 x.f2] := fun W2 _ => b_5 W2 x
def aX3 (xs : List S48) (i : Int) : S48 := xs.getD i.toNat z48
theorem dk8 {w : World} {A : Option Addr} {n : Nat} {xs : List S48} (h : Kd.C k48 w A n xs) (i : Int) (h0 : 0 ≤ i) (h1 : i < n) : ∃ ad , A = some ad ∧ w.cell? (ad.add (i.toNat * 3)) = some (.int .i64 (aX3 xs i).f0) ∧ w.cell? ⟨(ad.add (i.toNat * 3)).block, (ad.add (i.toNat * 3)).off + 1, none⟩ = some (.int .i64 (aX3 xs i).f1) ∧ w.cell? ⟨(ad.add (i.toNat * 3)).block, (ad.add (i.toNat * 3)).off + 2, none⟩ = some (.int .i64 (aX3 xs i).f2) := by
  obtain ⟨ad, c, e, _, hK, hc0⟩ := Kd.C_get h z48 i h0 h1
  have hc : ∀ j u, c[j]? = some u → w.cell? (ad.add (i.toNat * 3 + j)) = some u := hc0
  obtain rfl := br8 hK
  exact ⟨ad, e, hc 0 _ rfl, by rw [← add_field _ _ 1 (by omega)]; exact hc 1 _ rfl, by rw [← add_field _ _ 2 (by omega)]; exact hc 2 _ rfl⟩

/-- What is known of a value of struct type 44 that came in. -/
def S44.ok (x : S44) : Prop := (Lit.int .i64 x.f0).wf = true ∧ (x.f1.length * 8 ≤ 140737488351232 ∧ ∀ x_ ∈ x.f1, (Lit.int .i64 x_).wf = true) ∧ (x.f2.length * 1 ≤ 140737488351232 ∧ ∀ x_ ∈ x.f2, (Lit.int .u8 x_).wf = true)
/-- What is known of a value of struct type 46 that came in. -/
def r9.ok (x : r9) : Prop := (Lit.int .i64 x.f0).wf = true ∧ S44.ok x.f1
/-- What is known of a value of struct type 24 that came in. -/
def S24.ok (x : S24) : Prop := (x.f0.length * 64 ≤ 140737488351232 ∧ ∀ x_ ∈ x.f0, r9.ok x_)
end

end Go.Proofs.Ytnmkmamobhkcbaa.P

namespace Go.Proofs.Ytnmkmamobhkcbaa.P
open Go.RowKit Go.Proofs.YtnmkmamobhkcbaaW.PrintWords Go.Proofs.YtnmkmamobhkcbaaW.PrintLast Go.Proofs.YtnmkmamobhkcbaaW.PrintMore
attribute [local go_sem] max2_int min2_int max_two min_two max_three min_three max_four min_four   -- for this text's walks alone
set_option linter.unusedVariables false
set_option linter.unusedSimpArgs false
theorem aR2 (d : Nat) (w : World) (x0 y0 : Int) (x1 y1 : Int) :
    (Op.equalIn (d + 2) 28 (.agg #[.int .i64 x0, .int .i64 x1]) (.agg #[.int .i64 y0, .int .i64 y1])).run Try.prog w = .ok (x0 == y0 && (x1 == y1)) w := by
  refine eqA_of Try.underlying28 (by kernel_rfl) ?_
  refine eqf_cons (by rfl) (by go_simp; rfl) (by go_simp; rfl) (by go_simp) ?_
  exact eqf_last (by rfl) (by go_simp; rfl) (by go_simp; rfl) (by go_simp)
def bits_Mul64.f (a0 : Int) (a1 : Int) : Option (Int × Int) := some (IntKind.u64.wrap ((IntKind.u64.wrap ((IntKind.u64.wrap ((a0 / 4294967296) * (a1 / 4294967296))) + ((IntKind.u64.wrap ((IntKind.u64.wrap ((a0 / 4294967296) * (Go.bits .and .u64 a1 4294967295))) + ((IntKind.u64.wrap ((Go.bits .and .u64 a0 4294967295) * (Go.bits .and .u64 a1 4294967295))) / 4294967296))) / 4294967296))) + ((IntKind.u64.wrap ((Go.bits .and .u64 (IntKind.u64.wrap ((IntKind.u64.wrap ((a0 / 4294967296) * (Go.bits .and .u64 a1 4294967295))) + ((IntKind.u64.wrap ((Go.bits .and .u64 a0 4294967295) * (Go.bits .and .u64 a1 4294967295))) / 4294967296))) 4294967295) + (IntKind.u64.wrap ((Go.bits .and .u64 a0 4294967295) * (a1 / 4294967296))))) / 4294967296)), IntKind.u64.wrap (a0 * a1))
set_option maxHeartbeats 8000000 in
set_option maxRecDepth 100000 in
theorem bits_Mul64.calls (a0 : Int) (a1 : Int) (r1 : Int) (r2 : Int) (w : World) (h : bits_Mul64.f a0 a1 = some (r1, r2)) :
    Calls Try.prog 65 #[.int .u64 a0, .int .u64 a1] w fun e w' => e = .returned (.tuple #[.int .u64 r1, .int .u64 r2]) ∧ Drawn0 w w' := by
  have H : (some (IntKind.u64.wrap ((IntKind.u64.wrap ((IntKind.u64.wrap ((a0 / 4294967296) * (a1 / 4294967296))) + ((IntKind.u64.wrap ((IntKind.u64.wrap ((a0 / 4294967296) * (Go.bits .and .u64 a1 4294967295))) + ((IntKind.u64.wrap ((Go.bits .and .u64 a0 4294967295) * (Go.bits .and .u64 a1 4294967295))) / 4294967296))) / 4294967296))) + ((IntKind.u64.wrap ((Go.bits .and .u64 (IntKind.u64.wrap ((IntKind.u64.wrap ((a0 / 4294967296) * (Go.bits .and .u64 a1 4294967295))) + ((IntKind.u64.wrap ((Go.bits .and .u64 a0 4294967295) * (Go.bits .and .u64 a1 4294967295))) / 4294967296))) 4294967295) + (IntKind.u64.wrap ((Go.bits .and .u64 a0 4294967295) * (a1 / 4294967296))))) / 4294967296)), IntKind.u64.wrap (a0 * a1))) = some (r1, r2) := h
  clear h
  simp only [Option.some.injEq, Prod.mk.injEq] at H
  obtain ⟨rfl, rfl⟩ := H
  go_enter Try.func65, Try.ntmps65
  go_wp2
  go_ret2
  exact ⟨by first | rfl | (simp; done) | (simp [*]; done), by repeat (first | exact Drawn0.refl _ | apply Drawn0.step)⟩
def bits_LeadingZeros64.f (a0 : Int) : Option Int := if a0 = 2305843009213693951 then some 3 else none
theorem bits_LeadingZeros64.calls (a0 : Int) (r : Int) (w : World) (h : bits_LeadingZeros64.f a0 = some r) :
    Calls Try.prog 69 #[.int .u64 a0] w fun e w' => e = .returned (.int .i64 r) ∧ Drawn0 w w' := by
  unfold bits_LeadingZeros64.f at h
  split at h
  next hh =>
    subst hh
    obtain rfl := Option.some.inj h
    have hcon := Any.bits_LeadingZeros64 Try.l69 2305843009213693951 w (by decide) (by decide)
    change Calls Try.prog 69 _ _ _ at hcon
    refine hcon.mono fun e w' ⟨he, hw⟩ => ⟨?_, hw ▸ Drawn0.refl _⟩
    rw [he]
    rfl
  next => cases h
mutual
def b5.j2 : Nat → Int → Int → Int → Int → Int → Int → Int → Int → Option (Int × Int)
  | 0, _, _, _, _, _, _, _, _ => none
  | k + 1, x2, x8, x9, x10, x11, x13, x14, x15 => if x9 = 0 then (none) else (b5.l1 k x2 x8 x9 x10 x14 x15 (IntKind.u64.wrap ((IntKind.u64.wrap ((IntKind.u64.wrap ((IntKind.u64.wrap (x11 * 4294967296)) + x13)) - (IntKind.u64.wrap (x15 * x2)))) - (IntKind.u64.wrap ((IntKind.u64.wrap (Int.tdiv (IntKind.u64.wrap ((IntKind.u64.wrap ((IntKind.u64.wrap (x11 * 4294967296)) + x13)) - (IntKind.u64.wrap (x15 * x2)))) x9)) * x9)))) (IntKind.u64.wrap ((IntKind.u64.wrap ((IntKind.u64.wrap (x11 * 4294967296)) + x13)) - (IntKind.u64.wrap (x15 * x2)))) (IntKind.u64.wrap (Int.tdiv (IntKind.u64.wrap ((IntKind.u64.wrap ((IntKind.u64.wrap (x11 * 4294967296)) + x13)) - (IntKind.u64.wrap (x15 * x2)))) x9)))
def b5.l1 : Nat → Int → Int → Int → Int → Int → Int → Int → Int → Int → Option (Int × Int)
  | 0, _, _, _, _, _, _, _, _, _ => none
  | k + 1, x2, x8, x9, x10, x14, x15, x16, x17, x18 => if x18 ≥ 4294967296 then (b5.j4 k x2 x8 x9 x10 x14 x15 x16 x17 x18 true) else (b5.j4 k x2 x8 x9 x10 x14 x15 x16 x17 x18 (decide ((IntKind.u64.wrap (x18 * x10)) > (IntKind.u64.wrap ((IntKind.u64.wrap (4294967296 * x16)) + x14)))))
def b5.j4 : Nat → Int → Int → Int → Int → Int → Int → Int → Int → Int → Bool → Option (Int × Int)
  | 0, _, _, _, _, _, _, _, _, _, _ => none
  | k + 1, x2, x8, x9, x10, x14, x15, x16, x17, x18, dk9 => if dk9 = true then (if (IntKind.u64.wrap (x16 + x9)) ≥ 4294967296 then (if 0 ≤ x8 then (some (IntKind.u64.wrap ((IntKind.u64.wrap (x15 * 4294967296)) + (IntKind.u64.wrap (x18 - 1))), shr .u64 (IntKind.u64.wrap ((IntKind.u64.wrap ((IntKind.u64.wrap (x17 * 4294967296)) + x14)) - (IntKind.u64.wrap ((IntKind.u64.wrap (x18 - 1)) * x2)))) x8)) else (none)) else (b5.l1 k x2 x8 x9 x10 x14 x15 (IntKind.u64.wrap (x16 + x9)) x17 (IntKind.u64.wrap (x18 - 1)))) else (if 0 ≤ x8 then (some (IntKind.u64.wrap ((IntKind.u64.wrap (x15 * 4294967296)) + x18), shr .u64 (IntKind.u64.wrap ((IntKind.u64.wrap ((IntKind.u64.wrap (x17 * 4294967296)) + x14)) - (IntKind.u64.wrap (x18 * x2)))) x8)) else (none))
def b5.l0 : Nat → Int → Int → Int → Int → Int → Int → Int → Int → Int → Option (Int × Int)
  | 0, _, _, _, _, _, _, _, _, _ => none
  | k + 1, x2, x8, x9, x10, x11, x13, x14, x15, x16 => if x15 ≥ 4294967296 then (b5.j1 k x2 x8 x9 x10 x11 x13 x14 x15 x16 true) else (b5.j1 k x2 x8 x9 x10 x11 x13 x14 x15 x16 (decide ((IntKind.u64.wrap (x15 * x10)) > (IntKind.u64.wrap ((IntKind.u64.wrap (4294967296 * x16)) + x13)))))
def b5.j1 : Nat → Int → Int → Int → Int → Int → Int → Int → Int → Int → Bool → Option (Int × Int)
  | 0, _, _, _, _, _, _, _, _, _, _ => none
  | k + 1, x2, x8, x9, x10, x11, x13, x14, x15, x16, x78 => if x78 = true then (if (IntKind.u64.wrap (x16 + x9)) ≥ 4294967296 then (b5.j2 k x2 x8 x9 x10 x11 x13 x14 (IntKind.u64.wrap (x15 - 1))) else (b5.l0 k x2 x8 x9 x10 x11 x13 x14 (IntKind.u64.wrap (x15 - 1)) (IntKind.u64.wrap (x16 + x9)))) else (b5.j2 k x2 x8 x9 x10 x11 x13 x14 x15)
end
def b5.f (k : Nat) (a0 : Int) (a1 : Int) (a2 : Int) : Option (Int × Int) := if a2 = 0 then (none) else (if a2 ≤ a0 then (none) else (if a0 = 0 then (some (IntKind.u64.wrap (Int.tdiv a1 a2), Int.tmod a1 a2)) else ((bits_LeadingZeros64.f a2).bind fun o7 => (if 0 ≤ (IntKind.u64.wrap (o7)) then (if 0 ≤ (IntKind.u64.wrap (64 - (IntKind.u64.wrap (o7)))) then (if ((shl .u64 a2 (IntKind.u64.wrap (o7))) / 4294967296) = 0 then (none) else (b5.l0 k (shl .u64 a2 (IntKind.u64.wrap (o7))) (IntKind.u64.wrap (o7)) ((shl .u64 a2 (IntKind.u64.wrap (o7))) / 4294967296) (Go.bits .and .u64 (shl .u64 a2 (IntKind.u64.wrap (o7))) 4294967295) (Go.bits .or .u64 (shl .u64 a0 (IntKind.u64.wrap (o7))) (shr .u64 a1 (IntKind.u64.wrap (64 - (IntKind.u64.wrap (o7)))))) ((shl .u64 a1 (IntKind.u64.wrap (o7))) / 4294967296) (Go.bits .and .u64 (shl .u64 a1 (IntKind.u64.wrap (o7))) 4294967295) (IntKind.u64.wrap (Int.tdiv (Go.bits .or .u64 (shl .u64 a0 (IntKind.u64.wrap (o7))) (shr .u64 a1 (IntKind.u64.wrap (64 - (IntKind.u64.wrap (o7)))))) ((shl .u64 a2 (IntKind.u64.wrap (o7))) / 4294967296))) (IntKind.u64.wrap ((Go.bits .or .u64 (shl .u64 a0 (IntKind.u64.wrap (o7))) (shr .u64 a1 (IntKind.u64.wrap (64 - (IntKind.u64.wrap (o7)))))) - (IntKind.u64.wrap ((IntKind.u64.wrap (Int.tdiv (Go.bits .or .u64 (shl .u64 a0 (IntKind.u64.wrap (o7))) (shr .u64 a1 (IntKind.u64.wrap (64 - (IntKind.u64.wrap (o7)))))) ((shl .u64 a2 (IntKind.u64.wrap (o7))) / 4294967296))) * ((shl .u64 a2 (IntKind.u64.wrap (o7))) / 4294967296))))))) else (none)) else (none)))))
theorem b5.mono_l : ∀ k, (∀ y0 y1 y2 y3 y4 y5 y6 y7, LeO (b5.j2 k y0 y1 y2 y3 y4 y5 y6 y7) (b5.j2 (k + 1) y0 y1 y2 y3 y4 y5 y6 y7)) ∧ (∀ y0 y1 y2 y3 y4 y5 y6 y7 y8, LeO (b5.l1 k y0 y1 y2 y3 y4 y5 y6 y7 y8) (b5.l1 (k + 1) y0 y1 y2 y3 y4 y5 y6 y7 y8)) ∧ (∀ y0 y1 y2 y3 y4 y5 y6 y7 y8 y9, LeO (b5.j4 k y0 y1 y2 y3 y4 y5 y6 y7 y8 y9) (b5.j4 (k + 1) y0 y1 y2 y3 y4 y5 y6 y7 y8 y9)) ∧ (∀ y0 y1 y2 y3 y4 y5 y6 y7 y8, LeO (b5.l0 k y0 y1 y2 y3 y4 y5 y6 y7 y8) (b5.l0 (k + 1) y0 y1 y2 y3 y4 y5 y6 y7 y8)) ∧ (∀ y0 y1 y2 y3 y4 y5 y6 y7 y8 y9, LeO (b5.j1 k y0 y1 y2 y3 y4 y5 y6 y7 y8 y9) (b5.j1 (k + 1) y0 y1 y2 y3 y4 y5 y6 y7 y8 y9))
  | 0 => ⟨fun _ _ _ _ _ _ _ _ r h => by simp [b5.j2] at h, fun _ _ _ _ _ _ _ _ _ r h => by simp [b5.l1] at h, fun _ _ _ _ _ _ _ _ _ _ r h => by simp [b5.j4] at h, fun _ _ _ _ _ _ _ _ _ r h => by simp [b5.l0] at h, fun _ _ _ _ _ _ _ _ _ _ r h => by simp [b5.j1] at h⟩
  | k + 1 => by
    obtain ⟨t6, ih1, ih2, ih3, ih4⟩ := b5.mono_l k
    refine ⟨?_, ?_, ?_, ?_, ?_⟩
    all_goals intros; first | unfold b5.j2 | unfold b5.l1 | unfold b5.j4 | unfold b5.l0 | unfold b5.j1
    all_goals repeat' first | (with_reducible first | exact t6 _ _ _ _ _ _ _ _ | exact ih1 _ _ _ _ _ _ _ _ _ | exact ih2 _ _ _ _ _ _ _ _ _ _ | exact ih3 _ _ _ _ _ _ _ _ _ | exact ih4 _ _ _ _ _ _ _ _ _ _ | exact LeO.refl _ | exact LeO.none _ | refine LeO.ite ?_ ?_ | refine LeO.bind ?_ (fun _ => ?_)) | exact t6 _ _ _ _ _ _ _ _ | exact ih1 _ _ _ _ _ _ _ _ _ | exact ih2 _ _ _ _ _ _ _ _ _ _ | exact ih3 _ _ _ _ _ _ _ _ _ | exact ih4 _ _ _ _ _ _ _ _ _ _ | exact LeO.none _ | refine LeO.ite ?_ ?_ | refine LeO.bind ?_ (fun _ => ?_)
theorem b5.mono : ∀ a0 a1 a2 k, LeO (b5.f k a0 a1 a2) (b5.f (k + 1) a0 a1 a2) := by
  intro a0 a1 a2 k
  obtain ⟨t6, ih1, ih2, ih3, ih4⟩ := b5.mono_l k
  unfold b5.f
  repeat' first | (with_reducible first | exact t6 _ _ _ _ _ _ _ _ | exact ih1 _ _ _ _ _ _ _ _ _ | exact ih2 _ _ _ _ _ _ _ _ _ _ | exact ih3 _ _ _ _ _ _ _ _ _ | exact ih4 _ _ _ _ _ _ _ _ _ _ | exact LeO.refl _ | exact LeO.none _ | refine LeO.ite ?_ ?_ | refine LeO.bind ?_ (fun _ => ?_)) | exact t6 _ _ _ _ _ _ _ _ | exact ih1 _ _ _ _ _ _ _ _ _ | exact ih2 _ _ _ _ _ _ _ _ _ _ | exact ih3 _ _ _ _ _ _ _ _ _ | exact ih4 _ _ _ _ _ _ _ _ _ _ | exact LeO.none _ | refine LeO.ite ?_ ?_ | refine LeO.bind ?_ (fun _ => ?_)
set_option maxHeartbeats 8000000 in
set_option maxRecDepth 100000 in
theorem b5.calls (k : Nat) (a0 : Int) (a1 : Int) (a2 : Int) (r1 : Int) (r2 : Int) (w : World) (h : b5.f k a0 a1 a2 = some (r1, r2)) :
  Calls Try.prog 66 #[.int .u64 a0, .int .u64 a1, .int .u64 a2] w fun e w' => e = .returned (.tuple #[.int .u64 r1, .int .u64 r2]) ∧ Drawn0 w w' := by
  have H : (if a2 = 0 then (none) else (if a2 ≤ a0 then (none) else (if a0 = 0 then (some (IntKind.u64.wrap (Int.tdiv a1 a2), Int.tmod a1 a2)) else ((bits_LeadingZeros64.f a2).bind fun o7 => (if 0 ≤ (IntKind.u64.wrap (o7)) then (if 0 ≤ (IntKind.u64.wrap (64 - (IntKind.u64.wrap (o7)))) then (if ((shl .u64 a2 (IntKind.u64.wrap (o7))) / 4294967296) = 0 then (none) else (b5.l0 k (shl .u64 a2 (IntKind.u64.wrap (o7))) (IntKind.u64.wrap (o7)) ((shl .u64 a2 (IntKind.u64.wrap (o7))) / 4294967296) (Go.bits .and .u64 (shl .u64 a2 (IntKind.u64.wrap (o7))) 4294967295) (Go.bits .or .u64 (shl .u64 a0 (IntKind.u64.wrap (o7))) (shr .u64 a1 (IntKind.u64.wrap (64 - (IntKind.u64.wrap (o7)))))) ((shl .u64 a1 (IntKind.u64.wrap (o7))) / 4294967296) (Go.bits .and .u64 (shl .u64 a1 (IntKind.u64.wrap (o7))) 4294967295) (IntKind.u64.wrap (Int.tdiv (Go.bits .or .u64 (shl .u64 a0 (IntKind.u64.wrap (o7))) (shr .u64 a1 (IntKind.u64.wrap (64 - (IntKind.u64.wrap (o7)))))) ((shl .u64 a2 (IntKind.u64.wrap (o7))) / 4294967296))) (IntKind.u64.wrap ((Go.bits .or .u64 (shl .u64 a0 (IntKind.u64.wrap (o7))) (shr .u64 a1 (IntKind.u64.wrap (64 - (IntKind.u64.wrap (o7)))))) - (IntKind.u64.wrap ((IntKind.u64.wrap (Int.tdiv (Go.bits .or .u64 (shl .u64 a0 (IntKind.u64.wrap (o7))) (shr .u64 a1 (IntKind.u64.wrap (64 - (IntKind.u64.wrap (o7)))))) ((shl .u64 a2 (IntKind.u64.wrap (o7))) / 4294967296))) * ((shl .u64 a2 (IntKind.u64.wrap (o7))) / 4294967296))))))) else (none)) else (none)))))) = some (r1, r2) := h
  clear h
  by_cases c4 : a2 = 0
  · rw [if_pos c4] at H
    exact absurd H (by simp)
  rw [if_neg c4] at H
  have Y8 : (a2 == 0) = false := beq_eq_false_iff_ne.mpr c4
  have aR3 : (a2 != 0) = true := bne_iff_ne.mpr c4
  by_cases c5 : a2 ≤ a0
  · rw [if_pos c5] at H
    exact absurd H (by simp)
  rw [if_neg c5] at H
  have aK8 : decide (a2 ≤ a0) = false := decide_eq_false c5
  clear c5
  by_cases c6 : a0 = 0
  · rw [if_pos c6] at H
    have Y9 : (a0 == 0) = true := beq_iff_eq.mpr c6
    have aR4 : (a0 != 0) = false := bne_eq_false_iff_eq.mpr c6
    clear c6
    simp only [Option.some.injEq, Prod.mk.injEq] at H
    obtain ⟨rfl, rfl⟩ := H
    go_enter Try.func66, Try.ntmps66
    go_wp2
    repeat (go_quiet (fail); try go_wp2)
    go_ret2
    exact ⟨by first | rfl | (simp; done) | (simp [*]; done), by repeat (first | exact Drawn0.refl _ | apply Drawn0.step)⟩
  rw [if_neg c6] at H
  have Y9 : (a0 == 0) = false := beq_eq_false_iff_ne.mpr c6
  have aR4 : (a0 != 0) = true := bne_iff_ne.mpr c6
  replace H := Option.bind_eq_some_iff.mp H
  obtain ⟨o7, A70, H⟩ := H
  replace H : (if 0 ≤ (IntKind.u64.wrap (o7)) then (if 0 ≤ (IntKind.u64.wrap (64 - (IntKind.u64.wrap (o7)))) then (if ((shl .u64 a2 (IntKind.u64.wrap (o7))) / 4294967296) = 0 then (none) else (b5.l0 k (shl .u64 a2 (IntKind.u64.wrap (o7))) (IntKind.u64.wrap (o7)) ((shl .u64 a2 (IntKind.u64.wrap (o7))) / 4294967296) (Go.bits .and .u64 (shl .u64 a2 (IntKind.u64.wrap (o7))) 4294967295) (Go.bits .or .u64 (shl .u64 a0 (IntKind.u64.wrap (o7))) (shr .u64 a1 (IntKind.u64.wrap (64 - (IntKind.u64.wrap (o7)))))) ((shl .u64 a1 (IntKind.u64.wrap (o7))) / 4294967296) (Go.bits .and .u64 (shl .u64 a1 (IntKind.u64.wrap (o7))) 4294967295) (IntKind.u64.wrap (Int.tdiv (Go.bits .or .u64 (shl .u64 a0 (IntKind.u64.wrap (o7))) (shr .u64 a1 (IntKind.u64.wrap (64 - (IntKind.u64.wrap (o7)))))) ((shl .u64 a2 (IntKind.u64.wrap (o7))) / 4294967296))) (IntKind.u64.wrap ((Go.bits .or .u64 (shl .u64 a0 (IntKind.u64.wrap (o7))) (shr .u64 a1 (IntKind.u64.wrap (64 - (IntKind.u64.wrap (o7)))))) - (IntKind.u64.wrap ((IntKind.u64.wrap (Int.tdiv (Go.bits .or .u64 (shl .u64 a0 (IntKind.u64.wrap (o7))) (shr .u64 a1 (IntKind.u64.wrap (64 - (IntKind.u64.wrap (o7)))))) ((shl .u64 a2 (IntKind.u64.wrap (o7))) / 4294967296))) * ((shl .u64 a2 (IntKind.u64.wrap (o7))) / 4294967296))))))) else (none)) else (none)) = some (r1, r2) := H
  have A7 := aZ A70
  clear A70
  obtain ⟨D4, bs0⟩ : ∃ j_ : Int, (IntKind.u64.wrap (o7)) = j_ := ⟨_, rfl⟩
  replace H : (if 0 ≤ (D4) then (if 0 ≤ (IntKind.u64.wrap (64 - (D4))) then (if ((shl .u64 a2 (D4)) / 4294967296) = 0 then (none) else (b5.l0 k (shl .u64 a2 (D4)) D4 ((shl .u64 a2 (D4)) / 4294967296) (Go.bits .and .u64 (shl .u64 a2 (D4)) 4294967295) (Go.bits .or .u64 (shl .u64 a0 (D4)) (shr .u64 a1 (IntKind.u64.wrap (64 - (D4))))) ((shl .u64 a1 (D4)) / 4294967296) (Go.bits .and .u64 (shl .u64 a1 (D4)) 4294967295) (IntKind.u64.wrap (Int.tdiv (Go.bits .or .u64 (shl .u64 a0 (D4)) (shr .u64 a1 (IntKind.u64.wrap (64 - (D4))))) ((shl .u64 a2 (D4)) / 4294967296))) (IntKind.u64.wrap ((Go.bits .or .u64 (shl .u64 a0 (D4)) (shr .u64 a1 (IntKind.u64.wrap (64 - (D4))))) - (IntKind.u64.wrap ((IntKind.u64.wrap (Int.tdiv (Go.bits .or .u64 (shl .u64 a0 (D4)) (shr .u64 a1 (IntKind.u64.wrap (64 - (D4))))) ((shl .u64 a2 (D4)) / 4294967296))) * ((shl .u64 a2 (D4)) / 4294967296))))))) else (none)) else (none)) = some (r1, r2) := by first | (rw [bs0] at H; exact H) | (simp only [bs0] at H ⊢; exact H)
  (try rw [bs0] at A7)
  by_cases c9 : 0 ≤ (D4)
  rotate_left
  · rw [if_neg c9] at H
    exact absurd H (by simp)

  rw [if_pos c9] at H
  have bA3 := eq_true c9
  have cn1 : decide (0 ≤ (D4)) = true := decide_eq_true c9
  clear c9
  obtain ⟨i6, Y4⟩ : ∃ j_ : Int, (shl .u64 a2 (D4)) = j_ := ⟨_, rfl⟩
  replace H : (if 0 ≤ (IntKind.u64.wrap (64 - (D4))) then (if ((i6) / 4294967296) = 0 then (none) else (b5.l0 k i6 D4 ((i6) / 4294967296) (Go.bits .and .u64 (i6) 4294967295) (Go.bits .or .u64 (shl .u64 a0 (D4)) (shr .u64 a1 (IntKind.u64.wrap (64 - (D4))))) ((shl .u64 a1 (D4)) / 4294967296) (Go.bits .and .u64 (shl .u64 a1 (D4)) 4294967295) (IntKind.u64.wrap (Int.tdiv (Go.bits .or .u64 (shl .u64 a0 (D4)) (shr .u64 a1 (IntKind.u64.wrap (64 - (D4))))) ((i6) / 4294967296))) (IntKind.u64.wrap ((Go.bits .or .u64 (shl .u64 a0 (D4)) (shr .u64 a1 (IntKind.u64.wrap (64 - (D4))))) - (IntKind.u64.wrap ((IntKind.u64.wrap (Int.tdiv (Go.bits .or .u64 (shl .u64 a0 (D4)) (shr .u64 a1 (IntKind.u64.wrap (64 - (D4))))) ((i6) / 4294967296))) * ((i6) / 4294967296))))))) else (none)) = some (r1, r2) := by first | (rw [Y4] at H; exact H) | (simp only [Y4] at H ⊢; exact H)
  (try rw [Y4] at A7)
  have dl0 : (IntKind.u64.wrap (a2 * 2 ^ min (D4).toNat 64)) = i6 := Y4
  have dl1 : (D4) ≤ 64 → (IntKind.u64.wrap (a2 * 2 ^ (D4).toNat)) = i6 := shl_small Y4
  have aI8 := eq_true (of_decide_eq_true xas : 0 ≤ (D4))
  obtain ⟨E7, ai5⟩ : ∃ j_ : Int, (shl .u64 a0 (D4)) = j_ := ⟨_, rfl⟩
  replace H : (if 0 ≤ (IntKind.u64.wrap (64 - (D4))) then (if ((i6) / 4294967296) = 0 then (none) else (b5.l0 k i6 D4 ((i6) / 4294967296) (Go.bits .and .u64 (i6) 4294967295) (Go.bits .or .u64 (E7) (shr .u64 a1 (IntKind.u64.wrap (64 - (D4))))) ((shl .u64 a1 (D4)) / 4294967296) (Go.bits .and .u64 (shl .u64 a1 (D4)) 4294967295) (IntKind.u64.wrap (Int.tdiv (Go.bits .or .u64 (E7) (shr .u64 a1 (IntKind.u64.wrap (64 - (D4))))) ((i6) / 4294967296))) (IntKind.u64.wrap ((Go.bits .or .u64 (E7) (shr .u64 a1 (IntKind.u64.wrap (64 - (D4))))) - (IntKind.u64.wrap ((IntKind.u64.wrap (Int.tdiv (Go.bits .or .u64 (E7) (shr .u64 a1 (IntKind.u64.wrap (64 - (D4))))) ((i6) / 4294967296))) * ((i6) / 4294967296))))))) else (none)) = some (r1, r2) := by first | (rw [ai5] at H; exact H) | (simp only [ai5] at H ⊢; exact H)
  (try rw [ai5] at A7)
  have dl2 : (IntKind.u64.wrap (a0 * 2 ^ min (D4).toNat 64)) = E7 := ai5
  have dl3 : (D4) ≤ 64 → (IntKind.u64.wrap (a0 * 2 ^ (D4).toNat)) = E7 := shl_small ai5
  obtain ⟨aE8, aR5⟩ : ∃ j_ : Int, (IntKind.u64.wrap (64 - (D4))) = j_ := ⟨_, rfl⟩
  replace H : (if 0 ≤ (aE8) then (if ((i6) / 4294967296) = 0 then (none) else (b5.l0 k i6 D4 ((i6) / 4294967296) (Go.bits .and .u64 (i6) 4294967295) (Go.bits .or .u64 (E7) (shr .u64 a1 (aE8))) ((shl .u64 a1 (D4)) / 4294967296) (Go.bits .and .u64 (shl .u64 a1 (D4)) 4294967295) (IntKind.u64.wrap (Int.tdiv (Go.bits .or .u64 (E7) (shr .u64 a1 (aE8))) ((i6) / 4294967296))) (IntKind.u64.wrap ((Go.bits .or .u64 (E7) (shr .u64 a1 (aE8))) - (IntKind.u64.wrap ((IntKind.u64.wrap (Int.tdiv (Go.bits .or .u64 (E7) (shr .u64 a1 (aE8))) ((i6) / 4294967296))) * ((i6) / 4294967296))))))) else (none)) = some (r1, r2) := by first | (rw [aR5] at H; exact H) | (simp only [aR5] at H ⊢; exact H)
  (try rw [aR5] at A7)
  by_cases c14 : 0 ≤ (aE8)
  rotate_left
  · rw [if_neg c14] at H
    exact absurd H (by simp)
  rw [if_pos c14] at H
  have aE9 := eq_true c14
  have bd4 : decide (0 ≤ (aE8)) = true := decide_eq_true c14
  clear c14
  obtain ⟨N3, ai6⟩ : ∃ j_ : Int, (shr .u64 a1 (aE8)) = j_ := ⟨_, rfl⟩
  replace H : (if ((i6) / 4294967296) = 0 then (none) else (b5.l0 k i6 D4 ((i6) / 4294967296) (Go.bits .and .u64 (i6) 4294967295) (Go.bits .or .u64 (E7) (N3)) ((shl .u64 a1 (D4)) / 4294967296) (Go.bits .and .u64 (shl .u64 a1 (D4)) 4294967295) (IntKind.u64.wrap (Int.tdiv (Go.bits .or .u64 (E7) (N3)) ((i6) / 4294967296))) (IntKind.u64.wrap ((Go.bits .or .u64 (E7) (N3)) - (IntKind.u64.wrap ((IntKind.u64.wrap (Int.tdiv (Go.bits .or .u64 (E7) (N3)) ((i6) / 4294967296))) * ((i6) / 4294967296))))))) = some (r1, r2) := by first | (rw [ai6] at H; exact H) | (simp only [ai6] at H ⊢; exact H)
  (try rw [ai6] at A7)
  have dl4 : (a1 / 2 ^ min (aE8).toNat 64) = N3 := ai6
  have dl5 : (aE8) ≤ 64 → (a1 / 2 ^ (aE8).toNat) = N3 := shr_small ai6
  have bd5 := eq_true (of_decide_eq_true xas : 0 ≤ (D4))
  obtain ⟨D8, ai7⟩ : ∃ j_ : Int, (shl .u64 a1 (D4)) = j_ := ⟨_, rfl⟩
  replace H : (if ((i6) / 4294967296) = 0 then (none) else (b5.l0 k i6 D4 ((i6) / 4294967296) (Go.bits .and .u64 (i6) 4294967295) (Go.bits .or .u64 (E7) (N3)) ((D8) / 4294967296) (Go.bits .and .u64 (D8) 4294967295) (IntKind.u64.wrap (Int.tdiv (Go.bits .or .u64 (E7) (N3)) ((i6) / 4294967296))) (IntKind.u64.wrap ((Go.bits .or .u64 (E7) (N3)) - (IntKind.u64.wrap ((IntKind.u64.wrap (Int.tdiv (Go.bits .or .u64 (E7) (N3)) ((i6) / 4294967296))) * ((i6) / 4294967296))))))) = some (r1, r2) := by first | (rw [ai7] at H; exact H) | (simp only [ai7] at H ⊢; exact H)
  (try rw [ai7] at A7)
  have dl6 : (IntKind.u64.wrap (a1 * 2 ^ min (D4).toNat 64)) = D8 := ai7
  have dl7 : (D4) ≤ 64 → (IntKind.u64.wrap (a1 * 2 ^ (D4).toNat)) = D8 := shl_small ai7
  by_cases c18 : ((i6) / 4294967296) = 0
  · rw [if_pos c18] at H
    exact absurd H (by simp)
  rw [if_neg c18] at H
  have bd6 : (((i6) / 4294967296) == 0) = false := beq_eq_false_iff_ne.mpr c18
  have bd7 : (((i6) / 4294967296) != 0) = true := bne_iff_ne.mpr c18
  have b_6 := aZ H
  clear H
  go_enter Try.func66, Try.ntmps66
  go_upto_block 0 with (first | (go_at_call 69; (with_reducible refine (bits_LeadingZeros64.calls a2 o7 _ A7.out).mono ?_); rintro e w' ⟨rfl, ⟨nd, rfl⟩⟩; (try first | exact ⟨rfl, _, World.drewN_drewN _ _ _⟩ | exact ⟨rfl, _, Eq.trans (World.drewN_drewN _ _ _) (congrArg (World.drewN _) (Nat.add_assoc _ _ _))⟩)))
  repeat (go_quiet (first | (go_at_call 69; (with_reducible refine (bits_LeadingZeros64.calls a2 o7 _ A7.out).mono ?_); rintro e w' ⟨rfl, ⟨nd, rfl⟩⟩; (try first | exact ⟨rfl, _, World.drewN_drewN _ _ _⟩ | exact ⟨rfl, _, Eq.trans (World.drewN_drewN _ _ _) (congrArg (World.drewN _) (Nat.add_assoc _ _ _))⟩))); go_upto_block 0 with (first | (go_at_call 69; (with_reducible refine (bits_LeadingZeros64.calls a2 o7 _ A7.out).mono ?_); rintro e w' ⟨rfl, ⟨nd, rfl⟩⟩; (try first | exact ⟨rfl, _, World.drewN_drewN _ _ _⟩ | exact ⟨rfl, _, Eq.trans (World.drewN_drewN _ _ _) (congrArg (World.drewN _) (Nat.add_assoc _ _ _))⟩))))
  (try simp only [Act.put, List.setIfInBounds_toArray, List.set_cons_zero, List.set_cons_succ])
  go_cut [15] (fun v15 wc => ∃ (kq : Nat) (u9 : Int), v15 = .int .u64 u9 ∧ Aside0 (b5.j2 kq i6 D4 ((i6) / 4294967296) (Go.bits .and .u64 (i6) 4294967295) (Go.bits .or .u64 (E7) (N3)) ((D8) / 4294967296) (Go.bits .and .u64 (D8) 4294967295) u9 = some (r1, r2)) ∧ Aside0 (kq ≤ k) ∧ Drawn0 w wc)
  case first =>
   have H := b_6.out
   clear b_6
   have H' := aZ H
   clear H
   go_wp2
   repeat (go_quiet (fail); try go_wp2)
   go_loopg [15, 16] k (fun kq v15 v16 w' => ∃ (b8 : Int) (ai8 : Int), v15 = .int .u64 b8 ∧ v16 = .int .u64 ai8 ∧ Aside0 (b5.l0 kq i6 D4 ((i6) / 4294967296) (Go.bits .and .u64 (i6) 4294967295) (Go.bits .or .u64 (E7) (N3)) ((D8) / 4294967296) (Go.bits .and .u64 (D8) 4294967295) b8 ai8 = some (r1, r2)) ∧ Aside0 (kq ≤ k) ∧ Drawn0 w w')
   case atStart => exact ⟨(IntKind.u64.wrap (Int.tdiv (Go.bits .or .u64 (E7) (N3)) ((i6) / 4294967296))), (IntKind.u64.wrap ((Go.bits .or .u64 (E7) (N3)) - (IntKind.u64.wrap ((IntKind.u64.wrap (Int.tdiv (Go.bits .or .u64 (E7) (N3)) ((i6) / 4294967296))) * ((i6) / 4294967296))))), (by first | rfl | (simp; done) | (simp only [← Y4, ← ai5, ← ai6] <;> (first | rfl | simp)) | (simp [*]; done)), (by first | rfl | (simp; done) | (simp only [← Y4, ← ai5, ← ai6] <;> (first | rfl | simp)) | (simp [*]; done)), H', ⟨Nat.le_refl _⟩, by repeat (first | exact Drawn0.refl _ | apply Drawn0.step)⟩
   case round =>
    clear H'
    (try clear c4); (try clear Y8); (try clear aR3); (try clear c5); (try clear aK8); (try clear c6); (try clear Y9); (try clear aR4); (try clear c9); (try clear bA3); (try clear cn1); (try clear aI8); (try clear c14); (try clear aE9); (try clear bd4); (try clear bd5); (try clear c18); (try clear bd6); (try clear bd7)
    obtain ⟨b8, ai8, rfl, rfl, HA, S8, ⟨m1, rfl⟩⟩ := hrel
    cases gk with
    | zero => exact absurd HA.out (by simp [b5.l0])
    | succ k1 =>
     have H := HA.out
     clear HA
     simp only [b5.l0] at H
     have b_7 := aZ H
     clear H
     go_upto_region 17 with (fail)
     repeat (go_quiet (fail); go_upto_region 17 with (fail))
     go_cut [78] (fun v78 wc => ∃ (kq : Nat) (aK9 : Bool), v78 = .bool aK9 ∧ Aside0 (b5.j1 kq i6 D4 ((i6) / 4294967296) (Go.bits .and .u64 (i6) 4294967295) (Go.bits .or .u64 (E7) (N3)) ((D8) / 4294967296) (Go.bits .and .u64 (D8) 4294967295) b8 ai8 aK9 = some (r1, r2)) ∧ Aside0 (kq ≤ k1) ∧ Drawn0 w wc)
     case first =>
      have H := b_7.out
      clear b_7
      by_cases c21 : b8 ≥ 4294967296
      · rw [if_pos c21] at H
        have aR6 : decide (4294967296 ≤ b8) = true := decide_eq_true c21
        clear c21
        (first | rw [aR6] | (simp only [i64_w, i32_w]; rw [aR6]) | skip)
        have H' := aZ H
        clear H
        go_wp2
        repeat (go_quiet (fail); try go_wp2)
        go_meet
        case rel => exact ⟨_, (true), xrs, H', ⟨by have := S8.out; first | omega | exact Nat.le_refl _⟩, by repeat (first | exact Drawn0.refl _ | apply Drawn0.step)⟩
      rw [if_neg c21] at H
      have aR6 : decide (4294967296 ≤ b8) = false := decide_eq_false c21
      clear c21
      (first | rw [aR6] | (simp only [i64_w, i32_w]; rw [aR6]) | skip)
      have H' := aZ H
      clear H
      go_wp2
      repeat (go_quiet (fail); try go_wp2)
      go_meet
      case rel => exact ⟨_, (decide ((IntKind.u64.wrap (b8 * (Go.bits .and .u64 (i6) 4294967295))) > (IntKind.u64.wrap ((IntKind.u64.wrap (4294967296 * ai8)) + ((D8) / 4294967296))))), (by first | rfl | (simp; done) | (simp only [← Y4, ← ai7] <;> (first | rfl | simp)) | (simp [*]; done)), H', ⟨by have := S8.out; first | omega | exact Nat.le_refl _⟩, by repeat (first | exact Drawn0.refl _ | apply Drawn0.step)⟩
     case rest =>
      clear b_7
      obtain ⟨kq, aK9, rfl, HA, bA4, ⟨dX7, rfl⟩⟩ := hcut
      cases kq with
      | zero => exact absurd HA.out (by simp [b5.j1])
      | succ bA5 =>
       have H := HA.out
       clear HA
       simp only [b5.j1] at H
       by_cases c22 : aK9 = true
       rotate_left
       · replace c22 := Bool.eq_false_iff.mpr c22
         subst c22
         have H1 : (b5.j2 bA5 i6 D4 ((i6) / 4294967296) (Go.bits .and .u64 (i6) 4294967295) (Go.bits .or .u64 (E7) (N3)) ((D8) / 4294967296) (Go.bits .and .u64 (D8) 4294967295) b8) = some (r1, r2) := by rw [if_neg (show ¬ (false = true) by decide)] at H; exact H
         clear H
         have H := H1
         clear H1
         have H' := aZ H
         clear H
         go_wp2
         repeat (go_quiet (fail); try go_wp2)
         go_meet
         case rel => exact ⟨_, (b8), xrs, H', ⟨by have := S8.out; have := bA4.out; first | omega | exact Nat.le_refl _⟩, by repeat (first | exact Drawn0.refl _ | apply Drawn0.step)⟩
       subst c22
       have H1 : (if (IntKind.u64.wrap (ai8 + ((i6) / 4294967296))) ≥ 4294967296 then (b5.j2 bA5 i6 D4 ((i6) / 4294967296) (Go.bits .and .u64 (i6) 4294967295) (Go.bits .or .u64 (E7) (N3)) ((D8) / 4294967296) (Go.bits .and .u64 (D8) 4294967295) (IntKind.u64.wrap (b8 - 1))) else (b5.l0 bA5 i6 D4 ((i6) / 4294967296) (Go.bits .and .u64 (i6) 4294967295) (Go.bits .or .u64 (E7) (N3)) ((D8) / 4294967296) (Go.bits .and .u64 (D8) 4294967295) (IntKind.u64.wrap (b8 - 1)) (IntKind.u64.wrap (ai8 + ((i6) / 4294967296))))) = some (r1, r2) := by rw [if_pos rfl] at H; exact H
       clear H
       have H := H1
       clear H1
       by_cases c23 : (IntKind.u64.wrap (ai8 + ((i6) / 4294967296))) ≥ 4294967296
       · rw [if_pos c23] at H
         have bd8 : decide (4294967296 ≤ (IntKind.u64.wrap (ai8 + ((i6) / 4294967296)))) = true := decide_eq_true c23
         clear c23
         have H' := aZ H
         clear H
         go_wp2
         repeat (go_quiet (fail); try go_wp2)
         go_meet
         case rel => exact ⟨_, (IntKind.u64.wrap (b8 - 1)), xrs, H', ⟨by have := S8.out; have := bA4.out; first | omega | exact Nat.le_refl _⟩, by repeat (first | exact Drawn0.refl _ | apply Drawn0.step)⟩
       rw [if_neg c23] at H
       have bd8 : decide (4294967296 ≤ (IntKind.u64.wrap (ai8 + ((i6) / 4294967296)))) = false := decide_eq_false c23
       clear c23
       have H' := aZ H
       clear H
       go_wp2
       repeat (go_quiet (fail); try go_wp2)
       go_roundg bA5
       case measure => have := S8.out; have := bA4.out; omega
       case rel => exact ⟨(IntKind.u64.wrap (b8 - 1)), (IntKind.u64.wrap (ai8 + ((i6) / 4294967296))), xrs, (by first | rfl | (simp; done) | (simp only [← Y4] <;> (first | rfl | simp)) | (simp [*]; done)), H', ⟨by have := S8.out; have := bA4.out; omega⟩, by repeat (first | exact Drawn0.refl _ | apply Drawn0.step)⟩
  case rest =>
   clear b_6
   (try clear c4); (try clear Y8); (try clear aR3); (try clear c5); (try clear aK8); (try clear c6); (try clear Y9); (try clear aR4); (try clear c9); (try clear bA3); (try clear cn1); (try clear aI8); (try clear c14); (try clear aE9); (try clear bd4); (try clear bd5); (try clear c18); (try clear bd6); (try clear bd7)
   obtain ⟨kq, u9, rfl, HA, bA6, ⟨dX8, rfl⟩⟩ := hcut
   cases kq with
   | zero => exact absurd HA.out (by simp [b5.j2])
   | succ cn3 =>
    have H := HA.out
    clear HA
    simp only [b5.j2] at H
    by_cases c24 : ((i6) / 4294967296) = 0
    · rw [if_pos c24] at H
      exact absurd H (by simp)
    rw [if_neg c24] at H
    have bs1 : (((i6) / 4294967296) == 0) = false := beq_eq_false_iff_ne.mpr c24
    have cn4 : (((i6) / 4294967296) != 0) = true := bne_iff_ne.mpr c24
    have H' := aZ H
    clear H
    go_wp2
    repeat (go_quiet (fail); try go_wp2)
    go_loopg [16, 18] cn3 (fun kq v16 v18 w' => ∃ (ai9 : Int) (N2 : Int), v16 = .int .u64 ai9 ∧ v18 = .int .u64 N2 ∧ Aside0 (b5.l1 kq i6 D4 ((i6) / 4294967296) (Go.bits .and .u64 (i6) 4294967295) (Go.bits .and .u64 (D8) 4294967295) u9 ai9 (IntKind.u64.wrap ((IntKind.u64.wrap ((IntKind.u64.wrap ((Go.bits .or .u64 (E7) (N3)) * 4294967296)) + ((D8) / 4294967296))) - (IntKind.u64.wrap (u9 * i6)))) N2 = some (r1, r2)) ∧ Aside0 (kq ≤ cn3) ∧ Drawn0 w w')
    case atStart => exact ⟨(IntKind.u64.wrap ((IntKind.u64.wrap ((IntKind.u64.wrap ((IntKind.u64.wrap ((Go.bits .or .u64 (E7) (N3)) * 4294967296)) + ((D8) / 4294967296))) - (IntKind.u64.wrap (u9 * i6)))) - (IntKind.u64.wrap ((IntKind.u64.wrap (Int.tdiv (IntKind.u64.wrap ((IntKind.u64.wrap ((IntKind.u64.wrap ((Go.bits .or .u64 (E7) (N3)) * 4294967296)) + ((D8) / 4294967296))) - (IntKind.u64.wrap (u9 * i6)))) ((i6) / 4294967296))) * ((i6) / 4294967296))))), (IntKind.u64.wrap (Int.tdiv (IntKind.u64.wrap ((IntKind.u64.wrap ((IntKind.u64.wrap ((Go.bits .or .u64 (E7) (N3)) * 4294967296)) + ((D8) / 4294967296))) - (IntKind.u64.wrap (u9 * i6)))) ((i6) / 4294967296))), (by first | rfl | (simp; done) | (simp only [← Y4, ← ai5, ← ai6, ← ai7] <;> (first | rfl | simp)) | (simp [*]; done)), (by first | rfl | (simp; done) | (simp only [← Y4, ← ai5, ← ai6, ← ai7] <;> (first | rfl | simp)) | (simp [*]; done)), H', ⟨Nat.le_refl _⟩, by repeat (first | exact Drawn0.refl _ | apply Drawn0.step)⟩
    case round =>
     clear H'
     (try clear c24); (try clear bs1); (try clear cn4)
     obtain ⟨ai9, N2, rfl, rfl, HA, HK2, ⟨m2, rfl⟩⟩ := hrel
     cases gk with
     | zero => exact absurd HA.out (by simp [b5.l1])
     | succ k2 =>
      have H := HA.out
      clear HA
      simp only [b5.l1] at H
      have b_8 := aZ H
      clear H
      go_upto_region 24 with (fail)
      repeat (go_quiet (fail); go_upto_region 24 with (fail))
      go_cut [113] (fun dl9 wc => ∃ (kq : Nat) (aB2 : Bool), dl9 = .bool aB2 ∧ Aside0 (b5.j4 kq i6 D4 ((i6) / 4294967296) (Go.bits .and .u64 (i6) 4294967295) (Go.bits .and .u64 (D8) 4294967295) u9 ai9 (IntKind.u64.wrap ((IntKind.u64.wrap ((IntKind.u64.wrap ((Go.bits .or .u64 (E7) (N3)) * 4294967296)) + ((D8) / 4294967296))) - (IntKind.u64.wrap (u9 * i6)))) N2 aB2 = some (r1, r2)) ∧ Aside0 (kq ≤ k2) ∧ Drawn0 w wc)
      case first =>
       have H := b_8.out
       clear b_8
       by_cases c26 : N2 ≥ 4294967296
       · rw [if_pos c26] at H
         have az4 : decide (4294967296 ≤ N2) = true := decide_eq_true c26
         clear c26
         (first | rw [az4] | (simp only [i64_w, i32_w]; rw [az4]) | skip)
         have H' := aZ H
         clear H
         go_wp2
         repeat (go_quiet (fail); try go_wp2)
         go_meet
         case rel => exact ⟨_, (true), xrs, H', ⟨by have := bA6.out; have := HK2.out; first | omega | exact Nat.le_refl _⟩, by repeat (first | exact Drawn0.refl _ | apply Drawn0.step)⟩
       rw [if_neg c26] at H
       have az4 : decide (4294967296 ≤ N2) = false := decide_eq_false c26
       clear c26
       (first | rw [az4] | (simp only [i64_w, i32_w]; rw [az4]) | skip)
       have H' := aZ H
       clear H
       go_wp2
       repeat (go_quiet (fail); try go_wp2)
       go_meet
       case rel => exact ⟨_, (decide ((IntKind.u64.wrap (N2 * (Go.bits .and .u64 (i6) 4294967295))) > (IntKind.u64.wrap ((IntKind.u64.wrap (4294967296 * ai9)) + (Go.bits .and .u64 (D8) 4294967295))))), (by first | rfl | (simp; done) | (simp only [← Y4, ← ai7] <;> (first | rfl | simp)) | (simp [*]; done)), H', ⟨by have := bA6.out; have := HK2.out; first | omega | exact Nat.le_refl _⟩, by repeat (first | exact Drawn0.refl _ | apply Drawn0.step)⟩
      case rest =>
       clear b_8
       obtain ⟨kq, aB2, rfl, HA, cn5, ⟨dY0, rfl⟩⟩ := hcut
       cases kq with
       | zero => exact absurd HA.out (by simp [b5.j4])
       | succ cn6 =>
        have H := HA.out
        clear HA
        simp only [b5.j4] at H
        by_cases c27 : aB2 = true
        rotate_left
        · replace c27 := Bool.eq_false_iff.mpr c27
          subst c27
          have H1 : (if 0 ≤ D4 then (some (IntKind.u64.wrap ((IntKind.u64.wrap (u9 * 4294967296)) + N2), shr .u64 (IntKind.u64.wrap ((IntKind.u64.wrap ((IntKind.u64.wrap ((IntKind.u64.wrap ((IntKind.u64.wrap ((IntKind.u64.wrap ((Go.bits .or .u64 (E7) (N3)) * 4294967296)) + ((D8) / 4294967296))) - (IntKind.u64.wrap (u9 * i6)))) * 4294967296)) + (Go.bits .and .u64 (D8) 4294967295))) - (IntKind.u64.wrap (N2 * i6)))) D4)) else (none)) = some (r1, r2) := by rw [if_neg (show ¬ (false = true) by decide)] at H; exact H
          clear H
          have H := H1
          clear H1
          by_cases c31 : 0 ≤ D4
          rotate_left
          · rw [if_neg c31] at H
            exact absurd H (by simp)
          rw [if_pos c31] at H
          have bP9 := eq_true c31
          have dJ4 : decide (0 ≤ D4) = true := decide_eq_true c31
          clear c31
          obtain ⟨b_9, aR8⟩ : ∃ j_ : Int, (shr .u64 (IntKind.u64.wrap ((IntKind.u64.wrap ((IntKind.u64.wrap ((IntKind.u64.wrap ((IntKind.u64.wrap ((IntKind.u64.wrap ((Go.bits .or .u64 (E7) (N3)) * 4294967296)) + ((D8) / 4294967296))) - (IntKind.u64.wrap (u9 * i6)))) * 4294967296)) + (Go.bits .and .u64 (D8) 4294967295))) - (IntKind.u64.wrap (N2 * i6)))) D4) = j_ := ⟨_, rfl⟩
          replace H : (some (IntKind.u64.wrap ((IntKind.u64.wrap (u9 * 4294967296)) + N2), b_9)) = some (r1, r2) := by first | (rw [aR8] at H; exact H) | (simp only [aR8] at H ⊢; exact H)
          have dm0 : ((IntKind.u64.wrap ((IntKind.u64.wrap ((IntKind.u64.wrap ((IntKind.u64.wrap ((IntKind.u64.wrap ((IntKind.u64.wrap ((Go.bits .or .u64 (E7) (N3)) * 4294967296)) + ((D8) / 4294967296))) - (IntKind.u64.wrap (u9 * i6)))) * 4294967296)) + (Go.bits .and .u64 (D8) 4294967295))) - (IntKind.u64.wrap (N2 * i6)))) / 2 ^ min D4.toNat 64) = b_9 := aR8
          have dm1 : D4 ≤ 64 → ((IntKind.u64.wrap ((IntKind.u64.wrap ((IntKind.u64.wrap ((IntKind.u64.wrap ((IntKind.u64.wrap ((IntKind.u64.wrap ((Go.bits .or .u64 (E7) (N3)) * 4294967296)) + ((D8) / 4294967296))) - (IntKind.u64.wrap (u9 * i6)))) * 4294967296)) + (Go.bits .and .u64 (D8) 4294967295))) - (IntKind.u64.wrap (N2 * i6)))) / 2 ^ D4.toNat) = b_9 := shr_small aR8
          simp only [Option.some.injEq, Prod.mk.injEq] at H
          obtain ⟨rfl, rfl⟩ := H
          go_wp2
          repeat (go_quiet (fail); try go_wp2)
          go_ret2
          exact ⟨by first | rfl | (simp; done) | (simp only [← bs0, ← Y4, ← ai5, ← aR5, ← ai6, ← ai7, ← aR8] <;> (first | rfl | simp)) | (simp [*]; done), by repeat (first | exact Drawn0.refl _ | apply Drawn0.step)⟩
        subst c27
        have H1 : (if (IntKind.u64.wrap (ai9 + ((i6) / 4294967296))) ≥ 4294967296 then (if 0 ≤ D4 then (some (IntKind.u64.wrap ((IntKind.u64.wrap (u9 * 4294967296)) + (IntKind.u64.wrap (N2 - 1))), shr .u64 (IntKind.u64.wrap ((IntKind.u64.wrap ((IntKind.u64.wrap ((IntKind.u64.wrap ((IntKind.u64.wrap ((IntKind.u64.wrap ((Go.bits .or .u64 (E7) (N3)) * 4294967296)) + ((D8) / 4294967296))) - (IntKind.u64.wrap (u9 * i6)))) * 4294967296)) + (Go.bits .and .u64 (D8) 4294967295))) - (IntKind.u64.wrap ((IntKind.u64.wrap (N2 - 1)) * i6)))) D4)) else (none)) else (b5.l1 cn6 i6 D4 ((i6) / 4294967296) (Go.bits .and .u64 (i6) 4294967295) (Go.bits .and .u64 (D8) 4294967295) u9 (IntKind.u64.wrap (ai9 + ((i6) / 4294967296))) (IntKind.u64.wrap ((IntKind.u64.wrap ((IntKind.u64.wrap ((Go.bits .or .u64 (E7) (N3)) * 4294967296)) + ((D8) / 4294967296))) - (IntKind.u64.wrap (u9 * i6)))) (IntKind.u64.wrap (N2 - 1)))) = some (r1, r2) := by rw [if_pos rfl] at H; exact H
        clear H
        have H := H1
        clear H1
        by_cases c28 : (IntKind.u64.wrap (ai9 + ((i6) / 4294967296))) ≥ 4294967296
        rotate_left
        · rw [if_neg c28] at H
          have cn7 : decide (4294967296 ≤ (IntKind.u64.wrap (ai9 + ((i6) / 4294967296)))) = false := decide_eq_false c28
          clear c28
          have H' := aZ H
          clear H
          go_wp2
          repeat (go_quiet (fail); try go_wp2)
          go_roundg cn6
          case measure => have := bA6.out; have := HK2.out; have := cn5.out; omega
          case rel => exact ⟨(IntKind.u64.wrap (ai9 + ((i6) / 4294967296))), (IntKind.u64.wrap (N2 - 1)), (by first | rfl | (simp; done) | (simp only [← Y4] <;> (first | rfl | simp)) | (simp [*]; done)), xrs, H', ⟨by have := bA6.out; have := HK2.out; have := cn5.out; omega⟩, by repeat (first | exact Drawn0.refl _ | apply Drawn0.step)⟩
        rw [if_pos c28] at H
        have cn7 : decide (4294967296 ≤ (IntKind.u64.wrap (ai9 + ((i6) / 4294967296)))) = true := decide_eq_true c28
        clear c28
        by_cases c29 : 0 ≤ D4
        rotate_left
        · rw [if_neg c29] at H
          exact absurd H (by simp)
        rw [if_pos c29] at H
        have bQ0 := eq_true c29
        have bQ1 : decide (0 ≤ D4) = true := decide_eq_true c29
        clear c29
        obtain ⟨ca0, aR9⟩ : ∃ j_ : Int, (shr .u64 (IntKind.u64.wrap ((IntKind.u64.wrap ((IntKind.u64.wrap ((IntKind.u64.wrap ((IntKind.u64.wrap ((IntKind.u64.wrap ((Go.bits .or .u64 (E7) (N3)) * 4294967296)) + ((D8) / 4294967296))) - (IntKind.u64.wrap (u9 * i6)))) * 4294967296)) + (Go.bits .and .u64 (D8) 4294967295))) - (IntKind.u64.wrap ((IntKind.u64.wrap (N2 - 1)) * i6)))) D4) = j_ := ⟨_, rfl⟩
        replace H : (some (IntKind.u64.wrap ((IntKind.u64.wrap (u9 * 4294967296)) + (IntKind.u64.wrap (N2 - 1))), ca0)) = some (r1, r2) := by first | (rw [aR9] at H; exact H) | (simp only [aR9] at H ⊢; exact H)
        have dm2 : ((IntKind.u64.wrap ((IntKind.u64.wrap ((IntKind.u64.wrap ((IntKind.u64.wrap ((IntKind.u64.wrap ((IntKind.u64.wrap ((Go.bits .or .u64 (E7) (N3)) * 4294967296)) + ((D8) / 4294967296))) - (IntKind.u64.wrap (u9 * i6)))) * 4294967296)) + (Go.bits .and .u64 (D8) 4294967295))) - (IntKind.u64.wrap ((IntKind.u64.wrap (N2 - 1)) * i6)))) / 2 ^ min D4.toNat 64) = ca0 := aR9
        have dm3 : D4 ≤ 64 → ((IntKind.u64.wrap ((IntKind.u64.wrap ((IntKind.u64.wrap ((IntKind.u64.wrap ((IntKind.u64.wrap ((IntKind.u64.wrap ((Go.bits .or .u64 (E7) (N3)) * 4294967296)) + ((D8) / 4294967296))) - (IntKind.u64.wrap (u9 * i6)))) * 4294967296)) + (Go.bits .and .u64 (D8) 4294967295))) - (IntKind.u64.wrap ((IntKind.u64.wrap (N2 - 1)) * i6)))) / 2 ^ D4.toNat) = ca0 := shr_small aR9
        simp only [Option.some.injEq, Prod.mk.injEq] at H
        obtain ⟨rfl, rfl⟩ := H
        go_wp2
        repeat (go_quiet (fail); try go_wp2)
        go_ret2
        exact ⟨by first | rfl | (simp; done) | (simp only [← bs0, ← Y4, ← ai5, ← aR5, ← ai6, ← ai7, ← aR9] <;> (first | rfl | simp)) | (simp [*]; done), by repeat (first | exact Drawn0.refl _ | apply Drawn0.step)⟩
def digest_mul.f (k : Nat) (a0 : Int) (a1 : Int) : Option (Int) := (bits_Mul64.f a0 a1).bind fun aS0 => ((b5.f k (Int.tmod aS0.1 2305843009213693951) aS0.2 2305843009213693951).bind fun aS1 => (some aS1.2))
theorem digest_mul.mono : ∀ a0 a1 k, LeO (digest_mul.f k a0 a1) (digest_mul.f (k + 1) a0 a1) := by
  intro a0 a1 k
  unfold digest_mul.f
  repeat' first | (with_reducible first | exact b5.mono _ _ _ _ | exact LeO.refl _ | exact LeO.none _ | refine LeO.ite ?_ ?_ | refine LeO.bind ?_ (fun _ => ?_)) | exact b5.mono _ _ _ _ | exact LeO.none _ | refine LeO.ite ?_ ?_ | refine LeO.bind ?_ (fun _ => ?_)
set_option maxHeartbeats 8000000 in
set_option maxRecDepth 100000 in
theorem digest_mul.calls (k : Nat) (a0 : Int) (a1 : Int) (r : Int) (w : World) (h : digest_mul.f k a0 a1 = some r) :
    Calls Try.prog 52 #[.int .u64 a0, .int .u64 a1] w fun e w' => e = .returned (.int .u64 r) ∧ Drawn0 w w' := by
  have H : ((bits_Mul64.f a0 a1).bind fun aS0 => ((b5.f k (Int.tmod aS0.1 2305843009213693951) aS0.2 2305843009213693951).bind fun aS1 => (some aS1.2))) = some r := h
  clear h
  replace H := Option.bind_eq_some_iff.mp H
  obtain ⟨⟨bA7, bA8⟩, A30, H⟩ := H
  replace H : ((b5.f k (Int.tmod bA7 2305843009213693951) bA8 2305843009213693951).bind fun aS1 => (some aS1.2)) = some r := H
  have A3 := aZ A30
  clear A30
  replace H := Option.bind_eq_some_iff.mp H
  obtain ⟨⟨dm4, cn8⟩, A40, H⟩ := H
  replace H : (some cn8) = some r := H
  have A4 := aZ A40
  clear A40
  obtain rfl := Option.some.inj H
  go_enter Try.func52, Try.ntmps52
  go_wp2_with (first | ((with_reducible refine gate_callee (f := 65) rfl ?_); refine goesL_ (some 12) rfl rfl Try.func65 (by kernel_rfl) rfl #[.int .u64 a0, .int .u64 a1] rfl xmp ?_; (with_reducible refine (bits_Mul64.calls a0 a1 bA7 bA8 _ A3.out).mono ?_); rintro e w' ⟨rfl, ⟨nd, rfl⟩⟩; refine ⟨_, rfl, ?_⟩) | ((with_reducible refine gate_callee (f := 66) rfl ?_); refine goesL_ (some 19) rfl rfl Try.func66 (by kernel_rfl) rfl #[.int .u64 (Int.tmod bA7 2305843009213693951), .int .u64 bA8, .int .u64 2305843009213693951] rfl xmp ?_; (with_reducible refine (b5.calls k (Int.tmod bA7 2305843009213693951) bA8 2305843009213693951 dm4 cn8 _ A4.out).mono ?_); rintro e w' ⟨rfl, ⟨nd, rfl⟩⟩; refine ⟨_, rfl, ?_⟩))
  go_ret
  exact ⟨by first | rfl | (simp; done) | (simp [*]; done), by repeat (first | exact Drawn0.refl _ | apply Drawn0.step)⟩
def digest_Of.l0 : Nat → Int → List Int → Int → Int → Option (Int × Int × Int)
  | 0, _, _, _, _ => none
  | k + 1, x4, x11, x12, x13 => if x13 < x12 then (if 0 ≤ x13 then (if x13 < (x11.length : Int) then ((digest_mul.f k x4 257).bind fun bs4 => (digest_Of.l0 k (Int.tmod (IntKind.u64.wrap ((IntKind.u64.wrap (bs4 + (IntKind.u64.wrap (rd x11 x13)))) + 1)) 2305843009213693951) x11 x12 (wrap64 (x13 + 1)))) else (none)) else (none)) else (some (wrap64 (x4), 0, 0))
def digest_Of.f (k : Nat) (l0 : List Int) : Option (Int × Int × Int) := if (l0.length : Int) > 4096 then (some (0, 2, 0)) else (digest_Of.l0 k 1 l0 (l0.length : Int) 0)
theorem digest_Of.mono_l : ∀ k, (∀ y0 y1 y2 y3, LeO (digest_Of.l0 k y0 y1 y2 y3) (digest_Of.l0 (k + 1) y0 y1 y2 y3))
  | 0 => fun _ _ _ _ r h => by simp [digest_Of.l0] at h
  | k + 1 => by
    have t6 := digest_Of.mono_l k
    · intro y0 y1 y2 y3
      unfold digest_Of.l0
      repeat' first | (with_reducible first | exact t6 _ _ _ _ | exact digest_mul.mono _ _ _ | exact LeO.refl _ | exact LeO.none _ | refine LeO.ite ?_ ?_ | refine LeO.bind ?_ (fun _ => ?_)) | exact t6 _ _ _ _ | exact digest_mul.mono _ _ _ | exact LeO.none _ | refine LeO.ite ?_ ?_ | refine LeO.bind ?_ (fun _ => ?_)
theorem digest_Of.mono : ∀ a0 k, LeO (digest_Of.f k a0) (digest_Of.f (k + 1) a0) := by
  intro a0 k
  have t6 := digest_Of.mono_l k
  unfold digest_Of.f
  repeat' first | (with_reducible first | exact t6 _ _ _ _ | exact digest_mul.mono _ _ _ | exact LeO.refl _ | exact LeO.none _ | refine LeO.ite ?_ ?_ | refine LeO.bind ?_ (fun _ => ?_)) | exact t6 _ _ _ _ | exact digest_mul.mono _ _ _ | exact LeO.none _ | refine LeO.ite ?_ ?_ | refine LeO.bind ?_ (fun _ => ?_)
set_option maxHeartbeats 8000000 in
set_option maxRecDepth 100000 in
theorem digest_Of.calls (k : Nat) (A0 : Option Addr) (c0 : Nat) (l0 : List Int) (r1 : Int) (r2 : Int) (r3 : Int) (w : World) (hr0 : Kd.C (Kd.int .u8) w A0 l0.length l0) (hc0 : l0.length ≤ c0) (h : digest_Of.f k l0 = some (r1, r2, r3)) :
  Calls Try.prog 40 #[.slice A0 l0.length c0] w fun e w' => e = .returned (.tuple #[.int .i64 r1, .agg #[.int .i64 r2, .int .i64 r3]]) ∧ Below w.heap.size w w' := by
  have aH5 := Try.underlying28
  have HR0 := aZ hr0
  have HC0 := aZ hc0
  clear hr0 hc0
  have HB := aZ (Below.refl w.heap.size w)
  have H : (if (l0.length : Int) > 4096 then (some (0, 2, 0)) else (digest_Of.l0 k 1 l0 (l0.length : Int) 0)) = some (r1, r2, r3) := h
  clear h
  by_cases c2 : (l0.length : Int) > 4096
  · rw [if_pos c2] at H
    have an7 : decide (4096 < (l0.length : Int)) = true := decide_eq_true c2
    have aH7 : decide (4096 < l0.length) = true := decide_eq_true (by omega)
    clear c2
    simp only [Option.some.injEq, Prod.mk.injEq] at H
    obtain ⟨rfl, rfl, rfl⟩ := H
    go_enter Try.func40, Try.ntmps40
    go_wp2_with (first | ((with_reducible refine gate_dst (N := 3) rfl ?_); refine box_event ?hg (N := 3) ?hd (cs := #[.int .i64 0, .int .i64 0]) (t := 28) ?hr ?_; (case hd => rfl); (case hg => rfl); (case hr => first | (go_simp; done) | (go_simp; rfl)); intro az5 hg w3 hbox hb; have aa0 := aZ (hbox); have cn9 := xgh hg HB; have co0 := xgh hg HB; replace HB := xhl HB hb; clear hb hbox hg; have bs5 : w3.cell? ⟨az5, 0, none⟩ = some (.int .i64 0) := (blk_cell aa0.out 0).trans rfl; have bs6 : w3.cell? ⟨az5, 1, none⟩ = some (.int .i64 0) := (blk_cell aa0.out 1).trans rfl; have bs7 := blk_frozen aa0.out 0; have bs8 := blk_frozen aa0.out 1))
    refine bodyPost_ret (results_tc rfl _ _ az5 28 #[.int .i64 2, .int .i64 0] (0, 0) _ rfl (by (with_reducible repeat (first | refine bN ?_ _ | refine bD ?_ | refine bA ?_ _)); refine blk_put (cs := #[.int .i64 2, .int .i64 0]) ?_ 1 _ rfl; (with_reducible repeat (first | refine bN ?_ _ | refine bD ?_ | refine bA ?_ _)); refine blk_put (cs := #[.int .i64 0, .int .i64 0]) ?_ 0 _ rfl; (with_reducible repeat (first | refine bN ?_ _ | refine bD ?_ | refine bA ?_ _)); exact aa0.out) Try.underlying28 rfl (by kernel_rfl)) rfl ?_
    exact ⟨xre, xq HB⟩
  rw [if_neg c2] at H
  have an7 : decide (4096 < (l0.length : Int)) = false := decide_eq_false c2
  have aH7 : decide (4096 < l0.length) = false := decide_eq_false (by omega)
  clear c2
  have H' := aZ H
  clear H
  go_enter Try.func40, Try.ntmps40
  go_wp2_with (first | ((with_reducible refine gate_dst (N := 3) rfl ?_); refine box_event ?hg (N := 3) ?hd (cs := #[.int .i64 0, .int .i64 0]) (t := 28) ?hr ?_; (case hd => rfl); (case hg => rfl); (case hr => first | (go_simp; done) | (go_simp; rfl)); intro az5 hg w5 hbox hb; have aa0 := aZ (hbox); have cn9 := xgh hg HB; have co0 := xgh hg HB; replace HB := xhl HB hb; clear hb hbox hg))
  go_loopg [4, 13] k (fun kq v4 v13 w' => ∃ (o9 : Int) (m3 : Int), v4 = .int .u64 o9 ∧ v13 = .int .i64 m3 ∧ Aside0 (digest_Of.l0 kq o9 l0 (l0.length : Int) m3 = some (r1, r2, r3)) ∧ Aside0 (kq ≤ k) ∧ Aside0 (w'.heap[az5]? = some (.cells #[.int .i64 0, .int .i64 0] 28 (0, 0))) ∧ Aside0 (Below w.heap.size w w'))
  case atStart => exact ⟨(1), (0), xrs, xrs, H', ⟨Nat.le_refl _⟩, xk aa0, xb HB⟩
  case round =>
   clear H'
   (try clear c2); (try clear an7); (try clear aH7)
   obtain ⟨o9, m3, rfl, rfl, HA, S8, aa0, HB⟩ := hrel
   cases gk with
   | zero => exact absurd HA.out (by simp [digest_Of.l0])
   | succ k1 =>
    have H := HA.out
    clear HA
    simp only [digest_Of.l0] at H
    by_cases c6 : m3 < (l0.length : Int)
    rotate_left
    · rw [if_neg c6] at H
      have Y9 : decide (m3 < (l0.length : Int)) = false := decide_eq_false c6
      clear c6
      simp only [Option.some.injEq, Prod.mk.injEq] at H
      obtain ⟨rfl, rfl, rfl⟩ := H
      have an8 : wr.cell? ⟨az5, 0, none⟩ = some (.int .i64 0) := (blk_cell aa0.out 0).trans rfl
      have an9 : wr.cell? ⟨az5, 1, none⟩ = some (.int .i64 0) := (blk_cell aa0.out 1).trans rfl
      have ao0 := blk_frozen aa0.out 0
      have ao1 := blk_frozen aa0.out 1
      go_wp2
      refine bodyPost_ret (results_tc rfl _ _ az5 28 #[.int .i64 0, .int .i64 0] (0, 0) _ rfl (by (with_reducible repeat (first | refine bN ?_ _ | refine bD ?_ | refine bA ?_ _)); refine blk_put (cs := #[.int .i64 0, .int .i64 0]) ?_ 1 _ rfl; (with_reducible repeat (first | refine bN ?_ _ | refine bD ?_ | refine bA ?_ _)); refine blk_put (cs := #[.int .i64 0, .int .i64 0]) ?_ 0 _ rfl; (with_reducible repeat (first | refine bN ?_ _ | refine bD ?_ | refine bA ?_ _)); exact aa0.out) Try.underlying28 rfl (by kernel_rfl)) rfl ?_
      exact ⟨xre, xq HB⟩

    rw [if_pos c6] at H
    have Y9 : decide (m3 < (l0.length : Int)) = true := decide_eq_true c6
    clear c6
    by_cases c7 : 0 ≤ m3
    rotate_left
    · rw [if_neg c7] at H
      exact absurd H (by simp)
    rw [if_pos c7] at H
    have aS2 : decide (0 ≤ m3) = true := decide_eq_true c7
    clear c7
    by_cases c8 : m3 < (l0.length : Int)
    rotate_left
    · rw [if_neg c8] at H
      exact absurd H (by simp)
    rw [if_pos c8] at H
    have bs9 : decide (m3 < (l0.length : Int)) = true := decide_eq_true c8
    clear c8
    replace H := Option.bind_eq_some_iff.mp H
    obtain ⟨bs4, A90, H⟩ := H
    replace H : (digest_Of.l0 k1 (Int.tmod (IntKind.u64.wrap ((IntKind.u64.wrap (bs4 + (IntKind.u64.wrap (rd l0 m3)))) + 1)) 2305843009213693951) l0 (l0.length : Int) (wrap64 (m3 + 1))) = some (r1, r2, r3) := H
    have A9 := aZ A90
    clear A90
    have H' := aZ H
    clear H
    have ca3 : 0 ≤ (m3 : Int) := of_decide_eq_true xas
    have ca4 : m3 < (l0.length : Int) := of_decide_eq_true xas
    obtain ⟨dJ6, dm6, be0⟩ := Kd.at_int HR0.out m3 ca3 ca4
    cases dm6
    replace be0 := xcl HB be0
    replace ca3 := eq_true ca3
    replace ca4 := eq_true ca4
    go_wp2_with (first | ((with_reducible refine gate_callee (f := 52) rfl ?_); refine goesL_ (some 18) rfl rfl Try.func52 (by kernel_rfl) rfl #[.int .u64 o9, .int .u64 257] rfl xmp ?_; (with_reducible refine (digest_mul.calls k1 o9 257 bs4 _ A9.out).mono ?_); rintro e w' ⟨rfl, ⟨nd, rfl⟩⟩; refine ⟨_, rfl, ?_⟩))
    go_roundg k1
    case measure => have := S8.out; omega
    case rel => exact ⟨(Int.tmod (IntKind.u64.wrap ((IntKind.u64.wrap (bs4 + (IntKind.u64.wrap (rd l0 m3)))) + 1)) 2305843009213693951), (wrap64 (m3 + 1)), xrs, xrs, H', ⟨by have := S8.out; omega⟩, xk aa0, xb HB⟩
mutual
def objects_check.j1 : Nat → Int → List Int → List Int → Option (Int × Int)
  | 0, _, _, _ => none
  | k + 1, aB3, ae3, aB4 => objects_check.l0 k ae3 (ae3.length : Int) 0
def objects_check.l0 : Nat → List Int → Int → Int → Option (Int × Int)
  | 0, _, _, _ => none
  | k + 1, x39, x40, x41 => if x41 < x40 then (if 0 ≤ x41 then (if x41 < (x39.length : Int) then (if (rd x39 x41) < 0 then (some (3, x41)) else (if (rd x39 x41) ≥ 2305843009213693951 then (some (3, x41)) else (objects_check.l0 k x39 x40 (wrap64 (x41 + 1))))) else (none)) else (none)) else (some (0, 0))
def objects_check.j0 : Nat → Bool → Int → List Int → List Int → Option (Int × Int)
  | 0, _, _, _, _ => none
  | k + 1, x5, aB3, ae3, aB4 => if x5 = true then (some (4, 0)) else (if (ae3.length : Int) > 30 then (some (2, 0)) else (if (aB4.length : Int) > 1000 then (some (10, 0)) else (if aB3 = 1 then (if (ae3.length : Int) > 0 then (some (5, 0)) else (objects_check.j1 k aB3 ae3 aB4)) else (objects_check.j1 k aB3 ae3 aB4))))
end
def objects_check.f (k : Nat) (d8 : Int) (b9 : List Int) (e0 : List Int) : Option (Int × Int) := if d8 < 1 then (objects_check.j0 k true d8 b9 e0) else (objects_check.j0 k (decide (d8 > 3)) d8 b9 e0)
theorem objects_check.mono_l : ∀ k, (∀ y0 y1 y2, LeO (objects_check.j1 k y0 y1 y2) (objects_check.j1 (k + 1) y0 y1 y2)) ∧ (∀ y0 y1 y2, LeO (objects_check.l0 k y0 y1 y2) (objects_check.l0 (k + 1) y0 y1 y2)) ∧ (∀ y0 y1 y2 y3, LeO (objects_check.j0 k y0 y1 y2 y3) (objects_check.j0 (k + 1) y0 y1 y2 y3))
  | 0 => ⟨fun _ _ _ r h => by simp [objects_check.j1] at h, fun _ _ _ r h => by simp [objects_check.l0] at h, fun _ _ _ _ r h => by simp [objects_check.j0] at h⟩
  | k + 1 => by
    obtain ⟨t6, ih1, ih2⟩ := objects_check.mono_l k
    refine ⟨?_, ?_, ?_⟩
    all_goals intros; first | unfold objects_check.j1 | unfold objects_check.l0 | unfold objects_check.j0
    all_goals repeat' first | (with_reducible first | exact t6 _ _ _ | exact ih1 _ _ _ | exact ih2 _ _ _ _ | exact LeO.refl _ | exact LeO.none _ | refine LeO.ite ?_ ?_ | refine LeO.bind ?_ (fun _ => ?_)) | exact t6 _ _ _ | exact ih1 _ _ _ | exact ih2 _ _ _ _ | exact LeO.none _ | refine LeO.ite ?_ ?_ | refine LeO.bind ?_ (fun _ => ?_)
theorem objects_check.mono : ∀ a0 a1 a2 k, LeO (objects_check.f k a0 a1 a2) (objects_check.f (k + 1) a0 a1 a2) := by
  intro a0 a1 a2 k
  obtain ⟨t6, ih1, ih2⟩ := objects_check.mono_l k
  unfold objects_check.f
  repeat' first | (with_reducible first | exact t6 _ _ _ | exact ih1 _ _ _ | exact ih2 _ _ _ _ | exact LeO.refl _ | exact LeO.none _ | refine LeO.ite ?_ ?_ | refine LeO.bind ?_ (fun _ => ?_)) | exact t6 _ _ _ | exact ih1 _ _ _ | exact ih2 _ _ _ _ | exact LeO.none _ | refine LeO.ite ?_ ?_ | refine LeO.bind ?_ (fun _ => ?_)
set_option maxHeartbeats 8000000 in
set_option maxRecDepth 100000 in
theorem objects_check.calls (k : Nat) (d8 : Int) (i9 : Option Addr) (i5 : Nat) (b9 : List Int) (i1 : Option Addr) (i3 : Nat) (e0 : List Int) (r1 : Int) (r2 : Int) (w : World) (F9 : Kd.C (Kd.int .i64) w i9 b9.length b9) (G0 : b9.length ≤ i5) (D9 : Kd.C (Kd.int .u8) w i1 e0.length e0) (E0 : e0.length ≤ i3) (h : objects_check.f k d8 b9 e0 = some (r1, r2)) :
  Calls Try.prog 46 #[.agg #[.int .i64 d8, .slice i9 b9.length i5, .slice i1 e0.length i3]] w fun e w' => e = .returned (.agg #[.int .i64 r1, .int .i64 r2]) ∧ Below w.heap.size w w' := by
  have aw1 := Try.underlying44
  have aH5 := Try.underlying28
  have C4 := aZ F9
  have J6 := aZ G0
  clear F9 G0
  have G3 := aZ D9
  have N5 := aZ E0
  clear D9 E0
  have HB := aZ (Below.refl w.heap.size w)
  have H : (if d8 < 1 then (objects_check.j0 k true d8 b9 e0) else (objects_check.j0 k (decide (d8 > 3)) d8 b9 e0)) = some (r1, r2) := h
  clear h
  have HC2 := aZ H
  clear H
  go_enter Try.func46, Try.ntmps46
  go_upto_block 0 with (first | ((with_reducible refine gate_dst (N := 1) rfl ?_); (try (refine gate_guard (by rfl) ?_; dsimp only)); refine box_event ?hg (N := 1) ?hd (cs := #[.int .i64 d8, .slice i9 b9.length i5, .slice i1 e0.length i3]) (t := 44) ?hr ?_; (case hd => rfl); (case hg => rfl); (case hr => first | (go_simp; done) | (go_simp; rfl)); intro E8 hg w3 hbox hb; have k4 := aZ (hbox); have dJ7 := xgh hg HB; have dJ8 := xgh hg HB; replace HB := xhl HB hb; clear hb hbox hg) | ((with_reducible refine gate_dst (N := 2) rfl ?_); (try (refine gate_guard (by rfl) ?_; dsimp only)); refine box_event ?hg (N := 2) ?hd (cs := #[.int .i64 0, .int .i64 0]) (t := 28) ?hr ?_; (case hd => rfl); (case hg => rfl); (case hr => first | (go_simp; done) | (go_simp; rfl)); intro H2 hg w4 hbox hb; have o4 := aZ (hbox); have dJ9 := xgh hg HB; have dK0 := xgh hg HB; replace HB := xhl HB hb; have C6 := xnl hg k4; have C7 := xng hg k4; replace k4 := xbb k4 hb; clear hb hbox hg))
  (try simp only [Act.put, List.setIfInBounds_toArray, List.set_cons_zero, List.set_cons_succ])
  go_cut [] (fun wc => ∃ (kq : Nat) (aw2 : Int) (aw3 : Int), Aside0 (objects_check.j1 kq d8 b9 e0 = some (r1, r2)) ∧ Aside0 (kq ≤ k) ∧ Aside0 (wc.heap[E8]? = some (.cells #[.int .i64 d8, (.slice i9 b9.length i5), (.slice i1 e0.length i3)] 44 (0, 0))) ∧ Aside0 (wc.heap[H2]? = some (.cells #[.int .i64 aw2, .int .i64 aw3] 28 (0, 0))) ∧ Aside0 (Below w.heap.size w wc))
  case first =>
   have H := HC2.out
   clear HC2
   have HC5 := aZ H
   clear H
   go_upto_region 1 with (fail)
   go_cut [5] (fun v5 wc => ∃ (kq : Nat) (bA9 : Bool), v5 = .bool bA9 ∧ Aside0 (objects_check.j0 kq bA9 d8 b9 e0 = some (r1, r2)) ∧ Aside0 (kq ≤ k) ∧ Aside0 (wc.heap[E8]? = some (.cells #[.int .i64 d8, (.slice i9 b9.length i5), (.slice i1 e0.length i3)] 44 (0, 0))) ∧ Aside0 (wc.heap[H2]? = some (.cells #[.int .i64 0, .int .i64 0] 28 (0, 0))) ∧ Aside0 (Below w.heap.size w wc))
   case first =>
    have H := HC5.out
    clear HC5
    by_cases c6 : d8 < 1
    · rw [if_pos c6] at H
      have Y9 : decide (d8 < 1) = true := decide_eq_true c6
      clear c6
      (first | rw [Y9] | (simp only [i64_w, i32_w]; rw [Y9]) | skip)
      have H' := aZ H
      clear H
      have dm9 := C6.out
      have dn0 := C7.out
      have aL0 : w4.cell? ⟨E8, 0, none⟩ = some (.int .i64 d8) := (blk_cell k4.out 0).trans rfl
      have dn1 : w4.cell? ⟨E8, 1, none⟩ = some (.slice i9 b9.length i5) := (blk_cell k4.out 1).trans rfl
      have dn2 : w4.cell? ⟨E8, 2, none⟩ = some (.slice i1 e0.length i3) := (blk_cell k4.out 2).trans rfl
      have aL1 := blk_frozen k4.out 0
      have dn3 := blk_frozen k4.out 1
      have dn4 := blk_frozen k4.out 2
      go_wp2
      go_meet
      case rel => exact ⟨_, (true), xrs, H', ⟨by first | omega | exact Nat.le_refl _⟩, xk k4, xk o4, xb HB⟩
    rw [if_neg c6] at H
    have Y9 : decide (d8 < 1) = false := decide_eq_false c6
    clear c6
    (first | rw [Y9] | (simp only [i64_w, i32_w]; rw [Y9]) | skip)
    have H' := aZ H
    clear H
    have co1 := C6.out
    have co2 := C7.out
    have an8 : w4.cell? ⟨E8, 0, none⟩ = some (.int .i64 d8) := (blk_cell k4.out 0).trans rfl
    have an9 : w4.cell? ⟨E8, 1, none⟩ = some (.slice i9 b9.length i5) := (blk_cell k4.out 1).trans rfl
    have aB5 : w4.cell? ⟨E8, 2, none⟩ = some (.slice i1 e0.length i3) := (blk_cell k4.out 2).trans rfl
    have ao0 := blk_frozen k4.out 0
    have ao1 := blk_frozen k4.out 1
    have aB6 := blk_frozen k4.out 2
    go_wp2
    go_meet
    case rel => exact ⟨_, (decide (d8 > 3)), xrs, H', ⟨by first | omega | exact Nat.le_refl _⟩, xk k4, xk o4, xb HB⟩
   case rest =>
    clear HC5
    obtain ⟨kq, bA9, rfl, HA, HJ4, k4, o4, HB⟩ := hcut
    cases kq with
    | zero => exact absurd HA.out (by simp [objects_check.j0])
    | succ kj4 =>
     have H := HA.out
     clear HA
     simp only [objects_check.j0] at H
     by_cases c11 : bA9 = true
     · subst c11
       have H1 : (some (4, 0)) = some (r1, r2) := by rw [if_pos rfl] at H; exact H
       clear H
       have H := H1
       clear H1
       simp only [Option.some.injEq, Prod.mk.injEq] at H
       obtain ⟨rfl, rfl⟩ := H
       have bQ3 := C7.out
       have bQ4 := C6.out
       have aL2 : wc.cell? ⟨H2, 0, none⟩ = some (.int .i64 0) := (blk_cell o4.out 0).trans rfl
       have bB0 : wc.cell? ⟨H2, 1, none⟩ = some (.int .i64 0) := (blk_cell o4.out 1).trans rfl
       have aL3 := blk_frozen o4.out 0
       have bB1 := blk_frozen o4.out 1
       go_wp2
       refine bodyPost_ret (results_cell_row rfl _ _ H2 28 #[.int .i64 4, .int .i64 0] (0, 0) _ rfl (by (with_reducible repeat (first | refine bN ?_ _ | refine bD ?_ | refine bA ?_ _)); refine blk_put (cs := #[.int .i64 4, .int .i64 0]) ?_ 1 _ rfl; (with_reducible repeat (first | refine bN ?_ _ | refine bD ?_ | refine bA ?_ _)); refine blk_put (cs := #[.int .i64 0, .int .i64 0]) ?_ 0 _ rfl; (with_reducible repeat (first | refine bN ?_ _ | refine bD ?_ | refine bA ?_ _)); exact o4.out) Try.underlying28 rfl (by kernel_rfl)) rfl ?_
       exact ⟨xre, xq HB⟩
     replace c11 := Bool.eq_false_iff.mpr c11
     subst c11
     have H1 : (if (b9.length : Int) > 30 then (some (2, 0)) else (if (e0.length : Int) > 1000 then (some (10, 0)) else (if d8 = 1 then (if (b9.length : Int) > 0 then (some (5, 0)) else (objects_check.j1 kj4 d8 b9 e0)) else (objects_check.j1 kj4 d8 b9 e0)))) = some (r1, r2) := by rw [if_neg (show ¬ (false = true) by decide)] at H; exact H
     clear H
     have H := H1
     clear H1
     by_cases c14 : (b9.length : Int) > 30
     · rw [if_pos c14] at H
       have aE9 : decide (30 < (b9.length : Int)) = true := decide_eq_true c14
       have bd4 : decide (30 < b9.length) = true := decide_eq_true (by omega)
       clear c14
       simp only [Option.some.injEq, Prod.mk.injEq] at H
       obtain ⟨rfl, rfl⟩ := H
       have bt0 := C6.out
       have bt1 := C7.out
       have ao2 : wc.cell? ⟨E8, 0, none⟩ = some (.int .i64 d8) := (blk_cell k4.out 0).trans rfl
       have aB7 : wc.cell? ⟨E8, 1, none⟩ = some (.slice i9 b9.length i5) := (blk_cell k4.out 1).trans rfl
       have aB8 : wc.cell? ⟨E8, 2, none⟩ = some (.slice i1 e0.length i3) := (blk_cell k4.out 2).trans rfl
       have ao3 := blk_frozen k4.out 0
       have aB9 := blk_frozen k4.out 1
       have aC0 := blk_frozen k4.out 2
       have bB2 : wc.cell? ⟨H2, 0, none⟩ = some (.int .i64 0) := (blk_cell o4.out 0).trans rfl
       have bB3 : wc.cell? ⟨H2, 1, none⟩ = some (.int .i64 0) := (blk_cell o4.out 1).trans rfl
       have bB4 := blk_frozen o4.out 0
       have bB5 := blk_frozen o4.out 1
       go_wp2
       refine bodyPost_ret (results_cell_row rfl _ _ H2 28 #[.int .i64 2, .int .i64 0] (0, 0) _ rfl (by (with_reducible repeat (first | refine bN ?_ _ | refine bD ?_ | refine bA ?_ _)); refine blk_put (cs := #[.int .i64 2, .int .i64 0]) ?_ 1 _ rfl; (with_reducible repeat (first | refine bN ?_ _ | refine bD ?_ | refine bA ?_ _)); refine blk_put (cs := #[.int .i64 0, .int .i64 0]) ?_ 0 _ rfl; (with_reducible repeat (first | refine bN ?_ _ | refine bD ?_ | refine bA ?_ _)); exact o4.out) Try.underlying28 rfl (by kernel_rfl)) rfl ?_
       exact ⟨xre, xq HB⟩
     rw [if_neg c14] at H
     have aE9 : decide (30 < (b9.length : Int)) = false := decide_eq_false c14
     have bd4 : decide (30 < b9.length) = false := decide_eq_false (by omega)
     clear c14
     by_cases c18 : (e0.length : Int) > 1000
     · rw [if_pos c18] at H
       have bd6 : decide (1000 < (e0.length : Int)) = true := decide_eq_true c18
       have bd7 : decide (1000 < e0.length) = true := decide_eq_true (by omega)
       clear c18
       simp only [Option.some.injEq, Prod.mk.injEq] at H
       obtain ⟨rfl, rfl⟩ := H
       have aS3 := C6.out
       have aS4 := C7.out
       have ao4 : wc.cell? ⟨E8, 0, none⟩ = some (.int .i64 d8) := (blk_cell k4.out 0).trans rfl
       have aC1 : wc.cell? ⟨E8, 1, none⟩ = some (.slice i9 b9.length i5) := (blk_cell k4.out 1).trans rfl
       have aC2 : wc.cell? ⟨E8, 2, none⟩ = some (.slice i1 e0.length i3) := (blk_cell k4.out 2).trans rfl
       have ao5 := blk_frozen k4.out 0
       have aC3 := blk_frozen k4.out 1
       have aC4 := blk_frozen k4.out 2
       have aC5 : wc.cell? ⟨H2, 0, none⟩ = some (.int .i64 0) := (blk_cell o4.out 0).trans rfl
       have aC6 : wc.cell? ⟨H2, 1, none⟩ = some (.int .i64 0) := (blk_cell o4.out 1).trans rfl
       have aC7 := blk_frozen o4.out 0
       have aC8 := blk_frozen o4.out 1
       go_wp2
       refine bodyPost_ret (results_cell_row rfl _ _ H2 28 #[.int .i64 10, .int .i64 0] (0, 0) _ rfl (by (with_reducible repeat (first | refine bN ?_ _ | refine bD ?_ | refine bA ?_ _)); refine blk_put (cs := #[.int .i64 10, .int .i64 0]) ?_ 1 _ rfl; (with_reducible repeat (first | refine bN ?_ _ | refine bD ?_ | refine bA ?_ _)); refine blk_put (cs := #[.int .i64 0, .int .i64 0]) ?_ 0 _ rfl; (with_reducible repeat (first | refine bN ?_ _ | refine bD ?_ | refine bA ?_ _)); exact o4.out) Try.underlying28 rfl (by kernel_rfl)) rfl ?_
       exact ⟨xre, xq HB⟩
     rw [if_neg c18] at H
     have bd6 : decide (1000 < (e0.length : Int)) = false := decide_eq_false c18
     have bd7 : decide (1000 < e0.length) = false := decide_eq_false (by omega)
     clear c18
     by_cases c22 : d8 = 1
     rotate_left
     · rw [if_neg c22] at H
       have bQ5 : (d8 == 1) = false := beq_eq_false_iff_ne.mpr c22
       have co3 : (d8 != 1) = true := bne_iff_ne.mpr c22
       have H' := aZ H
       clear H
       have bQ6 := C6.out
       have bQ7 := C7.out
       have aL4 : wc.cell? ⟨E8, 0, none⟩ = some (.int .i64 d8) := (blk_cell k4.out 0).trans rfl
       have be1 : wc.cell? ⟨E8, 1, none⟩ = some (.slice i9 b9.length i5) := (blk_cell k4.out 1).trans rfl
       have cK3 : wc.cell? ⟨E8, 2, none⟩ = some (.slice i1 e0.length i3) := (blk_cell k4.out 2).trans rfl
       have aL5 := blk_frozen k4.out 0
       have be2 := blk_frozen k4.out 1
       have cK4 := blk_frozen k4.out 2
       go_wp2
       go_meet
       case rel => exact ⟨_, (0), (0), H', ⟨by have := HJ4.out; first | omega | exact Nat.le_refl _⟩, xk k4, xk o4, xb HB⟩
     rw [if_pos c22] at H
     have bQ5 : (d8 == 1) = true := beq_iff_eq.mpr c22
     have co3 : (d8 != 1) = false := bne_eq_false_iff_eq.mpr c22
     clear c22
     by_cases c23 : (b9.length : Int) > 0
     rotate_left
     · rw [if_neg c23] at H
       have bd8 : decide (0 < (b9.length : Int)) = false := decide_eq_false c23
       have co4 : decide (0 < b9.length) = false := decide_eq_false (by omega)
       clear c23
       have H' := aZ H
       clear H
       have co5 := C6.out
       have co6 := C7.out
       have be3 : wc.cell? ⟨E8, 0, none⟩ = some (.int .i64 d8) := (blk_cell k4.out 0).trans rfl
       have bB6 : wc.cell? ⟨E8, 1, none⟩ = some (.slice i9 b9.length i5) := (blk_cell k4.out 1).trans rfl
       have cK5 : wc.cell? ⟨E8, 2, none⟩ = some (.slice i1 e0.length i3) := (blk_cell k4.out 2).trans rfl
       have be4 := blk_frozen k4.out 0
       have bB7 := blk_frozen k4.out 1
       have cK6 := blk_frozen k4.out 2
       go_wp2
       go_meet
       case rel => exact ⟨_, (0), (0), H', ⟨by have := HJ4.out; first | omega | exact Nat.le_refl _⟩, xk k4, xk o4, xb HB⟩
     rw [if_pos c23] at H
     have bd8 : decide (0 < (b9.length : Int)) = true := decide_eq_true c23
     have co4 : decide (0 < b9.length) = true := decide_eq_true (by omega)
     clear c23
     simp only [Option.some.injEq, Prod.mk.injEq] at H
     obtain ⟨rfl, rfl⟩ := H
     have bt2 := C6.out
     have bt3 := C7.out
     have be5 : wc.cell? ⟨E8, 0, none⟩ = some (.int .i64 d8) := (blk_cell k4.out 0).trans rfl
     have be6 : wc.cell? ⟨E8, 1, none⟩ = some (.slice i9 b9.length i5) := (blk_cell k4.out 1).trans rfl
     have cK7 : wc.cell? ⟨E8, 2, none⟩ = some (.slice i1 e0.length i3) := (blk_cell k4.out 2).trans rfl
     have be7 := blk_frozen k4.out 0
     have be8 := blk_frozen k4.out 1
     have cK8 := blk_frozen k4.out 2
     have ao6 : wc.cell? ⟨H2, 0, none⟩ = some (.int .i64 0) := (blk_cell o4.out 0).trans rfl
     have ao7 : wc.cell? ⟨H2, 1, none⟩ = some (.int .i64 0) := (blk_cell o4.out 1).trans rfl
     have ao8 := blk_frozen o4.out 0
     have ao9 := blk_frozen o4.out 1
     go_wp2
     refine bodyPost_ret (results_cell_row rfl _ _ H2 28 #[.int .i64 5, .int .i64 0] (0, 0) _ rfl (by (with_reducible repeat (first | refine bN ?_ _ | refine bD ?_ | refine bA ?_ _)); refine blk_put (cs := #[.int .i64 5, .int .i64 0]) ?_ 1 _ rfl; (with_reducible repeat (first | refine bN ?_ _ | refine bD ?_ | refine bA ?_ _)); refine blk_put (cs := #[.int .i64 0, .int .i64 0]) ?_ 0 _ rfl; (with_reducible repeat (first | refine bN ?_ _ | refine bD ?_ | refine bA ?_ _)); exact o4.out) Try.underlying28 rfl (by kernel_rfl)) rfl ?_
     exact ⟨xre, xq HB⟩
  case rest =>
   clear HC2
   obtain ⟨kq, aw2, aw3, HA, HJ1, k4, o4, HB⟩ := hcut
   cases kq with
   | zero => exact absurd HA.out (by simp [objects_check.j1])
   | succ kj1 =>
    have H := HA.out
    clear HA
    simp only [objects_check.j1] at H
    have H' := aZ H
    clear H
    have bQ8 := C6.out
    have bQ9 := C7.out
    have aC9 : wc.cell? ⟨E8, 0, none⟩ = some (.int .i64 d8) := (blk_cell k4.out 0).trans rfl
    have aL6 : wc.cell? ⟨E8, 1, none⟩ = some (.slice i9 b9.length i5) := (blk_cell k4.out 1).trans rfl
    have be9 : wc.cell? ⟨E8, 2, none⟩ = some (.slice i1 e0.length i3) := (blk_cell k4.out 2).trans rfl
    have aD0 := blk_frozen k4.out 0
    have aL7 := blk_frozen k4.out 1
    have bf0 := blk_frozen k4.out 2
    go_wp2
    go_loopg [41] kj1 (fun kq v41 w' => ∃ (E1 : Int) (K9 : Int) (C8 : Int), v41 = .int .i64 E1 ∧ Aside0 (objects_check.l0 kq b9 (b9.length : Int) E1 = some (r1, r2)) ∧ Aside0 (kq ≤ kj1) ∧ Aside0 (w'.heap[E8]? = some (.cells #[.int .i64 d8, (.slice i9 b9.length i5), (.slice i1 e0.length i3)] 44 (0, 0))) ∧ Aside0 (w'.heap[H2]? = some (.cells #[.int .i64 K9, .int .i64 C8] 28 (0, 0))) ∧ Aside0 (Below w.heap.size w w'))
    case atStart => exact ⟨(0), (aw2), (aw3), xrs, H', ⟨Nat.le_refl _⟩, xk k4, xk o4, xb HB⟩
    case round =>
     clear H'
     (try clear aC9); (try clear aL6); (try clear be9); (try clear aD0); (try clear aL7); (try clear bf0)
     obtain ⟨E1, K9, C8, rfl, HA, HK2, k4, o4, HB⟩ := hrel
     cases gk with
     | zero => exact absurd HA.out (by simp [objects_check.l0])
     | succ k2 =>
      have H := HA.out
      clear HA
      simp only [objects_check.l0] at H
      by_cases c33 : E1 < (b9.length : Int)
      rotate_left
      · rw [if_neg c33] at H
        have bf1 : decide (E1 < (b9.length : Int)) = false := decide_eq_false c33
        clear c33
        simp only [Option.some.injEq, Prod.mk.injEq] at H
        obtain ⟨rfl, rfl⟩ := H
        have bR0 := C7.out
        have bR1 := C6.out
        have cK9 : wr.cell? ⟨H2, 0, none⟩ = some (.int .i64 K9) := (blk_cell o4.out 0).trans rfl
        have cL0 : wr.cell? ⟨H2, 1, none⟩ = some (.int .i64 C8) := (blk_cell o4.out 1).trans rfl
        have cL1 := blk_frozen o4.out 0
        have cL2 := blk_frozen o4.out 1
        go_wp2
        refine bodyPost_ret (results_cell_row rfl _ _ H2 28 #[.int .i64 0, .int .i64 0] (0, 0) _ rfl (by (with_reducible repeat (first | refine bN ?_ _ | refine bD ?_ | refine bA ?_ _)); refine blk_put (cs := #[.int .i64 0, .int .i64 C8]) ?_ 1 _ rfl; (with_reducible repeat (first | refine bN ?_ _ | refine bD ?_ | refine bA ?_ _)); refine blk_put (cs := #[.int .i64 K9, .int .i64 C8]) ?_ 0 _ rfl; (with_reducible repeat (first | refine bN ?_ _ | refine bD ?_ | refine bA ?_ _)); exact o4.out) Try.underlying28 rfl (by kernel_rfl)) rfl ?_
        exact ⟨xre, xq HB⟩

      rw [if_pos c33] at H
      have bf1 : decide (E1 < (b9.length : Int)) = true := decide_eq_true c33
      clear c33
      by_cases c34 : 0 ≤ E1
      rotate_left
      · rw [if_neg c34] at H
        exact absurd H (by simp)
      rw [if_pos c34] at H
      have bt4 : decide (0 ≤ E1) = true := decide_eq_true c34
      clear c34
      by_cases c35 : E1 < (b9.length : Int)
      rotate_left
      · rw [if_neg c35] at H
        exact absurd H (by simp)
      rw [if_pos c35] at H
      have dK5 : decide (E1 < (b9.length : Int)) = true := decide_eq_true c35
      clear c35
      by_cases c36 : (rd b9 E1) < 0
      · rw [if_pos c36] at H
        have co7 : decide ((rd b9 E1) < 0) = true := decide_eq_true c36
        clear c36
        simp only [Option.some.injEq, Prod.mk.injEq] at H
        obtain ⟨rfl, rfl⟩ := H
        have aF1 : 0 ≤ (E1 : Int) := of_decide_eq_true xas
        have aF2 : E1 < (b9.length : Int) := of_decide_eq_true xas
        obtain ⟨bR2, bt6, aa1⟩ := Kd.at_int C4.out E1 aF1 aF2
        cases bt6
        replace aa1 := xcl HB aa1
        replace aF1 := eq_true aF1
        replace aF2 := eq_true aF2
        have bR3 := C7.out
        have bR4 := C6.out
        have aD1 : wr.cell? ⟨H2, 0, none⟩ = some (.int .i64 K9) := (blk_cell o4.out 0).trans rfl
        have aD2 : wr.cell? ⟨H2, 1, none⟩ = some (.int .i64 C8) := (blk_cell o4.out 1).trans rfl
        have aD3 := blk_frozen o4.out 0
        have aD4 := blk_frozen o4.out 1
        go_wp2
        refine bodyPost_ret (results_cell_row rfl _ _ H2 28 #[.int .i64 3, .int .i64 E1] (0, 0) _ rfl (by (with_reducible repeat (first | refine bN ?_ _ | refine bD ?_ | refine bA ?_ _)); refine blk_put (cs := #[.int .i64 3, .int .i64 C8]) ?_ 1 _ rfl; (with_reducible repeat (first | refine bN ?_ _ | refine bD ?_ | refine bA ?_ _)); refine blk_put (cs := #[.int .i64 K9, .int .i64 C8]) ?_ 0 _ rfl; (with_reducible repeat (first | refine bN ?_ _ | refine bD ?_ | refine bA ?_ _)); exact o4.out) Try.underlying28 rfl (by kernel_rfl)) rfl ?_
        exact ⟨xre, xq HB⟩
      rw [if_neg c36] at H
      have co7 : decide ((rd b9 E1) < 0) = false := decide_eq_false c36
      clear c36
      by_cases c39 : (rd b9 E1) ≥ 2305843009213693951
      rotate_left
      · rw [if_neg c39] at H
        have bt7 : decide (2305843009213693951 ≤ (rd b9 E1)) = false := decide_eq_false c39
        clear c39
        have H' := aZ H
        clear H
        have aF1 : 0 ≤ (E1 : Int) := of_decide_eq_true xas
        have aF2 : E1 < (b9.length : Int) := of_decide_eq_true xas
        obtain ⟨bR2, bt6, aa1⟩ := Kd.at_int C4.out E1 aF1 aF2
        cases bt6
        replace aa1 := xcl HB aa1
        replace aF1 := eq_true aF1
        replace aF2 := eq_true aF2
        go_wp2
        go_roundg k2
        case measure => have := HJ1.out; have := HK2.out; omega
        case rel => exact ⟨(wrap64 (E1 + 1)), (K9), (C8), xrs, H', ⟨by have := HJ1.out; have := HK2.out; omega⟩, xk k4, xk o4, xb HB⟩
      rw [if_pos c39] at H
      have bt7 : decide (2305843009213693951 ≤ (rd b9 E1)) = true := decide_eq_true c39
      clear c39
      simp only [Option.some.injEq, Prod.mk.injEq] at H
      obtain ⟨rfl, rfl⟩ := H
      have aF1 : 0 ≤ (E1 : Int) := of_decide_eq_true xas
      have aF2 : E1 < (b9.length : Int) := of_decide_eq_true xas
      obtain ⟨bR2, bt6, aa1⟩ := Kd.at_int C4.out E1 aF1 aF2
      cases bt6
      replace aa1 := xcl HB aa1
      replace aF1 := eq_true aF1
      replace aF2 := eq_true aF2
      have bR5 := C7.out
      have bR6 := C6.out
      have bB8 : wr.cell? ⟨H2, 0, none⟩ = some (.int .i64 K9) := (blk_cell o4.out 0).trans rfl
      have bB9 : wr.cell? ⟨H2, 1, none⟩ = some (.int .i64 C8) := (blk_cell o4.out 1).trans rfl
      have bC0 := blk_frozen o4.out 0
      have bC1 := blk_frozen o4.out 1
      go_wp2
      refine bodyPost_ret (results_cell_row rfl _ _ H2 28 #[.int .i64 3, .int .i64 E1] (0, 0) _ rfl (by (with_reducible repeat (first | refine bN ?_ _ | refine bD ?_ | refine bA ?_ _)); refine blk_put (cs := #[.int .i64 3, .int .i64 C8]) ?_ 1 _ rfl; (with_reducible repeat (first | refine bN ?_ _ | refine bD ?_ | refine bA ?_ _)); refine blk_put (cs := #[.int .i64 K9, .int .i64 C8]) ?_ 0 _ rfl; (with_reducible repeat (first | refine bN ?_ _ | refine bD ?_ | refine bA ?_ _)); exact o4.out) Try.underlying28 rfl (by kernel_rfl)) rfl ?_
      exact ⟨xre, xq HB⟩
section
attribute [local go_sem high] aR2
mutual
def objects_Digest.l0 : Nat → List Int → List Int → Int → Int → Int → List Int → List Int → Option (Int × Int × Int)
  | 0, _, _, _, _, _, _, _ => none
  | k + 1, x5, x24, x25, x26, aD5, aD6, ak6 => if x26 < x25 then (if 0 ≤ x26 then (if x26 < (x24.length : Int) then (objects_Digest.l1 k x5 (rd x24 x26) 56 x24 x25 x26 aD5 aD6 ak6) else (none)) else (none)) else (if x5.length + ak6.length < 140737488355328 then ((digest_Of.f k (x5 ++ ak6)).bind fun aF3 => (some (aF3.1, aF3.2.1, aF3.2.2))) else (none))
def objects_Digest.l1 : Nat → List Int → Int → Int → List Int → Int → Int → Int → List Int → List Int → Option (Int × Int × Int)
  | 0, _, _, _, _, _, _, _, _, _ => none
  | k + 1, x5, x7, x8, x24, x25, x26, aD5, aD6, ak6 => if x8 ≥ 0 then (if 0 ≤ x8 then (if x5.length < 140737488355328 then (objects_Digest.l1 k (x5 ++ [(shr .i64 x7 x8) % 256]) x7 (wrap64 (x8 - 8)) x24 x25 x26 aD5 aD6 ak6) else (none)) else (none)) else (objects_Digest.l0 k x5 x24 x25 (wrap64 (x26 + 1)) aD5 aD6 ak6)
end
def objects_Digest.f (k : Nat) (d8 : Int) (b9 : List Int) (e0 : List Int) : Option (Int × Int × Int) := (objects_check.f k d8 b9 e0).bind fun ap0 => (if (!(ap0.1 == 0) || (!(ap0.2 == 0))) = true then (some (0, ap0.1, ap0.2)) else (objects_Digest.l0 k (([(d8) % 256, ((b9.length : Int)) % 256] : List Int)) b9 (b9.length : Int) 0 d8 b9 e0))
theorem objects_Digest.mono_l : ∀ k, (∀ y0 y1 y2 y3 y4 y5 y6, LeO (objects_Digest.l0 k y0 y1 y2 y3 y4 y5 y6) (objects_Digest.l0 (k + 1) y0 y1 y2 y3 y4 y5 y6)) ∧ (∀ y0 y1 y2 y3 y4 y5 y6 y7 y8, LeO (objects_Digest.l1 k y0 y1 y2 y3 y4 y5 y6 y7 y8) (objects_Digest.l1 (k + 1) y0 y1 y2 y3 y4 y5 y6 y7 y8))
  | 0 => ⟨fun _ _ _ _ _ _ _ r h => by simp [objects_Digest.l0] at h, fun _ _ _ _ _ _ _ _ _ r h => by simp [objects_Digest.l1] at h⟩
  | k + 1 => by
    obtain ⟨t6, ih1⟩ := objects_Digest.mono_l k
    refine ⟨?_, ?_⟩
    all_goals intros; first | unfold objects_Digest.l0 | unfold objects_Digest.l1
    all_goals repeat' first | (with_reducible first | exact t6 _ _ _ _ _ _ _ | exact ih1 _ _ _ _ _ _ _ _ _ | exact digest_Of.mono _ _ | exact objects_check.mono _ _ _ _ | exact LeO.refl _ | exact LeO.none _ | refine LeO.ite ?_ ?_ | refine LeO.bind ?_ (fun _ => ?_)) | exact t6 _ _ _ _ _ _ _ | exact ih1 _ _ _ _ _ _ _ _ _ | exact digest_Of.mono _ _ | exact objects_check.mono _ _ _ _ | exact LeO.none _ | refine LeO.ite ?_ ?_ | refine LeO.bind ?_ (fun _ => ?_)
theorem objects_Digest.mono : ∀ a0 a1 a2 k, LeO (objects_Digest.f k a0 a1 a2) (objects_Digest.f (k + 1) a0 a1 a2) := by
  intro a0 a1 a2 k
  obtain ⟨t6, ih1⟩ := objects_Digest.mono_l k
  unfold objects_Digest.f
  repeat' first | (with_reducible first | exact t6 _ _ _ _ _ _ _ | exact ih1 _ _ _ _ _ _ _ _ _ | exact digest_Of.mono _ _ | exact objects_check.mono _ _ _ _ | exact LeO.refl _ | exact LeO.none _ | refine LeO.ite ?_ ?_ | refine LeO.bind ?_ (fun _ => ?_)) | exact t6 _ _ _ _ _ _ _ | exact ih1 _ _ _ _ _ _ _ _ _ | exact digest_Of.mono _ _ | exact objects_check.mono _ _ _ _ | exact LeO.none _ | refine LeO.ite ?_ ?_ | refine LeO.bind ?_ (fun _ => ?_)
set_option maxHeartbeats 8000000 in
set_option maxRecDepth 100000 in
theorem objects_Digest.calls (k : Nat) (d8 : Int) (i9 : Option Addr) (i5 : Nat) (b9 : List Int) (i1 : Option Addr) (i3 : Nat) (e0 : List Int) (r1 : Int) (r2 : Int) (r3 : Int) (w : World) (F9 : Kd.C (Kd.int .i64) w i9 b9.length b9) (G0 : b9.length ≤ i5) (D9 : Kd.C (Kd.int .u8) w i1 e0.length e0) (E0 : e0.length ≤ i3) (h : objects_Digest.f k d8 b9 e0 = some (r1, r2, r3)) :
  Calls Try.prog 29 #[.agg #[.int .i64 d8, .slice i9 b9.length i5, .slice i1 e0.length i3]] w fun e w' => e = .returned (.tuple #[.int .i64 r1, .agg #[.int .i64 r2, .int .i64 r3]]) ∧ Below w.heap.size w w' := by
  have aw1 := Try.underlying44
  have aH5 := Try.underlying28
  have C4 := aZ F9
  have J6 := aZ G0
  clear F9 G0
  have G3 := aZ D9
  have N5 := aZ E0
  clear D9 E0
  have HB := aZ (Below.refl w.heap.size w)
  have H : ((objects_check.f k d8 b9 e0).bind fun ap0 => (if (!(ap0.1 == 0) || (!(ap0.2 == 0))) = true then (some (0, ap0.1, ap0.2)) else (objects_Digest.l0 k (([(d8) % 256, ((b9.length : Int)) % 256] : List Int)) b9 (b9.length : Int) 0 d8 b9 e0))) = some (r1, r2, r3) := h
  clear h
  replace H := Option.bind_eq_some_iff.mp H
  obtain ⟨⟨Y5, ab9⟩, A20, H⟩ := H
  replace H : (if (!(Y5 == 0) || (!(ab9 == 0))) = true then (some (0, Y5, ab9)) else (objects_Digest.l0 k (([(d8) % 256, ((b9.length : Int)) % 256] : List Int)) b9 (b9.length : Int) 0 d8 b9 e0)) = some (r1, r2, r3) := H
  have A2 := aZ A20
  clear A20
  by_cases c3 : (!(Y5 == 0) || (!(ab9 == 0))) = true
  · rw [if_pos c3] at H
    have ae4 : (!(Y5 == 0) || (!(ab9 == 0))) = true := c3
    clear c3
    simp only [Option.some.injEq, Prod.mk.injEq] at H
    obtain ⟨rfl, rfl, rfl⟩ := H
    go_enter Try.func29, Try.ntmps29
    try go_wp2_with (first | ((with_reducible refine gate_dst (N := 1) rfl ?_); refine box_event ?hg (N := 1) ?hd (cs := #[.int .i64 d8, .slice i9 b9.length i5, .slice i1 e0.length i3]) (t := 44) ?hr ?_; (case hd => rfl); (case hg => rfl); (case hr => first | (go_simp; done) | (go_simp; rfl)); intro N6 hg w4 hbox hb; have j3 := aZ (hbox); have cp1 := xgh hg HB; have aI9 := xgh hg HB; replace HB := xhl HB hb; clear hb hbox hg) | ((with_reducible refine gate_dst (N := 3) rfl ?_); refine box_event ?hg (N := 3) ?hd (cs := #[.int .i64 0, .int .i64 0]) (t := 28) ?hr ?_; (case hd => rfl); (case hg => rfl); (case hr => first | (go_simp; done) | (go_simp; rfl)); intro V3 hg w5 hbox hb; have o0 := aZ (hbox); have cp2 := xgh hg HB; have aJ0 := xgh hg HB; replace HB := xhl HB hb; have X9 := xnl hg j3; have Y0 := xng hg j3; replace j3 := xbb j3 hb; clear hb hbox hg; have ca5 := X9.out; have ca6 := Y0.out; have am7 : w5.cell? ⟨N6, 0, none⟩ = some (.int .i64 d8) := (blk_cell j3.out 0).trans rfl; have ca7 : w5.cell? ⟨N6, 1, none⟩ = some (.slice i9 b9.length i5) := (blk_cell j3.out 1).trans rfl; have dn5 : w5.cell? ⟨N6, 2, none⟩ = some (.slice i1 e0.length i3) := (blk_cell j3.out 2).trans rfl; have am8 := blk_frozen j3.out 0; have ca8 := blk_frozen j3.out 1; have dn6 := blk_frozen j3.out 2) | ((with_reducible refine gate_callee (f := 46) rfl ?_); refine goesL_ (some 10) rfl rfl Try.func46 (by kernel_rfl) rfl #[.agg #[.int .i64 d8, .slice i9 b9.length i5, .slice i1 e0.length i3]] rfl xmp ?_; (with_reducible refine (objects_check.calls k d8 _ _ b9 _ _ e0 Y5 ab9 _ ?side1 ?side2 ?side3 ?side4 A2.out).mono ?_); (case side1 => exact xcb C4 HB); (case side2 => exact J6.out); (case side3 => exact xcb G3 HB); (case side4 => exact N5.out); rintro e w8 ⟨rfl, hb⟩; refine ⟨_, rfl, ?_⟩; replace j3 := xbb j3 hb; replace o0 := xbb o0 hb; replace HB := xhl HB hb; skip; (try clear hb); (try clear H3); (try clear hk); (try clear hi)) | ((with_reducible refine gate_dst (N := 4) rfl ?_); refine box_event ?hg (N := 4) ?hd (cs := #[.int .i64 0, .int .i64 0]) (t := 28) ?hr ?_; (case hd => rfl); (case hg => rfl); (case hr => first | (go_simp; done) | (go_simp; rfl)); intro J7 hg w9 hbox hb; have u6 := aZ (hbox); have cp3 := xgh hg HB; have aJ1 := xgh hg HB; replace HB := xhl HB hb; have ak7 := xnl hg j3; have ak8 := xng hg j3; replace j3 := xbb j3 hb; have Y1 := xnl hg o0; have G4 := xng hg o0; replace o0 := xbb o0 hb; clear hb hbox hg; have bR8 := ak8.out; have bR9 := ak7.out; have bS0 := G4.out; have bS1 := Y1.out; have bf3 : w9.cell? ⟨J7, 0, none⟩ = some (.int .i64 0) := (blk_cell u6.out 0).trans rfl; have bC2 : w9.cell? ⟨J7, 1, none⟩ = some (.int .i64 0) := (blk_cell u6.out 1).trans rfl; have bf4 := blk_frozen u6.out 0; have bC3 := blk_frozen u6.out 1))
    replace j3 : Aside0 (((w9.setCell ⟨J7, 0, none⟩ (.int .i64 Y5)).setCell ⟨J7, 1, none⟩ (.int .i64 ab9)).heap[N6]? = some (.cells #[.int .i64 d8, .slice i9 b9.length i5, .slice i1 e0.length i3] 44 (0, 0))) := xk j3
    replace o0 : Aside0 (((w9.setCell ⟨J7, 0, none⟩ (.int .i64 Y5)).setCell ⟨J7, 1, none⟩ (.int .i64 ab9)).heap[V3]? = some (.cells #[.int .i64 0, .int .i64 0] 28 (0, 0))) := xk o0
    replace u6 : Aside0 (((w9.setCell ⟨J7, 0, none⟩ (.int .i64 Y5)).setCell ⟨J7, 1, none⟩ (.int .i64 ab9)).heap[J7]? = some (.cells #[.int .i64 Y5, .int .i64 ab9] 28 (0, 0))) := ⟨by (with_reducible repeat (first | refine bN ?_ _ | refine bD ?_ | refine bA ?_ _)); refine blk_put (cs := #[.int .i64 Y5, .int .i64 0]) ?_ 1 _ rfl; (with_reducible repeat (first | refine bN ?_ _ | refine bD ?_ | refine bA ?_ _)); refine blk_put (cs := #[.int .i64 0, .int .i64 0]) ?_ 0 _ rfl; (with_reducible repeat (first | refine bN ?_ _ | refine bD ?_ | refine bA ?_ _)); exact u6.out⟩
    replace HB : Aside0 (Below w.heap.size w ((w9.setCell ⟨J7, 0, none⟩ (.int .i64 Y5)).setCell ⟨J7, 1, none⟩ (.int .i64 ab9))) := xb HB
    generalize ((w9.setCell ⟨J7, 0, none⟩ (.int .i64 Y5)).setCell ⟨J7, 1, none⟩ (.int .i64 ab9)) = w13 at j3 o0 u6 HB ⊢
    replace j3 := aZ (bD j3.out)
    replace o0 := aZ (bD o0.out)
    replace u6 := aZ (bD u6.out)
    replace HB := aZ (lD HB.out)
    refine start_ (n := 3) (S := fun w' => w'.cell? ⟨J7, 0, none⟩ = some (.int .i64 Y5) ∧ w'.cell? ⟨J7, 1, none⟩ = some (.int .i64 ab9)) (ds := []) #[false, false, false] (by kernel_rfl) rfl rfl ⟨(blk_cell u6.out 0).trans rfl, (blk_cell u6.out 1).trans rfl⟩ (fun hHeld => ?_)
    generalize w13.drew = w14 at j3 o0 u6 HB hHeld ⊢
    refine pure_ (i := 1) (N := some 2) (v := ?_) (a' := ?_) #[false, true, false] rfl rfl (by kernel_rfl) (fun _ _ _ h => h) (Or.inl ⟨by rfl, ?_⟩) ?_ ?_
    rotate_left
    · intro w'
      go_simp
      with_reducible rfl
    rotate_left
    · simp only [Act.put, List.setIfInBounds_toArray, List.set_cons_zero, List.set_cons_succ, i64_w, i32_w]
      rfl
    refine take_ (i := 0) (N := some 14) (v := ?_) (a' := ?_) #[true, true, false] rfl rfl (by kernel_rfl) (fun _ _ _ h => h) (Or.inl ⟨by rfl, ?_⟩) hHeld ?_ ?_
    rotate_left
    · rintro w' ⟨s0, s1⟩
      go_simp
      with_reducible rfl
    rotate_left
    · simp only [Act.put, List.setIfInBounds_toArray, List.set_cons_zero, List.set_cons_succ, i64_w, i32_w]
      rfl
    refine one_ (i := 2) (N := none) #[true, true, true] rfl rfl (by kernel_rfl) (by decide) (fun K hK => ?_)
    have dY2 : w14.cell? ⟨V3, 0, none⟩ = some (.int .i64 0) := (blk_cell o0.out 0).trans rfl
    have dK6 := blk_frozen o0.out 0
    have cL4 := X9.out
    have cL5 := G4.out
    have cL6 := Y0.out
    have cL7 := Y1.out
    have dn7 : w14.cell? ⟨V3, 1, none⟩ = some (.int .i64 0) := (blk_cell o0.out 1).trans rfl
    have cp4 := blk_frozen o0.out 1
    have bC4 := X9.out
    have bC5 := G4.out
    have bC6 := Y0.out
    have bC7 := Y1.out
    refine skip_ (w1 := ?_) (by rfl) rfl ?_ ?_
    rotate_left
    · go_simp
      rfl
    refine hK.out _ _ ⟨((cell_far (p := ⟨V3, _, none⟩) G4.out _).trans (((cell_far (p := ⟨V3, _, none⟩) G4.out _).trans (hHeld.1)))), ((cell_far (p := ⟨V3, _, none⟩) G4.out _).trans (((cell_far (p := ⟨V3, _, none⟩) G4.out _).trans (hHeld.2))))⟩ (fun hHeld => ?_)
    clear hK K
    refine done_ (by kernel_rfl) ?_
    try go_wp2
    refine bodyPost_ret (results_tc rfl _ _ V3 28 #[.int .i64 Y5, .int .i64 ab9] (0, 0) _ rfl (by (with_reducible repeat (first | refine bN ?_ _ | refine bD ?_ | refine bA ?_ _)); refine blk_put (cs := #[.int .i64 Y5, .int .i64 0]) ?_ 1 _ rfl; (with_reducible repeat (first | refine bN ?_ _ | refine bD ?_ | refine bA ?_ _)); refine blk_put (cs := #[.int .i64 0, .int .i64 0]) ?_ 0 _ rfl; (with_reducible repeat (first | refine bN ?_ _ | refine bD ?_ | refine bA ?_ _)); exact o0.out) Try.underlying28 rfl (by kernel_rfl)) rfl ?_
    exact ⟨xre, xq HB⟩
  rw [if_neg c3] at H
  have ae4 : (!(Y5 == 0) || (!(ab9 == 0))) = false := by simpa using c3
  clear c3
  obtain ⟨cp5, aS6⟩ : ∃ y_ : List Int, y_ = (([(d8) % 256, ((b9.length : Int)) % 256] : List Int)) := ⟨_, rfl⟩
  replace H : (objects_Digest.l0 k cp5 b9 (b9.length : Int) 0 d8 b9 e0) = some (r1, r2, r3) := by first | (rw [aS6]; with_reducible exact H) | (have P7 := (Option.bind_some _ _).symm.trans H; rw [aS6]; with_reducible exact P7) | (have P7 := (Option.bind_some _ _).symm.trans H; with_reducible exact P7) | with_reducible exact H | (rw [aS6]; exact H) | exact H
  have bS2 := aZ aS6
  clear aS6
  have H' := aZ H
  clear H
  go_enter Try.func29, Try.ntmps29
  go_wp2_with (first | ((with_reducible refine gate_dst (N := 1) rfl ?_); refine box_event ?hg (N := 1) ?hd (cs := #[.int .i64 d8, .slice i9 b9.length i5, .slice i1 e0.length i3]) (t := 44) ?hr ?_; (case hd => rfl); (case hg => rfl); (case hr => first | (go_simp; done) | (go_simp; rfl)); intro N6 hg w17 hbox hb; have j3 := aZ (hbox); have cp1 := xgh hg HB; have aI9 := xgh hg HB; replace HB := xhl HB hb; clear hb hbox hg) | ((with_reducible refine gate_dst (N := 3) rfl ?_); refine box_event ?hg (N := 3) ?hd (cs := #[.int .i64 0, .int .i64 0]) (t := 28) ?hr ?_; (case hd => rfl); (case hg => rfl); (case hr => first | (go_simp; done) | (go_simp; rfl)); intro V3 hg w18 hbox hb; have o0 := aZ (hbox); have cp2 := xgh hg HB; have aJ0 := xgh hg HB; replace HB := xhl HB hb; have X9 := xnl hg j3; have Y0 := xng hg j3; replace j3 := xbb j3 hb; clear hb hbox hg; have aS3 := X9.out; have aS4 := Y0.out; have ao4 : w18.cell? ⟨N6, 0, none⟩ = some (.int .i64 d8) := (blk_cell j3.out 0).trans rfl; have aC1 : w18.cell? ⟨N6, 1, none⟩ = some (.slice i9 b9.length i5) := (blk_cell j3.out 1).trans rfl; have aC2 : w18.cell? ⟨N6, 2, none⟩ = some (.slice i1 e0.length i3) := (blk_cell j3.out 2).trans rfl; have ao5 := blk_frozen j3.out 0; have aC3 := blk_frozen j3.out 1; have aC4 := blk_frozen j3.out 2) | ((with_reducible refine gate_callee (f := 46) rfl ?_); refine goesL_ (some 10) rfl rfl Try.func46 (by kernel_rfl) rfl #[.agg #[.int .i64 d8, .slice i9 b9.length i5, .slice i1 e0.length i3]] rfl xmp ?_; (with_reducible refine (objects_check.calls k d8 _ _ b9 _ _ e0 Y5 ab9 _ ?side1 ?side2 ?side3 ?side4 A2.out).mono ?_); (case side1 => exact xcb C4 HB); (case side2 => exact J6.out); (case side3 => exact xcb G3 HB); (case side4 => exact N5.out); rintro e w21 ⟨rfl, hb⟩; refine ⟨_, rfl, ?_⟩; replace j3 := xbb j3 hb; replace o0 := xbb o0 hb; replace HB := xhl HB hb; skip; (try clear hb); (try clear H3); (try clear hk); (try clear hi)) | ((with_reducible refine gate_dst (N := 4) rfl ?_); refine box_event ?hg (N := 4) ?hd (cs := #[.int .i64 0, .int .i64 0]) (t := 28) ?hr ?_; (case hd => rfl); (case hg => rfl); (case hr => first | (go_simp; done) | (go_simp; rfl)); intro J7 hg w22 hbox hb; have u6 := aZ (hbox); have cp3 := xgh hg HB; have aJ1 := xgh hg HB; replace HB := xhl HB hb; have ak7 := xnl hg j3; have ak8 := xng hg j3; replace j3 := xbb j3 hb; have Y1 := xnl hg o0; have G4 := xng hg o0; replace o0 := xbb o0 hb; clear hb hbox hg; have bS4 := ak8.out; have bS5 := ak7.out; have bt2 := G4.out; have bt3 := Y1.out; have be5 : w22.cell? ⟨J7, 0, none⟩ = some (.int .i64 0) := (blk_cell u6.out 0).trans rfl; have be6 : w22.cell? ⟨J7, 1, none⟩ = some (.int .i64 0) := (blk_cell u6.out 1).trans rfl; have be7 := blk_frozen u6.out 0; have be8 := blk_frozen u6.out 1; have ao6 : w22.cell? ⟨N6, 0, none⟩ = some (.int .i64 d8) := (blk_cell j3.out 0).trans rfl; have ao7 : w22.cell? ⟨N6, 1, none⟩ = some (.slice i9 b9.length i5) := (blk_cell j3.out 1).trans rfl; have aL8 : w22.cell? ⟨N6, 2, none⟩ = some (.slice i1 e0.length i3) := (blk_cell j3.out 2).trans rfl; have ao8 := blk_frozen j3.out 0; have ao9 := blk_frozen j3.out 1; have aL9 := blk_frozen j3.out 2) | ((with_reducible refine gate_dst (N := 22) rfl ?_); refine Kd.R_lit (Kd.int .u8) _ 5 ?hg (N := 22) ?hd (xs := ([(d8) % 256, ((b9.length : Int)) % 256] : List Int)) (inner := [.int .u8 ((d8) % 256), .int .u8 (((b9.length : Int)) % 256)]) (ok := fun _ => True) (okp := fun _ => True) ?hr ?hp (fun _ hk => hk) trivial (Below.refl _ _) (Nat.le_refl _) (by simp) ?_; (case hd => rfl); (case hg => rfl); (case hr => first | (go_simp; done) | (go_simp; rfl)); (case hp => exact (Reps.one (show Kd.M (Kd.int .u8) _ _ _ ((d8) % 256) [.int .u8 ((d8) % 256)] from rfl) (Reps.one (show Kd.M (Kd.int .u8) _ _ _ (((b9.length : Int)) % 256) [.int .u8 (((b9.length : Int)) % 256)] from rfl) (Reps.none _ _)))); intro dY3 w27 bt8 hb hg_ hnew_; clear hg_ hnew_; (first | rw [← bS2.out] at bt8 | (simp only [Int.reduceToNat] at bt8; rw [← bS2.out] at bt8)); have cp6 := aZ (Kd.R_lower bt8 (lZ (by repeat (first | (with_reducible first | exact HB.out | apply lA | apply lN | apply lD | refine lS ?_ aI9.out | refine lS ?_ aJ0.out | refine lS ?_ aJ1.out) | exact HB.out)))); replace j3 := xbb j3 hb; replace o0 := xbb o0 hb; replace u6 := aZ (blk_below (g := J7) (o := .cells #[.int .i64 Y5, .int .i64 ab9] 28 (0, 0)) (by (with_reducible repeat (first | refine bN ?_ _ | refine bD ?_ | refine bA ?_ _)); refine blk_put (cs := #[.int .i64 Y5, .int .i64 0]) ?_ 1 _ rfl; (with_reducible repeat (first | refine bN ?_ _ | refine bD ?_ | refine bA ?_ _)); refine blk_put (cs := #[.int .i64 0, .int .i64 0]) ?_ 0 _ rfl; (with_reducible repeat (first | refine bN ?_ _ | refine bD ?_ | refine bA ?_ _)); exact u6.out) hb); replace HB := xhl HB hb; clear hb bt8; have bf5 : w27.cell? ⟨N6, 0, none⟩ = some (.int .i64 d8) := (blk_cell j3.out 0).trans rfl; have bf6 : w27.cell? ⟨N6, 1, none⟩ = some (.slice i9 b9.length i5) := (blk_cell j3.out 1).trans rfl; have bf7 : w27.cell? ⟨N6, 2, none⟩ = some (.slice i1 e0.length i3) := (blk_cell j3.out 2).trans rfl; have bf8 := blk_frozen j3.out 0; have bf9 := blk_frozen j3.out 1; have bg0 := blk_frozen j3.out 2))
  go_loopg [5, 26] k (fun kq v5 v26 w' => ∃ (d9 : List Int) (J8 : Int), v26 = .int .i64 J8 ∧ Aside0 (objects_Digest.l0 kq d9 b9 (b9.length : Int) J8 d8 b9 e0 = some (r1, r2, r3)) ∧ Aside0 (kq ≤ k) ∧ Aside0 (Kd.R (Kd.int .u8) 5 w' w.heap.size (fun _ => True) v5 d9) ∧ Aside0 (w'.heap[N6]? = some (.cells #[.int .i64 d8, (.slice i9 b9.length i5), (.slice i1 e0.length i3)] 44 (0, 0))) ∧ Aside0 (w'.heap[V3]? = some (.cells #[.int .i64 0, .int .i64 0] 28 (0, 0))) ∧ Aside0 (w'.heap[J7]? = some (.cells #[.int .i64 Y5, .int .i64 ab9] 28 (0, 0))) ∧ Aside0 (Below w.heap.size w w'))
  case atStart => exact ⟨(cp5), (0), xrs, H', ⟨Nat.le_refl _⟩, ⟨by (with_reducible repeat (first | apply Kd.rA | apply Kd.rN | apply Kd.rD)); exact cp6.out⟩, xk j3, xk o0, xk u6, xb HB⟩
  case round =>
   clear H'
   (try clear c3); (try clear ae4); (try clear ao4); (try clear aC1); (try clear aC2); (try clear be5); (try clear be6); (try clear ao6); (try clear ao7); (try clear aL8); (try clear bf5); (try clear bf6); (try clear bf7); (try clear ao5); (try clear aC3); (try clear aC4); (try clear be7); (try clear be8); (try clear ao8); (try clear ao9); (try clear aL9); (try clear bf8); (try clear bf9); (try clear bg0)
   obtain ⟨d9, J8, rfl, HA, S8, aw4, j3, o0, u6, HB⟩ := hrel
   cases gk with
   | zero => exact absurd HA.out (by simp [objects_Digest.l0])
   | succ k1 =>
    have H := HA.out
    clear HA
    simp only [objects_Digest.l0] at H
    by_cases c30 : J8 < (b9.length : Int)
    rotate_left
    · rw [if_neg c30] at H
      have bg2 : decide (J8 < (b9.length : Int)) = false := decide_eq_false c30
      clear c30
      by_cases c38 : d9.length + e0.length < 140737488355328
      rotate_left
      · rw [if_neg c38] at H
        exact absurd H (by simp)

      rw [if_pos c38] at H
      have cp7 := aZ c38
      clear c38
      obtain ⟨ca9, aS7⟩ : ∃ y_ : List Int, y_ = (d9 ++ e0) := ⟨_, rfl⟩
      replace H : ((digest_Of.f k1 ca9).bind fun aF3 => (some (aF3.1, aF3.2.1, aF3.2.2))) = some (r1, r2, r3) := by first | (rw [aS7]; with_reducible exact H) | (have P7 := (Option.bind_some _ _).symm.trans H; rw [aS7]; with_reducible exact P7) | (have P7 := (Option.bind_some _ _).symm.trans H; with_reducible exact P7) | with_reducible exact H | (rw [aS7]; exact H) | exact H
      have cp8 := aZ aS7
      clear aS7
      replace H := Option.bind_eq_some_iff.mp H
      obtain ⟨⟨cp9, bD0, cb0⟩, bt9, H⟩ := H
      replace H : (some (cp9, bD0, cb0)) = some (r1, r2, r3) := H
      have A39 := aZ bt9
      clear bt9
      simp only [Option.some.injEq, Prod.mk.injEq] at H
      obtain ⟨rfl, rfl, rfl⟩ := H
      have bR5 := X9.out
      have bR6 := Y0.out
      have bS6 := ak7.out
      have bS7 := ak8.out
      have bg3 : wr.cell? ⟨N6, 0, none⟩ = some (.int .i64 d8) := (blk_cell j3.out 0).trans rfl
      have bg4 : wr.cell? ⟨N6, 1, none⟩ = some (.slice i9 b9.length i5) := (blk_cell j3.out 1).trans rfl
      have bg5 : wr.cell? ⟨N6, 2, none⟩ = some (.slice i1 e0.length i3) := (blk_cell j3.out 2).trans rfl
      have bg6 := blk_frozen j3.out 0
      have bg7 := blk_frozen j3.out 1
      have bg8 := blk_frozen j3.out 2
      go_wp2_with (first | ((with_reducible refine gate_builtin (b := .append) (xs := #[.tmp 42, .tmp 44]) rfl ?_); at_builtin; refine Kd.R_append_rows (Kd.int .u8) (w0 := w) w.heap.size rfl (.tmp 42) (.tmp 44) 26 5 (.int .u8 0) 1 rfl Try.underlying26 aI5 rfl (by decide) (by omega) u5 d9 e0 _ _ _ (fun _ => True) (fun _ => False) rfl rfl ?aO ?aR (fun _ _ h => h) (fun _ h => h.elim) ?aF ?aB ?aS ?aL ?_; (case aR => exact xcb G3 HB); (case aB => exact (by repeat (first | (with_reducible first | exact HB.out | apply lA | apply lN | apply lD | refine lS ?_ aI9.out | refine lS ?_ aJ0.out | refine lS ?_ aJ1.out) | exact HB.out))); (case aF => exact (fun _ _ => trivial)); (case aO => exact (by (with_reducible repeat (first | apply Kd.rA | apply Kd.rN | apply Kd.rD)); exact aw4.out)); (case aS => exact (lZ (by repeat (first | (with_reducible first | exact HB.out | apply lA | apply lN | apply lD | refine lS ?_ aI9.out | refine lS ?_ aJ0.out | refine lS ?_ aJ1.out) | exact HB.out)))); (case aL => have := cp7.out; omega); intro dY5 w43 ho hb hg hat; rw [← cp8.out] at ho; replace j3 := aZ (blk_grown (g := N6) (o := .cells #[.int .i64 d8, .slice i9 b9.length i5, .slice i1 e0.length i3] 44 (0, 0)) (xkq j3) hg (Kd.R_ne aw4.out j3.out (by decide))); replace o0 := aZ (blk_grown (g := V3) (o := .cells #[.int .i64 0, .int .i64 0] 28 (0, 0)) (xkq o0) hg (Kd.R_ne aw4.out o0.out (by decide))); replace u6 := aZ (blk_grown (g := J7) (o := .cells #[.int .i64 Y5, .int .i64 ab9] 28 (0, 0)) (xkq u6) hg (Kd.R_ne aw4.out u6.out (by decide))); replace HB := aZ (hb); have aS8 := aZ (ho); clear aw4; clear ho hb hg hat; obtain ⟨dn8, dn9, do0⟩ := Kd.R_slice aS8.out; subst do0) | ((with_reducible refine gate_callee (f := 40) rfl ?_); refine goesL_ (some 46) rfl rfl Try.func40 (by kernel_rfl) rfl #[.slice dn8 ca9.length dn9] rfl xmp ?_; (with_reducible refine (digest_Of.calls k1 _ _ ca9 cp9 bD0 cb0 _ ?side1 ?side2 A39.out).mono ?_); (case side1 => repeat (first | exact (Kd.R_reads' aS8.out).2.2 | (with_reducible refine Kd.C_alloc ?_ _) | (with_reducible refine Kd.C_drewN ?_ _) | (with_reducible refine Kd.C_drew ?_))); (case side2 => exact (Kd.R_reads' aS8.out).2.1); rintro e w45 ⟨rfl, hb⟩; refine ⟨_, rfl, ?_⟩; replace aS8 := xR aS8 hb; replace j3 := xbb j3 hb; replace o0 := xbb o0 hb; replace u6 := xbb u6 hb; replace HB := xhl HB hb; (try clear hb); (try clear H3); (try clear hk); (try clear hi); have cq0 := Y1.out; have cq1 := G4.out; have aM0 : w45.cell? ⟨V3, 0, none⟩ = some (.int .i64 0) := (blk_cell o0.out 0).trans rfl; have bg9 : w45.cell? ⟨V3, 1, none⟩ = some (.int .i64 0) := (blk_cell o0.out 1).trans rfl; have aM1 := blk_frozen o0.out 0; have bh0 := blk_frozen o0.out 1))
      refine bodyPost_ret (results_tc rfl _ _ V3 28 #[.int .i64 bD0, .int .i64 cb0] (0, 0) _ rfl (by (with_reducible repeat (first | refine bN ?_ _ | refine bD ?_ | refine bA ?_ _)); refine blk_put (cs := #[.int .i64 bD0, .int .i64 0]) ?_ 1 _ rfl; (with_reducible repeat (first | refine bN ?_ _ | refine bD ?_ | refine bA ?_ _)); refine blk_put (cs := #[.int .i64 0, .int .i64 0]) ?_ 0 _ rfl; (with_reducible repeat (first | refine bN ?_ _ | refine bD ?_ | refine bA ?_ _)); exact o0.out) Try.underlying28 rfl (by kernel_rfl)) rfl ?_
      exact ⟨xre, xq HB⟩
    rw [if_pos c30] at H
    have bg2 : decide (J8 < (b9.length : Int)) = true := decide_eq_true c30
    clear c30
    by_cases c31 : 0 ≤ J8
    rotate_left
    · rw [if_neg c31] at H
      exact absurd H (by simp)
    rw [if_pos c31] at H
    have bP9 : decide (0 ≤ J8) = true := decide_eq_true c31
    clear c31
    by_cases c32 : J8 < (b9.length : Int)
    rotate_left
    · rw [if_neg c32] at H
      exact absurd H (by simp)
    rw [if_pos c32] at H
    have bS8 : decide (J8 < (b9.length : Int)) = true := decide_eq_true c32
    clear c32
    have H' := aZ H
    clear H
    have bD1 : 0 ≤ (J8 : Int) := of_decide_eq_true xas
    have bD2 : J8 < (b9.length : Int) := of_decide_eq_true xas
    obtain ⟨bS9, do2, aM2⟩ := Kd.at_int C4.out J8 bD1 bD2
    cases do2
    replace aM2 := xcl HB aM2
    replace bD1 := eq_true bD1
    replace bD2 := eq_true bD2
    go_wp2
    go_loopg [5, 8] k1 (fun kq v5 v8 w' => ∃ (aM3 : List Int) (am9 : Int), v8 = .int .i64 am9 ∧ Aside0 (objects_Digest.l1 kq aM3 (rd b9 J8) am9 b9 (b9.length : Int) J8 d8 b9 e0 = some (r1, r2, r3)) ∧ Aside0 (kq ≤ k1) ∧ Aside0 (Kd.R (Kd.int .u8) 5 w' w.heap.size (fun _ => True) v5 aM3) ∧ Aside0 (w'.heap[N6]? = some (.cells #[.int .i64 d8, (.slice (some bS9) b9.length i5), (.slice i1 e0.length i3)] 44 (0, 0))) ∧ Aside0 (w'.heap[V3]? = some (.cells #[.int .i64 0, .int .i64 0] 28 (0, 0))) ∧ Aside0 (w'.heap[J7]? = some (.cells #[.int .i64 Y5, .int .i64 ab9] 28 (0, 0))) ∧ Aside0 (Below w.heap.size w w'))
    case atStart => exact ⟨(d9), (56), xrs, H', ⟨Nat.le_refl _⟩, ⟨by (with_reducible repeat (first | apply Kd.rA | apply Kd.rN | apply Kd.rD)); exact aw4.out⟩, xk j3, xk o0, xk u6, xb HB⟩
    case round =>
     clear H'
     (try clear c30); (try clear bg2); (try clear c31); (try clear bP9); (try clear c32); (try clear bS8); (try clear aM2); (try clear bD1); (try clear bD2)
     obtain ⟨aM3, am9, rfl, HA, HK2, aw4, j3, o0, u6, HB⟩ := hrel
     cases gk with
     | zero => exact absurd HA.out (by simp [objects_Digest.l1])
     | succ k2 =>
      have H := HA.out
      clear HA
      simp only [objects_Digest.l1] at H
      by_cases c33 : am9 ≥ 0
      rotate_left
      · rw [if_neg c33] at H
        have bf1 : decide (0 ≤ am9) = false := decide_eq_false c33
        clear c33
        have H' := aZ H
        clear H
        go_wp2
        go_roundg k2
        case measure => have := S8.out; have := HK2.out; omega
        case rel => exact ⟨(aM3), (wrap64 (J8 + 1)), xrs, H', ⟨by have := S8.out; have := HK2.out; omega⟩, ⟨by (with_reducible repeat (first | apply Kd.rA | apply Kd.rN | apply Kd.rD)); exact aw4.out⟩, xk j3, xk o0, xk u6, xb HB⟩
      rw [if_pos c33] at H
      have bf1 : decide (0 ≤ am9) = true := decide_eq_true c33
      clear c33
      by_cases c34 : 0 ≤ am9
      rotate_left
      · rw [if_neg c34] at H
        exact absurd H (by simp)
      rw [if_pos c34] at H
      have bt4 := eq_true c34
      have dK7 : decide (0 ≤ am9) = true := decide_eq_true c34
      clear c34
      obtain ⟨bp4, bh1⟩ : ∃ j_ : Int, (shr .i64 (rd b9 J8) am9) = j_ := ⟨_, rfl⟩
      replace H : (if aM3.length < 140737488355328 then (objects_Digest.l1 k2 (aM3 ++ [(bp4) % 256]) (rd b9 J8) (wrap64 (am9 - 8)) b9 (b9.length : Int) J8 d8 b9 e0) else (none)) = some (r1, r2, r3) := by first | (rw [bh1] at H; exact H) | (simp only [bh1] at H ⊢; exact H)
      have do3 : ((rd b9 J8) / 2 ^ min am9.toNat 64) = bp4 := bh1
      have do4 : am9 ≤ 64 → ((rd b9 J8) / 2 ^ am9.toNat) = bp4 := shr_small bh1
      by_cases c36 : aM3.length < 140737488355328
      rotate_left
      · rw [if_neg c36] at H
        exact absurd H (by simp)
      rw [if_pos c36] at H
      have cq2 := aZ c36
      clear c36
      obtain ⟨cq3, aS9⟩ : ∃ y_ : List Int, y_ = (aM3 ++ [(bp4) % 256]) := ⟨_, rfl⟩
      replace H : (objects_Digest.l1 k2 cq3 (rd b9 J8) (wrap64 (am9 - 8)) b9 (b9.length : Int) J8 d8 b9 e0) = some (r1, r2, r3) := by first | (rw [aS9]; with_reducible exact H) | (have P7 := (Option.bind_some _ _).symm.trans H; rw [aS9]; with_reducible exact P7) | (have P7 := (Option.bind_some _ _).symm.trans H; with_reducible exact P7) | with_reducible exact H | (rw [aS9]; exact H) | exact H
      have cq4 := aZ aS9
      clear aS9
      have H' := aZ H
      clear H
      go_wp2_with (first | ((with_reducible refine gate_builtin (b := .append) (xs := #[.tmp 34, .tmp 39]) rfl ?_); at_builtin; refine Kd.R_append (Kd.int .u8) (w0 := w) w.heap.size rfl (.tmp 34) (.tmp 39) 26 5 (.int .u8 0) 1 rfl Try.underlying26 aI5 rfl (by decide) (by omega) u5 aM3 ((bp4) % 256) [.int .u8 ((bp4) % 256)] (fun _ => True) (fun _ => False) rfl rfl ?aP (fun _ hk => hk.elim) ?aF ?aO ?aB ?aS ?aL ?_; (case aP => exact rfl); (case aB => exact (by repeat (first | (with_reducible first | exact HB.out | apply lA | apply lN | apply lD | refine lS ?_ aI9.out | refine lS ?_ aJ0.out | refine lS ?_ aJ1.out) | exact HB.out))); (case aF => exact (fun _ _ => trivial)); (case aO => exact (by (with_reducible repeat (first | apply Kd.rA | apply Kd.rN | apply Kd.rD)); exact aw4.out)); (case aS => exact (lZ (by repeat (first | (with_reducible first | exact HB.out | apply lA | apply lN | apply lD | refine lS ?_ aI9.out | refine lS ?_ aJ0.out | refine lS ?_ aJ1.out) | exact HB.out)))); (case aL => have := cq2.out; omega); intro dY7 w37 ho hb hg hat; rw [← cq4.out] at ho; replace j3 := aZ (blk_grown (g := N6) (o := .cells #[.int .i64 d8, .slice (some bS9) b9.length i5, .slice i1 e0.length i3] 44 (0, 0)) (xkq j3) hg (Kd.R_ne aw4.out j3.out (by decide))); replace o0 := aZ (blk_grown (g := V3) (o := .cells #[.int .i64 0, .int .i64 0] 28 (0, 0)) (xkq o0) hg (Kd.R_ne aw4.out o0.out (by decide))); replace u6 := aZ (blk_grown (g := J7) (o := .cells #[.int .i64 Y5, .int .i64 ab9] 28 (0, 0)) (xkq u6) hg (Kd.R_ne aw4.out u6.out (by decide))); replace HB := aZ (hb); have cq5 := aZ (ho); clear aw4; clear ho hb hg hat))
      go_roundg k2
      case measure => have := S8.out; have := HK2.out; omega
      case rel => exact ⟨(cq3), (wrap64 (am9 - 8)), xrs, H', ⟨by have := S8.out; have := HK2.out; omega⟩, ⟨by (with_reducible repeat (first | apply Kd.rA | apply Kd.rN | apply Kd.rD)); exact cq5.out⟩, xk j3, xk o0, xk u6, xb HB⟩
end
section
attribute [local go_sem high] aR2
def objects_Validate.l0 : Nat → List (r9) → Int → Int → List (r9) → Option (Int × Int)
  | 0, _, _, _, _ => none
  | k + 1, x13, x14, x15, aD7 => if x15 < x14 then (if 0 ≤ x15 then (if x15 < (x13.length : Int) then ((objects_Digest.f k ((a7 x13 x15).f1.f0) ((a7 x13 x15).f1.f1) ((a7 x13 x15).f1.f2)).bind fun aU2 => (if (!(aU2.2.1 == 0) || (!(aU2.2.2 == 0))) = true then (some (aU2.2.1, x15)) else (if aU2.1 = ((a7 x13 x15).f0) then (if x15 > 0 then (if 0 ≤ (wrap64 (x15 - 1)) then (if (wrap64 (x15 - 1)) < (aD7.length : Int) then (if ((a7 aD7 (wrap64 (x15 - 1))).f0) ≥ aU2.1 then (some (5, x15)) else (objects_Validate.l0 k x13 x14 (wrap64 (x15 + 1)) aD7)) else (none)) else (none)) else (objects_Validate.l0 k x13 x14 (wrap64 (x15 + 1)) aD7)) else (some (18, x15))))) else (none)) else (none)) else (some (0, 0))
def objects_Validate.f (k : Nat) (b1 : List (r9)) : Option (Int × Int) := if (b1.length : Int) > 40 then (some (2, 0)) else (objects_Validate.l0 k b1 (b1.length : Int) 0 b1)
theorem objects_Validate.mono_l : ∀ k, (∀ y0 y1 y2 y3, LeO (objects_Validate.l0 k y0 y1 y2 y3) (objects_Validate.l0 (k + 1) y0 y1 y2 y3))
  | 0 => fun _ _ _ _ r h => by simp [objects_Validate.l0] at h
  | k + 1 => by
    have t6 := objects_Validate.mono_l k
    · intro y0 y1 y2 y3
      unfold objects_Validate.l0
      repeat' first | (with_reducible first | exact t6 _ _ _ _ | exact objects_Digest.mono _ _ _ _ | exact LeO.refl _ | exact LeO.none _ | refine LeO.ite ?_ ?_ | refine LeO.bind ?_ (fun _ => ?_)) | exact t6 _ _ _ _ | exact objects_Digest.mono _ _ _ _ | exact LeO.none _ | refine LeO.ite ?_ ?_ | refine LeO.bind ?_ (fun _ => ?_)
theorem objects_Validate.mono : ∀ a0 k, LeO (objects_Validate.f k a0) (objects_Validate.f (k + 1) a0) := by
  intro a0 k
  have t6 := objects_Validate.mono_l k
  unfold objects_Validate.f
  repeat' first | (with_reducible first | exact t6 _ _ _ _ | exact objects_Digest.mono _ _ _ _ | exact LeO.refl _ | exact LeO.none _ | refine LeO.ite ?_ ?_ | refine LeO.bind ?_ (fun _ => ?_)) | exact t6 _ _ _ _ | exact objects_Digest.mono _ _ _ _ | exact LeO.none _ | refine LeO.ite ?_ ?_ | refine LeO.bind ?_ (fun _ => ?_)
set_option maxHeartbeats 8000000 in
set_option maxRecDepth 100000 in
theorem objects_Validate.calls (k : Nat) (k9 : Option Addr) (j9 : Nat) (b1 : List (r9)) (r1 : Int) (r2 : Int) (w : World) (J9 : Kd.C k46 w k9 b1.length b1) (K0 : b1.length ≤ j9) (h : objects_Validate.f k b1 = some (r1, r2)) :
  Calls Try.prog 32 #[.agg #[.slice k9 b1.length j9]] w fun e w' => e = .returned (.agg #[.int .i64 r1, .int .i64 r2]) ∧ Below w.heap.size w w' := by
  have aU3 := Try.underlying24
  have aH5 := Try.underlying28
  have bE9 := Try.underlying46
  have aw1 := Try.underlying44
  have m8 := aZ J9
  have V4 := aZ K0
  clear J9 K0
  have HB := aZ (Below.refl w.heap.size w)
  have H : (if (b1.length : Int) > 40 then (some (2, 0)) else (objects_Validate.l0 k b1 (b1.length : Int) 0 b1)) = some (r1, r2) := h
  clear h
  by_cases c2 : (b1.length : Int) > 40
  · rw [if_pos c2] at H
    have an7 : decide (40 < (b1.length : Int)) = true := decide_eq_true c2
    have aH7 : decide (40 < b1.length) = true := decide_eq_true (by omega)
    clear c2
    simp only [Option.some.injEq, Prod.mk.injEq] at H
    obtain ⟨rfl, rfl⟩ := H
    go_enter Try.func32, Try.ntmps32
    go_wp2_with (first | ((with_reducible refine gate_dst (N := 1) rfl ?_); refine box_event ?hg (N := 1) ?hd (cs := #[.slice k9 b1.length j9]) (t := 24) ?hr ?_; (case hd => rfl); (case hg => rfl); (case hr => first | (go_simp; done) | (go_simp; rfl)); intro aJ6 hg w3 hbox hb; have j6 := aZ (hbox); have ct5 := xgh hg HB; have aj3 := xgh hg HB; replace HB := xhl HB hb; clear hb hbox hg) | ((with_reducible refine gate_dst (N := 2) rfl ?_); refine box_event ?hg (N := 2) ?hd (cs := #[.int .i64 0, .int .i64 0]) (t := 28) ?hr ?_; (case hd => rfl); (case hg => rfl); (case hr => first | (go_simp; done) | (go_simp; rfl)); intro V0 hg w4 hbox hb; have i4 := aZ (hbox); have ct6 := xgh hg HB; have aj4 := xgh hg HB; replace HB := xhl HB hb; have O7 := xnl hg j6; have O8 := xng hg j6; replace j6 := xbb j6 hb; clear hb hbox hg; have dp8 := O7.out; have dp9 := O8.out; have dq0 : w4.cell? ⟨aJ6, 0, none⟩ = some (.slice k9 b1.length j9) := (blk_cell j6.out 0).trans rfl; have dq1 := blk_frozen j6.out 0; have am7 : w4.cell? ⟨V0, 0, none⟩ = some (.int .i64 0) := (blk_cell i4.out 0).trans rfl; have ca7 : w4.cell? ⟨V0, 1, none⟩ = some (.int .i64 0) := (blk_cell i4.out 1).trans rfl; have am8 := blk_frozen i4.out 0; have ca8 := blk_frozen i4.out 1))
    refine bodyPost_ret (results_cell_row rfl _ _ V0 28 #[.int .i64 2, .int .i64 0] (0, 0) _ rfl (by (with_reducible repeat (first | refine bN ?_ _ | refine bD ?_ | refine bA ?_ _)); refine blk_put (cs := #[.int .i64 2, .int .i64 0]) ?_ 1 _ rfl; (with_reducible repeat (first | refine bN ?_ _ | refine bD ?_ | refine bA ?_ _)); refine blk_put (cs := #[.int .i64 0, .int .i64 0]) ?_ 0 _ rfl; (with_reducible repeat (first | refine bN ?_ _ | refine bD ?_ | refine bA ?_ _)); exact i4.out) Try.underlying28 rfl (by kernel_rfl)) rfl ?_
    exact ⟨xre, xq HB⟩
  rw [if_neg c2] at H
  have an7 : decide (40 < (b1.length : Int)) = false := decide_eq_false c2
  have aH7 : decide (40 < b1.length) = false := decide_eq_false (by omega)
  clear c2
  have H' := aZ H
  clear H
  go_enter Try.func32, Try.ntmps32
  go_wp2_with (first | ((with_reducible refine gate_dst (N := 1) rfl ?_); refine box_event ?hg (N := 1) ?hd (cs := #[.slice k9 b1.length j9]) (t := 24) ?hr ?_; (case hd => rfl); (case hg => rfl); (case hr => first | (go_simp; done) | (go_simp; rfl)); intro aJ6 hg w8 hbox hb; have j6 := aZ (hbox); have ct5 := xgh hg HB; have aj3 := xgh hg HB; replace HB := xhl HB hb; clear hb hbox hg) | ((with_reducible refine gate_dst (N := 2) rfl ?_); refine box_event ?hg (N := 2) ?hd (cs := #[.int .i64 0, .int .i64 0]) (t := 28) ?hr ?_; (case hd => rfl); (case hg => rfl); (case hr => first | (go_simp; done) | (go_simp; rfl)); intro V0 hg w9 hbox hb; have i4 := aZ (hbox); have ct6 := xgh hg HB; have aj4 := xgh hg HB; replace HB := xhl HB hb; have O7 := xnl hg j6; have O8 := xng hg j6; replace j6 := xbb j6 hb; clear hb hbox hg; have bR8 := O7.out; have bR9 := O8.out; have aN3 : w9.cell? ⟨aJ6, 0, none⟩ = some (.slice k9 b1.length j9) := (blk_cell j6.out 0).trans rfl; have aN4 := blk_frozen j6.out 0))
  go_loopg [15] k (fun kq v15 w' => ∃ (b8 : Int) (C9 : Int) (q7 : Int), v15 = .int .i64 b8 ∧ Aside0 (objects_Validate.l0 kq b1 (b1.length : Int) b8 b1 = some (r1, r2)) ∧ Aside0 (kq ≤ k) ∧ Aside0 (w'.heap[aJ6]? = some (.cells #[(.slice k9 b1.length j9)] 24 (0, 0))) ∧ Aside0 (w'.heap[V0]? = some (.cells #[.int .i64 C9, .int .i64 q7] 28 (0, 0))) ∧ Aside0 (Below w.heap.size w w'))
  case atStart => exact ⟨(0), (0), (0), xrs, H', ⟨Nat.le_refl _⟩, xk j6, xk i4, xb HB⟩
  case round =>
   clear H'
   (try clear c2); (try clear an7); (try clear aH7); (try clear aN3); (try clear aN4)
   obtain ⟨b8, C9, q7, rfl, HA, S8, j6, i4, HB⟩ := hrel
   cases gk with
   | zero => exact absurd HA.out (by simp [objects_Validate.l0])
   | succ k1 =>
    have H := HA.out
    clear HA
    simp only [objects_Validate.l0] at H
    by_cases c12 : b8 < (b1.length : Int)
    rotate_left
    · rw [if_neg c12] at H
      have aU4 : decide (b8 < (b1.length : Int)) = false := decide_eq_false c12
      clear c12
      simp only [Option.some.injEq, Prod.mk.injEq] at H
      obtain ⟨rfl, rfl⟩ := H
      have dL9 := O8.out
      have dM0 := O7.out
      have bi4 : wr.cell? ⟨V0, 0, none⟩ = some (.int .i64 C9) := (blk_cell i4.out 0).trans rfl
      have cO9 : wr.cell? ⟨V0, 1, none⟩ = some (.int .i64 q7) := (blk_cell i4.out 1).trans rfl
      have bi5 := blk_frozen i4.out 0
      have cP0 := blk_frozen i4.out 1
      go_wp2
      refine bodyPost_ret (results_cell_row rfl _ _ V0 28 #[.int .i64 0, .int .i64 0] (0, 0) _ rfl (by (with_reducible repeat (first | refine bN ?_ _ | refine bD ?_ | refine bA ?_ _)); refine blk_put (cs := #[.int .i64 0, .int .i64 q7]) ?_ 1 _ rfl; (with_reducible repeat (first | refine bN ?_ _ | refine bD ?_ | refine bA ?_ _)); refine blk_put (cs := #[.int .i64 C9, .int .i64 q7]) ?_ 0 _ rfl; (with_reducible repeat (first | refine bN ?_ _ | refine bD ?_ | refine bA ?_ _)); exact i4.out) Try.underlying28 rfl (by kernel_rfl)) rfl ?_
      exact ⟨xre, xq HB⟩

    rw [if_pos c12] at H
    have aU4 : decide (b8 < (b1.length : Int)) = true := decide_eq_true c12
    clear c12
    by_cases c13 : 0 ≤ b8
    rotate_left
    · rw [if_neg c13] at H
      exact absurd H (by simp)
    rw [if_pos c13] at H
    have bh2 : decide (0 ≤ b8) = true := decide_eq_true c13
    clear c13
    by_cases c14 : b8 < (b1.length : Int)
    rotate_left
    · rw [if_neg c14] at H
      exact absurd H (by simp)
    rw [if_pos c14] at H
    have aE9 : decide (b8 < (b1.length : Int)) = true := decide_eq_true c14
    clear c14
    replace H := Option.bind_eq_some_iff.mp H
    obtain ⟨⟨am0, ac0, aj5⟩, bv6, H⟩ := H
    replace H : (if (!(ac0 == 0) || (!(aj5 == 0))) = true then (some (ac0, b8)) else (if am0 = ((a7 b1 b8).f0) then (if b8 > 0 then (if 0 ≤ (wrap64 (b8 - 1)) then (if (wrap64 (b8 - 1)) < (b1.length : Int) then (if ((a7 b1 (wrap64 (b8 - 1))).f0) ≥ am0 then (some (5, b8)) else (objects_Validate.l0 k1 b1 (b1.length : Int) (wrap64 (b8 + 1)) b1)) else (none)) else (none)) else (objects_Validate.l0 k1 b1 (b1.length : Int) (wrap64 (b8 + 1)) b1)) else (some (18, b8)))) = some (r1, r2) := H
    have A15 := aZ bv6
    clear bv6
    by_cases c16 : (!(ac0 == 0) || (!(aj5 == 0))) = true
    · rw [if_pos c16] at H
      have bd5 : (!(ac0 == 0) || (!(aj5 == 0))) = true := c16
      clear c16
      simp only [Option.some.injEq, Prod.mk.injEq] at H
      obtain ⟨rfl, rfl⟩ := H
      have ae5 : 0 ≤ (b8 : Int) := of_decide_eq_true xas
      have ae6 : b8 < (b1.length : Int) := of_decide_eq_true xas
      obtain ⟨ah8, m6, m7, o2, o3, aN5, H4, H5, H6, H7, H8, H9, I0, I1⟩ := l8 m8.out b8 ae5 ae6
      cases aN5
      replace H4 := xcl HB H4
      replace H5 := xcl HB H5
      replace H6 := xcl HB H6
      replace H7 := xcl HB H7
      have V6 := aZ H9
      have V7 := aZ H8
      clear H9 H8
      have V8 := aZ I1
      have V9 := aZ I0
      clear I1 I0
      replace ae5 := eq_true ae5
      replace ae6 := eq_true ae6
      go_wp2_with (first | ((with_reducible refine gate_dst (N := 4) rfl ?_); refine box_event ?hg (N := 4) ?hd (cs := #[.int .i64 0, .int .i64 0, .slice none 0 0, .slice none 0 0]) (t := 46) ?hr ?_; (case hd => rfl); (case hg => rfl); (case hr => first | (go_simp; done) | (go_simp; rfl)); intro j8 hg w17 hbox hb; have g6 := aZ (hbox); have bi6 := xgh hg HB; have aa2 := xgh hg HB; replace HB := xhl HB hb; have L0 := xnl hg j6; have L1 := xng hg j6; replace j6 := xbb j6 hb; have L2 := xnl hg i4; have L3 := xng hg i4; replace i4 := xbb i4 hb; clear hb hbox hg; have bU2 := L1.out; have bU3 := L0.out; have aS3 := L3.out; have aS4 := L2.out; have ao4 : w17.cell? ⟨j8, 0, none⟩ = some (.int .i64 0) := (blk_cell g6.out 0).trans rfl; have aC1 : w17.cell? ⟨j8, 1, none⟩ = some (.int .i64 0) := (blk_cell g6.out 1).trans rfl; have aC2 : w17.cell? ⟨j8, 2, none⟩ = some (.slice none 0 0) := (blk_cell g6.out 2).trans rfl; have cP1 : w17.cell? ⟨j8, 3, none⟩ = some (.slice none 0 0) := (blk_cell g6.out 3).trans rfl; have ao5 := blk_frozen g6.out 0; have aC3 := blk_frozen g6.out 1; have aC4 := blk_frozen g6.out 2; have cP2 := blk_frozen g6.out 3) | ((with_reducible refine gate_callee (f := 29) rfl ?_); refine goesL_ (some 23) rfl rfl Try.func29 (by kernel_rfl) rfl #[.agg #[.int .i64 ((a7 b1 b8).f1.f0), .slice m6 ((a7 b1 b8).f1.f1).length m7, .slice o2 ((a7 b1 b8).f1.f2).length o3]] rfl xmp ?_; (with_reducible refine (objects_Digest.calls k1 ((a7 b1 b8).f1.f0) _ _ ((a7 b1 b8).f1.f1) _ _ ((a7 b1 b8).f1.f2) am0 ac0 aj5 _ ?side1 ?side2 ?side3 ?side4 A15.out).mono ?_); (case side1 => exact Kd.C_below V6.out (by repeat (first | (with_reducible first | exact HB.out | apply lA | apply lN | apply lD | refine lS ?_ aj3.out | refine lS ?_ aj4.out | refine lS ?_ aa2.out) | exact HB.out))); (case side2 => exact V7.out); (case side3 => exact Kd.C_below V8.out (by repeat (first | (with_reducible first | exact HB.out | apply lA | apply lN | apply lD | refine lS ?_ aj3.out | refine lS ?_ aj4.out | refine lS ?_ aa2.out) | exact HB.out))); (case side4 => exact V9.out); rintro e w21 ⟨rfl, hb⟩; refine ⟨_, rfl, ?_⟩; replace j6 := xbb j6 hb; replace i4 := xbb i4 hb; replace g6 := aZ (blk_below (g := j8) (o := .cells #[.int .i64 ((a7 b1 b8).f0), .int .i64 ((a7 b1 b8).f1.f0), .slice m6 ((a7 b1 b8).f1.f1).length m7, .slice o2 ((a7 b1 b8).f1.f2).length o3] 46 (0, 0)) (by (with_reducible repeat (first | refine bN ?_ _ | refine bD ?_ | refine bA ?_ _)); refine blk_put (cs := #[.int .i64 ((a7 b1 b8).f0), .int .i64 ((a7 b1 b8).f1.f0), .slice m6 ((a7 b1 b8).f1.f1).length m7, .slice none 0 0]) ?_ 3 _ rfl; (with_reducible repeat (first | refine bN ?_ _ | refine bD ?_ | refine bA ?_ _)); refine blk_put (cs := #[.int .i64 ((a7 b1 b8).f0), .int .i64 ((a7 b1 b8).f1.f0), .slice none 0 0, .slice none 0 0]) ?_ 2 _ rfl; (with_reducible repeat (first | refine bN ?_ _ | refine bD ?_ | refine bA ?_ _)); refine blk_put (cs := #[.int .i64 ((a7 b1 b8).f0), .int .i64 0, .slice none 0 0, .slice none 0 0]) ?_ 1 _ rfl; (with_reducible repeat (first | refine bN ?_ _ | refine bD ?_ | refine bA ?_ _)); refine blk_put (cs := #[.int .i64 0, .int .i64 0, .slice none 0 0, .slice none 0 0]) ?_ 0 _ rfl; (with_reducible repeat (first | refine bN ?_ _ | refine bD ?_ | refine bA ?_ _)); exact g6.out) hb); replace HB := xhl HB hb; (try clear hb); (try clear H3); (try clear hk); (try clear hi)) | ((with_reducible refine gate_dst (N := 6) rfl ?_); refine box_event ?hg (N := 6) ?hd (cs := #[.int .i64 0, .int .i64 0]) (t := 28) ?hr ?_; (case hd => rfl); (case hg => rfl); (case hr => first | (go_simp; done) | (go_simp; rfl)); intro o5 hg w22 hbox hb; have I2 := aZ (hbox); have az8 := xgh hg HB; have bi7 := xgh hg HB; replace HB := xhl HB hb; have L4 := xnl hg j6; have L5 := xng hg j6; replace j6 := xbb j6 hb; have r6 := xnl hg i4; have L6 := xng hg i4; replace i4 := xbb i4 hb; have L8 := aZ ((by rw [hg]; exact Nat.ne_of_lt (blk_lt (g := j8) (o := .cells #[.int .i64 ((a7 b1 b8).f0), .int .i64 ((a7 b1 b8).f1.f0), .slice m6 ((a7 b1 b8).f1.f1).length m7, .slice o2 ((a7 b1 b8).f1.f2).length o3] 46 (0, 0)) (xkq g6)) : j8 ≠ o5)); have L9 := aZ ((by rw [hg]; exact Nat.ne_of_gt (blk_lt (g := j8) (o := .cells #[.int .i64 ((a7 b1 b8).f0), .int .i64 ((a7 b1 b8).f1.f0), .slice m6 ((a7 b1 b8).f1.f1).length m7, .slice o2 ((a7 b1 b8).f1.f2).length o3] 46 (0, 0)) (xkq g6)) : o5 ≠ j8)); replace g6 := aZ (blk_below (g := j8) (o := .cells #[.int .i64 ((a7 b1 b8).f0), .int .i64 ((a7 b1 b8).f1.f0), .slice m6 ((a7 b1 b8).f1.f1).length m7, .slice o2 ((a7 b1 b8).f1.f2).length o3] 46 (0, 0)) (xkq g6) hb); clear hb hbox hg; have bS4 := L5.out; have bS5 := L4.out; have bt2 := L6.out; have bt3 := r6.out; have bu8 := L9.out; have bu9 := L8.out; have ao6 : w22.cell? ⟨o5, 0, none⟩ = some (.int .i64 0) := (blk_cell I2.out 0).trans rfl; have ao7 : w22.cell? ⟨o5, 1, none⟩ = some (.int .i64 0) := (blk_cell I2.out 1).trans rfl; have ao8 := blk_frozen I2.out 0; have ao9 := blk_frozen I2.out 1; have co5 := O8.out; have co6 := O7.out; have be3 : w22.cell? ⟨V0, 0, none⟩ = some (.int .i64 C9) := (blk_cell i4.out 0).trans rfl; have bB6 : w22.cell? ⟨V0, 1, none⟩ = some (.int .i64 q7) := (blk_cell i4.out 1).trans rfl; have be4 := blk_frozen i4.out 0; have bB7 := blk_frozen i4.out 1))
      refine bodyPost_ret (results_cell_row rfl _ _ V0 28 #[.int .i64 ac0, .int .i64 b8] (0, 0) _ rfl (by (with_reducible repeat (first | refine bN ?_ _ | refine bD ?_ | refine bA ?_ _)); refine blk_put (cs := #[.int .i64 ac0, .int .i64 q7]) ?_ 1 _ rfl; (with_reducible repeat (first | refine bN ?_ _ | refine bD ?_ | refine bA ?_ _)); refine blk_put (cs := #[.int .i64 C9, .int .i64 q7]) ?_ 0 _ rfl; (with_reducible repeat (first | refine bN ?_ _ | refine bD ?_ | refine bA ?_ _)); refine blk_far ?_ r6.out _; (with_reducible repeat (first | refine bN ?_ _ | refine bD ?_ | refine bA ?_ _)); refine blk_far ?_ r6.out _; (with_reducible repeat (first | refine bN ?_ _ | refine bD ?_ | refine bA ?_ _)); exact i4.out) Try.underlying28 rfl (by kernel_rfl)) rfl ?_
      exact ⟨xre, xq HB⟩
    rw [if_neg c16] at H
    have bd5 : (!(ac0 == 0) || (!(aj5 == 0))) = false := by simpa using c16
    clear c16
    by_cases c29 : am0 = ((a7 b1 b8).f0)
    rotate_left
    · rw [if_neg c29] at H
      have bQ0 : (am0 == ((a7 b1 b8).f0)) = false := beq_eq_false_iff_ne.mpr c29
      have bQ1 : (am0 != ((a7 b1 b8).f0)) = true := bne_iff_ne.mpr c29
      simp only [Option.some.injEq, Prod.mk.injEq] at H
      obtain ⟨rfl, rfl⟩ := H
      have ae5 : 0 ≤ (b8 : Int) := of_decide_eq_true xas
      have ae6 : b8 < (b1.length : Int) := of_decide_eq_true xas
      obtain ⟨ah8, m6, m7, o2, o3, aN5, H4, H5, H6, H7, H8, H9, I0, I1⟩ := l8 m8.out b8 ae5 ae6
      cases aN5
      replace H4 := xcl HB H4
      replace H5 := xcl HB H5
      replace H6 := xcl HB H6
      replace H7 := xcl HB H7
      have V6 := aZ H9
      have V7 := aZ H8
      clear H9 H8
      have V8 := aZ I1
      have V9 := aZ I0
      clear I1 I0
      replace ae5 := eq_true ae5
      replace ae6 := eq_true ae6
      go_wp2_with (first | ((with_reducible refine gate_dst (N := 4) rfl ?_); refine box_event ?hg (N := 4) ?hd (cs := #[.int .i64 0, .int .i64 0, .slice none 0 0, .slice none 0 0]) (t := 46) ?hr ?_; (case hd => rfl); (case hg => rfl); (case hr => first | (go_simp; done) | (go_simp; rfl)); intro j8 hg w73 hbox hb; have g6 := aZ (hbox); have bi6 := xgh hg HB; have aa2 := xgh hg HB; replace HB := xhl HB hb; have L0 := xnl hg j6; have L1 := xng hg j6; replace j6 := xbb j6 hb; have L2 := xnl hg i4; have L3 := xng hg i4; replace i4 := xbb i4 hb; clear hb hbox hg; have ct7 := L1.out; have ct8 := L0.out; have ct9 := L3.out; have cu0 := L2.out; have bF0 : w73.cell? ⟨j8, 0, none⟩ = some (.int .i64 0) := (blk_cell g6.out 0).trans rfl; have cP4 : w73.cell? ⟨j8, 1, none⟩ = some (.int .i64 0) := (blk_cell g6.out 1).trans rfl; have cP5 : w73.cell? ⟨j8, 2, none⟩ = some (.slice none 0 0) := (blk_cell g6.out 2).trans rfl; have cP6 : w73.cell? ⟨j8, 3, none⟩ = some (.slice none 0 0) := (blk_cell g6.out 3).trans rfl; have bF1 := blk_frozen g6.out 0; have cP7 := blk_frozen g6.out 1; have cP8 := blk_frozen g6.out 2; have cP9 := blk_frozen g6.out 3) | ((with_reducible refine gate_callee (f := 29) rfl ?_); refine goesL_ (some 23) rfl rfl Try.func29 (by kernel_rfl) rfl #[.agg #[.int .i64 ((a7 b1 b8).f1.f0), .slice m6 ((a7 b1 b8).f1.f1).length m7, .slice o2 ((a7 b1 b8).f1.f2).length o3]] rfl xmp ?_; (with_reducible refine (objects_Digest.calls k1 ((a7 b1 b8).f1.f0) _ _ ((a7 b1 b8).f1.f1) _ _ ((a7 b1 b8).f1.f2) am0 ac0 aj5 _ ?side1 ?side2 ?side3 ?side4 A15.out).mono ?_); (case side1 => exact Kd.C_below V6.out (by repeat (first | (with_reducible first | exact HB.out | apply lA | apply lN | apply lD | refine lS ?_ aj3.out | refine lS ?_ aj4.out | refine lS ?_ aa2.out) | exact HB.out))); (case side2 => exact V7.out); (case side3 => exact Kd.C_below V8.out (by repeat (first | (with_reducible first | exact HB.out | apply lA | apply lN | apply lD | refine lS ?_ aj3.out | refine lS ?_ aj4.out | refine lS ?_ aa2.out) | exact HB.out))); (case side4 => exact V9.out); rintro e w77 ⟨rfl, hb⟩; refine ⟨_, rfl, ?_⟩; replace j6 := xbb j6 hb; replace i4 := xbb i4 hb; replace g6 := aZ (blk_below (g := j8) (o := .cells #[.int .i64 ((a7 b1 b8).f0), .int .i64 ((a7 b1 b8).f1.f0), .slice m6 ((a7 b1 b8).f1.f1).length m7, .slice o2 ((a7 b1 b8).f1.f2).length o3] 46 (0, 0)) (by (with_reducible repeat (first | refine bN ?_ _ | refine bD ?_ | refine bA ?_ _)); refine blk_put (cs := #[.int .i64 ((a7 b1 b8).f0), .int .i64 ((a7 b1 b8).f1.f0), .slice m6 ((a7 b1 b8).f1.f1).length m7, .slice none 0 0]) ?_ 3 _ rfl; (with_reducible repeat (first | refine bN ?_ _ | refine bD ?_ | refine bA ?_ _)); refine blk_put (cs := #[.int .i64 ((a7 b1 b8).f0), .int .i64 ((a7 b1 b8).f1.f0), .slice none 0 0, .slice none 0 0]) ?_ 2 _ rfl; (with_reducible repeat (first | refine bN ?_ _ | refine bD ?_ | refine bA ?_ _)); refine blk_put (cs := #[.int .i64 ((a7 b1 b8).f0), .int .i64 0, .slice none 0 0, .slice none 0 0]) ?_ 1 _ rfl; (with_reducible repeat (first | refine bN ?_ _ | refine bD ?_ | refine bA ?_ _)); refine blk_put (cs := #[.int .i64 0, .int .i64 0, .slice none 0 0, .slice none 0 0]) ?_ 0 _ rfl; (with_reducible repeat (first | refine bN ?_ _ | refine bD ?_ | refine bA ?_ _)); exact g6.out) hb); replace HB := xhl HB hb; (try clear hb); (try clear H3); (try clear hk); (try clear hi)) | ((with_reducible refine gate_dst (N := 6) rfl ?_); refine box_event ?hg (N := 6) ?hd (cs := #[.int .i64 0, .int .i64 0]) (t := 28) ?hr ?_; (case hd => rfl); (case hg => rfl); (case hr => first | (go_simp; done) | (go_simp; rfl)); intro o5 hg w78 hbox hb; have I2 := aZ (hbox); have az8 := xgh hg HB; have bi7 := xgh hg HB; replace HB := xhl HB hb; have L4 := xnl hg j6; have L5 := xng hg j6; replace j6 := xbb j6 hb; have r6 := xnl hg i4; have L6 := xng hg i4; replace i4 := xbb i4 hb; have L8 := aZ ((by rw [hg]; exact Nat.ne_of_lt (blk_lt (g := j8) (o := .cells #[.int .i64 ((a7 b1 b8).f0), .int .i64 ((a7 b1 b8).f1.f0), .slice m6 ((a7 b1 b8).f1.f1).length m7, .slice o2 ((a7 b1 b8).f1.f2).length o3] 46 (0, 0)) (xkq g6)) : j8 ≠ o5)); have L9 := aZ ((by rw [hg]; exact Nat.ne_of_gt (blk_lt (g := j8) (o := .cells #[.int .i64 ((a7 b1 b8).f0), .int .i64 ((a7 b1 b8).f1.f0), .slice m6 ((a7 b1 b8).f1.f1).length m7, .slice o2 ((a7 b1 b8).f1.f2).length o3] 46 (0, 0)) (xkq g6)) : o5 ≠ j8)); replace g6 := aZ (blk_below (g := j8) (o := .cells #[.int .i64 ((a7 b1 b8).f0), .int .i64 ((a7 b1 b8).f1.f0), .slice m6 ((a7 b1 b8).f1.f1).length m7, .slice o2 ((a7 b1 b8).f1.f2).length o3] 46 (0, 0)) (xkq g6) hb); clear hb hbox hg; have cu1 := L5.out; have cu2 := L4.out; have cu3 := L6.out; have cu4 := r6.out; have cu5 := L9.out; have cu6 := L8.out; have cQ0 : w78.cell? ⟨o5, 0, none⟩ = some (.int .i64 0) := (blk_cell I2.out 0).trans rfl; have cQ1 : w78.cell? ⟨o5, 1, none⟩ = some (.int .i64 0) := (blk_cell I2.out 1).trans rfl; have cQ2 := blk_frozen I2.out 0; have cQ3 := blk_frozen I2.out 1; have bF2 : w78.cell? ⟨j8, 0, none⟩ = some (.int .i64 ((a7 b1 b8).f0)) := (blk_cell g6.out 0).trans rfl; have bF3 : w78.cell? ⟨j8, 1, none⟩ = some (.int .i64 ((a7 b1 b8).f1.f0)) := (blk_cell g6.out 1).trans rfl; have cQ4 : w78.cell? ⟨j8, 2, none⟩ = some (.slice m6 ((a7 b1 b8).f1.f1).length m7) := (blk_cell g6.out 2).trans rfl; have cQ5 : w78.cell? ⟨j8, 3, none⟩ = some (.slice o2 ((a7 b1 b8).f1.f2).length o3) := (blk_cell g6.out 3).trans rfl; have bF4 := blk_frozen g6.out 0; have bF5 := blk_frozen g6.out 1; have cQ6 := blk_frozen g6.out 2; have cQ7 := blk_frozen g6.out 3; have bU4 := O8.out; have bU5 := O7.out; have bF6 : w78.cell? ⟨V0, 0, none⟩ = some (.int .i64 C9) := (blk_cell i4.out 0).trans rfl; have cQ8 : w78.cell? ⟨V0, 1, none⟩ = some (.int .i64 q7) := (blk_cell i4.out 1).trans rfl; have bF7 := blk_frozen i4.out 0; have cQ9 := blk_frozen i4.out 1))
      refine bodyPost_ret (results_cell_row rfl _ _ V0 28 #[.int .i64 18, .int .i64 b8] (0, 0) _ rfl (by (with_reducible repeat (first | refine bN ?_ _ | refine bD ?_ | refine bA ?_ _)); refine blk_put (cs := #[.int .i64 18, .int .i64 q7]) ?_ 1 _ rfl; (with_reducible repeat (first | refine bN ?_ _ | refine bD ?_ | refine bA ?_ _)); refine blk_put (cs := #[.int .i64 C9, .int .i64 q7]) ?_ 0 _ rfl; (with_reducible repeat (first | refine bN ?_ _ | refine bD ?_ | refine bA ?_ _)); refine blk_far ?_ r6.out _; (with_reducible repeat (first | refine bN ?_ _ | refine bD ?_ | refine bA ?_ _)); refine blk_far ?_ r6.out _; (with_reducible repeat (first | refine bN ?_ _ | refine bD ?_ | refine bA ?_ _)); exact i4.out) Try.underlying28 rfl (by kernel_rfl)) rfl ?_
      exact ⟨xre, xq HB⟩
    rw [if_pos c29] at H
    have bQ0 : (am0 == ((a7 b1 b8).f0)) = true := beq_iff_eq.mpr c29
    have bQ1 : (am0 != ((a7 b1 b8).f0)) = false := bne_eq_false_iff_eq.mpr c29
    clear c29
    by_cases c30 : b8 > 0
    rotate_left
    · rw [if_neg c30] at H
      have bg2 : decide (0 < b8) = false := decide_eq_false c30
      clear c30
      have H' := aZ H
      clear H
      have ae5 : 0 ≤ (b8 : Int) := of_decide_eq_true xas
      have ae6 : b8 < (b1.length : Int) := of_decide_eq_true xas
      obtain ⟨ah8, m6, m7, o2, o3, aN5, H4, H5, H6, H7, H8, H9, I0, I1⟩ := l8 m8.out b8 ae5 ae6
      cases aN5
      replace H4 := xcl HB H4
      replace H5 := xcl HB H5
      replace H6 := xcl HB H6
      replace H7 := xcl HB H7
      have V6 := aZ H9
      have V7 := aZ H8
      clear H9 H8
      have V8 := aZ I1
      have V9 := aZ I0
      clear I1 I0
      replace ae5 := eq_true ae5
      replace ae6 := eq_true ae6
      go_wp2_with (first | ((with_reducible refine gate_dst (N := 4) rfl ?_); refine box_event ?hg (N := 4) ?hd (cs := #[.int .i64 0, .int .i64 0, .slice none 0 0, .slice none 0 0]) (t := 46) ?hr ?_; (case hd => rfl); (case hg => rfl); (case hr => first | (go_simp; done) | (go_simp; rfl)); intro j8 hg w62 hbox hb; have g6 := aZ (hbox); have bi6 := xgh hg HB; have aa2 := xgh hg HB; replace HB := xhl HB hb; have L0 := xnl hg j6; have L1 := xng hg j6; replace j6 := xbb j6 hb; have L2 := xnl hg i4; have L3 := xng hg i4; replace i4 := xbb i4 hb; clear hb hbox hg; have dM1 := L1.out; have dM2 := L0.out; have bU6 := L3.out; have bU7 := L2.out; have cR0 : w62.cell? ⟨j8, 0, none⟩ = some (.int .i64 0) := (blk_cell g6.out 0).trans rfl; have cR1 : w62.cell? ⟨j8, 1, none⟩ = some (.int .i64 0) := (blk_cell g6.out 1).trans rfl; have cR2 : w62.cell? ⟨j8, 2, none⟩ = some (.slice none 0 0) := (blk_cell g6.out 2).trans rfl; have cR3 : w62.cell? ⟨j8, 3, none⟩ = some (.slice none 0 0) := (blk_cell g6.out 3).trans rfl; have cR4 := blk_frozen g6.out 0; have cR5 := blk_frozen g6.out 1; have cR6 := blk_frozen g6.out 2; have cR7 := blk_frozen g6.out 3) | ((with_reducible refine gate_callee (f := 29) rfl ?_); refine goesL_ (some 23) rfl rfl Try.func29 (by kernel_rfl) rfl #[.agg #[.int .i64 ((a7 b1 b8).f1.f0), .slice m6 ((a7 b1 b8).f1.f1).length m7, .slice o2 ((a7 b1 b8).f1.f2).length o3]] rfl xmp ?_; (with_reducible refine (objects_Digest.calls k1 ((a7 b1 b8).f1.f0) _ _ ((a7 b1 b8).f1.f1) _ _ ((a7 b1 b8).f1.f2) am0 ac0 aj5 _ ?side1 ?side2 ?side3 ?side4 A15.out).mono ?_); (case side1 => exact Kd.C_below V6.out (by repeat (first | (with_reducible first | exact HB.out | apply lA | apply lN | apply lD | refine lS ?_ aj3.out | refine lS ?_ aj4.out | refine lS ?_ aa2.out) | exact HB.out))); (case side2 => exact V7.out); (case side3 => exact Kd.C_below V8.out (by repeat (first | (with_reducible first | exact HB.out | apply lA | apply lN | apply lD | refine lS ?_ aj3.out | refine lS ?_ aj4.out | refine lS ?_ aa2.out) | exact HB.out))); (case side4 => exact V9.out); rintro e w66 ⟨rfl, hb⟩; refine ⟨_, rfl, ?_⟩; replace j6 := xbb j6 hb; replace i4 := xbb i4 hb; replace g6 := aZ (blk_below (g := j8) (o := .cells #[.int .i64 ((a7 b1 b8).f0), .int .i64 ((a7 b1 b8).f1.f0), .slice m6 ((a7 b1 b8).f1.f1).length m7, .slice o2 ((a7 b1 b8).f1.f2).length o3] 46 (0, 0)) (by (with_reducible repeat (first | refine bN ?_ _ | refine bD ?_ | refine bA ?_ _)); refine blk_put (cs := #[.int .i64 ((a7 b1 b8).f0), .int .i64 ((a7 b1 b8).f1.f0), .slice m6 ((a7 b1 b8).f1.f1).length m7, .slice none 0 0]) ?_ 3 _ rfl; (with_reducible repeat (first | refine bN ?_ _ | refine bD ?_ | refine bA ?_ _)); refine blk_put (cs := #[.int .i64 ((a7 b1 b8).f0), .int .i64 ((a7 b1 b8).f1.f0), .slice none 0 0, .slice none 0 0]) ?_ 2 _ rfl; (with_reducible repeat (first | refine bN ?_ _ | refine bD ?_ | refine bA ?_ _)); refine blk_put (cs := #[.int .i64 ((a7 b1 b8).f0), .int .i64 0, .slice none 0 0, .slice none 0 0]) ?_ 1 _ rfl; (with_reducible repeat (first | refine bN ?_ _ | refine bD ?_ | refine bA ?_ _)); refine blk_put (cs := #[.int .i64 0, .int .i64 0, .slice none 0 0, .slice none 0 0]) ?_ 0 _ rfl; (with_reducible repeat (first | refine bN ?_ _ | refine bD ?_ | refine bA ?_ _)); exact g6.out) hb); replace HB := xhl HB hb; (try clear hb); (try clear H3); (try clear hk); (try clear hi)) | ((with_reducible refine gate_dst (N := 6) rfl ?_); refine box_event ?hg (N := 6) ?hd (cs := #[.int .i64 0, .int .i64 0]) (t := 28) ?hr ?_; (case hd => rfl); (case hg => rfl); (case hr => first | (go_simp; done) | (go_simp; rfl)); intro o5 hg w67 hbox hb; have I2 := aZ (hbox); have az8 := xgh hg HB; have bi7 := xgh hg HB; replace HB := xhl HB hb; have L4 := xnl hg j6; have L5 := xng hg j6; replace j6 := xbb j6 hb; have r6 := xnl hg i4; have L6 := xng hg i4; replace i4 := xbb i4 hb; have L8 := aZ ((by rw [hg]; exact Nat.ne_of_lt (blk_lt (g := j8) (o := .cells #[.int .i64 ((a7 b1 b8).f0), .int .i64 ((a7 b1 b8).f1.f0), .slice m6 ((a7 b1 b8).f1.f1).length m7, .slice o2 ((a7 b1 b8).f1.f2).length o3] 46 (0, 0)) (xkq g6)) : j8 ≠ o5)); have L9 := aZ ((by rw [hg]; exact Nat.ne_of_gt (blk_lt (g := j8) (o := .cells #[.int .i64 ((a7 b1 b8).f0), .int .i64 ((a7 b1 b8).f1.f0), .slice m6 ((a7 b1 b8).f1.f1).length m7, .slice o2 ((a7 b1 b8).f1.f2).length o3] 46 (0, 0)) (xkq g6)) : o5 ≠ j8)); replace g6 := aZ (blk_below (g := j8) (o := .cells #[.int .i64 ((a7 b1 b8).f0), .int .i64 ((a7 b1 b8).f1.f0), .slice m6 ((a7 b1 b8).f1.f1).length m7, .slice o2 ((a7 b1 b8).f1.f2).length o3] 46 (0, 0)) (xkq g6) hb); clear hb hbox hg; have dM3 := L5.out; have dM4 := L4.out; have dM5 := L6.out; have dM6 := r6.out; have dM7 := L9.out; have dM8 := L8.out; have cR8 : w67.cell? ⟨o5, 0, none⟩ = some (.int .i64 0) := (blk_cell I2.out 0).trans rfl; have cR9 : w67.cell? ⟨o5, 1, none⟩ = some (.int .i64 0) := (blk_cell I2.out 1).trans rfl; have cS0 := blk_frozen I2.out 0; have cS1 := blk_frozen I2.out 1; have cS2 : w67.cell? ⟨j8, 0, none⟩ = some (.int .i64 ((a7 b1 b8).f0)) := (blk_cell g6.out 0).trans rfl; have cS3 : w67.cell? ⟨j8, 1, none⟩ = some (.int .i64 ((a7 b1 b8).f1.f0)) := (blk_cell g6.out 1).trans rfl; have cS4 : w67.cell? ⟨j8, 2, none⟩ = some (.slice m6 ((a7 b1 b8).f1.f1).length m7) := (blk_cell g6.out 2).trans rfl; have cS5 : w67.cell? ⟨j8, 3, none⟩ = some (.slice o2 ((a7 b1 b8).f1.f2).length o3) := (blk_cell g6.out 3).trans rfl; have cS6 := blk_frozen g6.out 0; have cS7 := blk_frozen g6.out 1; have cS8 := blk_frozen g6.out 2; have cS9 := blk_frozen g6.out 3))
      go_roundg k1
      case measure => have := S8.out; omega
      case rel => exact ⟨(wrap64 (b8 + 1)), (C9), (q7), xrs, H', ⟨by have := S8.out; omega⟩, xk j6, xk i4, xb HB⟩
    rw [if_pos c30] at H
    have bg2 : decide (0 < b8) = true := decide_eq_true c30
    clear c30
    obtain ⟨aj6, aU5⟩ : ∃ j_ : Int, (wrap64 (b8 - 1)) = j_ := ⟨_, rfl⟩
    replace H : (if 0 ≤ (aj6) then (if (aj6) < (b1.length : Int) then (if ((a7 b1 (aj6)).f0) ≥ am0 then (some (5, b8)) else (objects_Validate.l0 k1 b1 (b1.length : Int) (wrap64 (b8 + 1)) b1)) else (none)) else (none)) = some (r1, r2) := by first | (rw [aU5] at H; exact H) | (simp only [aU5] at H ⊢; exact H)
    (try rw [aU5] at A15)
    have dq2 : (IntKind.i64.wrap (b8 - 1)) = aj6 := (i64_w _).trans aU5
    by_cases c32 : 0 ≤ (aj6)
    rotate_left
    · rw [if_neg c32] at H
      exact absurd H (by simp)
    rw [if_pos c32] at H
    have bS8 : decide (0 ≤ (aj6)) = true := decide_eq_true c32
    clear c32
    by_cases c33 : (aj6) < (b1.length : Int)
    rotate_left
    · rw [if_neg c33] at H
      exact absurd H (by simp)
    rw [if_pos c33] at H
    have bf1 : decide ((aj6) < (b1.length : Int)) = true := decide_eq_true c33
    clear c33
    by_cases c34 : ((a7 b1 (aj6)).f0) ≥ am0
    rotate_left
    · rw [if_neg c34] at H
      have bt4 : decide (am0 ≤ ((a7 b1 (aj6)).f0)) = false := decide_eq_false c34
      clear c34
      have H' := aZ H
      clear H
      have ae5 : 0 ≤ (b8 : Int) := of_decide_eq_true xas
      have ae6 : b8 < (b1.length : Int) := of_decide_eq_true xas
      obtain ⟨ah8, m6, m7, o2, o3, aN5, H4, H5, H6, H7, H8, H9, I0, I1⟩ := l8 m8.out b8 ae5 ae6
      cases aN5
      replace H4 := xcl HB H4
      replace H5 := xcl HB H5
      replace H6 := xcl HB H6
      replace H7 := xcl HB H7
      have V6 := aZ H9
      have V7 := aZ H8
      clear H9 H8
      have V8 := aZ I1
      have V9 := aZ I0
      clear I1 I0
      replace ae5 := eq_true ae5
      replace ae6 := eq_true ae6
      go_wp2_with (first | ((with_reducible refine gate_dst (N := 4) rfl ?_); refine box_event ?hg (N := 4) ?hd (cs := #[.int .i64 0, .int .i64 0, .slice none 0 0, .slice none 0 0]) (t := 46) ?hr ?_; (case hd => rfl); (case hg => rfl); (case hr => first | (go_simp; done) | (go_simp; rfl)); intro j8 hg w49 hbox hb; have g6 := aZ (hbox); have bi6 := xgh hg HB; have aa2 := xgh hg HB; replace HB := xhl HB hb; have L0 := xnl hg j6; have L1 := xng hg j6; replace j6 := xbb j6 hb; have L2 := xnl hg i4; have L3 := xng hg i4; replace i4 := xbb i4 hb; clear hb hbox hg; have bv9 := L1.out; have bw0 := L0.out; have bU8 := L3.out; have bU9 := L2.out; have bi8 : w49.cell? ⟨j8, 0, none⟩ = some (.int .i64 0) := (blk_cell g6.out 0).trans rfl; have bi9 : w49.cell? ⟨j8, 1, none⟩ = some (.int .i64 0) := (blk_cell g6.out 1).trans rfl; have cT0 : w49.cell? ⟨j8, 2, none⟩ = some (.slice none 0 0) := (blk_cell g6.out 2).trans rfl; have cT1 : w49.cell? ⟨j8, 3, none⟩ = some (.slice none 0 0) := (blk_cell g6.out 3).trans rfl; have bj0 := blk_frozen g6.out 0; have bj1 := blk_frozen g6.out 1; have cT2 := blk_frozen g6.out 2; have cT3 := blk_frozen g6.out 3) | ((with_reducible refine gate_callee (f := 29) rfl ?_); refine goesL_ (some 23) rfl rfl Try.func29 (by kernel_rfl) rfl #[.agg #[.int .i64 ((a7 b1 b8).f1.f0), .slice m6 ((a7 b1 b8).f1.f1).length m7, .slice o2 ((a7 b1 b8).f1.f2).length o3]] rfl xmp ?_; (with_reducible refine (objects_Digest.calls k1 ((a7 b1 b8).f1.f0) _ _ ((a7 b1 b8).f1.f1) _ _ ((a7 b1 b8).f1.f2) am0 ac0 aj5 _ ?side1 ?side2 ?side3 ?side4 A15.out).mono ?_); (case side1 => exact Kd.C_below V6.out (by repeat (first | (with_reducible first | exact HB.out | apply lA | apply lN | apply lD | refine lS ?_ aj3.out | refine lS ?_ aj4.out | refine lS ?_ aa2.out) | exact HB.out))); (case side2 => exact V7.out); (case side3 => exact Kd.C_below V8.out (by repeat (first | (with_reducible first | exact HB.out | apply lA | apply lN | apply lD | refine lS ?_ aj3.out | refine lS ?_ aj4.out | refine lS ?_ aa2.out) | exact HB.out))); (case side4 => exact V9.out); rintro e w53 ⟨rfl, hb⟩; refine ⟨_, rfl, ?_⟩; replace j6 := xbb j6 hb; replace i4 := xbb i4 hb; replace g6 := aZ (blk_below (g := j8) (o := .cells #[.int .i64 ((a7 b1 b8).f0), .int .i64 ((a7 b1 b8).f1.f0), .slice m6 ((a7 b1 b8).f1.f1).length m7, .slice o2 ((a7 b1 b8).f1.f2).length o3] 46 (0, 0)) (by (with_reducible repeat (first | refine bN ?_ _ | refine bD ?_ | refine bA ?_ _)); refine blk_put (cs := #[.int .i64 ((a7 b1 b8).f0), .int .i64 ((a7 b1 b8).f1.f0), .slice m6 ((a7 b1 b8).f1.f1).length m7, .slice none 0 0]) ?_ 3 _ rfl; (with_reducible repeat (first | refine bN ?_ _ | refine bD ?_ | refine bA ?_ _)); refine blk_put (cs := #[.int .i64 ((a7 b1 b8).f0), .int .i64 ((a7 b1 b8).f1.f0), .slice none 0 0, .slice none 0 0]) ?_ 2 _ rfl; (with_reducible repeat (first | refine bN ?_ _ | refine bD ?_ | refine bA ?_ _)); refine blk_put (cs := #[.int .i64 ((a7 b1 b8).f0), .int .i64 0, .slice none 0 0, .slice none 0 0]) ?_ 1 _ rfl; (with_reducible repeat (first | refine bN ?_ _ | refine bD ?_ | refine bA ?_ _)); refine blk_put (cs := #[.int .i64 0, .int .i64 0, .slice none 0 0, .slice none 0 0]) ?_ 0 _ rfl; (with_reducible repeat (first | refine bN ?_ _ | refine bD ?_ | refine bA ?_ _)); exact g6.out) hb); replace HB := xhl HB hb; (try clear hb); (try clear H3); (try clear hk); (try clear hi)) | ((with_reducible refine gate_dst (N := 6) rfl ?_); refine box_event ?hg (N := 6) ?hd (cs := #[.int .i64 0, .int .i64 0]) (t := 28) ?hr ?_; (case hd => rfl); (case hg => rfl); (case hr => first | (go_simp; done) | (go_simp; rfl)); intro o5 hg w54 hbox hb; have I2 := aZ (hbox); have az8 := xgh hg HB; have bi7 := xgh hg HB; replace HB := xhl HB hb; have L4 := xnl hg j6; have L5 := xng hg j6; replace j6 := xbb j6 hb; have r6 := xnl hg i4; have L6 := xng hg i4; replace i4 := xbb i4 hb; have L8 := aZ ((by rw [hg]; exact Nat.ne_of_lt (blk_lt (g := j8) (o := .cells #[.int .i64 ((a7 b1 b8).f0), .int .i64 ((a7 b1 b8).f1.f0), .slice m6 ((a7 b1 b8).f1.f1).length m7, .slice o2 ((a7 b1 b8).f1.f2).length o3] 46 (0, 0)) (xkq g6)) : j8 ≠ o5)); have L9 := aZ ((by rw [hg]; exact Nat.ne_of_gt (blk_lt (g := j8) (o := .cells #[.int .i64 ((a7 b1 b8).f0), .int .i64 ((a7 b1 b8).f1.f0), .slice m6 ((a7 b1 b8).f1.f1).length m7, .slice o2 ((a7 b1 b8).f1.f2).length o3] 46 (0, 0)) (xkq g6)) : o5 ≠ j8)); replace g6 := aZ (blk_below (g := j8) (o := .cells #[.int .i64 ((a7 b1 b8).f0), .int .i64 ((a7 b1 b8).f1.f0), .slice m6 ((a7 b1 b8).f1.f1).length m7, .slice o2 ((a7 b1 b8).f1.f2).length o3] 46 (0, 0)) (xkq g6) hb); clear hb hbox hg; have cu7 := L5.out; have cu8 := L4.out; have dM9 := L6.out; have dN0 := r6.out; have dN1 := L9.out; have dN2 := L8.out; have cT4 : w54.cell? ⟨o5, 0, none⟩ = some (.int .i64 0) := (blk_cell I2.out 0).trans rfl; have cT5 : w54.cell? ⟨o5, 1, none⟩ = some (.int .i64 0) := (blk_cell I2.out 1).trans rfl; have cT6 := blk_frozen I2.out 0; have cT7 := blk_frozen I2.out 1; have cT8 : w54.cell? ⟨j8, 0, none⟩ = some (.int .i64 ((a7 b1 b8).f0)) := (blk_cell g6.out 0).trans rfl; have cT9 : w54.cell? ⟨j8, 1, none⟩ = some (.int .i64 ((a7 b1 b8).f1.f0)) := (blk_cell g6.out 1).trans rfl; have cU0 : w54.cell? ⟨j8, 2, none⟩ = some (.slice m6 ((a7 b1 b8).f1.f1).length m7) := (blk_cell g6.out 2).trans rfl; have cU1 : w54.cell? ⟨j8, 3, none⟩ = some (.slice o2 ((a7 b1 b8).f1.f2).length o3) := (blk_cell g6.out 3).trans rfl; have cU2 := blk_frozen g6.out 0; have cU3 := blk_frozen g6.out 1; have cU4 := blk_frozen g6.out 2; have cU5 := blk_frozen g6.out 3; have dN3 := O7.out; have dN4 := O8.out; have bF8 : w54.cell? ⟨aJ6, 0, none⟩ = some (.slice (some ah8) b1.length j9) := (blk_cell j6.out 0).trans rfl; have bF9 := blk_frozen j6.out 0; have aX9 : 0 ≤ ((aj6) : Int) := of_decide_eq_true xas; have aY0 : (aj6) < (b1.length : Int) := of_decide_eq_true xas; obtain ⟨bw1, cd1, cd2, cd3, cd4, cd5, D5, M0, M1, M2, ap3, ap4, ap5, ap6⟩ := l8 m8.out (aj6) aX9 aY0; obtain rfl : ah8 = bw1 := (by injection cd5); have n1 : ah8.block ≠ o5 := Nat.ne_of_lt (Nat.lt_of_lt_of_le (by have := World.block_lt_of_cell? _ _ D5; first | rwa [add_block] at this | exact this) az8.out); have n2 : ah8.block ≠ o5 := Nat.ne_of_lt (Nat.lt_of_lt_of_le (by have := World.block_lt_of_cell? _ _ D5; first | rwa [add_block] at this | exact this) az8.out); replace D5 := xcl HB D5; replace M0 := xcl HB M0; replace M1 := xcl HB M1; replace M2 := xcl HB M2; have bG0 := aZ ap4; have bG1 := aZ ap3; clear ap4 ap3; have bG2 := aZ ap6; have bG3 := aZ ap5; clear ap6 ap5; replace D5 := (cell_far (p := ⟨o5, 0, none⟩) (by first | (rw [add_block]; exact n1) | (show (Addr.add _ _).block ≠ _; rw [add_block]; exact n1) | exact n1) (.int .i64 ac0)).trans D5; replace M0 := (cell_far (p := ⟨o5, 0, none⟩) (by first | (rw [add_block]; exact n1) | (show (Addr.add _ _).block ≠ _; rw [add_block]; exact n1) | exact n1) (.int .i64 ac0)).trans M0; replace M1 := (cell_far (p := ⟨o5, 0, none⟩) (by first | (rw [add_block]; exact n1) | (show (Addr.add _ _).block ≠ _; rw [add_block]; exact n1) | exact n1) (.int .i64 ac0)).trans M1; replace M2 := (cell_far (p := ⟨o5, 0, none⟩) (by first | (rw [add_block]; exact n1) | (show (Addr.add _ _).block ≠ _; rw [add_block]; exact n1) | exact n1) (.int .i64 ac0)).trans M2; replace D5 := (cell_far (p := ⟨o5, 1, none⟩) (by first | (rw [add_block]; exact n2) | (show (Addr.add _ _).block ≠ _; rw [add_block]; exact n2) | exact n2) (.int .i64 aj5)).trans D5; replace M0 := (cell_far (p := ⟨o5, 1, none⟩) (by first | (rw [add_block]; exact n2) | (show (Addr.add _ _).block ≠ _; rw [add_block]; exact n2) | exact n2) (.int .i64 aj5)).trans M0; replace M1 := (cell_far (p := ⟨o5, 1, none⟩) (by first | (rw [add_block]; exact n2) | (show (Addr.add _ _).block ≠ _; rw [add_block]; exact n2) | exact n2) (.int .i64 aj5)).trans M1; replace M2 := (cell_far (p := ⟨o5, 1, none⟩) (by first | (rw [add_block]; exact n2) | (show (Addr.add _ _).block ≠ _; rw [add_block]; exact n2) | exact n2) (.int .i64 aj5)).trans M2; clear n1; clear n2; replace aX9 := eq_true aX9; replace aY0 := eq_true aY0))
      go_roundg k1
      case measure => have := S8.out; omega
      case rel => exact ⟨(wrap64 (b8 + 1)), (C9), (q7), xrs, H', ⟨by have := S8.out; omega⟩, xk j6, xk i4, xb HB⟩
    rw [if_pos c34] at H
    have bt4 : decide (am0 ≤ ((a7 b1 (aj6)).f0)) = true := decide_eq_true c34
    clear c34
    simp only [Option.some.injEq, Prod.mk.injEq] at H
    obtain ⟨rfl, rfl⟩ := H
    have ae5 : 0 ≤ (b8 : Int) := of_decide_eq_true xas
    have ae6 : b8 < (b1.length : Int) := of_decide_eq_true xas
    obtain ⟨ah8, m6, m7, o2, o3, aN5, H4, H5, H6, H7, H8, H9, I0, I1⟩ := l8 m8.out b8 ae5 ae6
    cases aN5
    replace H4 := xcl HB H4
    replace H5 := xcl HB H5
    replace H6 := xcl HB H6
    replace H7 := xcl HB H7
    have V6 := aZ H9
    have V7 := aZ H8
    clear H9 H8
    have V8 := aZ I1
    have V9 := aZ I0
    clear I1 I0
    replace ae5 := eq_true ae5
    replace ae6 := eq_true ae6
    go_wp2_with (first | ((with_reducible refine gate_dst (N := 4) rfl ?_); refine box_event ?hg (N := 4) ?hd (cs := #[.int .i64 0, .int .i64 0, .slice none 0 0, .slice none 0 0]) (t := 46) ?hr ?_; (case hd => rfl); (case hg => rfl); (case hr => first | (go_simp; done) | (go_simp; rfl)); intro j8 hg w35 hbox hb; have g6 := aZ (hbox); have bi6 := xgh hg HB; have aa2 := xgh hg HB; replace HB := xhl HB hb; have L0 := xnl hg j6; have L1 := xng hg j6; replace j6 := xbb j6 hb; have L2 := xnl hg i4; have L3 := xng hg i4; replace i4 := xbb i4 hb; clear hb hbox hg; have bV0 := L1.out; have bV1 := L0.out; have bR3 := L3.out; have bR4 := L2.out; have aD1 : w35.cell? ⟨j8, 0, none⟩ = some (.int .i64 0) := (blk_cell g6.out 0).trans rfl; have aD2 : w35.cell? ⟨j8, 1, none⟩ = some (.int .i64 0) := (blk_cell g6.out 1).trans rfl; have cU6 : w35.cell? ⟨j8, 2, none⟩ = some (.slice none 0 0) := (blk_cell g6.out 2).trans rfl; have cU7 : w35.cell? ⟨j8, 3, none⟩ = some (.slice none 0 0) := (blk_cell g6.out 3).trans rfl; have aD3 := blk_frozen g6.out 0; have aD4 := blk_frozen g6.out 1; have cU8 := blk_frozen g6.out 2; have cU9 := blk_frozen g6.out 3) | ((with_reducible refine gate_callee (f := 29) rfl ?_); refine goesL_ (some 23) rfl rfl Try.func29 (by kernel_rfl) rfl #[.agg #[.int .i64 ((a7 b1 b8).f1.f0), .slice m6 ((a7 b1 b8).f1.f1).length m7, .slice o2 ((a7 b1 b8).f1.f2).length o3]] rfl xmp ?_; (with_reducible refine (objects_Digest.calls k1 ((a7 b1 b8).f1.f0) _ _ ((a7 b1 b8).f1.f1) _ _ ((a7 b1 b8).f1.f2) am0 ac0 aj5 _ ?side1 ?side2 ?side3 ?side4 A15.out).mono ?_); (case side1 => exact Kd.C_below V6.out (by repeat (first | (with_reducible first | exact HB.out | apply lA | apply lN | apply lD | refine lS ?_ aj3.out | refine lS ?_ aj4.out | refine lS ?_ aa2.out) | exact HB.out))); (case side2 => exact V7.out); (case side3 => exact Kd.C_below V8.out (by repeat (first | (with_reducible first | exact HB.out | apply lA | apply lN | apply lD | refine lS ?_ aj3.out | refine lS ?_ aj4.out | refine lS ?_ aa2.out) | exact HB.out))); (case side4 => exact V9.out); rintro e w39 ⟨rfl, hb⟩; refine ⟨_, rfl, ?_⟩; replace j6 := xbb j6 hb; replace i4 := xbb i4 hb; replace g6 := aZ (blk_below (g := j8) (o := .cells #[.int .i64 ((a7 b1 b8).f0), .int .i64 ((a7 b1 b8).f1.f0), .slice m6 ((a7 b1 b8).f1.f1).length m7, .slice o2 ((a7 b1 b8).f1.f2).length o3] 46 (0, 0)) (by (with_reducible repeat (first | refine bN ?_ _ | refine bD ?_ | refine bA ?_ _)); refine blk_put (cs := #[.int .i64 ((a7 b1 b8).f0), .int .i64 ((a7 b1 b8).f1.f0), .slice m6 ((a7 b1 b8).f1.f1).length m7, .slice none 0 0]) ?_ 3 _ rfl; (with_reducible repeat (first | refine bN ?_ _ | refine bD ?_ | refine bA ?_ _)); refine blk_put (cs := #[.int .i64 ((a7 b1 b8).f0), .int .i64 ((a7 b1 b8).f1.f0), .slice none 0 0, .slice none 0 0]) ?_ 2 _ rfl; (with_reducible repeat (first | refine bN ?_ _ | refine bD ?_ | refine bA ?_ _)); refine blk_put (cs := #[.int .i64 ((a7 b1 b8).f0), .int .i64 0, .slice none 0 0, .slice none 0 0]) ?_ 1 _ rfl; (with_reducible repeat (first | refine bN ?_ _ | refine bD ?_ | refine bA ?_ _)); refine blk_put (cs := #[.int .i64 0, .int .i64 0, .slice none 0 0, .slice none 0 0]) ?_ 0 _ rfl; (with_reducible repeat (first | refine bN ?_ _ | refine bD ?_ | refine bA ?_ _)); exact g6.out) hb); replace HB := xhl HB hb; (try clear hb); (try clear H3); (try clear hk); (try clear hi)) | ((with_reducible refine gate_dst (N := 6) rfl ?_); refine box_event ?hg (N := 6) ?hd (cs := #[.int .i64 0, .int .i64 0]) (t := 28) ?hr ?_; (case hd => rfl); (case hg => rfl); (case hr => first | (go_simp; done) | (go_simp; rfl)); intro o5 hg w40 hbox hb; have I2 := aZ (hbox); have az8 := xgh hg HB; have bi7 := xgh hg HB; replace HB := xhl HB hb; have L4 := xnl hg j6; have L5 := xng hg j6; replace j6 := xbb j6 hb; have r6 := xnl hg i4; have L6 := xng hg i4; replace i4 := xbb i4 hb; have L8 := aZ ((by rw [hg]; exact Nat.ne_of_lt (blk_lt (g := j8) (o := .cells #[.int .i64 ((a7 b1 b8).f0), .int .i64 ((a7 b1 b8).f1.f0), .slice m6 ((a7 b1 b8).f1.f1).length m7, .slice o2 ((a7 b1 b8).f1.f2).length o3] 46 (0, 0)) (xkq g6)) : j8 ≠ o5)); have L9 := aZ ((by rw [hg]; exact Nat.ne_of_gt (blk_lt (g := j8) (o := .cells #[.int .i64 ((a7 b1 b8).f0), .int .i64 ((a7 b1 b8).f1.f0), .slice m6 ((a7 b1 b8).f1.f1).length m7, .slice o2 ((a7 b1 b8).f1.f2).length o3] 46 (0, 0)) (xkq g6)) : o5 ≠ j8)); replace g6 := aZ (blk_below (g := j8) (o := .cells #[.int .i64 ((a7 b1 b8).f0), .int .i64 ((a7 b1 b8).f1.f0), .slice m6 ((a7 b1 b8).f1.f1).length m7, .slice o2 ((a7 b1 b8).f1.f2).length o3] 46 (0, 0)) (xkq g6) hb); clear hb hbox hg; have bS6 := L5.out; have bS7 := L4.out; have bR0 := L6.out; have bR1 := r6.out; have bV2 := L9.out; have bV3 := L8.out; have bG4 : w40.cell? ⟨o5, 0, none⟩ = some (.int .i64 0) := (blk_cell I2.out 0).trans rfl; have bG5 : w40.cell? ⟨o5, 1, none⟩ = some (.int .i64 0) := (blk_cell I2.out 1).trans rfl; have bG6 := blk_frozen I2.out 0; have bG7 := blk_frozen I2.out 1; have bh8 : w40.cell? ⟨j8, 0, none⟩ = some (.int .i64 ((a7 b1 b8).f0)) := (blk_cell g6.out 0).trans rfl; have bh9 : w40.cell? ⟨j8, 1, none⟩ = some (.int .i64 ((a7 b1 b8).f1.f0)) := (blk_cell g6.out 1).trans rfl; have bE6 : w40.cell? ⟨j8, 2, none⟩ = some (.slice m6 ((a7 b1 b8).f1.f1).length m7) := (blk_cell g6.out 2).trans rfl; have cV0 : w40.cell? ⟨j8, 3, none⟩ = some (.slice o2 ((a7 b1 b8).f1.f2).length o3) := (blk_cell g6.out 3).trans rfl; have bi0 := blk_frozen g6.out 0; have bi1 := blk_frozen g6.out 1; have bE7 := blk_frozen g6.out 2; have cV1 := blk_frozen g6.out 3; have cq0 := O7.out; have cq1 := O8.out; have aM0 : w40.cell? ⟨aJ6, 0, none⟩ = some (.slice (some ah8) b1.length j9) := (blk_cell j6.out 0).trans rfl; have aM1 := blk_frozen j6.out 0; have aX9 : 0 ≤ ((aj6) : Int) := of_decide_eq_true xas; have aY0 : (aj6) < (b1.length : Int) := of_decide_eq_true xas; obtain ⟨bw1, cd1, cd2, cd3, cd4, cd5, D5, M0, M1, M2, ap3, ap4, ap5, ap6⟩ := l8 m8.out (aj6) aX9 aY0; obtain rfl : ah8 = bw1 := (by injection cd5); have n1 : ah8.block ≠ o5 := Nat.ne_of_lt (Nat.lt_of_lt_of_le (by have := World.block_lt_of_cell? _ _ D5; first | rwa [add_block] at this | exact this) az8.out); have n2 : ah8.block ≠ o5 := Nat.ne_of_lt (Nat.lt_of_lt_of_le (by have := World.block_lt_of_cell? _ _ D5; first | rwa [add_block] at this | exact this) az8.out); replace D5 := xcl HB D5; replace M0 := xcl HB M0; replace M1 := xcl HB M1; replace M2 := xcl HB M2; have bG0 := aZ ap4; have bG1 := aZ ap3; clear ap4 ap3; have bG2 := aZ ap6; have bG3 := aZ ap5; clear ap6 ap5; replace D5 := (cell_far (p := ⟨o5, 0, none⟩) (by first | (rw [add_block]; exact n1) | (show (Addr.add _ _).block ≠ _; rw [add_block]; exact n1) | exact n1) (.int .i64 ac0)).trans D5; replace M0 := (cell_far (p := ⟨o5, 0, none⟩) (by first | (rw [add_block]; exact n1) | (show (Addr.add _ _).block ≠ _; rw [add_block]; exact n1) | exact n1) (.int .i64 ac0)).trans M0; replace M1 := (cell_far (p := ⟨o5, 0, none⟩) (by first | (rw [add_block]; exact n1) | (show (Addr.add _ _).block ≠ _; rw [add_block]; exact n1) | exact n1) (.int .i64 ac0)).trans M1; replace M2 := (cell_far (p := ⟨o5, 0, none⟩) (by first | (rw [add_block]; exact n1) | (show (Addr.add _ _).block ≠ _; rw [add_block]; exact n1) | exact n1) (.int .i64 ac0)).trans M2; replace D5 := (cell_far (p := ⟨o5, 1, none⟩) (by first | (rw [add_block]; exact n2) | (show (Addr.add _ _).block ≠ _; rw [add_block]; exact n2) | exact n2) (.int .i64 aj5)).trans D5; replace M0 := (cell_far (p := ⟨o5, 1, none⟩) (by first | (rw [add_block]; exact n2) | (show (Addr.add _ _).block ≠ _; rw [add_block]; exact n2) | exact n2) (.int .i64 aj5)).trans M0; replace M1 := (cell_far (p := ⟨o5, 1, none⟩) (by first | (rw [add_block]; exact n2) | (show (Addr.add _ _).block ≠ _; rw [add_block]; exact n2) | exact n2) (.int .i64 aj5)).trans M1; replace M2 := (cell_far (p := ⟨o5, 1, none⟩) (by first | (rw [add_block]; exact n2) | (show (Addr.add _ _).block ≠ _; rw [add_block]; exact n2) | exact n2) (.int .i64 aj5)).trans M2; clear n1; clear n2; replace aX9 := eq_true aX9; replace aY0 := eq_true aY0; have cV2 : w40.cell? ⟨V0, 0, none⟩ = some (.int .i64 C9) := (blk_cell i4.out 0).trans rfl; have cV3 : w40.cell? ⟨V0, 1, none⟩ = some (.int .i64 q7) := (blk_cell i4.out 1).trans rfl; have cV4 := blk_frozen i4.out 0; have cV5 := blk_frozen i4.out 1))
    refine bodyPost_ret (results_cell_row rfl _ _ V0 28 #[.int .i64 5, .int .i64 b8] (0, 0) _ rfl (by (with_reducible repeat (first | refine bN ?_ _ | refine bD ?_ | refine bA ?_ _)); refine blk_put (cs := #[.int .i64 5, .int .i64 q7]) ?_ 1 _ rfl; (with_reducible repeat (first | refine bN ?_ _ | refine bD ?_ | refine bA ?_ _)); refine blk_put (cs := #[.int .i64 C9, .int .i64 q7]) ?_ 0 _ rfl; (with_reducible repeat (first | refine bN ?_ _ | refine bD ?_ | refine bA ?_ _)); refine blk_far ?_ r6.out _; (with_reducible repeat (first | refine bN ?_ _ | refine bD ?_ | refine bA ?_ _)); refine blk_far ?_ r6.out _; (with_reducible repeat (first | refine bN ?_ _ | refine bD ?_ | refine bA ?_ _)); exact i4.out) Try.underlying28 rfl (by kernel_rfl)) rfl ?_
    exact ⟨by first | rfl | (simp [errW_none, errW_some] <;> rfl) | (simp only [← aU5]; first | rfl | (simp [errW_none, errW_some] <;> rfl)) | (simp [*, errW_none, errW_some] <;> rfl), xq HB⟩
end
def b4.f (a0 : Int) (a1 : Int) : Option (Int × Int) := some (a0, a1)
set_option maxHeartbeats 8000000 in
set_option maxRecDepth 100000 in
theorem b4.calls (a0 : Int) (a1 : Int) (r1 : Int) (r2 : Int) (w : World) (h : b4.f a0 a1 = some (r1, r2)) :
    Calls Try.prog 18 #[.int .i64 a0, .int .i64 a1] w fun e w' => e = .returned (.agg #[.int .i64 r1, .int .i64 r2]) ∧ Below w.heap.size w w' := by
  have aH5 := Try.underlying28
  have HB := aZ (Below.refl w.heap.size w)
  have H : (some (a0, a1)) = some (r1, r2) := h
  clear h
  simp only [Option.some.injEq, Prod.mk.injEq] at H
  obtain ⟨rfl, rfl⟩ := H
  go_enter Try.func18, Try.ntmps18
  go_wp2_with (first | ((with_reducible refine gate_dst (N := 4) rfl ?_); refine box_event ?hg (N := 4) ?hd (cs := #[.int .i64 0, .int .i64 0]) (t := 28) ?hr ?_; (case hd => rfl); (case hg => rfl); (case hr => first | (go_simp; done) | (go_simp; rfl)); intro bu0 hg w3 hbox hb; have aT0 := aZ (hbox); have dK8 := xgh hg HB; have dK9 := xgh hg HB; replace HB := xhl HB hb; clear hb hbox hg; have bs5 : w3.cell? ⟨bu0, 0, none⟩ = some (.int .i64 0) := (blk_cell aT0.out 0).trans rfl; have bs6 : w3.cell? ⟨bu0, 1, none⟩ = some (.int .i64 0) := (blk_cell aT0.out 1).trans rfl; have bs7 := blk_frozen aT0.out 0; have bs8 := blk_frozen aT0.out 1))
  refine bodyPost_ret (results_cell_row rfl _ _ bu0 28 #[.int .i64 a0, .int .i64 a1] (0, 0) _ rfl (by (with_reducible repeat (first | refine bN ?_ _ | refine bD ?_ | refine bA ?_ _)); refine blk_put (cs := #[.int .i64 a0, .int .i64 0]) ?_ 1 _ rfl; (with_reducible repeat (first | refine bN ?_ _ | refine bD ?_ | refine bA ?_ _)); refine blk_put (cs := #[.int .i64 0, .int .i64 0]) ?_ 0 _ rfl; (with_reducible repeat (first | refine bN ?_ _ | refine bD ?_ | refine bA ?_ _)); exact aT0.out) Try.underlying28 rfl (by kernel_rfl)) rfl ?_
  exact ⟨xre, xq HB⟩
def i7.f (a0 : Int) (a1 : Int) (a2 : Int) : Option (Bool) := if a0 ≥ a1 then (some (decide (a0 ≤ a2))) else (some false)
set_option maxHeartbeats 8000000 in
set_option maxRecDepth 100000 in
theorem i7.calls (a0 : Int) (a1 : Int) (a2 : Int) (r : Bool) (w : World) (h : i7.f a0 a1 a2 = some r) :
    Calls Try.prog 19 #[.int .i64 a0, .int .i64 a1, .int .i64 a2] w fun e w' => e = .returned (.bool r) ∧ Drawn0 w w' := by
  have H : (if a0 ≥ a1 then (some (decide (a0 ≤ a2))) else (some false)) = some r := h
  clear h
  by_cases c4 : a0 ≥ a1
  · rw [if_pos c4] at H
    have Y8 : decide (a1 ≤ a0) = true := decide_eq_true c4
    clear c4
    obtain rfl := Option.some.inj H
    go_enter Try.func19, Try.ntmps19
    go_wp2
    go_ret
    exact ⟨by first | rfl | (simp; done) | (simp [*]; done), by repeat (first | exact Drawn0.refl _ | apply Drawn0.step)⟩
  · rw [if_neg c4] at H
    have Y8 : decide (a1 ≤ a0) = false := decide_eq_false c4
    clear c4
    obtain rfl := Option.some.inj H
    go_enter Try.func19, Try.ntmps19
    go_wp2
    go_ret
    exact ⟨by first | rfl | (simp; done) | (simp [*]; done), by repeat (first | exact Drawn0.refl _ | apply Drawn0.step)⟩
mutual
def a8.j0 : Nat → Bool → Int → List Int → List Int → Option (Int × Int)
  | 0, _, _, _, _ => none
  | k + 1, x27, aM4, ap1, aM5 => if x27 = true then ((b4.f 5 0).bind fun aT1 => (some (aT1.1, aT1.2))) else (a8.l0 k 0 aM4 ap1 aM5)
def a8.l0 : Nat → Int → Int → List Int → List Int → Option (Int × Int)
  | 0, _, _, _, _ => none
  | k + 1, x3, aM4, ap1, aM5 => if x3 < (ap1.length : Int) then (if 0 ≤ x3 then ((i7.f (rd ap1 x3) 0 2305843009213693950).bind fun bD3 => (if bD3 = true then (a8.l0 k (wrap64 (x3 + 1)) aM4 ap1 aM5) else ((b4.f 3 x3).bind fun az6 => (some (az6.1, az6.2))))) else (none)) else (some (0, 0))
end
def a8.f (k : Nat) (d8 : Int) (b9 : List Int) (e0 : List Int) : Option (Int × Int) := (i7.f d8 1 3).bind fun bp5 => (if bp5 = true then (if (b9.length : Int) > 30 then ((b4.f 2 0).bind fun aj0 => (some (aj0.1, aj0.2))) else (if (e0.length : Int) > 1000 then ((b4.f 10 0).bind fun aj1 => (some (aj1.1, aj1.2))) else (if d8 = 1 then (a8.j0 k ((b9.length : Int) != 0) d8 b9 e0) else (a8.j0 k false d8 b9 e0)))) else ((b4.f 4 0).bind fun aj2 => (some (aj2.1, aj2.2))))
theorem a8.mono_l : ∀ k, (∀ y0 y1 y2 y3, LeO (a8.j0 k y0 y1 y2 y3) (a8.j0 (k + 1) y0 y1 y2 y3)) ∧ (∀ y0 y1 y2 y3, LeO (a8.l0 k y0 y1 y2 y3) (a8.l0 (k + 1) y0 y1 y2 y3))
  | 0 => ⟨fun _ _ _ _ r h => by simp [a8.j0] at h, fun _ _ _ _ r h => by simp [a8.l0] at h⟩
  | k + 1 => by
    obtain ⟨t6, ih1⟩ := a8.mono_l k
    refine ⟨?_, ?_⟩
    all_goals intros; first | unfold a8.j0 | unfold a8.l0
    all_goals repeat' first | (with_reducible first | exact t6 _ _ _ _ | exact ih1 _ _ _ _ | exact LeO.refl _ | exact LeO.none _ | refine LeO.ite ?_ ?_ | refine LeO.bind ?_ (fun _ => ?_)) | exact t6 _ _ _ _ | exact ih1 _ _ _ _ | exact LeO.none _ | refine LeO.ite ?_ ?_ | refine LeO.bind ?_ (fun _ => ?_)
theorem a8.mono : ∀ a0 a1 a2 k, LeO (a8.f k a0 a1 a2) (a8.f (k + 1) a0 a1 a2) := by
  intro a0 a1 a2 k
  obtain ⟨t6, ih1⟩ := a8.mono_l k
  unfold a8.f
  repeat' first | (with_reducible first | exact t6 _ _ _ _ | exact ih1 _ _ _ _ | exact LeO.refl _ | exact LeO.none _ | refine LeO.ite ?_ ?_ | refine LeO.bind ?_ (fun _ => ?_)) | exact t6 _ _ _ _ | exact ih1 _ _ _ _ | exact LeO.none _ | refine LeO.ite ?_ ?_ | refine LeO.bind ?_ (fun _ => ?_)
set_option maxHeartbeats 8000000 in
set_option maxRecDepth 100000 in
theorem a8.calls (k : Nat) (d8 : Int) (i9 : Option Addr) (i5 : Nat) (b9 : List Int) (i1 : Option Addr) (i3 : Nat) (e0 : List Int) (r1 : Int) (r2 : Int) (w : World) (F9 : Kd.C (Kd.int .i64) w i9 b9.length b9) (G0 : b9.length ≤ i5) (D9 : Kd.C (Kd.int .u8) w i1 e0.length e0) (E0 : e0.length ≤ i3) (h : a8.f k d8 b9 e0 = some (r1, r2)) :
  Calls Try.prog 30 #[.agg #[.int .i64 d8, .slice i9 b9.length i5, .slice i1 e0.length i3]] w fun e w' => e = .returned (.agg #[.int .i64 r1, .int .i64 r2]) ∧ Below w.heap.size w w' := by
  have aw1 := Try.underlying44
  have aH5 := Try.underlying28
  have C4 := aZ F9
  have J6 := aZ G0
  clear F9 G0
  have G3 := aZ D9
  have N5 := aZ E0
  clear D9 E0
  have HB := aZ (Below.refl w.heap.size w)
  have H : ((i7.f d8 1 3).bind fun bp5 => (if bp5 = true then (if (b9.length : Int) > 30 then ((b4.f 2 0).bind fun aj0 => (some (aj0.1, aj0.2))) else (if (e0.length : Int) > 1000 then ((b4.f 10 0).bind fun aj1 => (some (aj1.1, aj1.2))) else (if d8 = 1 then (a8.j0 k ((b9.length : Int) != 0) d8 b9 e0) else (a8.j0 k false d8 b9 e0)))) else ((b4.f 4 0).bind fun aj2 => (some (aj2.1, aj2.2))))) = some (r1, r2) := h
  clear h
  replace H := Option.bind_eq_some_iff.mp H
  obtain ⟨bp5, A20, H⟩ := H
  replace H : (if bp5 = true then (if (b9.length : Int) > 30 then ((b4.f 2 0).bind fun aj0 => (some (aj0.1, aj0.2))) else (if (e0.length : Int) > 1000 then ((b4.f 10 0).bind fun aj1 => (some (aj1.1, aj1.2))) else (if d8 = 1 then (a8.j0 k ((b9.length : Int) != 0) d8 b9 e0) else (a8.j0 k false d8 b9 e0)))) else ((b4.f 4 0).bind fun aj2 => (some (aj2.1, aj2.2)))) = some (r1, r2) := H
  have A2 := aZ A20
  clear A20
  by_cases c3 : bp5 = true
  rotate_left
  · replace c3 := Bool.eq_false_iff.mpr c3
    subst c3
    have H1 : ((b4.f 4 0).bind fun aj2 => (some (aj2.1, aj2.2))) = some (r1, r2) := by rw [if_neg (show ¬ (false = true) by decide)] at H; exact H
    clear H
    have H := H1
    clear H1
    replace H := Option.bind_eq_some_iff.mp H
    obtain ⟨⟨bD4, cb1⟩, cq6, H⟩ := H
    replace H : (some (bD4, cb1)) = some (r1, r2) := H
    have A51 := aZ cq6
    clear cq6
    simp only [Option.some.injEq, Prod.mk.injEq] at H
    obtain ⟨rfl, rfl⟩ := H
    go_enter Try.func30, Try.ntmps30
    go_wp2_with (first | ((with_reducible refine gate_dst (N := 1) rfl ?_); (try (refine gate_guard (by rfl) ?_; dsimp only)); refine box_event ?hg (N := 1) ?hd (cs := #[.int .i64 d8, .slice i9 b9.length i5, .slice i1 e0.length i3]) (t := 44) ?hr ?_; (case hd => rfl); (case hg => rfl); (case hr => first | (go_simp; done) | (go_simp; rfl)); intro p1 hg w52 hbox hb; have g4 := aZ (hbox); have bu1 := xgh hg HB; have aF4 := xgh hg HB; replace HB := xhl HB hb; clear hb hbox hg) | ((with_reducible refine gate_dst (N := 2) rfl ?_); (try (refine gate_guard (by rfl) ?_; dsimp only)); refine box_event ?hg (N := 2) ?hd (cs := #[.int .i64 0, .int .i64 0]) (t := 28) ?hr ?_; (case hd => rfl); (case hg => rfl); (case hr => first | (go_simp; done) | (go_simp; rfl)); intro E9 hg w53 hbox hb; have l6 := aZ (hbox); have bu2 := xgh hg HB; have aF5 := xgh hg HB; replace HB := xhl HB hb; have z7 := xnl hg g4; have z8 := xng hg g4; replace g4 := xbb g4 hb; clear hb hbox hg; have cq7 := z7.out; have cq8 := z8.out; have cM0 : w53.cell? ⟨p1, 0, none⟩ = some (.int .i64 d8) := (blk_cell g4.out 0).trans rfl; have cM1 : w53.cell? ⟨p1, 1, none⟩ = some (.slice i9 b9.length i5) := (blk_cell g4.out 1).trans rfl; have cM2 : w53.cell? ⟨p1, 2, none⟩ = some (.slice i1 e0.length i3) := (blk_cell g4.out 2).trans rfl; have cM3 := blk_frozen g4.out 0; have cM4 := blk_frozen g4.out 1; have cM5 := blk_frozen g4.out 2) | ((with_reducible refine gate_callee (f := 19) rfl ?_); refine goesL_ (some 6) rfl rfl Try.func19 (by kernel_rfl) rfl #[.int .i64 d8, .int .i64 1, .int .i64 3] rfl xmp ?_; (with_reducible refine (i7.calls d8 1 3 false _ A2.out).mono ?_); rintro e w' ⟨rfl, ⟨nd, rfl⟩⟩; refine ⟨_, rfl, ?_⟩; (try (rw [drewN_self w53]; generalize hq_ : World.drewN w53 _ = w53; replace g4 : Aside0 (w53.heap[p1]? = some (.cells #[.int .i64 d8, .slice i9 b9.length i5, .slice i1 e0.length i3] 44 (0, 0))) := ⟨by rw [← hq_]; exact (xkq g4)⟩; replace l6 : Aside0 (w53.heap[E9]? = some (.cells #[.int .i64 0, .int .i64 0] 28 (0, 0))) := ⟨by rw [← hq_]; exact (xkq l6)⟩; replace HB : Aside0 (Below w.heap.size w w53) := ⟨by rw [← hq_]; exact (by repeat (first | (with_reducible first | exact HB.out | apply lA | apply lN | apply lD | refine lS ?_ aF4.out | refine lS ?_ aF5.out) | exact HB.out))⟩; clear hq_))) | ((with_reducible refine gate_callee (f := 18) rfl ?_); refine goesL_ (some 8) rfl rfl Try.func18 (by kernel_rfl) rfl #[.int .i64 4, .int .i64 0] rfl xmp ?_; (with_reducible refine (b4.calls 4 0 bD4 cb1 _ A51.out).mono ?_); rintro e w56 ⟨rfl, hb⟩; refine ⟨_, rfl, ?_⟩; replace g4 := xbb g4 hb; replace l6 := xbb l6 hb; replace HB := xhl HB hb; skip; (try clear hb); (try clear H3); (try clear hk); (try clear hi); have cM6 : w56.cell? ⟨E9, 0, none⟩ = some (.int .i64 0) := (blk_cell l6.out 0).trans rfl; have cM7 : w56.cell? ⟨E9, 1, none⟩ = some (.int .i64 0) := (blk_cell l6.out 1).trans rfl; have cM8 := blk_frozen l6.out 0; have cM9 := blk_frozen l6.out 1))
    refine bodyPost_ret (results_cell_row rfl _ _ E9 28 #[.int .i64 bD4, .int .i64 cb1] (0, 0) _ rfl (by (with_reducible repeat (first | refine bN ?_ _ | refine bD ?_ | refine bA ?_ _)); refine blk_put (cs := #[.int .i64 bD4, .int .i64 0]) ?_ 1 _ rfl; (with_reducible repeat (first | refine bN ?_ _ | refine bD ?_ | refine bA ?_ _)); refine blk_put (cs := #[.int .i64 0, .int .i64 0]) ?_ 0 _ rfl; (with_reducible repeat (first | refine bN ?_ _ | refine bD ?_ | refine bA ?_ _)); exact l6.out) Try.underlying28 rfl (by kernel_rfl)) rfl ?_
    exact ⟨xre, xq HB⟩

  subst c3
  have H1 : (if (b9.length : Int) > 30 then ((b4.f 2 0).bind fun aj0 => (some (aj0.1, aj0.2))) else (if (e0.length : Int) > 1000 then ((b4.f 10 0).bind fun aj1 => (some (aj1.1, aj1.2))) else (if d8 = 1 then (a8.j0 k ((b9.length : Int) != 0) d8 b9 e0) else (a8.j0 k false d8 b9 e0)))) = some (r1, r2) := by rw [if_pos rfl] at H; exact H
  clear H
  have H := H1
  clear H1
  by_cases c4 : (b9.length : Int) > 30
  · rw [if_pos c4] at H
    have Y8 : decide (30 < (b9.length : Int)) = true := decide_eq_true c4
    have aR3 : decide (30 < b9.length) = true := decide_eq_true (by omega)
    clear c4
    replace H := Option.bind_eq_some_iff.mp H
    obtain ⟨⟨bD5, cb2⟩, A50, H⟩ := H
    replace H : (some (bD5, cb2)) = some (r1, r2) := H
    have A5 := aZ A50
    clear A50
    simp only [Option.some.injEq, Prod.mk.injEq] at H
    obtain ⟨rfl, rfl⟩ := H
    go_enter Try.func30, Try.ntmps30
    go_wp2_with (first | ((with_reducible refine gate_dst (N := 1) rfl ?_); (try (refine gate_guard (by rfl) ?_; dsimp only)); refine box_event ?hg (N := 1) ?hd (cs := #[.int .i64 d8, .slice i9 b9.length i5, .slice i1 e0.length i3]) (t := 44) ?hr ?_; (case hd => rfl); (case hg => rfl); (case hr => first | (go_simp; done) | (go_simp; rfl)); intro p1 hg w6 hbox hb; have g4 := aZ (hbox); have bu1 := xgh hg HB; have aF4 := xgh hg HB; replace HB := xhl HB hb; clear hb hbox hg) | ((with_reducible refine gate_dst (N := 2) rfl ?_); (try (refine gate_guard (by rfl) ?_; dsimp only)); refine box_event ?hg (N := 2) ?hd (cs := #[.int .i64 0, .int .i64 0]) (t := 28) ?hr ?_; (case hd => rfl); (case hg => rfl); (case hr => first | (go_simp; done) | (go_simp; rfl)); intro E9 hg w7 hbox hb; have l6 := aZ (hbox); have bu2 := xgh hg HB; have aF5 := xgh hg HB; replace HB := xhl HB hb; have z7 := xnl hg g4; have z8 := xng hg g4; replace g4 := xbb g4 hb; clear hb hbox hg; have cq9 := z7.out; have cr0 := z8.out; have aF6 : w7.cell? ⟨p1, 0, none⟩ = some (.int .i64 d8) := (blk_cell g4.out 0).trans rfl; have bu3 : w7.cell? ⟨p1, 1, none⟩ = some (.slice i9 b9.length i5) := (blk_cell g4.out 1).trans rfl; have cb3 : w7.cell? ⟨p1, 2, none⟩ = some (.slice i1 e0.length i3) := (blk_cell g4.out 2).trans rfl; have aF7 := blk_frozen g4.out 0; have bu4 := blk_frozen g4.out 1; have cb4 := blk_frozen g4.out 2) | ((with_reducible refine gate_callee (f := 19) rfl ?_); refine goesL_ (some 6) rfl rfl Try.func19 (by kernel_rfl) rfl #[.int .i64 d8, .int .i64 1, .int .i64 3] rfl xmp ?_; (with_reducible refine (i7.calls d8 1 3 true _ A2.out).mono ?_); rintro e w' ⟨rfl, ⟨nd, rfl⟩⟩; refine ⟨_, rfl, ?_⟩; (try (rw [drewN_self w7]; generalize hq_ : World.drewN w7 _ = w7; replace g4 : Aside0 (w7.heap[p1]? = some (.cells #[.int .i64 d8, .slice i9 b9.length i5, .slice i1 e0.length i3] 44 (0, 0))) := ⟨by rw [← hq_]; exact (xkq g4)⟩; replace l6 : Aside0 (w7.heap[E9]? = some (.cells #[.int .i64 0, .int .i64 0] 28 (0, 0))) := ⟨by rw [← hq_]; exact (xkq l6)⟩; replace HB : Aside0 (Below w.heap.size w w7) := ⟨by rw [← hq_]; exact (by repeat (first | (with_reducible first | exact HB.out | apply lA | apply lN | apply lD | refine lS ?_ aF4.out | refine lS ?_ aF5.out) | exact HB.out))⟩; clear hq_)); have an8 : w7.cell? ⟨p1, 0, none⟩ = some (.int .i64 d8) := (blk_cell g4.out 0).trans rfl; have an9 : w7.cell? ⟨p1, 1, none⟩ = some (.slice i9 b9.length i5) := (blk_cell g4.out 1).trans rfl; have aB5 : w7.cell? ⟨p1, 2, none⟩ = some (.slice i1 e0.length i3) := (blk_cell g4.out 2).trans rfl; have ao0 := blk_frozen g4.out 0; have ao1 := blk_frozen g4.out 1; have aB6 := blk_frozen g4.out 2) | ((with_reducible refine gate_callee (f := 18) rfl ?_); refine goesL_ (some 13) rfl rfl Try.func18 (by kernel_rfl) rfl #[.int .i64 2, .int .i64 0] rfl xmp ?_; (with_reducible refine (b4.calls 2 0 bD5 cb2 _ A5.out).mono ?_); rintro e w11 ⟨rfl, hb⟩; refine ⟨_, rfl, ?_⟩; replace g4 := xbb g4 hb; replace l6 := xbb l6 hb; replace HB := xhl HB hb; skip; (try clear hb); (try clear H3); (try clear hk); (try clear hi); have bf3 : w11.cell? ⟨E9, 0, none⟩ = some (.int .i64 0) := (blk_cell l6.out 0).trans rfl; have bC2 : w11.cell? ⟨E9, 1, none⟩ = some (.int .i64 0) := (blk_cell l6.out 1).trans rfl; have bf4 := blk_frozen l6.out 0; have bC3 := blk_frozen l6.out 1))
    refine bodyPost_ret (results_cell_row rfl _ _ E9 28 #[.int .i64 bD5, .int .i64 cb2] (0, 0) _ rfl (by (with_reducible repeat (first | refine bN ?_ _ | refine bD ?_ | refine bA ?_ _)); refine blk_put (cs := #[.int .i64 bD5, .int .i64 0]) ?_ 1 _ rfl; (with_reducible repeat (first | refine bN ?_ _ | refine bD ?_ | refine bA ?_ _)); refine blk_put (cs := #[.int .i64 0, .int .i64 0]) ?_ 0 _ rfl; (with_reducible repeat (first | refine bN ?_ _ | refine bD ?_ | refine bA ?_ _)); exact l6.out) Try.underlying28 rfl (by kernel_rfl)) rfl ?_
    exact ⟨xre, xq HB⟩
  rw [if_neg c4] at H
  have Y8 : decide (30 < (b9.length : Int)) = false := decide_eq_false c4
  have aR3 : decide (30 < b9.length) = false := decide_eq_false (by omega)
  clear c4
  by_cases c13 : (e0.length : Int) > 1000
  · rw [if_pos c13] at H
    have bh2 : decide (1000 < (e0.length : Int)) = true := decide_eq_true c13
    have bT1 : decide (1000 < e0.length) = true := decide_eq_true (by omega)
    clear c13
    replace H := Option.bind_eq_some_iff.mp H
    obtain ⟨⟨bD6, cb5⟩, bu5, H⟩ := H
    replace H : (some (bD6, cb5)) = some (r1, r2) := H
    have A14 := aZ bu5
    clear bu5
    simp only [Option.some.injEq, Prod.mk.injEq] at H
    obtain ⟨rfl, rfl⟩ := H
    go_enter Try.func30, Try.ntmps30
    go_wp2_with (first | ((with_reducible refine gate_dst (N := 1) rfl ?_); (try (refine gate_guard (by rfl) ?_; dsimp only)); refine box_event ?hg (N := 1) ?hd (cs := #[.int .i64 d8, .slice i9 b9.length i5, .slice i1 e0.length i3]) (t := 44) ?hr ?_; (case hd => rfl); (case hg => rfl); (case hr => first | (go_simp; done) | (go_simp; rfl)); intro p1 hg w15 hbox hb; have g4 := aZ (hbox); have bu1 := xgh hg HB; have aF4 := xgh hg HB; replace HB := xhl HB hb; clear hb hbox hg) | ((with_reducible refine gate_dst (N := 2) rfl ?_); (try (refine gate_guard (by rfl) ?_; dsimp only)); refine box_event ?hg (N := 2) ?hd (cs := #[.int .i64 0, .int .i64 0]) (t := 28) ?hr ?_; (case hd => rfl); (case hg => rfl); (case hr => first | (go_simp; done) | (go_simp; rfl)); intro E9 hg w16 hbox hb; have l6 := aZ (hbox); have bu2 := xgh hg HB; have aF5 := xgh hg HB; replace HB := xhl HB hb; have z7 := xnl hg g4; have z8 := xng hg g4; replace g4 := xbb g4 hb; clear hb hbox hg; have bu6 := z7.out; have bu7 := z8.out; have bD7 : w16.cell? ⟨p1, 0, none⟩ = some (.int .i64 d8) := (blk_cell g4.out 0).trans rfl; have bD8 : w16.cell? ⟨p1, 1, none⟩ = some (.slice i9 b9.length i5) := (blk_cell g4.out 1).trans rfl; have cN0 : w16.cell? ⟨p1, 2, none⟩ = some (.slice i1 e0.length i3) := (blk_cell g4.out 2).trans rfl; have bD9 := blk_frozen g4.out 0; have bE0 := blk_frozen g4.out 1; have cN1 := blk_frozen g4.out 2) | ((with_reducible refine gate_callee (f := 19) rfl ?_); refine goesL_ (some 6) rfl rfl Try.func19 (by kernel_rfl) rfl #[.int .i64 d8, .int .i64 1, .int .i64 3] rfl xmp ?_; (with_reducible refine (i7.calls d8 1 3 true _ A2.out).mono ?_); rintro e w' ⟨rfl, ⟨nd, rfl⟩⟩; refine ⟨_, rfl, ?_⟩; (try (rw [drewN_self w16]; generalize hq_ : World.drewN w16 _ = w16; replace g4 : Aside0 (w16.heap[p1]? = some (.cells #[.int .i64 d8, .slice i9 b9.length i5, .slice i1 e0.length i3] 44 (0, 0))) := ⟨by rw [← hq_]; exact (xkq g4)⟩; replace l6 : Aside0 (w16.heap[E9]? = some (.cells #[.int .i64 0, .int .i64 0] 28 (0, 0))) := ⟨by rw [← hq_]; exact (xkq l6)⟩; replace HB : Aside0 (Below w.heap.size w w16) := ⟨by rw [← hq_]; exact (by repeat (first | (with_reducible first | exact HB.out | apply lA | apply lN | apply lD | refine lS ?_ aF4.out | refine lS ?_ aF5.out) | exact HB.out))⟩; clear hq_)); have aM6 : w16.cell? ⟨p1, 0, none⟩ = some (.int .i64 d8) := (blk_cell g4.out 0).trans rfl; have aM7 : w16.cell? ⟨p1, 1, none⟩ = some (.slice i9 b9.length i5) := (blk_cell g4.out 1).trans rfl; have bh3 : w16.cell? ⟨p1, 2, none⟩ = some (.slice i1 e0.length i3) := (blk_cell g4.out 2).trans rfl; have aM8 := blk_frozen g4.out 0; have aM9 := blk_frozen g4.out 1; have bh4 := blk_frozen g4.out 2) | ((with_reducible refine gate_callee (f := 18) rfl ?_); refine goesL_ (some 18) rfl rfl Try.func18 (by kernel_rfl) rfl #[.int .i64 10, .int .i64 0] rfl xmp ?_; (with_reducible refine (b4.calls 10 0 bD6 cb5 _ A14.out).mono ?_); rintro e w20 ⟨rfl, hb⟩; refine ⟨_, rfl, ?_⟩; replace g4 := xbb g4 hb; replace l6 := xbb l6 hb; replace HB := xhl HB hb; skip; (try clear hb); (try clear H3); (try clear hk); (try clear hi); have aC5 : w20.cell? ⟨E9, 0, none⟩ = some (.int .i64 0) := (blk_cell l6.out 0).trans rfl; have aC6 : w20.cell? ⟨E9, 1, none⟩ = some (.int .i64 0) := (blk_cell l6.out 1).trans rfl; have aC7 := blk_frozen l6.out 0; have aC8 := blk_frozen l6.out 1))
    refine bodyPost_ret (results_cell_row rfl _ _ E9 28 #[.int .i64 bD6, .int .i64 cb5] (0, 0) _ rfl (by (with_reducible repeat (first | refine bN ?_ _ | refine bD ?_ | refine bA ?_ _)); refine blk_put (cs := #[.int .i64 bD6, .int .i64 0]) ?_ 1 _ rfl; (with_reducible repeat (first | refine bN ?_ _ | refine bD ?_ | refine bA ?_ _)); refine blk_put (cs := #[.int .i64 0, .int .i64 0]) ?_ 0 _ rfl; (with_reducible repeat (first | refine bN ?_ _ | refine bD ?_ | refine bA ?_ _)); exact l6.out) Try.underlying28 rfl (by kernel_rfl)) rfl ?_
    exact ⟨xre, xq HB⟩
  rw [if_neg c13] at H
  have bh2 : decide (1000 < (e0.length : Int)) = false := decide_eq_false c13
  have bT1 : decide (1000 < e0.length) = false := decide_eq_false (by omega)
  clear c13
  have cb6 := aZ H
  clear H
  go_enter Try.func30, Try.ntmps30
  go_upto_region 7 with (first | ((with_reducible refine gate_dst (N := 1) rfl ?_); (try (refine gate_guard (by rfl) ?_; dsimp only)); refine box_event ?hg (N := 1) ?hd (cs := #[.int .i64 d8, .slice i9 b9.length i5, .slice i1 e0.length i3]) (t := 44) ?hr ?_; (case hd => rfl); (case hg => rfl); (case hr => first | (go_simp; done) | (go_simp; rfl)); intro p1 hg w23 hbox hb; have g4 := aZ (hbox); have bu1 := xgh hg HB; have aF4 := xgh hg HB; replace HB := xhl HB hb; clear hb hbox hg) | ((with_reducible refine gate_dst (N := 2) rfl ?_); (try (refine gate_guard (by rfl) ?_; dsimp only)); refine box_event ?hg (N := 2) ?hd (cs := #[.int .i64 0, .int .i64 0]) (t := 28) ?hr ?_; (case hd => rfl); (case hg => rfl); (case hr => first | (go_simp; done) | (go_simp; rfl)); intro E9 hg w24 hbox hb; have l6 := aZ (hbox); have bu2 := xgh hg HB; have aF5 := xgh hg HB; replace HB := xhl HB hb; have z7 := xnl hg g4; have z8 := xng hg g4; replace g4 := xbb g4 hb; clear hb hbox hg; have bu8 := z7.out; have bu9 := z8.out; have ao6 : w24.cell? ⟨p1, 0, none⟩ = some (.int .i64 d8) := (blk_cell g4.out 0).trans rfl; have ao7 : w24.cell? ⟨p1, 1, none⟩ = some (.slice i9 b9.length i5) := (blk_cell g4.out 1).trans rfl; have aL8 : w24.cell? ⟨p1, 2, none⟩ = some (.slice i1 e0.length i3) := (blk_cell g4.out 2).trans rfl; have ao8 := blk_frozen g4.out 0; have ao9 := blk_frozen g4.out 1; have aL9 := blk_frozen g4.out 2) | ((with_reducible refine gate_callee (f := 19) rfl ?_); refine goesL_ (some 6) rfl rfl Try.func19 (by kernel_rfl) rfl #[.int .i64 d8, .int .i64 1, .int .i64 3] rfl xmp ?_; (with_reducible refine (i7.calls d8 1 3 true _ A2.out).mono ?_); rintro e w' ⟨rfl, ⟨nd, rfl⟩⟩; refine ⟨_, rfl, ?_⟩))
  (try simp only [Act.put, List.setIfInBounds_toArray, List.set_cons_zero, List.set_cons_succ])
  go_cut [27] (fun v27 wc => ∃ (kq : Nat) (aN0 : Bool), v27 = .bool aN0 ∧ Aside0 (a8.j0 kq aN0 d8 b9 e0 = some (r1, r2)) ∧ Aside0 (kq ≤ k) ∧ Aside0 (wc.heap[p1]? = some (.cells #[.int .i64 d8, (.slice i9 b9.length i5), (.slice i1 e0.length i3)] 44 (0, 0))) ∧ Aside0 (wc.heap[E9]? = some (.cells #[.int .i64 0, .int .i64 0] 28 (0, 0))) ∧ Aside0 (Below w.heap.size w wc))
  case first =>
   have H := cb6.out
   clear cb6
   by_cases c27 : d8 = 1
   rotate_left
   · rw [if_neg c27] at H
     have aT4 : (d8 == 1) = false := beq_eq_false_iff_ne.mpr c27
     have cr2 : (d8 != 1) = true := bne_iff_ne.mpr c27
     (first | rw [aT4] | (simp only [i64_w, i32_w]; rw [aT4]) | skip)
     have H' := aZ H
     clear H
     have bv0 := z7.out
     have bv1 := z8.out
     have bh6 : w24.cell? ⟨p1, 0, none⟩ = some (.int .i64 d8) := (blk_cell g4.out 0).trans rfl
     have bE2 : w24.cell? ⟨p1, 1, none⟩ = some (.slice i9 b9.length i5) := (blk_cell g4.out 1).trans rfl
     have cN2 : w24.cell? ⟨p1, 2, none⟩ = some (.slice i1 e0.length i3) := (blk_cell g4.out 2).trans rfl
     have bh7 := blk_frozen g4.out 0
     have bE3 := blk_frozen g4.out 1
     have cN3 := blk_frozen g4.out 2
     go_wp2
     go_meet
     case rel => exact ⟨_, (false), xrs, H', ⟨by first | omega | exact Nat.le_refl _⟩, xk g4, xk l6, xb HB⟩
   rw [if_pos c27] at H
   have aT4 : (d8 == 1) = true := beq_iff_eq.mpr c27
   have cr2 : (d8 != 1) = false := bne_eq_false_iff_eq.mpr c27
   clear c27
   (first | rw [aT4] | (simp only [i64_w, i32_w]; rw [aT4]) | skip)
   have H' := aZ H
   clear H
   have bT2 := z7.out
   have bT3 := z8.out
   have bf5 : w24.cell? ⟨p1, 0, none⟩ = some (.int .i64 d8) := (blk_cell g4.out 0).trans rfl
   have bf6 : w24.cell? ⟨p1, 1, none⟩ = some (.slice i9 b9.length i5) := (blk_cell g4.out 1).trans rfl
   have bf7 : w24.cell? ⟨p1, 2, none⟩ = some (.slice i1 e0.length i3) := (blk_cell g4.out 2).trans rfl
   have bf8 := blk_frozen g4.out 0
   have bf9 := blk_frozen g4.out 1
   have bg0 := blk_frozen g4.out 2
   go_wp2
   go_meet
   case rel => exact ⟨_, (((b9.length : Int) != 0)), xrs, H', ⟨by first | omega | exact Nat.le_refl _⟩, xk g4, xk l6, xb HB⟩
  case rest =>
   clear cb6
   (try clear c3); (try clear c4); (try clear Y8); (try clear aR3); (try clear c13); (try clear bh2); (try clear bT1); (try clear ao6); (try clear ao7); (try clear aL8); (try clear ao8); (try clear ao9); (try clear aL9)
   obtain ⟨kq, aN0, rfl, HA, cr3, g4, l6, HB⟩ := hcut
   cases kq with
   | zero => exact absurd HA.out (by simp [a8.j0])
   | succ cb7 =>
    have H := HA.out
    clear HA
    simp only [a8.j0] at H
    by_cases c32 : aN0 = true
    · subst c32
      have H1 : ((b4.f 5 0).bind fun aT1 => (some (aT1.1, aT1.2))) = some (r1, r2) := by rw [if_pos rfl] at H; exact H
      clear H
      have H := H1
      clear H1
      replace H := Option.bind_eq_some_iff.mp H
      obtain ⟨⟨bE4, cb8⟩, cr4, H⟩ := H
      replace H : (some (bE4, cb8)) = some (r1, r2) := H
      have A33 := aZ cr4
      clear cr4
      simp only [Option.some.injEq, Prod.mk.injEq] at H
      obtain ⟨rfl, rfl⟩ := H
      go_wp2_with (first | ((with_reducible refine gate_callee (f := 18) rfl ?_); refine goesL_ (some 28) rfl rfl Try.func18 (by kernel_rfl) rfl #[.int .i64 5, .int .i64 0] rfl xmp ?_; (with_reducible refine (b4.calls 5 0 bE4 cb8 _ A33.out).mono ?_); rintro e w34 ⟨rfl, hb⟩; refine ⟨_, rfl, ?_⟩; replace g4 := xbb g4 hb; replace l6 := xbb l6 hb; replace HB := xhl HB hb; skip; (try clear hb); (try clear H3); (try clear hk); (try clear hi); have bT5 := z8.out; have bT6 := z7.out; have cN4 : w34.cell? ⟨E9, 0, none⟩ = some (.int .i64 0) := (blk_cell l6.out 0).trans rfl; have cN5 : w34.cell? ⟨E9, 1, none⟩ = some (.int .i64 0) := (blk_cell l6.out 1).trans rfl; have cN6 := blk_frozen l6.out 0; have cN7 := blk_frozen l6.out 1))
      refine bodyPost_ret (results_cell_row rfl _ _ E9 28 #[.int .i64 bE4, .int .i64 cb8] (0, 0) _ rfl (by (with_reducible repeat (first | refine bN ?_ _ | refine bD ?_ | refine bA ?_ _)); refine blk_put (cs := #[.int .i64 bE4, .int .i64 0]) ?_ 1 _ rfl; (with_reducible repeat (first | refine bN ?_ _ | refine bD ?_ | refine bA ?_ _)); refine blk_put (cs := #[.int .i64 0, .int .i64 0]) ?_ 0 _ rfl; (with_reducible repeat (first | refine bN ?_ _ | refine bD ?_ | refine bA ?_ _)); exact l6.out) Try.underlying28 rfl (by kernel_rfl)) rfl ?_
      exact ⟨xre, xq HB⟩
    replace c32 := Bool.eq_false_iff.mpr c32
    subst c32
    have H1 : (a8.l0 cb7 0 d8 b9 e0) = some (r1, r2) := by rw [if_neg (show ¬ (false = true) by decide)] at H; exact H
    clear H
    have H := H1
    clear H1
    have H' := aZ H
    clear H
    go_wp2
    go_loopg [3] cb7 (fun kq v3 w' => ∃ (V2 : Int) (O6 : Int) (G5 : Int), v3 = .int .i64 V2 ∧ Aside0 (a8.l0 kq V2 d8 b9 e0 = some (r1, r2)) ∧ Aside0 (kq ≤ cb7) ∧ Aside0 (w'.heap[p1]? = some (.cells #[.int .i64 d8, (.slice i9 b9.length i5), (.slice i1 e0.length i3)] 44 (0, 0))) ∧ Aside0 (w'.heap[E9]? = some (.cells #[.int .i64 O6, .int .i64 G5] 28 (0, 0))) ∧ Aside0 (Below w.heap.size w w'))
    case atStart => exact ⟨(0), (0), (0), xrs, H', ⟨Nat.le_refl _⟩, xk g4, xk l6, xb HB⟩
    case round =>
     clear H'
     (try clear c32)
     obtain ⟨V2, O6, G5, rfl, HA, HK2, g4, l6, HB⟩ := hrel
     cases gk with
     | zero => exact absurd HA.out (by simp [a8.l0])
     | succ k2 =>
      have H := HA.out
      clear HA
      simp only [a8.l0] at H
      by_cases c37 : V2 < (b9.length : Int)
      rotate_left
      · rw [if_neg c37] at H
        have cr5 : decide (V2 < (b9.length : Int)) = false := decide_eq_false c37
        clear c37
        simp only [Option.some.injEq, Prod.mk.injEq] at H
        obtain ⟨rfl, rfl⟩ := H
        have cr6 := z7.out
        have cr7 := z8.out
        have cN8 : wr.cell? ⟨p1, 0, none⟩ = some (.int .i64 d8) := (blk_cell g4.out 0).trans rfl
        have cN9 : wr.cell? ⟨p1, 1, none⟩ = some (.slice i9 b9.length i5) := (blk_cell g4.out 1).trans rfl
        have cO0 : wr.cell? ⟨p1, 2, none⟩ = some (.slice i1 e0.length i3) := (blk_cell g4.out 2).trans rfl
        have cO1 := blk_frozen g4.out 0
        have cO2 := blk_frozen g4.out 1
        have cO3 := blk_frozen g4.out 2
        have cO4 : wr.cell? ⟨E9, 0, none⟩ = some (.int .i64 O6) := (blk_cell l6.out 0).trans rfl
        have cO5 : wr.cell? ⟨E9, 1, none⟩ = some (.int .i64 G5) := (blk_cell l6.out 1).trans rfl
        have cO6 := blk_frozen l6.out 0
        have cO7 := blk_frozen l6.out 1
        go_wp2
        refine bodyPost_ret (results_cell_row rfl _ _ E9 28 #[.int .i64 0, .int .i64 0] (0, 0) _ rfl (by (with_reducible repeat (first | refine bN ?_ _ | refine bD ?_ | refine bA ?_ _)); refine blk_put (cs := #[.int .i64 0, .int .i64 G5]) ?_ 1 _ rfl; (with_reducible repeat (first | refine bN ?_ _ | refine bD ?_ | refine bA ?_ _)); refine blk_put (cs := #[.int .i64 O6, .int .i64 G5]) ?_ 0 _ rfl; (with_reducible repeat (first | refine bN ?_ _ | refine bD ?_ | refine bA ?_ _)); exact l6.out) Try.underlying28 rfl (by kernel_rfl)) rfl ?_
        exact ⟨xre, xq HB⟩
      rw [if_pos c37] at H
      have cr5 : decide (V2 < (b9.length : Int)) = true := decide_eq_true c37
      clear c37
      by_cases c38 : 0 ≤ V2
      rotate_left
      · rw [if_neg c38] at H
        exact absurd H (by simp)
      rw [if_pos c38] at H
      have dL1 : decide (0 ≤ V2) = true := decide_eq_true c38
      clear c38
      replace H := Option.bind_eq_some_iff.mp H
      obtain ⟨bD3, bt9, H⟩ := H
      replace H : (if bD3 = true then (a8.l0 k2 (wrap64 (V2 + 1)) d8 b9 e0) else ((b4.f 3 V2).bind fun az6 => (some (az6.1, az6.2)))) = some (r1, r2) := H
      have A39 := aZ bt9
      clear bt9
      by_cases c40 : bD3 = true
      · subst c40
        have H1 : (a8.l0 k2 (wrap64 (V2 + 1)) d8 b9 e0) = some (r1, r2) := by rw [if_pos rfl] at H; exact H
        clear H
        have H := H1
        clear H1
        have H' := aZ H
        clear H
        have bS6 := z7.out
        have bS7 := z8.out
        have bg3 : wr.cell? ⟨p1, 0, none⟩ = some (.int .i64 d8) := (blk_cell g4.out 0).trans rfl
        have bg4 : wr.cell? ⟨p1, 1, none⟩ = some (.slice i9 b9.length i5) := (blk_cell g4.out 1).trans rfl
        have bg5 : wr.cell? ⟨p1, 2, none⟩ = some (.slice i1 e0.length i3) := (blk_cell g4.out 2).trans rfl
        have bg6 := blk_frozen g4.out 0
        have bg7 := blk_frozen g4.out 1
        have bg8 := blk_frozen g4.out 2
        have aX5 : 0 ≤ (V2 : Int) := of_decide_eq_true xas
        have aX6 : V2 < (b9.length : Int) := of_decide_eq_true xas
        obtain ⟨bT7, cb9, ap2⟩ := Kd.at_int C4.out V2 aX5 aX6
        cases cb9
        replace ap2 := xcl HB ap2
        replace aX5 := eq_true aX5
        replace aX6 := eq_true aX6
        go_wp2_with (first | ((with_reducible refine gate_callee (f := 19) rfl ?_); refine goesL_ (some 41) rfl rfl Try.func19 (by kernel_rfl) rfl #[.int .i64 (rd b9 V2), .int .i64 0, .int .i64 2305843009213693950] rfl xmp ?_; (with_reducible refine (i7.calls (rd b9 V2) 0 2305843009213693950 true _ A39.out).mono ?_); rintro e w' ⟨rfl, ⟨nd, rfl⟩⟩; refine ⟨_, rfl, ?_⟩))
        go_roundg k2
        case measure => have := cr3.out; have := HK2.out; omega
        case rel => exact ⟨(wrap64 (V2 + 1)), (O6), (G5), xrs, H', ⟨by have := cr3.out; have := HK2.out; omega⟩, xk g4, xk l6, xb HB⟩
      replace c40 := Bool.eq_false_iff.mpr c40
      subst c40
      have H1 : ((b4.f 3 V2).bind fun az6 => (some (az6.1, az6.2))) = some (r1, r2) := by rw [if_neg (show ¬ (false = true) by decide)] at H; exact H
      clear H
      have H := H1
      clear H1
      replace H := Option.bind_eq_some_iff.mp H
      obtain ⟨⟨bE5, cc0⟩, cr8, H⟩ := H
      replace H : (some (bE5, cc0)) = some (r1, r2) := H
      have A43 := aZ cr8
      clear cr8
      simp only [Option.some.injEq, Prod.mk.injEq] at H
      obtain ⟨rfl, rfl⟩ := H
      have cr9 := z7.out
      have cs1 := z8.out
      have bh8 : wr.cell? ⟨p1, 0, none⟩ = some (.int .i64 d8) := (blk_cell g4.out 0).trans rfl
      have bh9 : wr.cell? ⟨p1, 1, none⟩ = some (.slice i9 b9.length i5) := (blk_cell g4.out 1).trans rfl
      have bE6 : wr.cell? ⟨p1, 2, none⟩ = some (.slice i1 e0.length i3) := (blk_cell g4.out 2).trans rfl
      have bi0 := blk_frozen g4.out 0
      have bi1 := blk_frozen g4.out 1
      have bE7 := blk_frozen g4.out 2
      have aX5 : 0 ≤ (V2 : Int) := of_decide_eq_true xas
      have aX6 : V2 < (b9.length : Int) := of_decide_eq_true xas
      obtain ⟨bT7, cb9, ap2⟩ := Kd.at_int C4.out V2 aX5 aX6
      cases cb9
      replace ap2 := xcl HB ap2
      replace aX5 := eq_true aX5
      replace aX6 := eq_true aX6
      go_wp2_with (first | ((with_reducible refine gate_callee (f := 19) rfl ?_); refine goesL_ (some 41) rfl rfl Try.func19 (by kernel_rfl) rfl #[.int .i64 (rd b9 V2), .int .i64 0, .int .i64 2305843009213693950] rfl xmp ?_; (with_reducible refine (i7.calls (rd b9 V2) 0 2305843009213693950 false _ A39.out).mono ?_); rintro e w' ⟨rfl, ⟨nd, rfl⟩⟩; refine ⟨_, rfl, ?_⟩; (try (rw [drewN_self wr]; generalize hq_ : World.drewN wr _ = wr; replace g4 : Aside0 (wr.heap[p1]? = some (.cells #[.int .i64 d8, .slice (some bT7) b9.length i5, .slice i1 e0.length i3] 44 (0, 0))) := ⟨by rw [← hq_]; exact (xkq g4)⟩; replace l6 : Aside0 (wr.heap[E9]? = some (.cells #[.int .i64 O6, .int .i64 G5] 28 (0, 0))) := ⟨by rw [← hq_]; exact (xkq l6)⟩; replace HB : Aside0 (Below w.heap.size w wr) := ⟨by rw [← hq_]; exact (by repeat (first | (with_reducible first | exact HB.out | apply lA | apply lN | apply lD | refine lS ?_ aF4.out | refine lS ?_ aF5.out) | exact HB.out))⟩; clear hq_))) | ((with_reducible refine gate_callee (f := 18) rfl ?_); refine goesL_ (some 44) rfl rfl Try.func18 (by kernel_rfl) rfl #[.int .i64 3, .int .i64 V2] rfl xmp ?_; (with_reducible refine (b4.calls 3 V2 bE5 cc0 _ A43.out).mono ?_); rintro e w46 ⟨rfl, hb⟩; refine ⟨_, rfl, ?_⟩; replace g4 := xbb g4 hb; replace l6 := xbb l6 hb; replace HB := xhl HB hb; skip; (try clear hb); (try clear H3); (try clear hk); (try clear hi); have aM0 : w46.cell? ⟨E9, 0, none⟩ = some (.int .i64 O6) := (blk_cell l6.out 0).trans rfl; have bg9 : w46.cell? ⟨E9, 1, none⟩ = some (.int .i64 G5) := (blk_cell l6.out 1).trans rfl; have aM1 := blk_frozen l6.out 0; have bh0 := blk_frozen l6.out 1))
      refine bodyPost_ret (results_cell_row rfl _ _ E9 28 #[.int .i64 bE5, .int .i64 cc0] (0, 0) _ rfl (by (with_reducible repeat (first | refine bN ?_ _ | refine bD ?_ | refine bA ?_ _)); refine blk_put (cs := #[.int .i64 bE5, .int .i64 G5]) ?_ 1 _ rfl; (with_reducible repeat (first | refine bN ?_ _ | refine bD ?_ | refine bA ?_ _)); refine blk_put (cs := #[.int .i64 O6, .int .i64 G5]) ?_ 0 _ rfl; (with_reducible repeat (first | refine bN ?_ _ | refine bD ?_ | refine bA ?_ _)); exact l6.out) Try.underlying28 rfl (by kernel_rfl)) rfl ?_
      exact ⟨xre, xq HB⟩

end Go.Proofs.Ytnmkmamobhkcbaa.P
