/- Words of this seat's prover: an argument that came in, of whatever kind (numbers, bools, strings, slices, structs, nested), read as a value of its Lean type, with the bounds that the row's reach pays. -/
import Derived.Test.YtnmkmamobhkcbaaWWords
import Derived.Deep.Slices
import Derived.ChangeSame
import Derived.ChangeArms
import Derived.SizedLaws
import Derived.DataReads
namespace Go.Proofs.YtnmkmamobhkcbaaW.PrintOpen
open Go.ChangeShapes Go.WideShapes Go.RowKit Go.Proofs.YtnmkmamobhkcbaaW.PrintWords
set_option linter.unusedVariables false

def Fits {H : Type} (P : Program) (t : TypeId) (d : DataW H) : Prop := ∀ n ∈ d.weights P t, n ≤ 140737488351232

def Opens {α : Type} (P : Program) (t : TypeId) (d : Kd α) (G : α → Prop) : Prop :=
  P.cellsOf t = d.sz ∧ ∀ (H : Type) (enc : TypeId × Value → H) (w : World) (base : Nat) (spare : Nat → Bool) (held : Bool) (fuel : Nat) (cs : List Value) (x : DataW H × List MemPlace),
    DataW.trod enc P w base spare held fuel t cs = some x → Fits P t x.1 → ∃ a, d.K w a cs ∧ G a

def OpensFs {α : Type} (P : Program) (fs : List Field) (o n : Nat) (d : Kd α) (G : α → Prop) : Prop :=
  n = o + d.sz ∧ ∀ (H : Type) (enc : TypeId × Value → H) (w : World) (base : Nat) (spare : Nat → Bool) (held : Bool) (fuel : Nat) (cs : List Value) (xs : List (DataW H × List MemPlace)),
    cs.length = n → xs.length = fs.length →
    (∀ (i : Nat) (f : Field), fs[i]? = some f → DataW.trod enc P w base spare held fuel f.type ((cs.drop f.offset).take (P.cellsOf f.type)) = xs[i]?) →
    (∀ (i : Nat) (f : Field) (x : DataW H × List MemPlace), fs[i]? = some f → xs[i]? = some x → Fits P f.type x.1) →
    ∃ a, d.K w a (cs.drop o) ∧ G a

theorem opens_int {P : Program} {t : TypeId} {k : IntKind} (ht : P.underlying t = some (.int k)) (hc : P.cellsOf t = 1) : Opens P t (Kd.int k) (fun n => (Lit.int k n).wf = true) :=
  ⟨hc, fun H enc w base spare held fuel cs x h _ => by
    obtain ⟨n, rfl, _, hw⟩ := DataW.trod_int ht h
    exact ⟨n, rfl, hw⟩⟩

theorem weightsAll_mem {H : Type} {P : Program} {e : TypeId} : ∀ {ds : List (DataW H)} {d : DataW H}, d ∈ ds → ∀ n ∈ d.weights P e, n ∈ DataW.weightsAll P e ds
  | d0 :: ds, d, hd, n, hn => by
    simp only [DataW.weightsAll, List.mem_append]
    rcases List.mem_cons.1 hd with rfl | hd
    · exact Or.inl hn
    · exact Or.inr (weightsAll_mem hd n hn)

theorem choose_list {α : Type} {Q : Nat → α → Prop} : ∀ n : Nat, (∀ i, i < n → ∃ x, Q i x) → ∃ xs : List α, xs.length = n ∧ ∀ i x, xs[i]? = some x → Q i x
  | 0, _ => ⟨[], rfl, fun i x h => by simp at h⟩
  | n + 1, h => by
    obtain ⟨xs, hl, hx⟩ := choose_list n (fun i hi => h i (by omega))
    obtain ⟨y, hy⟩ := h n (by omega)
    refine ⟨xs ++ [y], by simp [hl], fun i x hi => ?_⟩
    rcases Nat.lt_or_ge i xs.length with hlt | hge
    · rw [List.getElem?_append_left hlt] at hi
      exact hx i x hi
    · have hlt2 := (List.getElem?_eq_some_iff.1 hi).1
      have he : i = xs.length := by
        rw [List.length_append, List.length_singleton] at hlt2
        omega
      subst he
      have : y = x := by simpa using hi
      subst this
      rw [hl]
      exact hy

theorem opens_slice {α : Type} {P : Program} {t e : TypeId} {d : Kd α} {G : α → Prop} {B : Nat} (ht : P.underlying t = some (.slice e)) (hc : P.cellsOf t = 1) (hB : P.bytesOf e = B) (ho : Opens P e d G) :
    Opens P t (Kd.slice e d) (fun xs => xs.length * B ≤ 140737488351232 ∧ ∀ x ∈ xs, G x) :=
  ⟨hc, fun H enc w base spare held fuel cs x h hf => by
    rcases Go.Deep.open_slice ht h with ⟨rfl, rfl⟩ | ⟨a, len, cap, m, n, D, Pl, rfl, hb, hl, hm, hmm, rfl, hi⟩
    · exact ⟨[], ⟨none, 0, rfl, Nat.le_refl _, rfl, by simp, fun h => absurd h (Nat.lt_irrefl 0)⟩, by simp, fun x hx => by simp at hx⟩
    · have hlm : len ≤ m := by rw [hmm]; split <;> omega
      have hel : ∀ i, i < len → ∃ y, (∃ c, c.length = d.sz ∧ d.K w y c ∧ ∀ j u, c[j]? = some u → w.cell? (a.add (i * d.sz + j)) = some u) ∧ G y := by
        intro i hil
        obtain ⟨cs', hcs, htr⟩ := hi i (by omega)
        have hfit : Fits P e (D i) := fun k hk => hf k (by
          simp only [DataW.weights, ht]
          refine List.mem_cons_of_mem _ (List.mem_append_left _ (weightsAll_mem (d := D i) ?_ k hk))
          exact List.mem_map.2 ⟨i, List.mem_range.2 hil, rfl⟩)
        obtain ⟨y, hy, hg⟩ := ho.2 H enc w base spare held n cs' (D i, Pl i) htr hfit
        obtain ⟨_, hlen, hat⟩ := World.cells?_some hcs
        refine ⟨y, ⟨cs', by rw [hlen, ho.1], hy, fun j u hu => ?_⟩, hg⟩
        have hj := (List.getElem?_eq_some_iff.1 hu).1
        have := hat j (by omega)
        rw [ho.1, Go.Deep.add_add] at this
        rw [this, hu]
      obtain ⟨xs, hxl, hx⟩ := choose_list len hel
      have hW : len * B ≤ 140737488351232 := by
        have := hf ((len + (m - len)) * B) (by simp [DataW.weights, ht, hB])
        exact Nat.le_trans (Nat.mul_le_mul_right _ (by omega)) this
      refine ⟨xs, ⟨some a, cap, by rw [hxl], by omega, rfl, by rw [hxl]; simp only [maxLen] at hm; omega, fun _ => ⟨a, rfl, fun j p hj => (hx j p hj).1⟩⟩, by rw [hxl]; exact hW, fun x hxm => ?_⟩
      obtain ⟨i, hilt, hieq⟩ := List.mem_iff_getElem.1 hxm
      exact (hx i x (by rw [List.getElem?_eq_getElem hilt, hieq])).2⟩

theorem opensFs_one {α : Type} {P : Program} {f : Field} {o n : Nat} {d : Kd α} {G : α → Prop} (h : Opens P f.type d G) (ho : f.offset = o) (hn : n = o + d.sz) : OpensFs P [f] o n d G :=
  ⟨hn, fun H enc w base spare held fuel cs xs hcl hxl htr hfit => by
    match xs, hxl with
    | [x], _ =>
      have h1 := htr 0 f rfl
      simp only [List.getElem?_cons_zero] at h1
      rw [ho, h.1, List.take_of_length_le (by rw [List.length_drop]; omega)] at h1
      exact h.2 H enc w base spare held fuel _ x h1 (hfit 0 f x rfl rfl)⟩

theorem opensFs_cons {α β : Type} {P : Program} {f : Field} {fs : List Field} {o n : Nat} {d1 : Kd α} {d2 : Kd β} {G1 : α → Prop} {G2 : β → Prop} (h : Opens P f.type d1 G1) (ho : f.offset = o) (hs : OpensFs P fs (o + d1.sz) n d2 G2) :
    OpensFs P (f :: fs) o n (Kd.pair d1 d2) (fun x => G1 x.1 ∧ G2 x.2) :=
  ⟨by rw [hs.1]; show _ = o + (d1.sz + d2.sz); omega, fun H enc w base spare held fuel cs xs hcl hxl htr hfit => by
    match xs, hxl with
    | x :: xs, hxl =>
      have h1 := htr 0 f rfl
      simp only [List.getElem?_cons_zero] at h1
      rw [ho, h.1] at h1
      obtain ⟨a, ha, hga⟩ := h.2 H enc w base spare held fuel _ x h1 (hfit 0 f x rfl rfl)
      obtain ⟨b, hb, hgb⟩ := hs.2 H enc w base spare held fuel cs xs hcl (by simpa using hxl) (fun i g hg => by simpa using htr (i + 1) g (by simpa using hg)) (fun i g y hg hy => hfit (i + 1) g y (by simpa using hg) (by simpa using hy))
      exact ⟨(a, b), ⟨_, _, by rw [← List.drop_drop]; exact (List.take_append_drop d1.sz (cs.drop o)).symm, ha, hb⟩, hga, hgb⟩⟩

theorem opens_struct {α β : Type} {P : Program} {t : TypeId} {fs : Array Field} {n : Nat} {d : Kd α} {G : α → Prop} (ht : P.underlying t = some (.struct fs)) (hc : P.cellsOf t = n) (h : OpensFs P fs.toList 0 n d G) (f : β → α) (g : α → β) (hfg : ∀ a, f (g a) = a) :
    Opens P t (Kd.iso d f) (fun x => G (f x)) :=
  ⟨by rw [hc, h.1]; show 0 + d.sz = d.sz; omega, fun H enc w base spare held fuel cs x hx hf => by
    obtain ⟨xs, m, rfl, rfl, hcl, hxl, htr⟩ := DataW.trod_struct ht hx
    obtain ⟨a, ha, hga⟩ := h.2 H enc w base spare held m cs xs (by rw [hcl, hc]) (by simpa using hxl) (fun i f hf => htr i f (by simpa using hf)) (fun i f y hfi hy k hk => hf k (by
      simp only [DataW.weights, ht]
      exact DataW.weights_mem_each (j := i) (t := f.type) (d := y.1) (by rw [List.getElem?_map, hfi]; rfl) (by rw [List.getElem?_map, hy]; rfl) k hk))
    refine ⟨g a, ?_, ?_⟩
    · show d.K w (f (g a)) cs
      rw [hfg]; exact ha
    · show G (f (g a)); rw [hfg]; exact hga⟩

/-- The datum of argument j fits. -/
theorem fits_arg {H : Type} {P : Program} {ts : List TypeId} {ds : List (DataW H)} {j : Nat} {t : TypeId} {d : DataW H} (hsz : (DataW.weightsEach P ts ds).all (· ≤ reachBytes) = true) (ht : ts[j]? = some t) (hd : ds[j]? = some d) : Fits P t d := fun n hn => by
  have := List.all_eq_true.1 hsz _ (DataW.weights_mem_each ht hd n hn)
  have h2 : n ≤ reachBytes := of_decide_eq_true this
  simpa [reachBytes] using h2

/-- A slice that came in. -/
theorem open_arg_slice {α : Type} {H : Type} {enc : TypeId × Value → H} {P : Program} {w : World} {base : Nat} {spare : Nat → Bool} {held : Bool} {t e : TypeId} {d : Kd α} {G : List α → Prop} {a : Option Addr} {len cap : Nat} {x : DataW H} {ps : List MemPlace}
    (ho : Opens P t (Kd.slice e d) G) (h : DataW.Trod enc P w base spare held t (.slice a len cap) x ps) (hf : Fits P t x) : ∃ l : List α, len = l.length ∧ l.length ≤ cap ∧ d.C w a l.length l ∧ G l := by
  obtain ⟨fuel, hfu⟩ := h
  obtain ⟨l, ⟨A, c, hcs, hl, hr⟩, hg⟩ := ho.2 H enc w base spare held fuel _ (x, ps) hfu hf
  simp [Value.cells] at hcs
  obtain ⟨rfl, rfl, rfl⟩ := hcs
  exact ⟨l, rfl, hl, hr, hg⟩

/-- A struct that came in by value. -/
theorem open_arg_struct {α : Type} {H : Type} {enc : TypeId × Value → H} {P : Program} {w : World} {base : Nat} {spare : Nat → Bool} {held : Bool} {t : TypeId} {d : Kd α} {G : α → Prop} {cs : Array Value} {x : DataW H} {ps : List MemPlace}
    (ho : Opens P t d G) (h : DataW.Trod enc P w base spare held t (.agg cs) x ps) (hf : Fits P t x) : ∃ a : α, d.K w a cs.toList ∧ G a := by
  obtain ⟨fuel, hfu⟩ := h
  exact ho.2 H enc w base spare held fuel _ (x, ps) hfu hf
end Go.Proofs.YtnmkmamobhkcbaaW.PrintOpen
