/- Words for pure statements: what a printed function comes to, given rounds enough ('Ev'); case by case, call by call. -/
import Derived.Test.YtnmkmamobhkcbaaWWords
import Derived.IntWalk
namespace Go.Proofs.YtnmkmamobhkcbaaW.PrintEv
open Go.RowKit Go.Proofs.YtnmkmamobhkcbaaW.PrintWords
section
variable {α β : Type}
theorem ev_pos {c : Prop} [Decidable c] {A B : Nat → Option α} {r : α} (h : c) (hA : Ev A r) : Ev (fun k => if c then A k else B k) r := by
  simpa only [if_pos h] using hA
theorem ev_neg {c : Prop} [Decidable c] {A B : Nat → Option α} {r : α} (h : ¬ c) (hB : Ev B r) : Ev (fun k => if c then A k else B k) r := by
  simpa only [if_neg h] using hB
theorem ev_cases {c : Prop} [Decidable c] {A B : Nat → Option α} {r : α} (hA : c → Ev A r) (hB : ¬ c → Ev B r) : Ev (fun k => if c then A k else B k) r := by
  by_cases h : c
  · exact ev_pos h (hA h)
  · exact ev_neg h (hB h)
theorem ev_ite {c : Prop} [Decidable c] {A B : Nat → Option α} {r1 r2 : α} (hA : c → Ev A r1) (hB : ¬ c → Ev B r2) : Ev (fun k => if c then A k else B k) (if c then r1 else r2) := by
  by_cases h : c
  · rw [if_pos h]; exact ev_pos h (hA h)
  · rw [if_neg h]; exact ev_neg h (hB h)
theorem ev_cast {g : Nat → Option α} {r r' : α} (h : Ev g r) (e : r = r') : Ev g r' := e ▸ h
theorem ev_of {g g' : Nat → Option α} {r : α} (e : ∀ k, g k = g' k) (h : Ev g' r) : Ev g r := Ev.congr e h
theorem ev_some {f : Nat → α → Option β} {a : α} {r : β} (h : Ev (fun k => f k a) r) : Ev (fun k => (some a).bind (f k)) r := h
theorem ev_bind {g : Nat → Option α} {f : Nat → α → Option β} {a : α} {r : β} (h : Ev g a) (k : Ev (fun n => f n a) r) : Ev (fun n => (g n).bind (f n)) r := Ev.bind h k
/-- A call that has no rounds. -/
theorem ev_const {g : Option α} {f : Nat → α → Option β} {a : α} {r : β} (h : g = some a) (k : Ev (fun n => f n a) r) : Ev (fun n => g.bind (f n)) r := by
  subst h; exact k
theorem ev_det {g : Nat → Option α} {r r' : α} (h : Ev g r) (h' : Ev g r') : r = r' := by
  obtain ⟨K, hK⟩ := h
  obtain ⟨K', hK'⟩ := h'
  have h1 := hK (K + K') (by omega)
  have h2 := hK' (K + K') (by omega)
  rw [h1] at h2
  exact Option.some.inj h2
theorem ev_now (r : α) : Ev (fun _ => some r) r := Ev.now r
theorem ev_ex {g : Nat → Option α} {r : α} (h : Ev g r) : ∃ k, g k = some r := Ev.rounds h
end
theorem w64 {x : Int} (h : -9223372036854775808 ≤ x ∧ x ≤ 9223372036854775807) : wrap64 x = x := by unfold wrap64; omega
theorem rd_getD (xs : List Int) (i : Int) : rd xs i = xs.getD i.toNat 0 := rfl
theorem rd_nat (xs : List Int) {i : Nat} (h : i < xs.length) : rd xs (i : Int) = xs[i] := by
  simp [rd, List.getD_eq_getElem?_getD, List.getElem?_eq_getElem h]
theorem rdOf_nat {α : Type} (d : α) (xs : List α) {i : Nat} (h : i < xs.length) : rdOf d xs (i : Int) = xs[i] := by
  simp [rdOf, List.getD_eq_getElem?_getD, List.getElem?_eq_getElem h]
theorem rdOf_set {α : Type} (d : α) (xs : List α) (v : α) {i j : Int} (hi0 : 0 ≤ i) (hi : i < xs.length) (hj : 0 ≤ j) : rdOf d (xs.set i.toNat v) j = if j = i then v else rdOf d xs j := by
  unfold rdOf
  rw [List.getD_eq_getElem?_getD, List.getD_eq_getElem?_getD, List.getElem?_set]
  by_cases h : j = i
  · subst h
    rw [if_pos rfl, if_pos (by omega), if_pos rfl]; rfl
  · rw [if_neg (by omega), if_neg h]
theorem rd_set (xs : List Int) (v : Int) {i j : Int} (hi0 : 0 ≤ i) (hi : i < xs.length) (hj : 0 ≤ j) : rd (xs.set i.toNat v) j = if j = i then v else rd xs j := rdOf_set 0 xs v hi0 hi hj
theorem rdOf_replicate {α : Type} (d : α) (n : Nat) (i : Int) : rdOf d (List.replicate n d) i = d := by
  unfold rdOf
  rw [List.getD_eq_getElem?_getD, List.getElem?_replicate]
  split <;> rfl
theorem rd_mem {xs : List Int} {i : Int} (h0 : 0 ≤ i) (h : i < xs.length) : rd xs i ∈ xs := by
  obtain ⟨n, rfl⟩ := Int.eq_ofNat_of_zero_le h0
  rw [rd_nat xs (by omega)]
  exact List.getElem_mem _
theorem mem_rd {xs : List Int} {x : Int} (h : x ∈ xs) : ∃ i : Int, 0 ≤ i ∧ i < xs.length ∧ rd xs i = x := by
  obtain ⟨n, hn, rfl⟩ := List.mem_iff_getElem.1 h
  exact ⟨n, by omega, by omega, rd_nat xs hn⟩
theorem rd_append_left {xs ys : List Int} {i : Int} (h0 : 0 ≤ i) (h : i < xs.length) : rd (xs ++ ys) i = rd xs i := by
  unfold rd
  rw [List.getD_eq_getElem?_getD, List.getD_eq_getElem?_getD, List.getElem?_append_left (by omega)]
theorem rd_append_last {xs : List Int} {y : Int} : rd (xs ++ [y]) (xs.length : Int) = y := by
  unfold rd
  rw [List.getD_eq_getElem?_getD]
  simp
theorem drop_cons_rd {xs : List Int} {i : Nat} (h : i < xs.length) : xs.drop i = rd xs (i : Int) :: xs.drop (i + 1) := by
  rw [rd_nat xs h]; exact List.drop_eq_getElem_cons h
theorem ext_rd {xs ys : List Int} (hl : xs.length = ys.length) (h : ∀ i : Int, 0 ≤ i → i < xs.length → rd xs i = rd ys i) : xs = ys := by
  apply List.ext_getElem hl
  intro i h1 h2
  have := h i (by omega) (by omega)
  rwa [rd_nat xs h1, rd_nat ys h2] at this
theorem ext_rdOf {α : Type} {d : α} {xs ys : List α} (hl : xs.length = ys.length) (h : ∀ i : Int, 0 ≤ i → i < xs.length → rdOf d xs i = rdOf d ys i) : xs = ys := by
  apply List.ext_getElem hl
  intro i h1 h2
  have := h i (by omega) (by omega)
  rwa [rdOf_nat d xs h1, rdOf_nat d ys h2] at this
end Go.Proofs.YtnmkmamobhkcbaaW.PrintEv
