/- What the Go functions of this seat compute, and that they do: printed by a program over the kit's print. -/
import Derived.Test.YtojhnjgnpjoacaaP0
namespace Go.Proofs.Ytojhnjgnpjoacaa.P
open Go.RowKit Go.Proofs.YtojhnjgnpjoacaaW.PrintWords Go.Proofs.YtojhnjgnpjoacaaW.PrintLast Go.Proofs.YtojhnjgnpjoacaaW.PrintMore
attribute [local go_sem] max2_int min2_int max_two min_two max_three min_three max_four min_four   -- for this text's walks alone
set_option linter.unusedVariables false
set_option linter.unusedSimpArgs false

/-! ### changeforgeref3_Bools: function 26 -/
def changeforgeref3_Bools.l0 : Nat → List Bool → List Bool → Int → Option (Bool)
  | 0, _, _, _ => none
  | k + 1, x0, x1, x5 => if x5 < (x0.length : Int) then (if 0 ≤ x5 then (if x5 < (x1.length : Int) then (if ((rdOf false x0 x5) != (rdOf false x1 x5)) = true then (some false) else (changeforgeref3_Bools.l0 k x0 x1 (wrap64 (x5 + 1)))) else (none)) else (none)) else (some true)
def changeforgeref3_Bools.f (k : Nat) (l0 : List Bool) (l1 : List Bool) : Option (Bool) := if (l0.length : Int) = (l1.length : Int) then (changeforgeref3_Bools.l0 k l0 l1 0) else (some false)
theorem changeforgeref3_Bools.mono_l : ∀ k, (∀ y0 y1 y2, LeO (changeforgeref3_Bools.l0 k y0 y1 y2) (changeforgeref3_Bools.l0 (k + 1) y0 y1 y2))
  | 0 => fun _ _ _ r h => by simp [changeforgeref3_Bools.l0] at h
  | k + 1 => by
    have ih0 := changeforgeref3_Bools.mono_l k
    · intro y0 y1 y2
      unfold changeforgeref3_Bools.l0
      repeat' first
      | (with_reducible exact ih0 _ _ _)
      | (with_reducible exact LeO.refl _)
      | (with_reducible exact LeO.none _)
      | (with_reducible refine LeO.ite ?_ ?_)
      | (with_reducible refine LeO.bind ?_ (fun _ => ?_))
      | exact ih0 _ _ _
      | exact LeO.none _
      | refine LeO.ite ?_ ?_
      | refine LeO.bind ?_ (fun _ => ?_)
theorem changeforgeref3_Bools.mono : ∀ a0 a1 k, LeO (changeforgeref3_Bools.f k a0 a1) (changeforgeref3_Bools.f (k + 1) a0 a1) := by
  intro a0 a1 k
  have ih0 := changeforgeref3_Bools.mono_l k
  unfold changeforgeref3_Bools.f
  repeat' first
      | (with_reducible exact ih0 _ _ _)
      | (with_reducible exact LeO.refl _)
      | (with_reducible exact LeO.none _)
      | (with_reducible refine LeO.ite ?_ ?_)
      | (with_reducible refine LeO.bind ?_ (fun _ => ?_))
      | exact ih0 _ _ _
      | exact LeO.none _
      | refine LeO.ite ?_ ?_
      | refine LeO.bind ?_ (fun _ => ?_)
set_option maxHeartbeats 8000000 in
set_option maxRecDepth 100000 in
theorem changeforgeref3_Bools.calls (k : Nat) (A0 : Option Addr) (c0 : Nat) (l0 : List Bool) (A1 : Option Addr) (c1 : Nat) (l1 : List Bool) (r : Bool) (w : World) (hr0 : Kd.C Kd.bool w A0 l0.length l0) (hc0 : l0.length ≤ c0) (hr1 : Kd.C Kd.bool w A1 l1.length l1) (hc1 : l1.length ≤ c1) (h : changeforgeref3_Bools.f k l0 l1 = some r) :
  Calls Try.prog 26 #[.slice A0 l0.length c0, .slice A1 l1.length c1] w fun e w' => e = .returned (.bool r) ∧ Drawn0 w w' := by
  have HR0 := aZ hr0
  have HC0 := aZ hc0
  clear hr0 hc0
  have HR1 := aZ hr1
  have HC1 := aZ hc1
  clear hr1 hc1
  have H : (if (l0.length : Int) = (l1.length : Int) then (changeforgeref3_Bools.l0 k l0 l1 0) else (some false)) = some r := h
  clear h
  by_cases c3 : (l0.length : Int) = (l1.length : Int)
  rotate_left
  · rw [if_neg c3] at H
    have c3b0 : ((l0.length : Int) == (l1.length : Int)) = false := beq_eq_false_iff_ne.mpr c3
    have c3b1 : ((l0.length : Int) != (l1.length : Int)) = true := bne_iff_ne.mpr c3
    have c3b2 : (l0.length == l1.length) = false := by first | simpa using c3 | (simp at c3 ⊢; omega)
    obtain rfl := Option.some.inj H
    go_enter Try.func26, Try.ntmps26
    go_wp2
    repeat (go_quiet (fail); try go_wp2)
    go_ret
    exact ⟨by first | rfl | (simp; done) | (simp [*]; done), by repeat (first | exact Drawn0.refl _ | apply Drawn0.step)⟩

  rw [if_pos c3] at H
  have c3b0 : ((l0.length : Int) == (l1.length : Int)) = true := beq_iff_eq.mpr c3
  have c3b1 : ((l0.length : Int) != (l1.length : Int)) = false := bne_eq_false_iff_eq.mpr c3
  have c3b2 : (l0.length == l1.length) = true := by first | simpa using c3 | (simp at c3 ⊢; omega)
  clear c3
  have H' := aZ H
  clear H
  go_enter Try.func26, Try.ntmps26
  go_wp2
  repeat (go_quiet (fail); try go_wp2)
  go_loopg [5] k (fun kq v5 w' => ∃ (x5_1 : Int), v5 = .int .i64 x5_1 ∧ Aside0 (changeforgeref3_Bools.l0 kq l0 l1 x5_1 = some r) ∧ Aside0 (kq ≤ k) ∧ Drawn0 w w')
  case atStart => exact ⟨(0), (by first | rfl | (simp; done) | (simp [*]; done)), H', ⟨Nat.le_refl _⟩, by repeat (first | exact Drawn0.refl _ | apply Drawn0.step)⟩
  case round =>
   clear H'
   (try clear c1); (try clear c3); (try clear c3b0); (try clear c3b1); (try clear c3b2)
   obtain ⟨x5_1, rfl, HA, HK1, ⟨m1, rfl⟩⟩ := hrel
   cases gk with
   | zero => exact absurd HA.out (by simp [changeforgeref3_Bools.l0])
   | succ k1 =>
    have H := HA.out
    clear HA
    simp only [changeforgeref3_Bools.l0] at H
    by_cases c4 : x5_1 < (l0.length : Int)
    rotate_left
    · rw [if_neg c4] at H
      have c4b0 : decide (x5_1 < (l0.length : Int)) = false := decide_eq_false c4
      clear c4
      obtain rfl := Option.some.inj H
      go_wp2
      repeat (go_quiet (fail); try go_wp2)
      go_ret
      exact ⟨by first | rfl | (simp; done) | (simp [*]; done), by repeat (first | exact Drawn0.refl _ | apply Drawn0.step)⟩
    rw [if_pos c4] at H
    have c4b0 : decide (x5_1 < (l0.length : Int)) = true := decide_eq_true c4
    clear c4
    by_cases c5 : 0 ≤ x5_1
    rotate_left
    · rw [if_neg c5] at H
      exact absurd H (by simp)
    rw [if_pos c5] at H
    have c5b0 : decide (0 ≤ x5_1) = true := decide_eq_true c5
    clear c5
    by_cases c6 : x5_1 < (l1.length : Int)
    rotate_left
    · rw [if_neg c6] at H
      exact absurd H (by simp)
    rw [if_pos c6] at H
    have c6b0 : decide (x5_1 < (l1.length : Int)) = true := decide_eq_true c6
    clear c6
    by_cases c7 : ((rdOf false l0 x5_1) != (rdOf false l1 x5_1)) = true
    · rw [if_pos c7] at H
      have c7b0 : ((rdOf false l0 x5_1) != (rdOf false l1 x5_1)) = true := c7
      (try (have c7b1 : decide ((rdOf false l0 x5_1) = (rdOf false l1 x5_1)) = false := by simpa using c7))
      (try (have c7b2 : ((rdOf false l0 x5_1) == (rdOf false l1 x5_1)) = false := by simpa using c7))
      (try (have c7b3 : ¬ ((rdOf false l0 x5_1) = (rdOf false l1 x5_1)) := by simpa using c7))
      clear c7
      obtain rfl := Option.some.inj H
      have p386 : 0 ≤ (x5_1 : Int) := of_decide_eq_true (by first | (with_reducible assumption) | assumption)
      have q386 : x5_1 < (l0.length : Int) := of_decide_eq_true (by first | (with_reducible assumption) | assumption)
      obtain ⟨ad386, e386, hx386_0⟩ := Kd.at_bool HR0.out x5_1 p386 q386
      cases e386
      replace p386 := eq_true p386
      replace q386 := eq_true q386
      have p387 : 0 ≤ (x5_1 : Int) := of_decide_eq_true (by first | (with_reducible assumption) | assumption)
      have q387 : x5_1 < (l1.length : Int) := of_decide_eq_true (by first | (with_reducible assumption) | assumption)
      obtain ⟨ad387, e387, hx387_0⟩ := Kd.at_bool HR1.out x5_1 p387 q387
      cases e387
      replace p387 := eq_true p387
      replace q387 := eq_true q387
      go_wp2
      repeat (go_quiet (fail); try go_wp2)
      go_ret
      exact ⟨by first | rfl | (simp; done) | (simp [*]; done), by repeat (first | exact Drawn0.refl _ | apply Drawn0.step)⟩
    rw [if_neg c7] at H
    have c7b0 : ((rdOf false l0 x5_1) != (rdOf false l1 x5_1)) = false := by simpa using c7
    (try (have c7b1 : decide ((rdOf false l0 x5_1) = (rdOf false l1 x5_1)) = true := by simpa using c7))
    (try (have c7b2 : ((rdOf false l0 x5_1) == (rdOf false l1 x5_1)) = true := by simpa using c7))
    clear c7
    have H' := aZ H
    clear H
    have p386 : 0 ≤ (x5_1 : Int) := of_decide_eq_true (by first | (with_reducible assumption) | assumption)
    have q386 : x5_1 < (l0.length : Int) := of_decide_eq_true (by first | (with_reducible assumption) | assumption)
    obtain ⟨ad386, e386, hx386_0⟩ := Kd.at_bool HR0.out x5_1 p386 q386
    cases e386
    replace p386 := eq_true p386
    replace q386 := eq_true q386
    have p387 : 0 ≤ (x5_1 : Int) := of_decide_eq_true (by first | (with_reducible assumption) | assumption)
    have q387 : x5_1 < (l1.length : Int) := of_decide_eq_true (by first | (with_reducible assumption) | assumption)
    obtain ⟨ad387, e387, hx387_0⟩ := Kd.at_bool HR1.out x5_1 p387 q387
    cases e387
    replace p387 := eq_true p387
    replace q387 := eq_true q387
    go_wp2
    repeat (go_quiet (fail); try go_wp2)
    go_roundg k1
    case measure => have := HK1.out; omega
    case rel => exact ⟨(wrap64 (x5_1 + 1)), (by first | rfl | (simp; done) | (simp [*]; done)), H', ⟨by have := HK1.out; omega⟩, by repeat (first | exact Drawn0.refl _ | apply Drawn0.step)⟩
/-! ### slices_MaxFunc_int_int: function 37 -/
section
open Go.Sort Go.Lib
def tmc (l1 : List S49) (i : Int) : Int := (rd_T49 l1 i).f2
def cfc (l1 : List S49) (a b : Int) : Int := if tmc l1 a - tmc l1 b ≠ 0 then tmc l1 a - tmc l1 b else a - b
theorem order_cmp {w : World} {g : Nat} {A1 : Option Addr} {c1 : Nat} {l1 : List S49} (hbk : w.heap[g]? = some (.cells #[.slice A1 l1.length c1] 22 (0, 0))) (hr : Kd.C k49 w A1 l1.length l1) (hc : l1.length ≤ c1) (hl : l1.length ≤ 1000000) (ht : ∀ c ∈ l1, 0 ≤ c.f2 ∧ c.f2 ≤ 1000000) (a b : Int) (ha0 : 0 ≤ a) (ha : a < l1.length) (hb0 : 0 ≤ b) (hb : b < l1.length) :
    Calls Try.prog 38 #[.int .i64 a, .int .i64 b, .pointer (some ⟨g, 0, none⟩)] w fun e w' => e = .returned (.int .i64 (cfc l1 a b)) ∧ ∃ q, w' = w.drewN q := by
  have tb : ∀ i : Int, 0 ≤ i → i < l1.length → 0 ≤ (rd_T49 l1 i).f2 ∧ (rd_T49 l1 i).f2 ≤ 1000000 := fun i h0 h1 => by
    obtain ⟨n, rfl⟩ := Int.eq_ofNat_of_zero_le h0
    have hn : n < l1.length := by omega
    have : rd_T49 l1 (n : Int) = l1[n] := by simp [rd_T49, List.getD_eq_getElem?_getD, List.getElem?_eq_getElem hn]
    rw [this]
    exact ht _ (List.getElem_mem _)
  have ta := tb a ha0 ha
  have tb := tb b hb0 hb
  have hcz : w.cell? ⟨g, 0, none⟩ = some (.slice A1 l1.length c1) := (blk_cell hbk 0).trans rfl
  obtain ⟨ad, A, c, e1, hx1_0, hx1_1, hx1_2, hx1_3, hx1_4, hl1_, hi1_⟩ := at_T49 hr a ha0 ha
  cases e1
  obtain ⟨ad2, A2, c2, e2, hx2_0, hx2_1, hx2_2, hx2_3, hx2_4, hl2_, hi2_⟩ := at_T49 hr b hb0 hb
  obtain rfl : ad = ad2 := by injection e2
  clear hi1_ hi2_ hl1_ hl2_ hr hbk e2 hx1_0 hx2_0 hx1_1 hx2_1 hx1_3 hx2_3 hx1_4 hx2_4
  have w1 : IntKind.i64.wrap ((rd_T49 l1 a).f2 - (rd_T49 l1 b).f2) = (rd_T49 l1 a).f2 - (rd_T49 l1 b).f2 := by rw [IntKind.wrap_i64]; omega
  have w2 : IntKind.i64.wrap (a - b) = a - b := by rw [IntKind.wrap_i64]; omega
  have p1 : (0 ≤ a) = True := eq_true ha0
  have q1 : (a < (l1.length : Int)) = True := eq_true ha
  have p2 : (0 ≤ b) = True := eq_true hb0
  have q2 : (b < (l1.length : Int)) = True := eq_true hb
  unfold cfc tmc
  generalize hx : (rd_T49 l1 a).f2 = x at *
  generalize hy : (rd_T49 l1 b).f2 = y at *
  by_cases hd : x - y ≠ 0
  · rw [if_pos hd]
    have hd0 : decide (x - y = 0) = false := decide_eq_false hd
    go_enter Try.func38, Try.ntmps38
    go_wp2
    repeat (go_quiet (fail); try go_wp2)
    go_ret
    exact ⟨rfl, _, rfl⟩
  · rw [if_neg hd]
    have hd0 : decide (x - y = 0) = true := decide_eq_true (Decidable.not_not.1 hd)
    go_enter Try.func38, Try.ntmps38
    go_wp2
    repeat (go_quiet (fail); try go_wp2)
    go_ret
    exact ⟨rfl, _, rfl⟩
theorem order_del {w : World} {g : Nat} {b : Int} (hcz : w.cell? ⟨g, 0, none⟩ = some (.int .i64 b)) (x : Int) :
    FnGives Try.prog 40 #[.pointer (some ⟨g, 0, none⟩)] #[.int .i64 x] (.bool (x == b)) w := by
  show Calls Try.prog 40 #[.int .i64 x, .pointer (some ⟨g, 0, none⟩)] w _
  go_enter Try.func40, Try.ntmps40
  go_wp2
  all_goals (go_ret; exact ⟨by simp, 0, rfl⟩)

section
variable {α : Type} [Inhabited α]
/-- A world of a sort's, against the world that it began at: all but the row's block is as it was. -/
theorem sort_heap {enc : α → Value} {w : World} {blk off m : Nat} {dk : Array α} {os : Array Obj} {i : Nat} (hi : i < w.heap.size) (hne : i ≠ blk) : (sortWorld enc w blk off m dk os).heap[i]? = w.heap[i]? := by
  unfold sortWorld
  rw [Sort.heap_grow_old _ _ (by rw [size_putRow]; exact hi)]
  simp [putRow, mapBlock, Sort.ahead, Array.getElem?_modify, Ne.symm hne]
theorem sort_size {enc : α → Value} {w : World} {blk off m : Nat} {dk : Array α} {os : Array Obj} : w.heap.size ≤ (sortWorld enc w blk off m dk os).heap.size := by
  unfold sortWorld
  have : (putRow enc (Sort.ahead w m) blk off dk).heap.size = w.heap.size := by rw [size_putRow]; rfl
  show _ ≤ (_ ++ os).size
  rw [Array.size_append, this]
  omega
theorem sort_kept {enc : α → Value} {w : World} {blk off m : Nat} {dk : Array α} {os : Array Obj} {S : Nat → Prop} (hS : S blk) : Kept w (sortWorld enc w blk off m dk os) S :=
  ⟨sort_size, fun i hi hn => sort_heap hi (fun e => hn (e ▸ hS))⟩
theorem sort_below {enc : α → Value} {w0 w : World} {blk off m : Nat} {dk : Array α} {os : Array Obj} (hB : Below w0.heap.size w0 w) (h : w0.heap.size ≤ blk) : Below w0.heap.size w0 (sortWorld enc w blk off m dk os) :=
  ⟨hB.os, hB.tape, hB.output, Nat.le_trans hB.size sort_size, fun k hk => by rw [sort_heap (Nat.lt_of_lt_of_le hk hB.size) (by omega)]; exact hB.block k hk⟩
end
def mxp (l1 : List S49) (l0 : List Int) : Nat → Int
  | 0 => l0.getD 0 0
  | i + 1 => if 0 < cfc l1 (l0.getD (i + 1) 0) (mxp l1 l0 i) then l0.getD (i + 1) 0 else mxp l1 l0 i
def slices_MaxFunc_int_int.f (l0 : List Int) (l1 : List S49) : Option (Int × List Int) :=
  if l0 ≠ [] ∧ (∀ x ∈ l0, 0 ≤ x ∧ x < l1.length) ∧ (∀ c ∈ l1, 0 ≤ c.f2 ∧ c.f2 ≤ 1000000) ∧ l1.length ≤ 1000000 ∧ l0.length ≤ 1000000 then some (mxp l1 l0 (l0.length - 1), l0) else none
theorem slices_MaxFunc_int_int.calls' (P0_ : Nat → Prop) (u9000_ : Value) (l0 : List Int) (A1 : Option Addr) (c1 : Nat) (l1 : List S49) (r1 : Int) (r2 : List Int) (w0 w : World) (g : Nat) (hbk : w.heap[g]? = some (.cells #[.slice A1 l1.length c1] 22 (0, 0))) (hg : P0_ g → False) (hB : Below w0.heap.size w0 w) (ho0 : Kd.R (Kd.int .i64) 3 w w0.heap.size P0_ u9000_ l0)
    (hr1 : ∀ W_, Kept w W_ (fun k_ => P0_ k_) → Kd.C k49 W_ A1 l1.length l1) (hc1 : l1.length ≤ c1) (h : slices_MaxFunc_int_int.f l0 l1 = some (r1, r2)) :
    Calls Try.prog 37 #[u9000_, .func (.func 38) #[] #[.pointer (some ⟨g, 0, none⟩)]] w fun e w' => e = .returned (.int .i64 r1) ∧ Kd.R (Kd.int .i64) 3 w' w0.heap.size P0_ u9000_ r2 ∧ Below w0.heap.size w0 w' ∧ Kept w w' (fun k_ => P0_ k_) := by
  unfold slices_MaxFunc_int_int.f at h
  split at h
  next hh =>
    obtain ⟨hne, hin, ht, hl, hl0⟩ := hh
    simp only [Option.some.injEq, Prod.mk.injEq] at h
    obtain ⟨rfl, rfl⟩ := h
    have hp : 0 < l0.length := List.length_pos_iff.2 hne
    have how := Kd.own_of_R ho0
    rcases how.2 with ⟨_, hz⟩ | ⟨blk, cap, cur, rfl, hb0, hhp, hn, hm, hcs, htk⟩
    · omega
    have hbl : blk < w.heap.size := (Array.getElem?_eq_some_iff.1 hhp).1
    have hP : P0_ blk := ho0.1 blk rfl
    have hgl : g < w.heap.size := (Array.getElem?_eq_some_iff.1 hbk).1
    let α := { x : Int // 0 ≤ x ∧ x < l1.length }
    haveI : Inhabited α := ⟨⟨l0[0], hin _ (List.getElem_mem _)⟩⟩
    obtain ⟨d, hd⟩ : ∃ d : List α, d.map Subtype.val = l0 := ⟨l0.attach.map (fun x => ⟨x.1, hin _ x.2⟩), by rw [List.map_map]; exact List.attach_map_subtype_val l0⟩
    have hdl : d.length = l0.length := by rw [← hd, List.length_map]
    have hdn : ∀ j, j < l0.length → (d.toArray[j]!).1 = l0.getD j 0 := fun j hj => by
      rw [getElem!_pos d.toArray j (by simp [hdl, hj])]
      subst hd
      simp [List.getD_eq_getElem?_getD, hdl ▸ hj]
    let enc : α → Value := fun x => .int .i64 x.1
    have how2 : w.ownsRow w0.heap.size 3 1 (.slice (some ⟨blk, 0, none⟩) l0.length cap) l0.length (d.map enc) := by
      have : encs (Value.int .i64) l0 = d.map enc := by rw [← hd]; unfold encs; rw [List.map_map]; rfl
      rw [← this]; exact how
    obtain ⟨blk', cap', e1, hb', hlt', hn', hm', hl', hH⟩ := Lib.holds_of_ownsRow how2 (by intro e; cases e)
    injection e1 with e1 _ e3
    injection e1 with e1
    injection e1 with e1
    subst e1; subst e3
    have hcmp : CmpLays1 Try.prog 38 #[.pointer (some ⟨g, 0, none⟩)] enc (fun x y => cfc l1 x.1 y.1) blk 0 d.toArray.size w := by
      intro m os dk hs x y
      have hk := sort_kept (enc := enc) (w := w) (off := 0) (m := m) (dk := dk) (os := os) (S := fun k_ => P0_ k_) hP
      have hbk' : (sortWorld enc w blk 0 m dk os).heap[g]? = some (.cells #[.slice A1 l1.length c1] 22 (0, 0)) := by rw [hk.2 g hgl hg]; exact hbk
      exact (order_cmp hbk' (hr1 _ hk) hc1 hl ht x.1 y.1 x.2.1 x.2.2 y.2.1 y.2.2).mono fun e w' ⟨he, q, hq⟩ => ⟨he, q, #[], by rw [hq, grow_empty]⟩
    have hcon := Any.slices_MaxFunc Try.l37 enc (fun _ => rfl) (fun x y => cfc l1 x.1 y.1) 38 #[.pointer (some ⟨g, 0, none⟩)] blk 0 cap d.toArray w (enters_of Try.func38 (by kernel_rfl) rfl) hcmp hH hbl (by simp [hdl]; omega) (by simp [hdl]; omega)
    change Calls Try.prog 37 _ _ _ at hcon
    have hval : ∀ i, i < l0.length → (Lib.pickBy (fun x m => decide (0 < cfc l1 x.1 m.1)) d.toArray i).1 = mxp l1 l0 i := by
      intro i
      induction i with
      | zero => intro hi; exact hdn 0 hi
      | succ i ih =>
        intro hi
        have ih := ih (by omega)
        simp only [Lib.pickBy, mxp]
        by_cases hc : 0 < cfc l1 (l0.getD (i + 1) 0) (mxp l1 l0 i)
        · have hc' : decide (0 < cfc l1 (d.toArray[i + 1]!).1 (Lib.pickBy (fun x m => decide (0 < cfc l1 x.1 m.1)) d.toArray i).1) = true := by rw [hdn (i + 1) hi, ih]; exact decide_eq_true hc
          rw [if_pos hc, if_pos hc']; exact hdn (i + 1) hi
        · have hc' : ¬ decide (0 < cfc l1 (d.toArray[i + 1]!).1 (Lib.pickBy (fun x m => decide (0 < cfc l1 x.1 m.1)) d.toArray i).1) = true := by rw [hdn (i + 1) hi, ih]; simpa using hc
          rw [if_neg hc, if_neg hc']; exact ih
    rw [show d.toArray.size = l0.length by simp [hdl]] at hcon
    refine hcon.mono fun e w' ⟨he, hw⟩ => ?_
    obtain ⟨n, os, rfl⟩ := hw
    refine ⟨by rw [he]; show Ending.returned (Value.int .i64 _) = _; rw [hval _ (by omega)], ?_, sort_below hB hb0, sort_kept hP⟩
    refine Kd.R_of_own ?_ ho0.1
    have hold : sortWorld enc w blk 0 n d.toArray os = grow (w.drewN n) os := by
      have := sortWorld_start enc w blk 0 d.toArray hH
      rw [← this, sortWorld_grown_c]
      simp [this]
    rw [hold]
    exact pw_own_below how (below_grown w n os)
  next => cases h
end

-- NOT PRINTED: function 46 (slices_IndexFunc_int_int)

/-! ### slices_DeleteFunc_int_int: function 39 -/
section
open Go.Sort Go.Lib
def slices_DeleteFunc_int_int.f (l0 : List Int) (a1 : Int) : Option (List Int) := if l0 ≠ [] ∧ l0.length ≤ 1000000 then some (l0.filter fun x => !(x == a1)) else none
theorem slices_DeleteFunc_int_int.calls' (P0_ : Nat → Prop) (u9000_ : Value) (l0 : List Int) (a1 : Int) (r : List Int) (w0 w : World) (g : Nat) (hbk : w.heap[g]? = some (.cells #[.int .i64 a1] 3 (0, 0))) (hg : P0_ g → False) (hB : Below w0.heap.size w0 w) (ho0 : Kd.R (Kd.int .i64) 3 w w0.heap.size P0_ u9000_ l0) (h : slices_DeleteFunc_int_int.f l0 a1 = some r) :
    Calls Try.prog 39 #[u9000_, .func (.func 40) #[] #[.pointer (some ⟨g, 0, none⟩)]] w fun e w' => ∃ v0_ : Value, e = .returned v0_ ∧ Kd.R (Kd.int .i64) 3 w' w0.heap.size (fun k_ => (P0_ k_ ∨ w.heap.size ≤ k_)) v0_ r ∧ Below w0.heap.size w0 w' ∧ Kept w w' (fun k_ => P0_ k_) := by
  unfold slices_DeleteFunc_int_int.f at h
  split at h
  next hh =>
    obtain ⟨hne, hl⟩ := hh
    obtain rfl := Option.some.inj h
    have hp : 0 < l0.length := List.length_pos_iff.2 hne
    have how := Kd.own_of_R ho0
    rcases how.2 with ⟨_, hz⟩ | ⟨blk, cap, cur, rfl, hb0, hhp, hn, hm, hcs, htk⟩
    · omega
    have hbl : blk < w.heap.size := (Array.getElem?_eq_some_iff.1 hhp).1
    have hP : P0_ blk := ho0.1 blk rfl
    have hgl : g < w.heap.size := (Array.getElem?_eq_some_iff.1 hbk).1
    have hcz : w.cell? ⟨g, 0, none⟩ = some (.int .i64 a1) := (blk_cell hbk 0).trans rfl
    have how2 : w.ownsRow w0.heap.size 3 1 (.slice (some ⟨blk, 0, none⟩) l0.length cap) l0.length (l0.map (Value.int .i64)) := how
    obtain ⟨blk', cap', e1, hb', hlt', hn', hm', hl', hH⟩ := Lib.holds_of_ownsRow how2 (by intro e; cases e)
    injection e1 with e1 _ e3
    injection e1 with e1
    injection e1 with e1
    subst e1; subst e3
    have hgb : g ≠ blk := fun e => hg (e ▸ hP)
    have h1 : PredAt Try.prog 40 #[.pointer (some ⟨g, 0, none⟩)] (Value.int .i64) (fun x => x == a1) w := fun W x hb => order_del ((hb.cell (p := ⟨g, 0, none⟩) hgl).trans hcz) x
    have h2 : PredOver Try.prog 40 #[.pointer (some ⟨g, 0, none⟩)] (Value.int .i64) (fun x => x == a1) blk 0 l0.toArray.size w := fun n os dk x _ => order_del (by
      have : (sortWorld (Value.int .i64) w blk 0 n dk os).heap[g]? = some (.cells #[.int .i64 a1] 3 (0, 0)) := by rw [sort_heap hgl hgb]; exact hbk
      exact (blk_cell this 0).trans rfl) x
    have hcon := AnyE.slices_DeleteFunc Try.l39 (Value.int .i64) (fun _ => rfl) (fun x => x == a1) 40 #[.pointer (some ⟨g, 0, none⟩)] (enters_of Try.func40 (by kernel_rfl) rfl) 0 Try.zeroValue3 blk 0 cap l0.toArray w h1 h2 hH (by simp; omega) (by simpa using hn)
    change Calls Try.prog 39 _ _ _ at hcon
    rw [show l0.toArray.size = l0.length by simp] at hcon
    refine hcon.mono fun e w' ⟨he, q, hw⟩ => ?_
    have hfl : (l0.filter fun x => !(x == a1)).length ≤ l0.length := List.length_filter_le _ _
    have hsw : w' = sortWorld (Value.int .i64) w blk 0 q ((l0.filter fun x => !(x == a1)) ++ List.replicate (l0.length - (l0.filter fun x => !(x == a1)).length) 0).toArray #[] := by
      rw [hw]; unfold sortWorld; rw [grow_empty]
    refine ⟨_, he, ?_, by rw [hsw]; exact sort_below hB hb0, by rw [hsw]; exact sort_kept hP⟩
    refine Kd.R_of_own ?_ (fun k hk => Or.inl (ho0.1 k hk))
    have := Lib.ownsRow_putRow (q := q) (k := (l0.filter fun x => !(x == a1)).length) (ys := (l0.filter fun x => !(x == a1)) ++ List.replicate (l0.length - (l0.filter fun x => !(x == a1)).length) 0) how2 (by simp; omega) hfl
    rw [List.take_left] at this
    rw [hw]
    exact this
  next => cases h
end

end Go.Proofs.Ytojhnjgnpjoacaa.P
