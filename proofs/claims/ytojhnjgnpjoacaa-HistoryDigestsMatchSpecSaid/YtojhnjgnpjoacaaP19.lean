/- What the Go functions of this seat compute, and that they do: printed by a program over the kit's print. -/
import Derived.Test.YtojhnjgnpjoacaaP0
namespace Go.Proofs.Ytojhnjgnpjoacaa.P
open Go.RowKit Go.Proofs.YtojhnjgnpjoacaaW.PrintWords Go.Proofs.YtojhnjgnpjoacaaW.PrintLast Go.Proofs.YtojhnjgnpjoacaaW.PrintMore
attribute [local go_sem] max2_int min2_int max_two min_two max_three min_three max_four min_four   -- for this text's walks alone
set_option linter.unusedVariables false
set_option linter.unusedSimpArgs false

/-! ### slices_MaxFunc_int_int: function 37 -/
section
open Go.Sort Go.Lib
def tmc (l1 : List S49) (i : Int) : Int := (rd_T49 l1 i).f2
def cfc (l1 : List S49) (a b : Int) : Int := if tmc l1 a - tmc l1 b ≠ 0 then tmc l1 a - tmc l1 b else a - b
theorem order_cmp {w : World} {g : Nat} {A1 : Option Addr} {c1 : Nat} {l1 : List S49} (hbk : w.heap[g]? = some (.cells #[.slice A1 l1.length c1] 22 (0, 0))) (hr : Kd.C k49 w A1 l1.length l1) (hc : l1.length ≤ c1) (hl : l1.length ≤ 1000000) (ht : ∀ c ∈ l1, 0 ≤ c.f2 ∧ c.f2 ≤ 1000000) (a b : Int) (ha0 : 0 ≤ a) (ha : a < l1.length) (hb0 : 0 ≤ b) (hb : b < l1.length) :
    Calls Try.prog 38 #[.int .i64 a, .int .i64 b, .pointer (some ⟨g, 0, none⟩)] w fun e w' => e = .returned (.int .i64 (cfc l1 a b)) ∧ ∃ q, w' = w.drewN q := by
  have tb : ∀ i : Int, 0 ≤ i → i < l1.length → 0 ≤ (rd_T49 l1 i).f2 ∧ (rd_T49 l1 i).f2 ≤ 1000000 := fun i h0 h1 => by
    obtain ⟨n, rfl⟩ := Int.eq_ofNat_of_zero_le h0
    have hn : n < l1.length := by omega
    have : rd_T49 l1 (n : Int) = l1[n] := by simp [rd_T49, List.getD_eq_getElem?_getD, List.getElem?_eq_getElem hn]
    rw [this]
    exact ht _ (List.getElem_mem _)
  have ta := tb a ha0 ha
  have tb := tb b hb0 hb
  have hcz : w.cell? ⟨g, 0, none⟩ = some (.slice A1 l1.length c1) := (blk_cell hbk 0).trans rfl
  obtain ⟨ad, A, c, e1, hx1_0, hx1_1, hx1_2, hx1_3, hx1_4, hl1_, hi1_⟩ := at_T49 hr a ha0 ha
  cases e1
  obtain ⟨ad2, A2, c2, e2, hx2_0, hx2_1, hx2_2, hx2_3, hx2_4, hl2_, hi2_⟩ := at_T49 hr b hb0 hb
  obtain rfl : ad = ad2 := by injection e2
  clear hi1_ hi2_ hl1_ hl2_ hr hbk e2 hx1_0 hx2_0 hx1_1 hx2_1 hx1_3 hx2_3 hx1_4 hx2_4
  have w1 : IntKind.i64.wrap ((rd_T49 l1 a).f2 - (rd_T49 l1 b).f2) = (rd_T49 l1 a).f2 - (rd_T49 l1 b).f2 := by rw [IntKind.wrap_i64]; omega
  have w2 : IntKind.i64.wrap (a - b) = a - b := by rw [IntKind.wrap_i64]; omega
  have p1 : (0 ≤ a) = True := eq_true ha0
  have q1 : (a < (l1.length : Int)) = True := eq_true ha
  have p2 : (0 ≤ b) = True := eq_true hb0
  have q2 : (b < (l1.length : Int)) = True := eq_true hb
  unfold cfc tmc
  generalize hx : (rd_T49 l1 a).f2 = x at *
  generalize hy : (rd_T49 l1 b).f2 = y at *
  by_cases hd : x - y ≠ 0
  · rw [if_pos hd]
    have hd0 : decide (x - y = 0) = false := decide_eq_false hd
    go_enter Try.func38, Try.ntmps38
    go_wp2
    repeat (go_quiet (fail); try go_wp2)
    go_ret
    exact ⟨rfl, _, rfl⟩
  · rw [if_neg hd]
    have hd0 : decide (x - y = 0) = true := decide_eq_true (Decidable.not_not.1 hd)
    go_enter Try.func38, Try.ntmps38
    go_wp2
    repeat (go_quiet (fail); try go_wp2)
    go_ret
    exact ⟨rfl, _, rfl⟩
theorem order_del {w : World} {g : Nat} {b : Int} (hcz : w.cell? ⟨g, 0, none⟩ = some (.int .i64 b)) (x : Int) :
    FnGives Try.prog 40 #[.pointer (some ⟨g, 0, none⟩)] #[.int .i64 x] (.bool (x == b)) w := by
  show Calls Try.prog 40 #[.int .i64 x, .pointer (some ⟨g, 0, none⟩)] w _
  go_enter Try.func40, Try.ntmps40
  go_wp2
  all_goals (go_ret; exact ⟨by simp, 0, rfl⟩)

section
variable {α : Type} [Inhabited α]
/-- A world of a sort's, against the world that it began at: all but the row's block is as it was. -/
theorem sort_heap {enc : α → Value} {w : World} {blk off m : Nat} {dk : Array α} {os : Array Obj} {i : Nat} (hi : i < w.heap.size) (hne : i ≠ blk) : (sortWorld enc w blk off m dk os).heap[i]? = w.heap[i]? := by
  unfold sortWorld
  rw [Sort.heap_grow_old _ _ (by rw [size_putRow]; exact hi)]
  simp [putRow, mapBlock, Sort.ahead, Array.getElem?_modify, Ne.symm hne]
theorem sort_size {enc : α → Value} {w : World} {blk off m : Nat} {dk : Array α} {os : Array Obj} : w.heap.size ≤ (sortWorld enc w blk off m dk os).heap.size := by
  unfold sortWorld
  have : (putRow enc (Sort.ahead w m) blk off dk).heap.size = w.heap.size := by rw [size_putRow]; rfl
  show _ ≤ (_ ++ os).size
  rw [Array.size_append, this]
  omega
theorem sort_kept {enc : α → Value} {w : World} {blk off m : Nat} {dk : Array α} {os : Array Obj} {S : Nat → Prop} (hS : S blk) : Kept w (sortWorld enc w blk off m dk os) S :=
  ⟨sort_size, fun i hi hn => sort_heap hi (fun e => hn (e ▸ hS))⟩
theorem sort_below {enc : α → Value} {w0 w : World} {blk off m : Nat} {dk : Array α} {os : Array Obj} (hB : Below w0.heap.size w0 w) (h : w0.heap.size ≤ blk) : Below w0.heap.size w0 (sortWorld enc w blk off m dk os) :=
  ⟨hB.os, hB.tape, hB.output, Nat.le_trans hB.size sort_size, fun k hk => by rw [sort_heap (Nat.lt_of_lt_of_le hk hB.size) (by omega)]; exact hB.block k hk⟩
end
def mxp (l1 : List S49) (l0 : List Int) : Nat → Int
  | 0 => l0.getD 0 0
  | i + 1 => if 0 < cfc l1 (l0.getD (i + 1) 0) (mxp l1 l0 i) then l0.getD (i + 1) 0 else mxp l1 l0 i
def slices_MaxFunc_int_int.f (l0 : List Int) (l1 : List S49) : Option (Int × List Int) :=
  if l0 ≠ [] ∧ (∀ x ∈ l0, 0 ≤ x ∧ x < l1.length) ∧ (∀ c ∈ l1, 0 ≤ c.f2 ∧ c.f2 ≤ 1000000) ∧ l1.length ≤ 1000000 ∧ l0.length ≤ 1000000 then some (mxp l1 l0 (l0.length - 1), l0) else none
theorem slices_MaxFunc_int_int.calls' (P0_ : Nat → Prop) (u9000_ : Value) (l0 : List Int) (A1 : Option Addr) (c1 : Nat) (l1 : List S49) (r1 : Int) (r2 : List Int) (w0 w : World) (g : Nat) (hbk : w.heap[g]? = some (.cells #[.slice A1 l1.length c1] 22 (0, 0))) (hg : P0_ g → False) (hB : Below w0.heap.size w0 w) (ho0 : Kd.R (Kd.int .i64) 3 w w0.heap.size P0_ u9000_ l0)
    (hr1 : ∀ W_, Kept w W_ (fun k_ => P0_ k_) → Kd.C k49 W_ A1 l1.length l1) (hc1 : l1.length ≤ c1) (h : slices_MaxFunc_int_int.f l0 l1 = some (r1, r2)) :
    Calls Try.prog 37 #[u9000_, .func (.func 38) #[] #[.pointer (some ⟨g, 0, none⟩)]] w fun e w' => e = .returned (.int .i64 r1) ∧ Kd.R (Kd.int .i64) 3 w' w0.heap.size P0_ u9000_ r2 ∧ Below w0.heap.size w0 w' ∧ Kept w w' (fun k_ => P0_ k_) := by
  unfold slices_MaxFunc_int_int.f at h
  split at h
  next hh =>
    obtain ⟨hne, hin, ht, hl, hl0⟩ := hh
    simp only [Option.some.injEq, Prod.mk.injEq] at h
    obtain ⟨rfl, rfl⟩ := h
    have hp : 0 < l0.length := List.length_pos_iff.2 hne
    have how := Kd.own_of_R ho0
    rcases how.2 with ⟨_, hz⟩ | ⟨blk, cap, cur, rfl, hb0, hhp, hn, hm, hcs, htk⟩
    · omega
    have hbl : blk < w.heap.size := (Array.getElem?_eq_some_iff.1 hhp).1
    have hP : P0_ blk := ho0.1 blk rfl
    have hgl : g < w.heap.size := (Array.getElem?_eq_some_iff.1 hbk).1
    let α := { x : Int // 0 ≤ x ∧ x < l1.length }
    haveI : Inhabited α := ⟨⟨l0[0], hin _ (List.getElem_mem _)⟩⟩
    obtain ⟨d, hd⟩ : ∃ d : List α, d.map Subtype.val = l0 := ⟨l0.attach.map (fun x => ⟨x.1, hin _ x.2⟩), by rw [List.map_map]; exact List.attach_map_subtype_val l0⟩
    have hdl : d.length = l0.length := by rw [← hd, List.length_map]
    have hdn : ∀ j, j < l0.length → (d.toArray[j]!).1 = l0.getD j 0 := fun j hj => by
      rw [getElem!_pos d.toArray j (by simp [hdl, hj])]
      subst hd
      simp [List.getD_eq_getElem?_getD, hdl ▸ hj]
    let enc : α → Value := fun x => .int .i64 x.1
    have how2 : w.ownsRow w0.heap.size 3 1 (.slice (some ⟨blk, 0, none⟩) l0.length cap) l0.length (d.map enc) := by
      have : encs (Value.int .i64) l0 = d.map enc := by rw [← hd]; unfold encs; rw [List.map_map]; rfl
      rw [← this]; exact how
    obtain ⟨blk', cap', e1, hb', hlt', hn', hm', hl', hH⟩ := Lib.holds_of_ownsRow how2 (by intro e; cases e)
    injection e1 with e1 _ e3
    injection e1 with e1
    injection e1 with e1
    subst e1; subst e3
    have hcmp : CmpLays1 Try.prog 38 #[.pointer (some ⟨g, 0, none⟩)] enc (fun x y => cfc l1 x.1 y.1) blk 0 d.toArray.size w := by
      intro m os dk hs x y
      have hk := sort_kept (enc := enc) (w := w) (off := 0) (m := m) (dk := dk) (os := os) (S := fun k_ => P0_ k_) hP
      have hbk' : (sortWorld enc w blk 0 m dk os).heap[g]? = some (.cells #[.slice A1 l1.length c1] 22 (0, 0)) := by rw [hk.2 g hgl hg]; exact hbk
      exact (order_cmp hbk' (hr1 _ hk) hc1 hl ht x.1 y.1 x.2.1 x.2.2 y.2.1 y.2.2).mono fun e w' ⟨he, q, hq⟩ => ⟨he, q, #[], by rw [hq, grow_empty]⟩
    have hcon := Any.slices_MaxFunc Try.l37 enc (fun _ => rfl) (fun x y => cfc l1 x.1 y.1) 38 #[.pointer (some ⟨g, 0, none⟩)] blk 0 cap d.toArray w (enters_of Try.func38 (by kernel_rfl) rfl) hcmp hH hbl (by simp [hdl]; omega) (by simp [hdl]; omega)
    change Calls Try.prog 37 _ _ _ at hcon
    have hval : ∀ i, i < l0.length → (Lib.pickBy (fun x m => decide (0 < cfc l1 x.1 m.1)) d.toArray i).1 = mxp l1 l0 i := by
      intro i
      induction i with
      | zero => intro hi; exact hdn 0 hi
      | succ i ih =>
        intro hi
        have ih := ih (by omega)
        simp only [Lib.pickBy, mxp]
        by_cases hc : 0 < cfc l1 (l0.getD (i + 1) 0) (mxp l1 l0 i)
        · have hc' : decide (0 < cfc l1 (d.toArray[i + 1]!).1 (Lib.pickBy (fun x m => decide (0 < cfc l1 x.1 m.1)) d.toArray i).1) = true := by rw [hdn (i + 1) hi, ih]; exact decide_eq_true hc
          rw [if_pos hc, if_pos hc']; exact hdn (i + 1) hi
        · have hc' : ¬ decide (0 < cfc l1 (d.toArray[i + 1]!).1 (Lib.pickBy (fun x m => decide (0 < cfc l1 x.1 m.1)) d.toArray i).1) = true := by rw [hdn (i + 1) hi, ih]; simpa using hc
          rw [if_neg hc, if_neg hc']; exact ih
    rw [show d.toArray.size = l0.length by simp [hdl]] at hcon
    refine hcon.mono fun e w' ⟨he, hw⟩ => ?_
    obtain ⟨n, os, rfl⟩ := hw
    refine ⟨by rw [he]; show Ending.returned (Value.int .i64 _) = _; rw [hval _ (by omega)], ?_, sort_below hB hb0, sort_kept hP⟩
    refine Kd.R_of_own ?_ ho0.1
    have hold : sortWorld enc w blk 0 n d.toArray os = grow (w.drewN n) os := by
      have := sortWorld_start enc w blk 0 d.toArray hH
      rw [← this, sortWorld_grown_c]
      simp [this]
    rw [hold]
    exact pw_own_below how (below_grown w n os)
  next => cases h
end

end Go.Proofs.Ytojhnjgnpjoacaa.P
