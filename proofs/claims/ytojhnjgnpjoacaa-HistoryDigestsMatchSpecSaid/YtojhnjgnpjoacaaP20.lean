/- What the Go functions of this seat compute, and that they do: printed by a program over the kit's print. -/
import Derived.Test.YtojhnjgnpjoacaaP0
import Derived.Test.YtojhnjgnpjoacaaP19
namespace Go.Proofs.Ytojhnjgnpjoacaa.P
open Go.RowKit Go.Proofs.YtojhnjgnpjoacaaW.PrintWords Go.Proofs.YtojhnjgnpjoacaaW.PrintLast Go.Proofs.YtojhnjgnpjoacaaW.PrintMore
attribute [local go_sem] max2_int min2_int max_two min_two max_three min_three max_four min_four   -- for this text's walks alone
set_option linter.unusedVariables false
set_option linter.unusedSimpArgs false

-- NOT PRINTED: function 46 (slices_IndexFunc_int_int)

/-! ### slices_DeleteFunc_int_int: function 39 -/
section
open Go.Sort Go.Lib
def slices_DeleteFunc_int_int.f (l0 : List Int) (a1 : Int) : Option (List Int) := if l0 ≠ [] ∧ l0.length ≤ 1000000 then some (l0.filter fun x => !(x == a1)) else none
theorem slices_DeleteFunc_int_int.calls' (P0_ : Nat → Prop) (u9000_ : Value) (l0 : List Int) (a1 : Int) (r : List Int) (w0 w : World) (g : Nat) (hbk : w.heap[g]? = some (.cells #[.int .i64 a1] 3 (0, 0))) (hg : P0_ g → False) (hB : Below w0.heap.size w0 w) (ho0 : Kd.R (Kd.int .i64) 3 w w0.heap.size P0_ u9000_ l0) (h : slices_DeleteFunc_int_int.f l0 a1 = some r) :
    Calls Try.prog 39 #[u9000_, .func (.func 40) #[] #[.pointer (some ⟨g, 0, none⟩)]] w fun e w' => ∃ v0_ : Value, e = .returned v0_ ∧ Kd.R (Kd.int .i64) 3 w' w0.heap.size (fun k_ => (P0_ k_ ∨ w.heap.size ≤ k_)) v0_ r ∧ Below w0.heap.size w0 w' ∧ Kept w w' (fun k_ => P0_ k_) := by
  unfold slices_DeleteFunc_int_int.f at h
  split at h
  next hh =>
    obtain ⟨hne, hl⟩ := hh
    obtain rfl := Option.some.inj h
    have hp : 0 < l0.length := List.length_pos_iff.2 hne
    have how := Kd.own_of_R ho0
    rcases how.2 with ⟨_, hz⟩ | ⟨blk, cap, cur, rfl, hb0, hhp, hn, hm, hcs, htk⟩
    · omega
    have hbl : blk < w.heap.size := (Array.getElem?_eq_some_iff.1 hhp).1
    have hP : P0_ blk := ho0.1 blk rfl
    have hgl : g < w.heap.size := (Array.getElem?_eq_some_iff.1 hbk).1
    have hcz : w.cell? ⟨g, 0, none⟩ = some (.int .i64 a1) := (blk_cell hbk 0).trans rfl
    have how2 : w.ownsRow w0.heap.size 3 1 (.slice (some ⟨blk, 0, none⟩) l0.length cap) l0.length (l0.map (Value.int .i64)) := how
    obtain ⟨blk', cap', e1, hb', hlt', hn', hm', hl', hH⟩ := Lib.holds_of_ownsRow how2 (by intro e; cases e)
    injection e1 with e1 _ e3
    injection e1 with e1
    injection e1 with e1
    subst e1; subst e3
    have hgb : g ≠ blk := fun e => hg (e ▸ hP)
    have h1 : PredAt Try.prog 40 #[.pointer (some ⟨g, 0, none⟩)] (Value.int .i64) (fun x => x == a1) w := fun W x hb => order_del ((hb.cell (p := ⟨g, 0, none⟩) hgl).trans hcz) x
    have h2 : PredOver Try.prog 40 #[.pointer (some ⟨g, 0, none⟩)] (Value.int .i64) (fun x => x == a1) blk 0 l0.toArray.size w := fun n os dk x _ => order_del (by
      have : (sortWorld (Value.int .i64) w blk 0 n dk os).heap[g]? = some (.cells #[.int .i64 a1] 3 (0, 0)) := by rw [sort_heap hgl hgb]; exact hbk
      exact (blk_cell this 0).trans rfl) x
    have hcon := AnyE.slices_DeleteFunc Try.l39 (Value.int .i64) (fun _ => rfl) (fun x => x == a1) 40 #[.pointer (some ⟨g, 0, none⟩)] (enters_of Try.func40 (by kernel_rfl) rfl) 0 Try.zeroValue3 blk 0 cap l0.toArray w h1 h2 hH (by simp; omega) (by simpa using hn)
    change Calls Try.prog 39 _ _ _ at hcon
    rw [show l0.toArray.size = l0.length by simp] at hcon
    refine hcon.mono fun e w' ⟨he, q, hw⟩ => ?_
    have hfl : (l0.filter fun x => !(x == a1)).length ≤ l0.length := List.length_filter_le _ _
    have hsw : w' = sortWorld (Value.int .i64) w blk 0 q ((l0.filter fun x => !(x == a1)) ++ List.replicate (l0.length - (l0.filter fun x => !(x == a1)).length) 0).toArray #[] := by
      rw [hw]; unfold sortWorld; rw [grow_empty]
    refine ⟨_, he, ?_, by rw [hsw]; exact sort_below hB hb0, by rw [hsw]; exact sort_kept hP⟩
    refine Kd.R_of_own ?_ (fun k hk => Or.inl (ho0.1 k hk))
    have := Lib.ownsRow_putRow (q := q) (k := (l0.filter fun x => !(x == a1)).length) (ys := (l0.filter fun x => !(x == a1)) ++ List.replicate (l0.length - (l0.filter fun x => !(x == a1)).length) 0) how2 (by simp; omega) hfl
    rw [List.take_left] at this
    rw [hw]
    exact this
  next => cases h
end

end Go.Proofs.Ytojhnjgnpjoacaa.P
