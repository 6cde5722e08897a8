/- What the Go functions of this seat compute, and that they do: printed by a program over the kit's print. -/
import Derived.Test.YtojhnjgnpjoacaaP0
import Derived.Test.YtojhnjgnpjoacaaP38
namespace Go.Proofs.Ytojhnjgnpjoacaa.P
open Go.RowKit Go.Proofs.YtojhnjgnpjoacaaW.PrintWords Go.Proofs.YtojhnjgnpjoacaaW.PrintLast Go.Proofs.YtojhnjgnpjoacaaW.PrintMore
attribute [local go_sem] max2_int min2_int max_two min_two max_three min_three max_four min_four   -- for this text's walks alone
set_option linter.unusedVariables false
set_option linter.unusedSimpArgs false

/-! ### digest_Pair: function 43 -/
def digest_Pair.f (k : Nat) (a0 : Int) (a1 : Int) : Option (Int × Int × Int) := if 0 ≤ a0 ∧ a0 < 2305843009213693951 ∧ 0 ≤ a1 ∧ a1 < 2305843009213693951 then (digest_mul.f k a0 1000003).bind fun t1 => (digest_mul.f k a1 31).bind fun t2 => some (wrap64 (Int.tmod (IntKind.u64.wrap ((IntKind.u64.wrap (t1 + t2)) + 7)) 2305843009213693951), 0, 0) else none
theorem digest_Pair.mono : ∀ a0 a1 k, LeO (digest_Pair.f k a0 a1) (digest_Pair.f (k + 1) a0 a1) := by
  intro a0 a1 k
  unfold digest_Pair.f
  repeat' first
      | (with_reducible exact digest_mul.mono _ _ _)
      | (with_reducible exact LeO.refl _)
      | (with_reducible exact LeO.none _)
      | (with_reducible refine LeO.ite ?_ ?_)
      | (with_reducible refine LeO.bind ?_ (fun _ => ?_))
      | exact digest_mul.mono _ _ _
set_option maxHeartbeats 8000000 in
set_option maxRecDepth 100000 in
theorem digest_Pair.calls (k : Nat) (a0 : Int) (a1 : Int) (r1 : Int) (r2 : Int) (r3 : Int) (w : World) (h : digest_Pair.f k a0 a1 = some (r1, r2, r3)) :
    Calls Try.prog 43 #[.int .i64 a0, .int .i64 a1] w fun e w' => e = .returned (.tuple #[.int .i64 r1, .agg #[.int .i64 r2, .int .i64 r3]]) ∧ Below w.heap.size w w' := by
  have hu26 := Try.underlying26
  have hi0 : ∀ W : World, (Instr.index 66 (.agg #[.int .i64 a0, .int .i64 a1]) (.int .i64 0)).run Try.prog W = .ok (.int .i64 a0) W := fun W => by simp [Instr.index, asIntOf, run_underlying Try.underlying66, part, Try.isAgg3, Try.sizeOf3]
  have hi1 : ∀ W : World, (Instr.index 66 (.agg #[.int .i64 a0, .int .i64 a1]) (.int .i64 1)).run Try.prog W = .ok (.int .i64 a1) W := fun W => by simp [Instr.index, asIntOf, run_underlying Try.underlying66, part, Try.isAgg3, Try.sizeOf3]
  have HB := aZ (Below.refl w.heap.size w)
  unfold digest_Pair.f at h
  split at h
  next hh =>
    obtain ⟨h1, h2, h3, h4⟩ := hh
    obtain ⟨t1, A1, h⟩ := Option.bind_eq_some_iff.mp h
    obtain ⟨t2, A2, h⟩ := Option.bind_eq_some_iff.mp h
    simp only [Option.some.injEq, Prod.mk.injEq] at h
    obtain ⟨rfl, rfl, rfl⟩ := h
    have A1 := aZ A1
    have A2 := aZ A2
    have d1 : decide (a0 < 0) = false := decide_eq_false (by omega)
    have d2 : decide (2305843009213693951 ≤ a0) = false := decide_eq_false (by omega)
    have d3 : decide (a1 < 0) = false := decide_eq_false (by omega)
    have d4 : decide (2305843009213693951 ≤ a1) = false := decide_eq_false (by omega)
    have w1 : IntKind.u64.wrap a0 = a0 := by rw [IntKind.wrap_u64]; omega
    have w2 : IntKind.u64.wrap a1 = a1 := by rw [IntKind.wrap_u64]; omega
    go_enter Try.func43, Try.ntmps43
    go_wp2_with (first | ((with_reducible refine gate_dst (N := 5) rfl ?_); refine box_event ?hg (N := 5) ?hd (cs := #[.int .i64 0, .int .i64 0]) (t := 26) ?hr ?_; (case hd => rfl); (case hg => rfl); (case hr => first | (go_simp; done) | (go_simp; rfl)); intro gb hg w3 hbox hb; have n0_ := aZ (lT (by repeat (first | (with_reducible first | exact HB.out | apply lA | apply lN | apply lD) | exact HB.out)) hb); have n1_ := aZ (hbox); have n2_ := aZ ((by rw [hg]; exact (lZ (by repeat (first | (with_reducible first | exact HB.out | apply lA | apply lN | apply lD) | exact HB.out))) : w.heap.size ≤ gb)); clear HB; have HB := n0_; have BK := n1_; have GE := n2_; clear n0_ n1_ n2_; clear hb hbox hg))
    go_loopg [6, 7, 11] 2 (fun kq v6 v7 v11 w' => ∃ i : Int, v11 = .int .i64 i ∧ Aside0 (0 ≤ i) ∧ Aside0 (i ≤ 2) ∧ Aside0 (2 - i ≤ kq) ∧ Aside0 (w'.heap[gb]? = some (.cells #[.int .i64 0, .int .i64 0] 26 (0, 0))) ∧ Aside0 (Below w.heap.size w w'))
    case atStart => exact ⟨0, rfl, ⟨by omega⟩, ⟨by omega⟩, ⟨by omega⟩, ⟨by (with_reducible repeat (first | refine bN ?_ _ | refine bD ?_ | refine bA ?_ _)); exact BK.out⟩, ⟨by repeat (first | (with_reducible first | exact HB.out | apply lA | apply lN | apply lD | refine lS ?_ GE.out) | exact HB.out)⟩⟩
    case round =>
      obtain ⟨i, rfl, I1, I2, I3, BK, HB⟩ := hrel
      obtain rfl | rfl | rfl : i = 0 ∨ i = 1 ∨ i = 2 := by have := I1.out; have := I2.out; omega
      · go_wp2
        go_roundg (gk - 1)
        case measure => have := I3.out; omega
        case rel => exact ⟨1, rfl, ⟨by omega⟩, ⟨by omega⟩, ⟨by have := I3.out; omega⟩, ⟨by (with_reducible repeat (first | refine bN ?_ _ | refine bD ?_ | refine bA ?_ _)); exact BK.out⟩, ⟨by repeat (first | (with_reducible first | exact HB.out | apply lA | apply lN | apply lD | refine lS ?_ GE.out) | exact HB.out)⟩⟩
      · go_wp2
        go_roundg (gk - 1)
        case measure => have := I3.out; omega
        case rel => exact ⟨2, rfl, ⟨by omega⟩, ⟨by omega⟩, ⟨by have := I3.out; omega⟩, ⟨by (with_reducible repeat (first | refine bN ?_ _ | refine bD ?_ | refine bA ?_ _)); exact BK.out⟩, ⟨by repeat (first | (with_reducible first | exact HB.out | apply lA | apply lN | apply lD | refine lS ?_ GE.out) | exact HB.out)⟩⟩
      · have hcz_0 : wr.cell? ⟨gb, 0, none⟩ = some (.int .i64 0) := (blk_cell BK.out 0).trans rfl
        have hcz_1 : wr.cell? ⟨gb, 1, none⟩ = some (.int .i64 0) := (blk_cell BK.out 1).trans rfl
        have hfz_0 := blk_frozen BK.out 0
        have hfz_1 := blk_frozen BK.out 1
        go_wp2_with (first | ((with_reducible refine gate_dst (N := 26) rfl ?_); refine goesL_ (some 26) rfl rfl Try.func47 (by kernel_rfl) rfl #[.int .u64 a0, .int .u64 1000003] rfl (by (try simp only [List.map_toArray, List.map_cons, List.map_nil]); first | done | rfl) ?_; (refine (digest_mul.calls k a0 1000003 t1 _ A1.out).mono ?_); rintro e w' ⟨rfl, ⟨nd, rfl⟩⟩; refine ⟨_, rfl, ?_⟩) | ((with_reducible refine gate_dst (N := 29) rfl ?_); refine goesL_ (some 29) rfl rfl Try.func47 (by kernel_rfl) rfl #[.int .u64 a1, .int .u64 31] rfl (by (try simp only [List.map_toArray, List.map_cons, List.map_nil]); first | done | rfl) ?_; (refine (digest_mul.calls k a1 31 t2 _ A2.out).mono ?_); rintro e w' ⟨rfl, ⟨nd2, rfl⟩⟩; refine ⟨_, rfl, ?_⟩))
        refine bodyPost_ret (results_tc rfl _ _ gb 26 #[.int .i64 0, .int .i64 0] (0, 0) _ rfl (by (with_reducible repeat (first | refine bN ?_ _ | refine bD ?_ | refine bA ?_ _)); refine blk_put (cs := #[.int .i64 0, .int .i64 0]) ?_ 1 _ rfl; (with_reducible repeat (first | refine bN ?_ _ | refine bD ?_ | refine bA ?_ _)); refine blk_put (cs := #[.int .i64 0, .int .i64 0]) ?_ 0 _ rfl; (with_reducible repeat (first | refine bN ?_ _ | refine bD ?_ | refine bA ?_ _)); exact BK.out) Try.underlying26 rfl (by kernel_rfl)) rfl ?_
        exact ⟨by first | rfl | (simp [i64_w] <;> rfl) | (simp [*, i64_w] <;> rfl), by repeat (first | (with_reducible first | exact HB.out | apply lA | apply lN | apply lD | refine lS ?_ GE.out) | exact HB.out)⟩
  next => cases h


end Go.Proofs.Ytojhnjgnpjoacaa.P
