/- What the Go functions of this seat compute, and that they do: printed by a program over the kit's print. -/
import Derived.Test.YtojhnjgnpjoacaaP0
import Derived.Test.YtojhnjgnpjoacaaP9
namespace Go.Proofs.Ytojhnjgnpjoacaa.P
open Go.RowKit Go.Proofs.YtojhnjgnpjoacaaW.PrintWords Go.Proofs.YtojhnjgnpjoacaaW.PrintLast Go.Proofs.YtojhnjgnpjoacaaW.PrintMore
attribute [local go_sem] max2_int min2_int max_two min_two max_three min_three max_four min_four   -- for this text's walks alone
set_option linter.unusedVariables false
set_option linter.unusedSimpArgs false

/-! ### changeforgeref3_HistoryFault: function 17 -/
mutual
def changeforgeref3_HistoryFault.l0 : Nat → List (S49) → Int → Option (Int × Int)
  | 0, _, _ => none
  | k + 1, x0, x3 => if x3 < (x0.length : Int) then (if 0 ≤ x3 then (if (((rd_T49 x0 x3).f0).length : Int) > 3 then ((changeforgeref3_Fault.f 2 x3).bind fun bt203 => (some (bt203.1, bt203.2))) else (changeforgeref3_HistoryFault.l1 k x0 x3 0 ((rd_T49 x0 x3).f0) ((rd_T49 x0 x3).f1) ((rd_T49 x0 x3).f2) ((rd_T49 x0 x3).f3) ((rd_T49 x0 x3).f4))) else (none)) else (some (0, 0))
def changeforgeref3_HistoryFault.l1 : Nat → List (S49) → Int → Int → List Int → Int → Int → Int → ByteArray → Option (Int × Int)
  | 0, _, _, _, _, _, _, _, _ => none
  | k + 1, x0, x3, x5, x203000, x203001, x203002, x203003, x203004 => if x5 < (x203000.length : Int) then (if 0 ≤ x5 then ((changeforgeref3_In.f (rd x203000 x5) 0 (wrap64 (x3 - 1))).bind fun t206 => (if t206 = true then (if x5 > 0 then (if 0 ≤ (wrap64 (x5 - 1)) then (if (wrap64 (x5 - 1)) < (x203000.length : Int) then (if (rd x203000 x5) ≤ (rd x203000 (wrap64 (x5 - 1))) then ((changeforgeref3_Fault.f 5 x3).bind fun bt209 => (some (bt209.1, bt209.2))) else (changeforgeref3_HistoryFault.l1 k x0 x3 (wrap64 (x5 + 1)) x203000 x203001 x203002 x203003 x203004)) else (none)) else (none)) else (changeforgeref3_HistoryFault.l1 k x0 x3 (wrap64 (x5 + 1)) x203000 x203001 x203002 x203003 x203004)) else ((changeforgeref3_Fault.f 3 x3).bind fun bt211 => (some (bt211.1, bt211.2))))) else (none)) else ((changeforgeref3_In.f x203001 0 7).bind fun t213 => (if t213 = true then ((changeforgeref3_In.f x203002 0 100000).bind fun t214 => (if t214 = true then ((changeforgeref3_isDigest.f x203003).bind fun t215 => (changeforgeref3_HistoryFault.j2 k x0 x3 (!t215) x203000 x203001 x203002 x203003 x203004)) else (changeforgeref3_HistoryFault.j2 k x0 x3 true x203000 x203001 x203002 x203003 x203004))) else (changeforgeref3_HistoryFault.j2 k x0 x3 true x203000 x203001 x203002 x203003 x203004)))
def changeforgeref3_HistoryFault.j2 : Nat → List (S49) → Int → Bool → List Int → Int → Int → Int → ByteArray → Option (Int × Int)
  | 0, _, _, _, _, _, _, _, _ => none
  | k + 1, x0, x3, x77, x203000, x203001, x203002, x203003, x203004 => if x77 = true then ((changeforgeref3_Fault.f 3 x3).bind fun bt216 => (some (bt216.1, bt216.2))) else (if (x203004.size : Int) > 80 then ((changeforgeref3_Fault.f 10 x3).bind fun bt218 => (some (bt218.1, bt218.2))) else (changeforgeref3_HistoryFault.l0 k x0 (wrap64 (x3 + 1))))
end
def changeforgeref3_HistoryFault.f (k : Nat) (l0 : List (S49)) : Option (Int × Int) := if (l0.length : Int) > 60 then ((changeforgeref3_Fault.f 2 (-1)).bind fun bt199 => (some (bt199.1, bt199.2))) else (changeforgeref3_HistoryFault.l0 k l0 0)
theorem changeforgeref3_HistoryFault.mono_l : ∀ k, (∀ y0 y1, LeO (changeforgeref3_HistoryFault.l0 k y0 y1) (changeforgeref3_HistoryFault.l0 (k + 1) y0 y1)) ∧ (∀ y0 y1 y2 y3 y4 y5 y6 y7, LeO (changeforgeref3_HistoryFault.l1 k y0 y1 y2 y3 y4 y5 y6 y7) (changeforgeref3_HistoryFault.l1 (k + 1) y0 y1 y2 y3 y4 y5 y6 y7)) ∧ (∀ y0 y1 y2 y3 y4 y5 y6 y7, LeO (changeforgeref3_HistoryFault.j2 k y0 y1 y2 y3 y4 y5 y6 y7) (changeforgeref3_HistoryFault.j2 (k + 1) y0 y1 y2 y3 y4 y5 y6 y7))
  | 0 => ⟨fun _ _ r h => by simp [changeforgeref3_HistoryFault.l0] at h, fun _ _ _ _ _ _ _ _ r h => by simp [changeforgeref3_HistoryFault.l1] at h, fun _ _ _ _ _ _ _ _ r h => by simp [changeforgeref3_HistoryFault.j2] at h⟩
  | k + 1 => by
    obtain ⟨ih0, ih1, ih2⟩ := changeforgeref3_HistoryFault.mono_l k
    refine ⟨?_, ?_, ?_⟩
    · intro y0 y1
      unfold changeforgeref3_HistoryFault.l0
      repeat' first
      | (with_reducible exact ih0 _ _)
      | (with_reducible exact ih1 _ _ _ _ _ _ _ _)
      | (with_reducible exact ih2 _ _ _ _ _ _ _ _)
      | (with_reducible exact LeO.refl _)
      | (with_reducible exact LeO.none _)
      | (with_reducible refine LeO.ite ?_ ?_)
      | (with_reducible refine LeO.bind ?_ (fun _ => ?_))
      | exact ih0 _ _
      | exact ih1 _ _ _ _ _ _ _ _
      | exact ih2 _ _ _ _ _ _ _ _
      | exact LeO.none _
      | refine LeO.ite ?_ ?_
      | refine LeO.bind ?_ (fun _ => ?_)
    · intro y0 y1 y2 y3 y4 y5 y6 y7
      unfold changeforgeref3_HistoryFault.l1
      repeat' first
      | (with_reducible exact ih0 _ _)
      | (with_reducible exact ih1 _ _ _ _ _ _ _ _)
      | (with_reducible exact ih2 _ _ _ _ _ _ _ _)
      | (with_reducible exact LeO.refl _)
      | (with_reducible exact LeO.none _)
      | (with_reducible refine LeO.ite ?_ ?_)
      | (with_reducible refine LeO.bind ?_ (fun _ => ?_))
      | exact ih0 _ _
      | exact ih1 _ _ _ _ _ _ _ _
      | exact ih2 _ _ _ _ _ _ _ _
      | exact LeO.none _
      | refine LeO.ite ?_ ?_
      | refine LeO.bind ?_ (fun _ => ?_)
    · intro y0 y1 y2 y3 y4 y5 y6 y7
      unfold changeforgeref3_HistoryFault.j2
      repeat' first
      | (with_reducible exact ih0 _ _)
      | (with_reducible exact ih1 _ _ _ _ _ _ _ _)
      | (with_reducible exact ih2 _ _ _ _ _ _ _ _)
      | (with_reducible exact LeO.refl _)
      | (with_reducible exact LeO.none _)
      | (with_reducible refine LeO.ite ?_ ?_)
      | (with_reducible refine LeO.bind ?_ (fun _ => ?_))
      | exact ih0 _ _
      | exact ih1 _ _ _ _ _ _ _ _
      | exact ih2 _ _ _ _ _ _ _ _
      | exact LeO.none _
      | refine LeO.ite ?_ ?_
      | refine LeO.bind ?_ (fun _ => ?_)
theorem changeforgeref3_HistoryFault.mono : ∀ a0 k, LeO (changeforgeref3_HistoryFault.f k a0) (changeforgeref3_HistoryFault.f (k + 1) a0) := by
  intro a0 k
  obtain ⟨ih0, ih1, ih2⟩ := changeforgeref3_HistoryFault.mono_l k
  unfold changeforgeref3_HistoryFault.f
  repeat' first
      | (with_reducible exact ih0 _ _)
      | (with_reducible exact ih1 _ _ _ _ _ _ _ _)
      | (with_reducible exact ih2 _ _ _ _ _ _ _ _)
      | (with_reducible exact LeO.refl _)
      | (with_reducible exact LeO.none _)
      | (with_reducible refine LeO.ite ?_ ?_)
      | (with_reducible refine LeO.bind ?_ (fun _ => ?_))
      | exact ih0 _ _
      | exact ih1 _ _ _ _ _ _ _ _
      | exact ih2 _ _ _ _ _ _ _ _
      | exact LeO.none _
      | refine LeO.ite ?_ ?_
      | refine LeO.bind ?_ (fun _ => ?_)
set_option maxHeartbeats 8000000 in
set_option maxRecDepth 100000 in
theorem changeforgeref3_HistoryFault.calls (k : Nat) (A0 : Option Addr) (c0 : Nat) (l0 : List (S49)) (r1 : Int) (r2 : Int) (w : World) (hr0 : Kd.C k49 w A0 l0.length l0) (hc0 : l0.length ≤ c0) (h : changeforgeref3_HistoryFault.f k l0 = some (r1, r2)) :
  Calls Try.prog 17 #[.slice A0 l0.length c0] w fun e w' => e = .returned (.agg #[.int .i64 r1, .int .i64 r2]) ∧ Below w.heap.size w w' := by
  have hu26 := Try.underlying26
  have hu49 := Try.underlying49
  have HR0 := aZ hr0
  have HC0 := aZ hc0
  clear hr0 hc0
  have HB := aZ (Below.refl w.heap.size w)
  have H : (if (l0.length : Int) > 60 then ((changeforgeref3_Fault.f 2 (-1)).bind fun bt199 => (some (bt199.1, bt199.2))) else (changeforgeref3_HistoryFault.l0 k l0 0)) = some (r1, r2) := h
  clear h
  by_cases c2 : (l0.length : Int) > 60
  · rw [if_pos c2] at H
    have c2b0 : decide (60 < (l0.length : Int)) = true := decide_eq_true c2
    have c2b1 : decide (60 < l0.length) = true := decide_eq_true (by omega)
    clear c2
    replace H := Option.bind_eq_some_iff.mp H
    obtain ⟨⟨t199, t200⟩, A30, H⟩ := H
    replace H : (some (t199, t200)) = some (r1, r2) := H
    have A3 := aZ A30
    clear A30
    simp only [Option.some.injEq, Prod.mk.injEq] at H
    obtain ⟨rfl, rfl⟩ := H
    go_enter Try.func17, Try.ntmps17
    go_wp2_with (first | ((with_reducible refine gate_dst (N := 2) rfl ?_); refine box_event ?hg (N := 2) ?hd (cs := #[.int .i64 0, .int .i64 0]) (t := 26) ?hr ?_; (case hd => rfl); (case hg => rfl); (case hr => first | (go_simp; done) | (go_simp; rfl)); intro gb198 hg w4 hbox hb; have n0_ := aZ (lT (by repeat (first | (with_reducible first | exact HB.out | apply lA | apply lN | apply lD) | exact HB.out)) hb); have n1_ := aZ (hbox); have n2_ := aZ ((by rw [hg]; exact (lZ (by repeat (first | (with_reducible first | exact HB.out | apply lA | apply lN | apply lD) | exact HB.out))) : w.heap.size ≤ gb198)); have n3_ := aZ ((by rw [hg]; exact (lZ (by repeat (first | (with_reducible first | exact HB.out | apply lA | apply lN | apply lD) | exact HB.out))) : w.heap.size ≤ gb198)); clear HB; have HB := n0_; have BK198 := n1_; have GW198 := n2_; have GE198 := n3_; clear n0_ n1_ n2_ n3_; clear hb hbox hg) | (go_at_call 19; (with_reducible refine (changeforgeref3_Fault.calls 2 (-1) t199 t200 _ A3.out).mono ?_); rintro e w5 ⟨rfl, hb⟩; have n0_ := aZ (blk_below (g := gb198) (o := .cells #[.int .i64 0, .int .i64 0] 26 (0, 0)) (by (with_reducible repeat (first | refine bN ?_ _ | refine bD ?_ | refine bA ?_ _)); exact BK198.out) hb); have n1_ := aZ (lT (by repeat (first | (with_reducible first | exact HB.out | apply lA | apply lN | apply lD | refine lS ?_ GE198.out) | exact HB.out)) hb); clear BK198; clear HB; have BK198 := n0_; have HB := n1_; clear n0_ n1_; (try clear hb); (try clear hb2); (try clear hk); (try clear hi); have hcz6_0 : w5.cell? ⟨gb198, 0, none⟩ = some (.int .i64 0) := (blk_cell BK198.out 0).trans rfl; have hcz6_1 : w5.cell? ⟨gb198, 1, none⟩ = some (.int .i64 0) := (blk_cell BK198.out 1).trans rfl; have hfz6_0 := blk_frozen BK198.out 0; have hfz6_1 := blk_frozen BK198.out 1))
    repeat (go_quiet (first | ((with_reducible refine gate_dst (N := 2) rfl ?_); refine box_event ?hg (N := 2) ?hd (cs := #[.int .i64 0, .int .i64 0]) (t := 26) ?hr ?_; (case hd => rfl); (case hg => rfl); (case hr => first | (go_simp; done) | (go_simp; rfl)); intro gb198 hg w4 hbox hb; have n0_ := aZ (lT (by repeat (first | (with_reducible first | exact HB.out | apply lA | apply lN | apply lD) | exact HB.out)) hb); have n1_ := aZ (hbox); have n2_ := aZ ((by rw [hg]; exact (lZ (by repeat (first | (with_reducible first | exact HB.out | apply lA | apply lN | apply lD) | exact HB.out))) : w.heap.size ≤ gb198)); have n3_ := aZ ((by rw [hg]; exact (lZ (by repeat (first | (with_reducible first | exact HB.out | apply lA | apply lN | apply lD) | exact HB.out))) : w.heap.size ≤ gb198)); clear HB; have HB := n0_; have BK198 := n1_; have GW198 := n2_; have GE198 := n3_; clear n0_ n1_ n2_ n3_; clear hb hbox hg) | (go_at_call 19; (with_reducible refine (changeforgeref3_Fault.calls 2 (-1) t199 t200 _ A3.out).mono ?_); rintro e w5 ⟨rfl, hb⟩; have n0_ := aZ (blk_below (g := gb198) (o := .cells #[.int .i64 0, .int .i64 0] 26 (0, 0)) (by (with_reducible repeat (first | refine bN ?_ _ | refine bD ?_ | refine bA ?_ _)); exact BK198.out) hb); have n1_ := aZ (lT (by repeat (first | (with_reducible first | exact HB.out | apply lA | apply lN | apply lD | refine lS ?_ GE198.out) | exact HB.out)) hb); clear BK198; clear HB; have BK198 := n0_; have HB := n1_; clear n0_ n1_; (try clear hb); (try clear hb2); (try clear hk); (try clear hi); have hcz6_0 : w5.cell? ⟨gb198, 0, none⟩ = some (.int .i64 0) := (blk_cell BK198.out 0).trans rfl; have hcz6_1 : w5.cell? ⟨gb198, 1, none⟩ = some (.int .i64 0) := (blk_cell BK198.out 1).trans rfl; have hfz6_0 := blk_frozen BK198.out 0; have hfz6_1 := blk_frozen BK198.out 1)); try go_wp2_with (first | ((with_reducible refine gate_dst (N := 2) rfl ?_); refine box_event ?hg (N := 2) ?hd (cs := #[.int .i64 0, .int .i64 0]) (t := 26) ?hr ?_; (case hd => rfl); (case hg => rfl); (case hr => first | (go_simp; done) | (go_simp; rfl)); intro gb198 hg w4 hbox hb; have n0_ := aZ (lT (by repeat (first | (with_reducible first | exact HB.out | apply lA | apply lN | apply lD) | exact HB.out)) hb); have n1_ := aZ (hbox); have n2_ := aZ ((by rw [hg]; exact (lZ (by repeat (first | (with_reducible first | exact HB.out | apply lA | apply lN | apply lD) | exact HB.out))) : w.heap.size ≤ gb198)); have n3_ := aZ ((by rw [hg]; exact (lZ (by repeat (first | (with_reducible first | exact HB.out | apply lA | apply lN | apply lD) | exact HB.out))) : w.heap.size ≤ gb198)); clear HB; have HB := n0_; have BK198 := n1_; have GW198 := n2_; have GE198 := n3_; clear n0_ n1_ n2_ n3_; clear hb hbox hg) | (go_at_call 19; (with_reducible refine (changeforgeref3_Fault.calls 2 (-1) t199 t200 _ A3.out).mono ?_); rintro e w5 ⟨rfl, hb⟩; have n0_ := aZ (blk_below (g := gb198) (o := .cells #[.int .i64 0, .int .i64 0] 26 (0, 0)) (by (with_reducible repeat (first | refine bN ?_ _ | refine bD ?_ | refine bA ?_ _)); exact BK198.out) hb); have n1_ := aZ (lT (by repeat (first | (with_reducible first | exact HB.out | apply lA | apply lN | apply lD | refine lS ?_ GE198.out) | exact HB.out)) hb); clear BK198; clear HB; have BK198 := n0_; have HB := n1_; clear n0_ n1_; (try clear hb); (try clear hb2); (try clear hk); (try clear hi); have hcz6_0 : w5.cell? ⟨gb198, 0, none⟩ = some (.int .i64 0) := (blk_cell BK198.out 0).trans rfl; have hcz6_1 : w5.cell? ⟨gb198, 1, none⟩ = some (.int .i64 0) := (blk_cell BK198.out 1).trans rfl; have hfz6_0 := blk_frozen BK198.out 0; have hfz6_1 := blk_frozen BK198.out 1)))
    refine bodyPost_ret (results_cell_row rfl _ _ gb198 26 #[.int .i64 t199, .int .i64 t200] (0, 0) _ rfl (by (with_reducible repeat (first | refine bN ?_ _ | refine bD ?_ | refine bA ?_ _)); refine blk_put (cs := #[.int .i64 t199, .int .i64 0]) ?_ 1 _ rfl; (with_reducible repeat (first | refine bN ?_ _ | refine bD ?_ | refine bA ?_ _)); refine blk_put (cs := #[.int .i64 0, .int .i64 0]) ?_ 0 _ rfl; (with_reducible repeat (first | refine bN ?_ _ | refine bD ?_ | refine bA ?_ _)); exact BK198.out) Try.underlying26 rfl (by kernel_rfl)) rfl ?_
    exact ⟨by first | rfl | (simp [errW_none, errW_some] <;> rfl) | (simp [*, errW_none, errW_some] <;> rfl), by repeat (first | (with_reducible first | exact HB.out | apply lA | apply lN | apply lD | refine lS ?_ GE198.out) | exact HB.out)⟩
  rw [if_neg c2] at H
  have c2b0 : decide (60 < (l0.length : Int)) = false := decide_eq_false c2
  have c2b1 : decide (60 < l0.length) = false := decide_eq_false (by omega)
  clear c2
  have H' := aZ H
  clear H
  go_enter Try.func17, Try.ntmps17
  go_wp2_with (first | ((with_reducible refine gate_dst (N := 2) rfl ?_); refine box_event ?hg (N := 2) ?hd (cs := #[.int .i64 0, .int .i64 0]) (t := 26) ?hr ?_; (case hd => rfl); (case hg => rfl); (case hr => first | (go_simp; done) | (go_simp; rfl)); intro gb198 hg w7 hbox hb; have n0_ := aZ (lT (by repeat (first | (with_reducible first | exact HB.out | apply lA | apply lN | apply lD) | exact HB.out)) hb); have n1_ := aZ (hbox); have n2_ := aZ ((by rw [hg]; exact (lZ (by repeat (first | (with_reducible first | exact HB.out | apply lA | apply lN | apply lD) | exact HB.out))) : w.heap.size ≤ gb198)); have n3_ := aZ ((by rw [hg]; exact (lZ (by repeat (first | (with_reducible first | exact HB.out | apply lA | apply lN | apply lD) | exact HB.out))) : w.heap.size ≤ gb198)); clear HB; have HB := n0_; have BK198 := n1_; have GW198 := n2_; have GE198 := n3_; clear n0_ n1_ n2_ n3_; clear hb hbox hg))
  repeat (go_quiet (first | ((with_reducible refine gate_dst (N := 2) rfl ?_); refine box_event ?hg (N := 2) ?hd (cs := #[.int .i64 0, .int .i64 0]) (t := 26) ?hr ?_; (case hd => rfl); (case hg => rfl); (case hr => first | (go_simp; done) | (go_simp; rfl)); intro gb198 hg w7 hbox hb; have n0_ := aZ (lT (by repeat (first | (with_reducible first | exact HB.out | apply lA | apply lN | apply lD) | exact HB.out)) hb); have n1_ := aZ (hbox); have n2_ := aZ ((by rw [hg]; exact (lZ (by repeat (first | (with_reducible first | exact HB.out | apply lA | apply lN | apply lD) | exact HB.out))) : w.heap.size ≤ gb198)); have n3_ := aZ ((by rw [hg]; exact (lZ (by repeat (first | (with_reducible first | exact HB.out | apply lA | apply lN | apply lD) | exact HB.out))) : w.heap.size ≤ gb198)); clear HB; have HB := n0_; have BK198 := n1_; have GW198 := n2_; have GE198 := n3_; clear n0_ n1_ n2_ n3_; clear hb hbox hg)); try go_wp2_with (first | ((with_reducible refine gate_dst (N := 2) rfl ?_); refine box_event ?hg (N := 2) ?hd (cs := #[.int .i64 0, .int .i64 0]) (t := 26) ?hr ?_; (case hd => rfl); (case hg => rfl); (case hr => first | (go_simp; done) | (go_simp; rfl)); intro gb198 hg w7 hbox hb; have n0_ := aZ (lT (by repeat (first | (with_reducible first | exact HB.out | apply lA | apply lN | apply lD) | exact HB.out)) hb); have n1_ := aZ (hbox); have n2_ := aZ ((by rw [hg]; exact (lZ (by repeat (first | (with_reducible first | exact HB.out | apply lA | apply lN | apply lD) | exact HB.out))) : w.heap.size ≤ gb198)); have n3_ := aZ ((by rw [hg]; exact (lZ (by repeat (first | (with_reducible first | exact HB.out | apply lA | apply lN | apply lD) | exact HB.out))) : w.heap.size ≤ gb198)); clear HB; have HB := n0_; have BK198 := n1_; have GW198 := n2_; have GE198 := n3_; clear n0_ n1_ n2_ n3_; clear hb hbox hg)))
  go_loopg [3] k (fun kq v3 w' => ∃ (x3_1 : Int) (x199000_1 : Int) (x199001_1 : Int), v3 = .int .i64 x3_1 ∧ Aside0 (changeforgeref3_HistoryFault.l0 kq l0 x3_1 = some (r1, r2)) ∧ Aside0 (kq ≤ k) ∧ Aside0 (w'.heap[gb198]? = some (.cells #[.int .i64 x199000_1, .int .i64 x199001_1] 26 (0, 0))) ∧ Aside0 (Below w.heap.size w w'))
  case atStart => exact ⟨(0), (0), (0), (by first | rfl | (simp; done) | (simp [*]; done) | (simp [i64_w]; done)), H', ⟨Nat.le_refl _⟩, ⟨by (with_reducible repeat (first | refine bN ?_ _ | refine bD ?_ | refine bA ?_ _)); exact BK198.out⟩, ⟨by repeat (first | (with_reducible first | exact HB.out | apply lA | apply lN | apply lD | refine lS ?_ GE198.out) | exact HB.out)⟩⟩
  case round =>
   clear H'
   (try clear c2); (try clear c2b0); (try clear c2b1)
   obtain ⟨x3_1, x199000_1, x199001_1, rfl, HA, HK1, BK198, HB⟩ := hrel
   cases gk with
   | zero => exact absurd HA.out (by simp [changeforgeref3_HistoryFault.l0])
   | succ k1 =>
    have H := HA.out
    clear HA
    simp only [changeforgeref3_HistoryFault.l0] at H
    by_cases c8 : x3_1 < (l0.length : Int)
    rotate_left
    · rw [if_neg c8] at H
      have c8b0 : decide (x3_1 < (l0.length : Int)) = false := decide_eq_false c8
      clear c8
      simp only [Option.some.injEq, Prod.mk.injEq] at H
      obtain ⟨rfl, rfl⟩ := H
      have hcz70_0 : wr.cell? ⟨gb198, 0, none⟩ = some (.int .i64 x199000_1) := (blk_cell BK198.out 0).trans rfl
      have hcz70_1 : wr.cell? ⟨gb198, 1, none⟩ = some (.int .i64 x199001_1) := (blk_cell BK198.out 1).trans rfl
      have hfz70_0 := blk_frozen BK198.out 0
      have hfz70_1 := blk_frozen BK198.out 1
      go_wp2
      repeat (go_quiet (fail); try go_wp2)
      refine bodyPost_ret (results_cell_row rfl _ _ gb198 26 #[.int .i64 0, .int .i64 0] (0, 0) _ rfl (by (with_reducible repeat (first | refine bN ?_ _ | refine bD ?_ | refine bA ?_ _)); refine blk_put (cs := #[.int .i64 0, .int .i64 x199001_1]) ?_ 1 _ rfl; (with_reducible repeat (first | refine bN ?_ _ | refine bD ?_ | refine bA ?_ _)); refine blk_put (cs := #[.int .i64 x199000_1, .int .i64 x199001_1]) ?_ 0 _ rfl; (with_reducible repeat (first | refine bN ?_ _ | refine bD ?_ | refine bA ?_ _)); exact BK198.out) Try.underlying26 rfl (by kernel_rfl)) rfl ?_
      exact ⟨by first | rfl | (simp [errW_none, errW_some] <;> rfl) | (simp [*, errW_none, errW_some] <;> rfl), by repeat (first | (with_reducible first | exact HB.out | apply lA | apply lN | apply lD | refine lS ?_ GE198.out) | exact HB.out)⟩

    rw [if_pos c8] at H
    have c8b0 : decide (x3_1 < (l0.length : Int)) = true := decide_eq_true c8
    clear c8
    by_cases c9 : 0 ≤ x3_1
    rotate_left
    · rw [if_neg c9] at H
      exact absurd H (by simp)
    rw [if_pos c9] at H
    have c9b0 : decide (0 ≤ x3_1) = true := decide_eq_true c9
    clear c9
    by_cases c10 : (((rd_T49 l0 x3_1).f0).length : Int) > 3
    · rw [if_pos c10] at H
      have c10b0 : decide (3 < (((rd_T49 l0 x3_1).f0).length : Int)) = true := decide_eq_true c10
      have c10b1 : decide (3 < ((rd_T49 l0 x3_1).f0).length) = true := decide_eq_true (by omega)
      clear c10
      replace H := Option.bind_eq_some_iff.mp H
      obtain ⟨⟨t203, t204⟩, A110, H⟩ := H
      replace H : (some (t203, t204)) = some (r1, r2) := H
      have A11 := aZ A110
      clear A110
      simp only [Option.some.injEq, Prod.mk.injEq] at H
      obtain ⟨rfl, rfl⟩ := H
      have p201 : 0 ≤ (x3_1 : Int) := of_decide_eq_true (by first | (with_reducible assumption) | assumption)
      have q201 : x3_1 < (l0.length : Int) := of_decide_eq_true (by first | (with_reducible assumption) | assumption)
      obtain ⟨ad201, A201_0, c201_0, e201, hx201_0, hx201_1, hx201_2, hx201_3, hx201_4, hl201_0, hi201_0⟩ := at_T49 HR0.out x3_1 p201 q201
      cases e201
      replace hx201_0 := (HB.out.cell (World.block_lt_of_cell? w _ hx201_0)).trans hx201_0
      replace hx201_1 := (HB.out.cell (World.block_lt_of_cell? w _ hx201_1)).trans hx201_1
      replace hx201_2 := (HB.out.cell (World.block_lt_of_cell? w _ hx201_2)).trans hx201_2
      replace hx201_3 := (HB.out.cell (World.block_lt_of_cell? w _ hx201_3)).trans hx201_3
      replace hx201_4 := (HB.out.cell (World.block_lt_of_cell? w _ hx201_4)).trans hx201_4
      have HR201_0 := aZ hi201_0
      have HC201_0 := aZ hl201_0
      clear hi201_0 hl201_0
      replace p201 := eq_true p201
      replace q201 := eq_true q201
      go_wp2_with (first | ((with_reducible refine gate_dst (N := 4) rfl ?_); refine box_event ?hg (N := 4) ?hd (cs := #[.slice none 0 0, .int .i64 0, .int .i64 0, .int .i64 0, .string (⟨#[]⟩ : ByteArray)]) (t := 49) ?hr ?_; (case hd => rfl); (case hg => rfl); (case hr => first | (go_simp; done) | (go_simp; rfl)); intro gb202 hg w12 hbox hb; have n0_ := aZ (blk_below (g := gb198) (o := .cells #[.int .i64 x199000_1, .int .i64 x199001_1] 26 (0, 0)) (by (with_reducible repeat (first | refine bN ?_ _ | refine bD ?_ | refine bA ?_ _)); exact BK198.out) hb); have n1_ := aZ (lT (by repeat (first | (with_reducible first | exact HB.out | apply lA | apply lN | apply lD | refine lS ?_ GE198.out) | exact HB.out)) hb); have n2_ := aZ (hbox); have n3_ := aZ ((by rw [hg]; exact (lZ (by repeat (first | (with_reducible first | exact HB.out | apply lA | apply lN | apply lD | refine lS ?_ GE198.out) | exact HB.out))) : w.heap.size ≤ gb202)); have n4_ := aZ ((by rw [hg]; exact (lZ (by repeat (first | (with_reducible first | exact HB.out | apply lA | apply lN | apply lD | refine lS ?_ GE198.out) | exact HB.out))) : w.heap.size ≤ gb202)); have n5_ := aZ ((by rw [hg]; exact Nat.ne_of_lt (blk_lt (g := gb198) (o := .cells #[.int .i64 x199000_1, .int .i64 x199001_1] 26 (0, 0)) (by (with_reducible repeat (first | refine bN ?_ _ | refine bD ?_ | refine bA ?_ _)); exact BK198.out)) : gb198 ≠ gb202)); have n6_ := aZ ((by rw [hg]; exact Nat.ne_of_gt (blk_lt (g := gb198) (o := .cells #[.int .i64 x199000_1, .int .i64 x199001_1] 26 (0, 0)) (by (with_reducible repeat (first | refine bN ?_ _ | refine bD ?_ | refine bA ?_ _)); exact BK198.out)) : gb202 ≠ gb198)); clear BK198; clear HB; have BK198 := n0_; have HB := n1_; have BK202 := n2_; have GW202 := n3_; have GE202 := n4_; have NB198_202 := n5_; have NB202_198 := n6_; clear n0_ n1_ n2_ n3_ n4_ n5_ n6_; clear hb hbox hg; have hnb13 := NB202_198.out; have hnc13 := NB198_202.out; have hcz14_0 : w12.cell? ⟨gb202, 0, none⟩ = some (.slice none 0 0) := (blk_cell BK202.out 0).trans rfl; have hcz14_1 : w12.cell? ⟨gb202, 1, none⟩ = some (.int .i64 0) := (blk_cell BK202.out 1).trans rfl; have hcz14_2 : w12.cell? ⟨gb202, 2, none⟩ = some (.int .i64 0) := (blk_cell BK202.out 2).trans rfl; have hcz14_3 : w12.cell? ⟨gb202, 3, none⟩ = some (.int .i64 0) := (blk_cell BK202.out 3).trans rfl; have hcz14_4 : w12.cell? ⟨gb202, 4, none⟩ = some (.string (⟨#[]⟩ : ByteArray)) := (blk_cell BK202.out 4).trans rfl; have hfz14_0 := blk_frozen BK202.out 0; have hfz14_1 := blk_frozen BK202.out 1; have hfz14_2 := blk_frozen BK202.out 2; have hfz14_3 := blk_frozen BK202.out 3; have hfz14_4 := blk_frozen BK202.out 4) | (go_at_call 19; (with_reducible refine (changeforgeref3_Fault.calls 2 x3_1 t203 t204 _ A11.out).mono ?_); rintro e w15 ⟨rfl, hb⟩; have n0_ := aZ (blk_below (g := gb198) (o := .cells #[.int .i64 x199000_1, .int .i64 x199001_1] 26 (0, 0)) (by (with_reducible repeat (first | refine bN ?_ _ | refine bD ?_ | refine bA ?_ _)); refine blk_far ?_ NB198_202.out _; (with_reducible repeat (first | refine bN ?_ _ | refine bD ?_ | refine bA ?_ _)); refine blk_far ?_ NB198_202.out _; (with_reducible repeat (first | refine bN ?_ _ | refine bD ?_ | refine bA ?_ _)); refine blk_far ?_ NB198_202.out _; (with_reducible repeat (first | refine bN ?_ _ | refine bD ?_ | refine bA ?_ _)); refine blk_far ?_ NB198_202.out _; (with_reducible repeat (first | refine bN ?_ _ | refine bD ?_ | refine bA ?_ _)); refine blk_far ?_ NB198_202.out _; (with_reducible repeat (first | refine bN ?_ _ | refine bD ?_ | refine bA ?_ _)); exact BK198.out) hb); have n1_ := aZ (blk_below (g := gb202) (o := .cells #[.slice A201_0 ((rd_T49 l0 x3_1).f0).length c201_0, .int .i64 ((rd_T49 l0 x3_1).f1), .int .i64 ((rd_T49 l0 x3_1).f2), .int .i64 ((rd_T49 l0 x3_1).f3), .string ((rd_T49 l0 x3_1).f4)] 49 (0, 0)) (by (with_reducible repeat (first | refine bN ?_ _ | refine bD ?_ | refine bA ?_ _)); refine blk_put (cs := #[.slice A201_0 ((rd_T49 l0 x3_1).f0).length c201_0, .int .i64 ((rd_T49 l0 x3_1).f1), .int .i64 ((rd_T49 l0 x3_1).f2), .int .i64 ((rd_T49 l0 x3_1).f3), .string (⟨#[]⟩ : ByteArray)]) ?_ 4 _ rfl; (with_reducible repeat (first | refine bN ?_ _ | refine bD ?_ | refine bA ?_ _)); refine blk_put (cs := #[.slice A201_0 ((rd_T49 l0 x3_1).f0).length c201_0, .int .i64 ((rd_T49 l0 x3_1).f1), .int .i64 ((rd_T49 l0 x3_1).f2), .int .i64 0, .string (⟨#[]⟩ : ByteArray)]) ?_ 3 _ rfl; (with_reducible repeat (first | refine bN ?_ _ | refine bD ?_ | refine bA ?_ _)); refine blk_put (cs := #[.slice A201_0 ((rd_T49 l0 x3_1).f0).length c201_0, .int .i64 ((rd_T49 l0 x3_1).f1), .int .i64 0, .int .i64 0, .string (⟨#[]⟩ : ByteArray)]) ?_ 2 _ rfl; (with_reducible repeat (first | refine bN ?_ _ | refine bD ?_ | refine bA ?_ _)); refine blk_put (cs := #[.slice A201_0 ((rd_T49 l0 x3_1).f0).length c201_0, .int .i64 0, .int .i64 0, .int .i64 0, .string (⟨#[]⟩ : ByteArray)]) ?_ 1 _ rfl; (with_reducible repeat (first | refine bN ?_ _ | refine bD ?_ | refine bA ?_ _)); refine blk_put (cs := #[.slice none 0 0, .int .i64 0, .int .i64 0, .int .i64 0, .string (⟨#[]⟩ : ByteArray)]) ?_ 0 _ rfl; (with_reducible repeat (first | refine bN ?_ _ | refine bD ?_ | refine bA ?_ _)); exact BK202.out) hb); have n2_ := aZ (lT (by repeat (first | (with_reducible first | exact HB.out | apply lA | apply lN | apply lD | refine lS ?_ GE198.out | refine lS ?_ GE202.out) | exact HB.out)) hb); clear BK198; clear BK202; clear HB; have BK198 := n0_; have BK202 := n1_; have HB := n2_; clear n0_ n1_ n2_; (try clear hb); (try clear hb2); (try clear hk); (try clear hi); have hcz16_0 : w15.cell? ⟨gb198, 0, none⟩ = some (.int .i64 x199000_1) := (blk_cell BK198.out 0).trans rfl; have hcz16_1 : w15.cell? ⟨gb198, 1, none⟩ = some (.int .i64 x199001_1) := (blk_cell BK198.out 1).trans rfl; have hfz16_0 := blk_frozen BK198.out 0; have hfz16_1 := blk_frozen BK198.out 1))
      repeat (go_quiet (first | ((with_reducible refine gate_dst (N := 4) rfl ?_); refine box_event ?hg (N := 4) ?hd (cs := #[.slice none 0 0, .int .i64 0, .int .i64 0, .int .i64 0, .string (⟨#[]⟩ : ByteArray)]) (t := 49) ?hr ?_; (case hd => rfl); (case hg => rfl); (case hr => first | (go_simp; done) | (go_simp; rfl)); intro gb202 hg w12 hbox hb; have n0_ := aZ (blk_below (g := gb198) (o := .cells #[.int .i64 x199000_1, .int .i64 x199001_1] 26 (0, 0)) (by (with_reducible repeat (first | refine bN ?_ _ | refine bD ?_ | refine bA ?_ _)); exact BK198.out) hb); have n1_ := aZ (lT (by repeat (first | (with_reducible first | exact HB.out | apply lA | apply lN | apply lD | refine lS ?_ GE198.out) | exact HB.out)) hb); have n2_ := aZ (hbox); have n3_ := aZ ((by rw [hg]; exact (lZ (by repeat (first | (with_reducible first | exact HB.out | apply lA | apply lN | apply lD | refine lS ?_ GE198.out) | exact HB.out))) : w.heap.size ≤ gb202)); have n4_ := aZ ((by rw [hg]; exact (lZ (by repeat (first | (with_reducible first | exact HB.out | apply lA | apply lN | apply lD | refine lS ?_ GE198.out) | exact HB.out))) : w.heap.size ≤ gb202)); have n5_ := aZ ((by rw [hg]; exact Nat.ne_of_lt (blk_lt (g := gb198) (o := .cells #[.int .i64 x199000_1, .int .i64 x199001_1] 26 (0, 0)) (by (with_reducible repeat (first | refine bN ?_ _ | refine bD ?_ | refine bA ?_ _)); exact BK198.out)) : gb198 ≠ gb202)); have n6_ := aZ ((by rw [hg]; exact Nat.ne_of_gt (blk_lt (g := gb198) (o := .cells #[.int .i64 x199000_1, .int .i64 x199001_1] 26 (0, 0)) (by (with_reducible repeat (first | refine bN ?_ _ | refine bD ?_ | refine bA ?_ _)); exact BK198.out)) : gb202 ≠ gb198)); clear BK198; clear HB; have BK198 := n0_; have HB := n1_; have BK202 := n2_; have GW202 := n3_; have GE202 := n4_; have NB198_202 := n5_; have NB202_198 := n6_; clear n0_ n1_ n2_ n3_ n4_ n5_ n6_; clear hb hbox hg; have hnb13 := NB202_198.out; have hnc13 := NB198_202.out; have hcz14_0 : w12.cell? ⟨gb202, 0, none⟩ = some (.slice none 0 0) := (blk_cell BK202.out 0).trans rfl; have hcz14_1 : w12.cell? ⟨gb202, 1, none⟩ = some (.int .i64 0) := (blk_cell BK202.out 1).trans rfl; have hcz14_2 : w12.cell? ⟨gb202, 2, none⟩ = some (.int .i64 0) := (blk_cell BK202.out 2).trans rfl; have hcz14_3 : w12.cell? ⟨gb202, 3, none⟩ = some (.int .i64 0) := (blk_cell BK202.out 3).trans rfl; have hcz14_4 : w12.cell? ⟨gb202, 4, none⟩ = some (.string (⟨#[]⟩ : ByteArray)) := (blk_cell BK202.out 4).trans rfl; have hfz14_0 := blk_frozen BK202.out 0; have hfz14_1 := blk_frozen BK202.out 1; have hfz14_2 := blk_frozen BK202.out 2; have hfz14_3 := blk_frozen BK202.out 3; have hfz14_4 := blk_frozen BK202.out 4) | (go_at_call 19; (with_reducible refine (changeforgeref3_Fault.calls 2 x3_1 t203 t204 _ A11.out).mono ?_); rintro e w15 ⟨rfl, hb⟩; have n0_ := aZ (blk_below (g := gb198) (o := .cells #[.int .i64 x199000_1, .int .i64 x199001_1] 26 (0, 0)) (by (with_reducible repeat (first | refine bN ?_ _ | refine bD ?_ | refine bA ?_ _)); refine blk_far ?_ NB198_202.out _; (with_reducible repeat (first | refine bN ?_ _ | refine bD ?_ | refine bA ?_ _)); refine blk_far ?_ NB198_202.out _; (with_reducible repeat (first | refine bN ?_ _ | refine bD ?_ | refine bA ?_ _)); refine blk_far ?_ NB198_202.out _; (with_reducible repeat (first | refine bN ?_ _ | refine bD ?_ | refine bA ?_ _)); refine blk_far ?_ NB198_202.out _; (with_reducible repeat (first | refine bN ?_ _ | refine bD ?_ | refine bA ?_ _)); refine blk_far ?_ NB198_202.out _; (with_reducible repeat (first | refine bN ?_ _ | refine bD ?_ | refine bA ?_ _)); exact BK198.out) hb); have n1_ := aZ (blk_below (g := gb202) (o := .cells #[.slice A201_0 ((rd_T49 l0 x3_1).f0).length c201_0, .int .i64 ((rd_T49 l0 x3_1).f1), .int .i64 ((rd_T49 l0 x3_1).f2), .int .i64 ((rd_T49 l0 x3_1).f3), .string ((rd_T49 l0 x3_1).f4)] 49 (0, 0)) (by (with_reducible repeat (first | refine bN ?_ _ | refine bD ?_ | refine bA ?_ _)); refine blk_put (cs := #[.slice A201_0 ((rd_T49 l0 x3_1).f0).length c201_0, .int .i64 ((rd_T49 l0 x3_1).f1), .int .i64 ((rd_T49 l0 x3_1).f2), .int .i64 ((rd_T49 l0 x3_1).f3), .string (⟨#[]⟩ : ByteArray)]) ?_ 4 _ rfl; (with_reducible repeat (first | refine bN ?_ _ | refine bD ?_ | refine bA ?_ _)); refine blk_put (cs := #[.slice A201_0 ((rd_T49 l0 x3_1).f0).length c201_0, .int .i64 ((rd_T49 l0 x3_1).f1), .int .i64 ((rd_T49 l0 x3_1).f2), .int .i64 0, .string (⟨#[]⟩ : ByteArray)]) ?_ 3 _ rfl; (with_reducible repeat (first | refine bN ?_ _ | refine bD ?_ | refine bA ?_ _)); refine blk_put (cs := #[.slice A201_0 ((rd_T49 l0 x3_1).f0).length c201_0, .int .i64 ((rd_T49 l0 x3_1).f1), .int .i64 0, .int .i64 0, .string (⟨#[]⟩ : ByteArray)]) ?_ 2 _ rfl; (with_reducible repeat (first | refine bN ?_ _ | refine bD ?_ | refine bA ?_ _)); refine blk_put (cs := #[.slice A201_0 ((rd_T49 l0 x3_1).f0).length c201_0, .int .i64 0, .int .i64 0, .int .i64 0, .string (⟨#[]⟩ : ByteArray)]) ?_ 1 _ rfl; (with_reducible repeat (first | refine bN ?_ _ | refine bD ?_ | refine bA ?_ _)); refine blk_put (cs := #[.slice none 0 0, .int .i64 0, .int .i64 0, .int .i64 0, .string (⟨#[]⟩ : ByteArray)]) ?_ 0 _ rfl; (with_reducible repeat (first | refine bN ?_ _ | refine bD ?_ | refine bA ?_ _)); exact BK202.out) hb); have n2_ := aZ (lT (by repeat (first | (with_reducible first | exact HB.out | apply lA | apply lN | apply lD | refine lS ?_ GE198.out | refine lS ?_ GE202.out) | exact HB.out)) hb); clear BK198; clear BK202; clear HB; have BK198 := n0_; have BK202 := n1_; have HB := n2_; clear n0_ n1_ n2_; (try clear hb); (try clear hb2); (try clear hk); (try clear hi); have hcz16_0 : w15.cell? ⟨gb198, 0, none⟩ = some (.int .i64 x199000_1) := (blk_cell BK198.out 0).trans rfl; have hcz16_1 : w15.cell? ⟨gb198, 1, none⟩ = some (.int .i64 x199001_1) := (blk_cell BK198.out 1).trans rfl; have hfz16_0 := blk_frozen BK198.out 0; have hfz16_1 := blk_frozen BK198.out 1)); try go_wp2_with (first | ((with_reducible refine gate_dst (N := 4) rfl ?_); refine box_event ?hg (N := 4) ?hd (cs := #[.slice none 0 0, .int .i64 0, .int .i64 0, .int .i64 0, .string (⟨#[]⟩ : ByteArray)]) (t := 49) ?hr ?_; (case hd => rfl); (case hg => rfl); (case hr => first | (go_simp; done) | (go_simp; rfl)); intro gb202 hg w12 hbox hb; have n0_ := aZ (blk_below (g := gb198) (o := .cells #[.int .i64 x199000_1, .int .i64 x199001_1] 26 (0, 0)) (by (with_reducible repeat (first | refine bN ?_ _ | refine bD ?_ | refine bA ?_ _)); exact BK198.out) hb); have n1_ := aZ (lT (by repeat (first | (with_reducible first | exact HB.out | apply lA | apply lN | apply lD | refine lS ?_ GE198.out) | exact HB.out)) hb); have n2_ := aZ (hbox); have n3_ := aZ ((by rw [hg]; exact (lZ (by repeat (first | (with_reducible first | exact HB.out | apply lA | apply lN | apply lD | refine lS ?_ GE198.out) | exact HB.out))) : w.heap.size ≤ gb202)); have n4_ := aZ ((by rw [hg]; exact (lZ (by repeat (first | (with_reducible first | exact HB.out | apply lA | apply lN | apply lD | refine lS ?_ GE198.out) | exact HB.out))) : w.heap.size ≤ gb202)); have n5_ := aZ ((by rw [hg]; exact Nat.ne_of_lt (blk_lt (g := gb198) (o := .cells #[.int .i64 x199000_1, .int .i64 x199001_1] 26 (0, 0)) (by (with_reducible repeat (first | refine bN ?_ _ | refine bD ?_ | refine bA ?_ _)); exact BK198.out)) : gb198 ≠ gb202)); have n6_ := aZ ((by rw [hg]; exact Nat.ne_of_gt (blk_lt (g := gb198) (o := .cells #[.int .i64 x199000_1, .int .i64 x199001_1] 26 (0, 0)) (by (with_reducible repeat (first | refine bN ?_ _ | refine bD ?_ | refine bA ?_ _)); exact BK198.out)) : gb202 ≠ gb198)); clear BK198; clear HB; have BK198 := n0_; have HB := n1_; have BK202 := n2_; have GW202 := n3_; have GE202 := n4_; have NB198_202 := n5_; have NB202_198 := n6_; clear n0_ n1_ n2_ n3_ n4_ n5_ n6_; clear hb hbox hg; have hnb13 := NB202_198.out; have hnc13 := NB198_202.out; have hcz14_0 : w12.cell? ⟨gb202, 0, none⟩ = some (.slice none 0 0) := (blk_cell BK202.out 0).trans rfl; have hcz14_1 : w12.cell? ⟨gb202, 1, none⟩ = some (.int .i64 0) := (blk_cell BK202.out 1).trans rfl; have hcz14_2 : w12.cell? ⟨gb202, 2, none⟩ = some (.int .i64 0) := (blk_cell BK202.out 2).trans rfl; have hcz14_3 : w12.cell? ⟨gb202, 3, none⟩ = some (.int .i64 0) := (blk_cell BK202.out 3).trans rfl; have hcz14_4 : w12.cell? ⟨gb202, 4, none⟩ = some (.string (⟨#[]⟩ : ByteArray)) := (blk_cell BK202.out 4).trans rfl; have hfz14_0 := blk_frozen BK202.out 0; have hfz14_1 := blk_frozen BK202.out 1; have hfz14_2 := blk_frozen BK202.out 2; have hfz14_3 := blk_frozen BK202.out 3; have hfz14_4 := blk_frozen BK202.out 4) | (go_at_call 19; (with_reducible refine (changeforgeref3_Fault.calls 2 x3_1 t203 t204 _ A11.out).mono ?_); rintro e w15 ⟨rfl, hb⟩; have n0_ := aZ (blk_below (g := gb198) (o := .cells #[.int .i64 x199000_1, .int .i64 x199001_1] 26 (0, 0)) (by (with_reducible repeat (first | refine bN ?_ _ | refine bD ?_ | refine bA ?_ _)); refine blk_far ?_ NB198_202.out _; (with_reducible repeat (first | refine bN ?_ _ | refine bD ?_ | refine bA ?_ _)); refine blk_far ?_ NB198_202.out _; (with_reducible repeat (first | refine bN ?_ _ | refine bD ?_ | refine bA ?_ _)); refine blk_far ?_ NB198_202.out _; (with_reducible repeat (first | refine bN ?_ _ | refine bD ?_ | refine bA ?_ _)); refine blk_far ?_ NB198_202.out _; (with_reducible repeat (first | refine bN ?_ _ | refine bD ?_ | refine bA ?_ _)); refine blk_far ?_ NB198_202.out _; (with_reducible repeat (first | refine bN ?_ _ | refine bD ?_ | refine bA ?_ _)); exact BK198.out) hb); have n1_ := aZ (blk_below (g := gb202) (o := .cells #[.slice A201_0 ((rd_T49 l0 x3_1).f0).length c201_0, .int .i64 ((rd_T49 l0 x3_1).f1), .int .i64 ((rd_T49 l0 x3_1).f2), .int .i64 ((rd_T49 l0 x3_1).f3), .string ((rd_T49 l0 x3_1).f4)] 49 (0, 0)) (by (with_reducible repeat (first | refine bN ?_ _ | refine bD ?_ | refine bA ?_ _)); refine blk_put (cs := #[.slice A201_0 ((rd_T49 l0 x3_1).f0).length c201_0, .int .i64 ((rd_T49 l0 x3_1).f1), .int .i64 ((rd_T49 l0 x3_1).f2), .int .i64 ((rd_T49 l0 x3_1).f3), .string (⟨#[]⟩ : ByteArray)]) ?_ 4 _ rfl; (with_reducible repeat (first | refine bN ?_ _ | refine bD ?_ | refine bA ?_ _)); refine blk_put (cs := #[.slice A201_0 ((rd_T49 l0 x3_1).f0).length c201_0, .int .i64 ((rd_T49 l0 x3_1).f1), .int .i64 ((rd_T49 l0 x3_1).f2), .int .i64 0, .string (⟨#[]⟩ : ByteArray)]) ?_ 3 _ rfl; (with_reducible repeat (first | refine bN ?_ _ | refine bD ?_ | refine bA ?_ _)); refine blk_put (cs := #[.slice A201_0 ((rd_T49 l0 x3_1).f0).length c201_0, .int .i64 ((rd_T49 l0 x3_1).f1), .int .i64 0, .int .i64 0, .string (⟨#[]⟩ : ByteArray)]) ?_ 2 _ rfl; (with_reducible repeat (first | refine bN ?_ _ | refine bD ?_ | refine bA ?_ _)); refine blk_put (cs := #[.slice A201_0 ((rd_T49 l0 x3_1).f0).length c201_0, .int .i64 0, .int .i64 0, .int .i64 0, .string (⟨#[]⟩ : ByteArray)]) ?_ 1 _ rfl; (with_reducible repeat (first | refine bN ?_ _ | refine bD ?_ | refine bA ?_ _)); refine blk_put (cs := #[.slice none 0 0, .int .i64 0, .int .i64 0, .int .i64 0, .string (⟨#[]⟩ : ByteArray)]) ?_ 0 _ rfl; (with_reducible repeat (first | refine bN ?_ _ | refine bD ?_ | refine bA ?_ _)); exact BK202.out) hb); have n2_ := aZ (lT (by repeat (first | (with_reducible first | exact HB.out | apply lA | apply lN | apply lD | refine lS ?_ GE198.out | refine lS ?_ GE202.out) | exact HB.out)) hb); clear BK198; clear BK202; clear HB; have BK198 := n0_; have BK202 := n1_; have HB := n2_; clear n0_ n1_ n2_; (try clear hb); (try clear hb2); (try clear hk); (try clear hi); have hcz16_0 : w15.cell? ⟨gb198, 0, none⟩ = some (.int .i64 x199000_1) := (blk_cell BK198.out 0).trans rfl; have hcz16_1 : w15.cell? ⟨gb198, 1, none⟩ = some (.int .i64 x199001_1) := (blk_cell BK198.out 1).trans rfl; have hfz16_0 := blk_frozen BK198.out 0; have hfz16_1 := blk_frozen BK198.out 1)))
      refine bodyPost_ret (results_cell_row rfl _ _ gb198 26 #[.int .i64 t203, .int .i64 t204] (0, 0) _ rfl (by (with_reducible repeat (first | refine bN ?_ _ | refine bD ?_ | refine bA ?_ _)); refine blk_put (cs := #[.int .i64 t203, .int .i64 x199001_1]) ?_ 1 _ rfl; (with_reducible repeat (first | refine bN ?_ _ | refine bD ?_ | refine bA ?_ _)); refine blk_put (cs := #[.int .i64 x199000_1, .int .i64 x199001_1]) ?_ 0 _ rfl; (with_reducible repeat (first | refine bN ?_ _ | refine bD ?_ | refine bA ?_ _)); exact BK198.out) Try.underlying26 rfl (by kernel_rfl)) rfl ?_
      exact ⟨by first | rfl | (simp [errW_none, errW_some] <;> rfl) | (simp [*, errW_none, errW_some] <;> rfl), by repeat (first | (with_reducible first | exact HB.out | apply lA | apply lN | apply lD | refine lS ?_ GE198.out | refine lS ?_ GE202.out) | exact HB.out)⟩
    rw [if_neg c10] at H
    have c10b0 : decide (3 < (((rd_T49 l0 x3_1).f0).length : Int)) = false := decide_eq_false c10
    have c10b1 : decide (3 < ((rd_T49 l0 x3_1).f0).length) = false := decide_eq_false (by omega)
    clear c10
    have H' := aZ H
    clear H
    have p201 : 0 ≤ (x3_1 : Int) := of_decide_eq_true (by first | (with_reducible assumption) | assumption)
    have q201 : x3_1 < (l0.length : Int) := of_decide_eq_true (by first | (with_reducible assumption) | assumption)
    obtain ⟨ad201, A201_0, c201_0, e201, hx201_0, hx201_1, hx201_2, hx201_3, hx201_4, hl201_0, hi201_0⟩ := at_T49 HR0.out x3_1 p201 q201
    cases e201
    replace hx201_0 := (HB.out.cell (World.block_lt_of_cell? w _ hx201_0)).trans hx201_0
    replace hx201_1 := (HB.out.cell (World.block_lt_of_cell? w _ hx201_1)).trans hx201_1
    replace hx201_2 := (HB.out.cell (World.block_lt_of_cell? w _ hx201_2)).trans hx201_2
    replace hx201_3 := (HB.out.cell (World.block_lt_of_cell? w _ hx201_3)).trans hx201_3
    replace hx201_4 := (HB.out.cell (World.block_lt_of_cell? w _ hx201_4)).trans hx201_4
    have HR201_0 := aZ hi201_0
    have HC201_0 := aZ hl201_0
    clear hi201_0 hl201_0
    replace p201 := eq_true p201
    replace q201 := eq_true q201
    go_wp2_with (first | ((with_reducible refine gate_dst (N := 4) rfl ?_); refine box_event ?hg (N := 4) ?hd (cs := #[.slice none 0 0, .int .i64 0, .int .i64 0, .int .i64 0, .string (⟨#[]⟩ : ByteArray)]) (t := 49) ?hr ?_; (case hd => rfl); (case hg => rfl); (case hr => first | (go_simp; done) | (go_simp; rfl)); intro gb202 hg w17 hbox hb; have n0_ := aZ (blk_below (g := gb198) (o := .cells #[.int .i64 x199000_1, .int .i64 x199001_1] 26 (0, 0)) (by (with_reducible repeat (first | refine bN ?_ _ | refine bD ?_ | refine bA ?_ _)); exact BK198.out) hb); have n1_ := aZ (lT (by repeat (first | (with_reducible first | exact HB.out | apply lA | apply lN | apply lD | refine lS ?_ GE198.out) | exact HB.out)) hb); have n2_ := aZ (hbox); have n3_ := aZ ((by rw [hg]; exact (lZ (by repeat (first | (with_reducible first | exact HB.out | apply lA | apply lN | apply lD | refine lS ?_ GE198.out) | exact HB.out))) : w.heap.size ≤ gb202)); have n4_ := aZ ((by rw [hg]; exact (lZ (by repeat (first | (with_reducible first | exact HB.out | apply lA | apply lN | apply lD | refine lS ?_ GE198.out) | exact HB.out))) : w.heap.size ≤ gb202)); have n5_ := aZ ((by rw [hg]; exact Nat.ne_of_lt (blk_lt (g := gb198) (o := .cells #[.int .i64 x199000_1, .int .i64 x199001_1] 26 (0, 0)) (by (with_reducible repeat (first | refine bN ?_ _ | refine bD ?_ | refine bA ?_ _)); exact BK198.out)) : gb198 ≠ gb202)); have n6_ := aZ ((by rw [hg]; exact Nat.ne_of_gt (blk_lt (g := gb198) (o := .cells #[.int .i64 x199000_1, .int .i64 x199001_1] 26 (0, 0)) (by (with_reducible repeat (first | refine bN ?_ _ | refine bD ?_ | refine bA ?_ _)); exact BK198.out)) : gb202 ≠ gb198)); clear BK198; clear HB; have BK198 := n0_; have HB := n1_; have BK202 := n2_; have GW202 := n3_; have GE202 := n4_; have NB198_202 := n5_; have NB202_198 := n6_; clear n0_ n1_ n2_ n3_ n4_ n5_ n6_; clear hb hbox hg; have hnb18 := NB202_198.out; have hnc18 := NB198_202.out; have hcz19_0 : w17.cell? ⟨gb202, 0, none⟩ = some (.slice none 0 0) := (blk_cell BK202.out 0).trans rfl; have hcz19_1 : w17.cell? ⟨gb202, 1, none⟩ = some (.int .i64 0) := (blk_cell BK202.out 1).trans rfl; have hcz19_2 : w17.cell? ⟨gb202, 2, none⟩ = some (.int .i64 0) := (blk_cell BK202.out 2).trans rfl; have hcz19_3 : w17.cell? ⟨gb202, 3, none⟩ = some (.int .i64 0) := (blk_cell BK202.out 3).trans rfl; have hcz19_4 : w17.cell? ⟨gb202, 4, none⟩ = some (.string (⟨#[]⟩ : ByteArray)) := (blk_cell BK202.out 4).trans rfl; have hfz19_0 := blk_frozen BK202.out 0; have hfz19_1 := blk_frozen BK202.out 1; have hfz19_2 := blk_frozen BK202.out 2; have hfz19_3 := blk_frozen BK202.out 3; have hfz19_4 := blk_frozen BK202.out 4))
    repeat (go_quiet (first | ((with_reducible refine gate_dst (N := 4) rfl ?_); refine box_event ?hg (N := 4) ?hd (cs := #[.slice none 0 0, .int .i64 0, .int .i64 0, .int .i64 0, .string (⟨#[]⟩ : ByteArray)]) (t := 49) ?hr ?_; (case hd => rfl); (case hg => rfl); (case hr => first | (go_simp; done) | (go_simp; rfl)); intro gb202 hg w17 hbox hb; have n0_ := aZ (blk_below (g := gb198) (o := .cells #[.int .i64 x199000_1, .int .i64 x199001_1] 26 (0, 0)) (by (with_reducible repeat (first | refine bN ?_ _ | refine bD ?_ | refine bA ?_ _)); exact BK198.out) hb); have n1_ := aZ (lT (by repeat (first | (with_reducible first | exact HB.out | apply lA | apply lN | apply lD | refine lS ?_ GE198.out) | exact HB.out)) hb); have n2_ := aZ (hbox); have n3_ := aZ ((by rw [hg]; exact (lZ (by repeat (first | (with_reducible first | exact HB.out | apply lA | apply lN | apply lD | refine lS ?_ GE198.out) | exact HB.out))) : w.heap.size ≤ gb202)); have n4_ := aZ ((by rw [hg]; exact (lZ (by repeat (first | (with_reducible first | exact HB.out | apply lA | apply lN | apply lD | refine lS ?_ GE198.out) | exact HB.out))) : w.heap.size ≤ gb202)); have n5_ := aZ ((by rw [hg]; exact Nat.ne_of_lt (blk_lt (g := gb198) (o := .cells #[.int .i64 x199000_1, .int .i64 x199001_1] 26 (0, 0)) (by (with_reducible repeat (first | refine bN ?_ _ | refine bD ?_ | refine bA ?_ _)); exact BK198.out)) : gb198 ≠ gb202)); have n6_ := aZ ((by rw [hg]; exact Nat.ne_of_gt (blk_lt (g := gb198) (o := .cells #[.int .i64 x199000_1, .int .i64 x199001_1] 26 (0, 0)) (by (with_reducible repeat (first | refine bN ?_ _ | refine bD ?_ | refine bA ?_ _)); exact BK198.out)) : gb202 ≠ gb198)); clear BK198; clear HB; have BK198 := n0_; have HB := n1_; have BK202 := n2_; have GW202 := n3_; have GE202 := n4_; have NB198_202 := n5_; have NB202_198 := n6_; clear n0_ n1_ n2_ n3_ n4_ n5_ n6_; clear hb hbox hg; have hnb18 := NB202_198.out; have hnc18 := NB198_202.out; have hcz19_0 : w17.cell? ⟨gb202, 0, none⟩ = some (.slice none 0 0) := (blk_cell BK202.out 0).trans rfl; have hcz19_1 : w17.cell? ⟨gb202, 1, none⟩ = some (.int .i64 0) := (blk_cell BK202.out 1).trans rfl; have hcz19_2 : w17.cell? ⟨gb202, 2, none⟩ = some (.int .i64 0) := (blk_cell BK202.out 2).trans rfl; have hcz19_3 : w17.cell? ⟨gb202, 3, none⟩ = some (.int .i64 0) := (blk_cell BK202.out 3).trans rfl; have hcz19_4 : w17.cell? ⟨gb202, 4, none⟩ = some (.string (⟨#[]⟩ : ByteArray)) := (blk_cell BK202.out 4).trans rfl; have hfz19_0 := blk_frozen BK202.out 0; have hfz19_1 := blk_frozen BK202.out 1; have hfz19_2 := blk_frozen BK202.out 2; have hfz19_3 := blk_frozen BK202.out 3; have hfz19_4 := blk_frozen BK202.out 4)); try go_wp2_with (first | ((with_reducible refine gate_dst (N := 4) rfl ?_); refine box_event ?hg (N := 4) ?hd (cs := #[.slice none 0 0, .int .i64 0, .int .i64 0, .int .i64 0, .string (⟨#[]⟩ : ByteArray)]) (t := 49) ?hr ?_; (case hd => rfl); (case hg => rfl); (case hr => first | (go_simp; done) | (go_simp; rfl)); intro gb202 hg w17 hbox hb; have n0_ := aZ (blk_below (g := gb198) (o := .cells #[.int .i64 x199000_1, .int .i64 x199001_1] 26 (0, 0)) (by (with_reducible repeat (first | refine bN ?_ _ | refine bD ?_ | refine bA ?_ _)); exact BK198.out) hb); have n1_ := aZ (lT (by repeat (first | (with_reducible first | exact HB.out | apply lA | apply lN | apply lD | refine lS ?_ GE198.out) | exact HB.out)) hb); have n2_ := aZ (hbox); have n3_ := aZ ((by rw [hg]; exact (lZ (by repeat (first | (with_reducible first | exact HB.out | apply lA | apply lN | apply lD | refine lS ?_ GE198.out) | exact HB.out))) : w.heap.size ≤ gb202)); have n4_ := aZ ((by rw [hg]; exact (lZ (by repeat (first | (with_reducible first | exact HB.out | apply lA | apply lN | apply lD | refine lS ?_ GE198.out) | exact HB.out))) : w.heap.size ≤ gb202)); have n5_ := aZ ((by rw [hg]; exact Nat.ne_of_lt (blk_lt (g := gb198) (o := .cells #[.int .i64 x199000_1, .int .i64 x199001_1] 26 (0, 0)) (by (with_reducible repeat (first | refine bN ?_ _ | refine bD ?_ | refine bA ?_ _)); exact BK198.out)) : gb198 ≠ gb202)); have n6_ := aZ ((by rw [hg]; exact Nat.ne_of_gt (blk_lt (g := gb198) (o := .cells #[.int .i64 x199000_1, .int .i64 x199001_1] 26 (0, 0)) (by (with_reducible repeat (first | refine bN ?_ _ | refine bD ?_ | refine bA ?_ _)); exact BK198.out)) : gb202 ≠ gb198)); clear BK198; clear HB; have BK198 := n0_; have HB := n1_; have BK202 := n2_; have GW202 := n3_; have GE202 := n4_; have NB198_202 := n5_; have NB202_198 := n6_; clear n0_ n1_ n2_ n3_ n4_ n5_ n6_; clear hb hbox hg; have hnb18 := NB202_198.out; have hnc18 := NB198_202.out; have hcz19_0 : w17.cell? ⟨gb202, 0, none⟩ = some (.slice none 0 0) := (blk_cell BK202.out 0).trans rfl; have hcz19_1 : w17.cell? ⟨gb202, 1, none⟩ = some (.int .i64 0) := (blk_cell BK202.out 1).trans rfl; have hcz19_2 : w17.cell? ⟨gb202, 2, none⟩ = some (.int .i64 0) := (blk_cell BK202.out 2).trans rfl; have hcz19_3 : w17.cell? ⟨gb202, 3, none⟩ = some (.int .i64 0) := (blk_cell BK202.out 3).trans rfl; have hcz19_4 : w17.cell? ⟨gb202, 4, none⟩ = some (.string (⟨#[]⟩ : ByteArray)) := (blk_cell BK202.out 4).trans rfl; have hfz19_0 := blk_frozen BK202.out 0; have hfz19_1 := blk_frozen BK202.out 1; have hfz19_2 := blk_frozen BK202.out 2; have hfz19_3 := blk_frozen BK202.out 3; have hfz19_4 := blk_frozen BK202.out 4)))
    go_loopg [5] k1 (fun kq v5 w' => ∃ (x5_2 : Int) (x199000_2 : Int) (x199001_2 : Int), v5 = .int .i64 x5_2 ∧ Aside0 (changeforgeref3_HistoryFault.l1 kq l0 x3_1 x5_2 ((rd_T49 l0 x3_1).f0) ((rd_T49 l0 x3_1).f1) ((rd_T49 l0 x3_1).f2) ((rd_T49 l0 x3_1).f3) ((rd_T49 l0 x3_1).f4) = some (r1, r2)) ∧ Aside0 (kq ≤ k1) ∧ Aside0 (w'.heap[gb198]? = some (.cells #[.int .i64 x199000_2, .int .i64 x199001_2] 26 (0, 0))) ∧ Aside0 (w'.heap[gb202]? = some (.cells #[(.slice A201_0 ((rd_T49 l0 x3_1).f0).length c201_0), .int .i64 ((rd_T49 l0 x3_1).f1), .int .i64 ((rd_T49 l0 x3_1).f2), .int .i64 ((rd_T49 l0 x3_1).f3), .string ((rd_T49 l0 x3_1).f4)] 49 (0, 0))) ∧ Aside0 (Below w.heap.size w w'))
    case atStart => exact ⟨(0), (x199000_1), (x199001_1), (by first | rfl | (simp; done) | (simp [*]; done) | (simp [i64_w]; done)), H', ⟨Nat.le_refl _⟩, ⟨by (with_reducible repeat (first | refine bN ?_ _ | refine bD ?_ | refine bA ?_ _)); refine blk_far ?_ NB198_202.out _; (with_reducible repeat (first | refine bN ?_ _ | refine bD ?_ | refine bA ?_ _)); refine blk_far ?_ NB198_202.out _; (with_reducible repeat (first | refine bN ?_ _ | refine bD ?_ | refine bA ?_ _)); refine blk_far ?_ NB198_202.out _; (with_reducible repeat (first | refine bN ?_ _ | refine bD ?_ | refine bA ?_ _)); refine blk_far ?_ NB198_202.out _; (with_reducible repeat (first | refine bN ?_ _ | refine bD ?_ | refine bA ?_ _)); refine blk_far ?_ NB198_202.out _; (with_reducible repeat (first | refine bN ?_ _ | refine bD ?_ | refine bA ?_ _)); exact BK198.out⟩, ⟨by (with_reducible repeat (first | refine bN ?_ _ | refine bD ?_ | refine bA ?_ _)); refine blk_put (cs := #[.slice A201_0 ((rd_T49 l0 x3_1).f0).length c201_0, .int .i64 ((rd_T49 l0 x3_1).f1), .int .i64 ((rd_T49 l0 x3_1).f2), .int .i64 ((rd_T49 l0 x3_1).f3), .string (⟨#[]⟩ : ByteArray)]) ?_ 4 _ rfl; (with_reducible repeat (first | refine bN ?_ _ | refine bD ?_ | refine bA ?_ _)); refine blk_put (cs := #[.slice A201_0 ((rd_T49 l0 x3_1).f0).length c201_0, .int .i64 ((rd_T49 l0 x3_1).f1), .int .i64 ((rd_T49 l0 x3_1).f2), .int .i64 0, .string (⟨#[]⟩ : ByteArray)]) ?_ 3 _ rfl; (with_reducible repeat (first | refine bN ?_ _ | refine bD ?_ | refine bA ?_ _)); refine blk_put (cs := #[.slice A201_0 ((rd_T49 l0 x3_1).f0).length c201_0, .int .i64 ((rd_T49 l0 x3_1).f1), .int .i64 0, .int .i64 0, .string (⟨#[]⟩ : ByteArray)]) ?_ 2 _ rfl; (with_reducible repeat (first | refine bN ?_ _ | refine bD ?_ | refine bA ?_ _)); refine blk_put (cs := #[.slice A201_0 ((rd_T49 l0 x3_1).f0).length c201_0, .int .i64 0, .int .i64 0, .int .i64 0, .string (⟨#[]⟩ : ByteArray)]) ?_ 1 _ rfl; (with_reducible repeat (first | refine bN ?_ _ | refine bD ?_ | refine bA ?_ _)); refine blk_put (cs := #[.slice none 0 0, .int .i64 0, .int .i64 0, .int .i64 0, .string (⟨#[]⟩ : ByteArray)]) ?_ 0 _ rfl; (with_reducible repeat (first | refine bN ?_ _ | refine bD ?_ | refine bA ?_ _)); exact BK202.out⟩, ⟨by repeat (first | (with_reducible first | exact HB.out | apply lA | apply lN | apply lD | refine lS ?_ GE198.out | refine lS ?_ GE202.out) | exact HB.out)⟩⟩
    case round =>
     clear H'
     (try clear c8); (try clear c8b0); (try clear c9); (try clear c9b0); (try clear c10); (try clear c10b0); (try clear c10b1); (try clear hcz19_0); (try clear hcz19_1); (try clear hcz19_2); (try clear hcz19_3); (try clear hcz19_4); (try clear hfz19_0); (try clear hfz19_1); (try clear hfz19_2); (try clear hfz19_3); (try clear hfz19_4); (try clear hx201_0); (try clear hx201_1); (try clear hx201_2); (try clear hx201_3); (try clear hx201_4); (try clear p201); (try clear q201)
     obtain ⟨x5_2, x199000_2, x199001_2, rfl, HA, HK2, BK198, BK202, HB⟩ := hrel
     cases gk with
     | zero => exact absurd HA.out (by simp [changeforgeref3_HistoryFault.l1])
     | succ k2 =>
      have H := HA.out
      clear HA
      simp only [changeforgeref3_HistoryFault.l1] at H
      by_cases c20 : x5_2 < (((rd_T49 l0 x3_1).f0).length : Int)
      · rw [if_pos c20] at H
        have c20b0 : decide (x5_2 < (((rd_T49 l0 x3_1).f0).length : Int)) = true := decide_eq_true c20
        clear c20
        by_cases c21 : 0 ≤ x5_2
        rotate_left
        · rw [if_neg c21] at H
          exact absurd H (by simp)
        rw [if_pos c21] at H
        have c21b0 : decide (0 ≤ x5_2) = true := decide_eq_true c21
        clear c21
        replace H := Option.bind_eq_some_iff.mp H
        obtain ⟨t206, A220, H⟩ := H
        replace H : (if t206 = true then (if x5_2 > 0 then (if 0 ≤ (wrap64 (x5_2 - 1)) then (if (wrap64 (x5_2 - 1)) < (((rd_T49 l0 x3_1).f0).length : Int) then (if (rd ((rd_T49 l0 x3_1).f0) x5_2) ≤ (rd ((rd_T49 l0 x3_1).f0) (wrap64 (x5_2 - 1))) then ((changeforgeref3_Fault.f 5 x3_1).bind fun bt209 => (some (bt209.1, bt209.2))) else (changeforgeref3_HistoryFault.l1 k2 l0 x3_1 (wrap64 (x5_2 + 1)) ((rd_T49 l0 x3_1).f0) ((rd_T49 l0 x3_1).f1) ((rd_T49 l0 x3_1).f2) ((rd_T49 l0 x3_1).f3) ((rd_T49 l0 x3_1).f4))) else (none)) else (none)) else (changeforgeref3_HistoryFault.l1 k2 l0 x3_1 (wrap64 (x5_2 + 1)) ((rd_T49 l0 x3_1).f0) ((rd_T49 l0 x3_1).f1) ((rd_T49 l0 x3_1).f2) ((rd_T49 l0 x3_1).f3) ((rd_T49 l0 x3_1).f4))) else ((changeforgeref3_Fault.f 3 x3_1).bind fun bt211 => (some (bt211.1, bt211.2)))) = some (r1, r2) := H
        have A22 := aZ A220
        clear A220
        by_cases c23 : t206 = true
        rotate_left
        · replace c23 := Bool.eq_false_iff.mpr c23
          subst c23
          have H1 : ((changeforgeref3_Fault.f 3 x3_1).bind fun bt211 => (some (bt211.1, bt211.2))) = some (r1, r2) := by rw [if_neg (show ¬ (false = true) by decide)] at H; exact H
          clear H
          have H := H1
          clear H1
          replace H := Option.bind_eq_some_iff.mp H
          obtain ⟨⟨t211, t212⟩, A380, H⟩ := H
          replace H : (some (t211, t212)) = some (r1, r2) := H
          have A38 := aZ A380
          clear A380
          simp only [Option.some.injEq, Prod.mk.injEq] at H
          obtain ⟨rfl, rfl⟩ := H
          have hnb39 := NB202_198.out
          have hnc39 := NB198_202.out
          have hcz40_0 : wr.cell? ⟨gb202, 0, none⟩ = some (.slice A201_0 ((rd_T49 l0 x3_1).f0).length c201_0) := (blk_cell BK202.out 0).trans rfl
          have hcz40_1 : wr.cell? ⟨gb202, 1, none⟩ = some (.int .i64 ((rd_T49 l0 x3_1).f1)) := (blk_cell BK202.out 1).trans rfl
          have hcz40_2 : wr.cell? ⟨gb202, 2, none⟩ = some (.int .i64 ((rd_T49 l0 x3_1).f2)) := (blk_cell BK202.out 2).trans rfl
          have hcz40_3 : wr.cell? ⟨gb202, 3, none⟩ = some (.int .i64 ((rd_T49 l0 x3_1).f3)) := (blk_cell BK202.out 3).trans rfl
          have hcz40_4 : wr.cell? ⟨gb202, 4, none⟩ = some (.string ((rd_T49 l0 x3_1).f4)) := (blk_cell BK202.out 4).trans rfl
          have hfz40_0 := blk_frozen BK202.out 0
          have hfz40_1 := blk_frozen BK202.out 1
          have hfz40_2 := blk_frozen BK202.out 2
          have hfz40_3 := blk_frozen BK202.out 3
          have hfz40_4 := blk_frozen BK202.out 4
          have p205 : 0 ≤ (x5_2 : Int) := of_decide_eq_true (by first | (with_reducible assumption) | assumption)
          have q205 : x5_2 < (((rd_T49 l0 x3_1).f0).length : Int) := of_decide_eq_true (by first | (with_reducible assumption) | assumption)
          obtain ⟨ad205, e205, hx205_0⟩ := Kd.at_int HR201_0.out x5_2 p205 q205
          cases e205
          replace hx205_0 := (HB.out.cell (World.block_lt_of_cell? w _ hx205_0)).trans hx205_0
          replace p205 := eq_true p205
          replace q205 := eq_true q205
          go_wp2_with (first | (go_at_call 18; (with_reducible refine (changeforgeref3_In.calls (rd ((rd_T49 l0 x3_1).f0) x5_2) 0 (wrap64 (x3_1 - 1)) false _ A22.out).mono ?_); rintro e w' ⟨rfl, ⟨nd, rfl⟩⟩; (try first | exact ⟨rfl, _, World.drewN_drewN _ _ _⟩ | exact ⟨rfl, _, Eq.trans (World.drewN_drewN _ _ _) (congrArg (World.drewN _) (Nat.add_assoc _ _ _))⟩)) | (go_at_call 19; (with_reducible refine (changeforgeref3_Fault.calls 3 x3_1 t211 t212 _ A38.out).mono ?_); rintro e w41 ⟨rfl, hb⟩; have n0_ := aZ (blk_below (g := gb198) (o := .cells #[.int .i64 x199000_2, .int .i64 x199001_2] 26 (0, 0)) (by (with_reducible repeat (first | refine bN ?_ _ | refine bD ?_ | refine bA ?_ _)); exact BK198.out) hb); have n1_ := aZ (blk_below (g := gb202) (o := .cells #[.slice (some ad205) ((rd_T49 l0 x3_1).f0).length c201_0, .int .i64 ((rd_T49 l0 x3_1).f1), .int .i64 ((rd_T49 l0 x3_1).f2), .int .i64 ((rd_T49 l0 x3_1).f3), .string ((rd_T49 l0 x3_1).f4)] 49 (0, 0)) (by (with_reducible repeat (first | refine bN ?_ _ | refine bD ?_ | refine bA ?_ _)); exact BK202.out) hb); have n2_ := aZ (lT (by repeat (first | (with_reducible first | exact HB.out | apply lA | apply lN | apply lD | refine lS ?_ GE198.out | refine lS ?_ GE202.out) | exact HB.out)) hb); clear BK198; clear BK202; clear HB; have BK198 := n0_; have BK202 := n1_; have HB := n2_; clear n0_ n1_ n2_; (try clear hb); (try clear hb2); (try clear hk); (try clear hi); have hcz42_0 : w41.cell? ⟨gb198, 0, none⟩ = some (.int .i64 x199000_2) := (blk_cell BK198.out 0).trans rfl; have hcz42_1 : w41.cell? ⟨gb198, 1, none⟩ = some (.int .i64 x199001_2) := (blk_cell BK198.out 1).trans rfl; have hfz42_0 := blk_frozen BK198.out 0; have hfz42_1 := blk_frozen BK198.out 1))
          repeat (go_quiet (first | (go_at_call 18; (with_reducible refine (changeforgeref3_In.calls (rd ((rd_T49 l0 x3_1).f0) x5_2) 0 (wrap64 (x3_1 - 1)) false _ A22.out).mono ?_); rintro e w' ⟨rfl, ⟨nd, rfl⟩⟩; (try first | exact ⟨rfl, _, World.drewN_drewN _ _ _⟩ | exact ⟨rfl, _, Eq.trans (World.drewN_drewN _ _ _) (congrArg (World.drewN _) (Nat.add_assoc _ _ _))⟩)) | (go_at_call 19; (with_reducible refine (changeforgeref3_Fault.calls 3 x3_1 t211 t212 _ A38.out).mono ?_); rintro e w41 ⟨rfl, hb⟩; have n0_ := aZ (blk_below (g := gb198) (o := .cells #[.int .i64 x199000_2, .int .i64 x199001_2] 26 (0, 0)) (by (with_reducible repeat (first | refine bN ?_ _ | refine bD ?_ | refine bA ?_ _)); exact BK198.out) hb); have n1_ := aZ (blk_below (g := gb202) (o := .cells #[.slice (some ad205) ((rd_T49 l0 x3_1).f0).length c201_0, .int .i64 ((rd_T49 l0 x3_1).f1), .int .i64 ((rd_T49 l0 x3_1).f2), .int .i64 ((rd_T49 l0 x3_1).f3), .string ((rd_T49 l0 x3_1).f4)] 49 (0, 0)) (by (with_reducible repeat (first | refine bN ?_ _ | refine bD ?_ | refine bA ?_ _)); exact BK202.out) hb); have n2_ := aZ (lT (by repeat (first | (with_reducible first | exact HB.out | apply lA | apply lN | apply lD | refine lS ?_ GE198.out | refine lS ?_ GE202.out) | exact HB.out)) hb); clear BK198; clear BK202; clear HB; have BK198 := n0_; have BK202 := n1_; have HB := n2_; clear n0_ n1_ n2_; (try clear hb); (try clear hb2); (try clear hk); (try clear hi); have hcz42_0 : w41.cell? ⟨gb198, 0, none⟩ = some (.int .i64 x199000_2) := (blk_cell BK198.out 0).trans rfl; have hcz42_1 : w41.cell? ⟨gb198, 1, none⟩ = some (.int .i64 x199001_2) := (blk_cell BK198.out 1).trans rfl; have hfz42_0 := blk_frozen BK198.out 0; have hfz42_1 := blk_frozen BK198.out 1)); try go_wp2_with (first | (go_at_call 18; (with_reducible refine (changeforgeref3_In.calls (rd ((rd_T49 l0 x3_1).f0) x5_2) 0 (wrap64 (x3_1 - 1)) false _ A22.out).mono ?_); rintro e w' ⟨rfl, ⟨nd, rfl⟩⟩; (try first | exact ⟨rfl, _, World.drewN_drewN _ _ _⟩ | exact ⟨rfl, _, Eq.trans (World.drewN_drewN _ _ _) (congrArg (World.drewN _) (Nat.add_assoc _ _ _))⟩)) | (go_at_call 19; (with_reducible refine (changeforgeref3_Fault.calls 3 x3_1 t211 t212 _ A38.out).mono ?_); rintro e w41 ⟨rfl, hb⟩; have n0_ := aZ (blk_below (g := gb198) (o := .cells #[.int .i64 x199000_2, .int .i64 x199001_2] 26 (0, 0)) (by (with_reducible repeat (first | refine bN ?_ _ | refine bD ?_ | refine bA ?_ _)); exact BK198.out) hb); have n1_ := aZ (blk_below (g := gb202) (o := .cells #[.slice (some ad205) ((rd_T49 l0 x3_1).f0).length c201_0, .int .i64 ((rd_T49 l0 x3_1).f1), .int .i64 ((rd_T49 l0 x3_1).f2), .int .i64 ((rd_T49 l0 x3_1).f3), .string ((rd_T49 l0 x3_1).f4)] 49 (0, 0)) (by (with_reducible repeat (first | refine bN ?_ _ | refine bD ?_ | refine bA ?_ _)); exact BK202.out) hb); have n2_ := aZ (lT (by repeat (first | (with_reducible first | exact HB.out | apply lA | apply lN | apply lD | refine lS ?_ GE198.out | refine lS ?_ GE202.out) | exact HB.out)) hb); clear BK198; clear BK202; clear HB; have BK198 := n0_; have BK202 := n1_; have HB := n2_; clear n0_ n1_ n2_; (try clear hb); (try clear hb2); (try clear hk); (try clear hi); have hcz42_0 : w41.cell? ⟨gb198, 0, none⟩ = some (.int .i64 x199000_2) := (blk_cell BK198.out 0).trans rfl; have hcz42_1 : w41.cell? ⟨gb198, 1, none⟩ = some (.int .i64 x199001_2) := (blk_cell BK198.out 1).trans rfl; have hfz42_0 := blk_frozen BK198.out 0; have hfz42_1 := blk_frozen BK198.out 1)))
          refine bodyPost_ret (results_cell_row rfl _ _ gb198 26 #[.int .i64 t211, .int .i64 t212] (0, 0) _ rfl (by (with_reducible repeat (first | refine bN ?_ _ | refine bD ?_ | refine bA ?_ _)); refine blk_put (cs := #[.int .i64 t211, .int .i64 x199001_2]) ?_ 1 _ rfl; (with_reducible repeat (first | refine bN ?_ _ | refine bD ?_ | refine bA ?_ _)); refine blk_put (cs := #[.int .i64 x199000_2, .int .i64 x199001_2]) ?_ 0 _ rfl; (with_reducible repeat (first | refine bN ?_ _ | refine bD ?_ | refine bA ?_ _)); exact BK198.out) Try.underlying26 rfl (by kernel_rfl)) rfl ?_
          exact ⟨by first | rfl | (simp [errW_none, errW_some] <;> rfl) | (simp [*, errW_none, errW_some] <;> rfl), by repeat (first | (with_reducible first | exact HB.out | apply lA | apply lN | apply lD | refine lS ?_ GE198.out | refine lS ?_ GE202.out) | exact HB.out)⟩
        subst c23
        have H1 : (if x5_2 > 0 then (if 0 ≤ (wrap64 (x5_2 - 1)) then (if (wrap64 (x5_2 - 1)) < (((rd_T49 l0 x3_1).f0).length : Int) then (if (rd ((rd_T49 l0 x3_1).f0) x5_2) ≤ (rd ((rd_T49 l0 x3_1).f0) (wrap64 (x5_2 - 1))) then ((changeforgeref3_Fault.f 5 x3_1).bind fun bt209 => (some (bt209.1, bt209.2))) else (changeforgeref3_HistoryFault.l1 k2 l0 x3_1 (wrap64 (x5_2 + 1)) ((rd_T49 l0 x3_1).f0) ((rd_T49 l0 x3_1).f1) ((rd_T49 l0 x3_1).f2) ((rd_T49 l0 x3_1).f3) ((rd_T49 l0 x3_1).f4))) else (none)) else (none)) else (changeforgeref3_HistoryFault.l1 k2 l0 x3_1 (wrap64 (x5_2 + 1)) ((rd_T49 l0 x3_1).f0) ((rd_T49 l0 x3_1).f1) ((rd_T49 l0 x3_1).f2) ((rd_T49 l0 x3_1).f3) ((rd_T49 l0 x3_1).f4))) = some (r1, r2) := by rw [if_pos rfl] at H; exact H
        clear H
        have H := H1
        clear H1
        by_cases c24 : x5_2 > 0
        rotate_left
        · rw [if_neg c24] at H
          have c24b0 : decide (0 < x5_2) = false := decide_eq_false c24
          clear c24
          have H' := aZ H
          clear H
          have hnb36 := NB202_198.out
          have hnc36 := NB198_202.out
          have hcz37_0 : wr.cell? ⟨gb202, 0, none⟩ = some (.slice A201_0 ((rd_T49 l0 x3_1).f0).length c201_0) := (blk_cell BK202.out 0).trans rfl
          have hcz37_1 : wr.cell? ⟨gb202, 1, none⟩ = some (.int .i64 ((rd_T49 l0 x3_1).f1)) := (blk_cell BK202.out 1).trans rfl
          have hcz37_2 : wr.cell? ⟨gb202, 2, none⟩ = some (.int .i64 ((rd_T49 l0 x3_1).f2)) := (blk_cell BK202.out 2).trans rfl
          have hcz37_3 : wr.cell? ⟨gb202, 3, none⟩ = some (.int .i64 ((rd_T49 l0 x3_1).f3)) := (blk_cell BK202.out 3).trans rfl
          have hcz37_4 : wr.cell? ⟨gb202, 4, none⟩ = some (.string ((rd_T49 l0 x3_1).f4)) := (blk_cell BK202.out 4).trans rfl
          have hfz37_0 := blk_frozen BK202.out 0
          have hfz37_1 := blk_frozen BK202.out 1
          have hfz37_2 := blk_frozen BK202.out 2
          have hfz37_3 := blk_frozen BK202.out 3
          have hfz37_4 := blk_frozen BK202.out 4
          have p205 : 0 ≤ (x5_2 : Int) := of_decide_eq_true (by first | (with_reducible assumption) | assumption)
          have q205 : x5_2 < (((rd_T49 l0 x3_1).f0).length : Int) := of_decide_eq_true (by first | (with_reducible assumption) | assumption)
          obtain ⟨ad205, e205, hx205_0⟩ := Kd.at_int HR201_0.out x5_2 p205 q205
          cases e205
          replace hx205_0 := (HB.out.cell (World.block_lt_of_cell? w _ hx205_0)).trans hx205_0
          replace p205 := eq_true p205
          replace q205 := eq_true q205
          go_wp2_with (first | (go_at_call 18; (with_reducible refine (changeforgeref3_In.calls (rd ((rd_T49 l0 x3_1).f0) x5_2) 0 (wrap64 (x3_1 - 1)) true _ A22.out).mono ?_); rintro e w' ⟨rfl, ⟨nd, rfl⟩⟩; (try first | exact ⟨rfl, _, World.drewN_drewN _ _ _⟩ | exact ⟨rfl, _, Eq.trans (World.drewN_drewN _ _ _) (congrArg (World.drewN _) (Nat.add_assoc _ _ _))⟩)))
          repeat (go_quiet (first | (go_at_call 18; (with_reducible refine (changeforgeref3_In.calls (rd ((rd_T49 l0 x3_1).f0) x5_2) 0 (wrap64 (x3_1 - 1)) true _ A22.out).mono ?_); rintro e w' ⟨rfl, ⟨nd, rfl⟩⟩; (try first | exact ⟨rfl, _, World.drewN_drewN _ _ _⟩ | exact ⟨rfl, _, Eq.trans (World.drewN_drewN _ _ _) (congrArg (World.drewN _) (Nat.add_assoc _ _ _))⟩))); try go_wp2_with (first | (go_at_call 18; (with_reducible refine (changeforgeref3_In.calls (rd ((rd_T49 l0 x3_1).f0) x5_2) 0 (wrap64 (x3_1 - 1)) true _ A22.out).mono ?_); rintro e w' ⟨rfl, ⟨nd, rfl⟩⟩; (try first | exact ⟨rfl, _, World.drewN_drewN _ _ _⟩ | exact ⟨rfl, _, Eq.trans (World.drewN_drewN _ _ _) (congrArg (World.drewN _) (Nat.add_assoc _ _ _))⟩))))
          go_roundg k2
          case measure => have := HK1.out; have := HK2.out; omega
          case rel => exact ⟨(wrap64 (x5_2 + 1)), (x199000_2), (x199001_2), (by first | rfl | (simp; done) | (simp [*]; done) | (simp [i64_w]; done)), H', ⟨by have := HK1.out; have := HK2.out; omega⟩, ⟨by (with_reducible repeat (first | refine bN ?_ _ | refine bD ?_ | refine bA ?_ _)); exact BK198.out⟩, ⟨by (with_reducible repeat (first | refine bN ?_ _ | refine bD ?_ | refine bA ?_ _)); exact BK202.out⟩, ⟨by repeat (first | (with_reducible first | exact HB.out | apply lA | apply lN | apply lD | refine lS ?_ GE198.out | refine lS ?_ GE202.out) | exact HB.out)⟩⟩
        rw [if_pos c24] at H
        have c24b0 : decide (0 < x5_2) = true := decide_eq_true c24
        clear c24
        obtain ⟨ji25, hji25⟩ : ∃ j_ : Int, (wrap64 (x5_2 - 1)) = j_ := ⟨_, rfl⟩
        replace H : (if 0 ≤ (ji25) then (if (ji25) < (((rd_T49 l0 x3_1).f0).length : Int) then (if (rd ((rd_T49 l0 x3_1).f0) x5_2) ≤ (rd ((rd_T49 l0 x3_1).f0) (ji25)) then ((changeforgeref3_Fault.f 5 x3_1).bind fun bt209 => (some (bt209.1, bt209.2))) else (changeforgeref3_HistoryFault.l1 k2 l0 x3_1 (wrap64 (x5_2 + 1)) ((rd_T49 l0 x3_1).f0) ((rd_T49 l0 x3_1).f1) ((rd_T49 l0 x3_1).f2) ((rd_T49 l0 x3_1).f3) ((rd_T49 l0 x3_1).f4))) else (none)) else (none)) = some (r1, r2) := by first | (rw [hji25] at H; exact H) | (simp only [hji25] at H ⊢; exact H)
        (try rw [hji25] at A22)
        have hji25w : (IntKind.i64.wrap (x5_2 - 1)) = ji25 := (i64_w _).trans hji25
        by_cases c26 : 0 ≤ (ji25)
        rotate_left
        · rw [if_neg c26] at H
          exact absurd H (by simp)
        rw [if_pos c26] at H
        have c26b0 : decide (0 ≤ (ji25)) = true := decide_eq_true c26
        clear c26
        by_cases c27 : (ji25) < (((rd_T49 l0 x3_1).f0).length : Int)
        rotate_left
        · rw [if_neg c27] at H
          exact absurd H (by simp)
        rw [if_pos c27] at H
        have c27b0 : decide ((ji25) < (((rd_T49 l0 x3_1).f0).length : Int)) = true := decide_eq_true c27
        clear c27
        by_cases c28 : (rd ((rd_T49 l0 x3_1).f0) x5_2) ≤ (rd ((rd_T49 l0 x3_1).f0) (ji25))
        rotate_left
        · rw [if_neg c28] at H
          have c28b0 : decide ((rd ((rd_T49 l0 x3_1).f0) x5_2) ≤ (rd ((rd_T49 l0 x3_1).f0) (ji25))) = false := decide_eq_false c28
          clear c28
          have H' := aZ H
          clear H
          have hnb34 := NB202_198.out
          have hnc34 := NB198_202.out
          have hcz35_0 : wr.cell? ⟨gb202, 0, none⟩ = some (.slice A201_0 ((rd_T49 l0 x3_1).f0).length c201_0) := (blk_cell BK202.out 0).trans rfl
          have hcz35_1 : wr.cell? ⟨gb202, 1, none⟩ = some (.int .i64 ((rd_T49 l0 x3_1).f1)) := (blk_cell BK202.out 1).trans rfl
          have hcz35_2 : wr.cell? ⟨gb202, 2, none⟩ = some (.int .i64 ((rd_T49 l0 x3_1).f2)) := (blk_cell BK202.out 2).trans rfl
          have hcz35_3 : wr.cell? ⟨gb202, 3, none⟩ = some (.int .i64 ((rd_T49 l0 x3_1).f3)) := (blk_cell BK202.out 3).trans rfl
          have hcz35_4 : wr.cell? ⟨gb202, 4, none⟩ = some (.string ((rd_T49 l0 x3_1).f4)) := (blk_cell BK202.out 4).trans rfl
          have hfz35_0 := blk_frozen BK202.out 0
          have hfz35_1 := blk_frozen BK202.out 1
          have hfz35_2 := blk_frozen BK202.out 2
          have hfz35_3 := blk_frozen BK202.out 3
          have hfz35_4 := blk_frozen BK202.out 4
          have p205 : 0 ≤ (x5_2 : Int) := of_decide_eq_true (by first | (with_reducible assumption) | assumption)
          have q205 : x5_2 < (((rd_T49 l0 x3_1).f0).length : Int) := of_decide_eq_true (by first | (with_reducible assumption) | assumption)
          obtain ⟨ad205, e205, hx205_0⟩ := Kd.at_int HR201_0.out x5_2 p205 q205
          cases e205
          replace hx205_0 := (HB.out.cell (World.block_lt_of_cell? w _ hx205_0)).trans hx205_0
          replace p205 := eq_true p205
          replace q205 := eq_true q205
          go_wp2_with (first | (go_at_call 18; (with_reducible refine (changeforgeref3_In.calls (rd ((rd_T49 l0 x3_1).f0) x5_2) 0 (wrap64 (x3_1 - 1)) true _ A22.out).mono ?_); rintro e w' ⟨rfl, ⟨nd, rfl⟩⟩; (try first | exact ⟨rfl, _, World.drewN_drewN _ _ _⟩ | exact ⟨rfl, _, Eq.trans (World.drewN_drewN _ _ _) (congrArg (World.drewN _) (Nat.add_assoc _ _ _))⟩); have p207 : 0 ≤ (x5_2 : Int) := of_decide_eq_true (by first | (with_reducible assumption) | assumption); have q207 : x5_2 < (((rd_T49 l0 x3_1).f0).length : Int) := of_decide_eq_true (by first | (with_reducible assumption) | assumption); obtain ⟨ad207, e207, hx207_0⟩ := Kd.at_int HR201_0.out x5_2 p207 q207; obtain rfl : ad205 = ad207 := (by injection e207); replace hx207_0 := (HB.out.cell (World.block_lt_of_cell? w _ hx207_0)).trans hx207_0; replace p207 := eq_true p207; replace q207 := eq_true q207; have p208 : 0 ≤ ((ji25) : Int) := of_decide_eq_true (by first | (with_reducible assumption) | assumption); have q208 : (ji25) < (((rd_T49 l0 x3_1).f0).length : Int) := of_decide_eq_true (by first | (with_reducible assumption) | assumption); obtain ⟨ad208, e208, hx208_0⟩ := Kd.at_int HR201_0.out (ji25) p208 q208; obtain rfl : ad205 = ad208 := (by injection e208); replace hx208_0 := (HB.out.cell (World.block_lt_of_cell? w _ hx208_0)).trans hx208_0; replace p208 := eq_true p208; replace q208 := eq_true q208))
          repeat (go_quiet (first | (go_at_call 18; (with_reducible refine (changeforgeref3_In.calls (rd ((rd_T49 l0 x3_1).f0) x5_2) 0 (wrap64 (x3_1 - 1)) true _ A22.out).mono ?_); rintro e w' ⟨rfl, ⟨nd, rfl⟩⟩; (try first | exact ⟨rfl, _, World.drewN_drewN _ _ _⟩ | exact ⟨rfl, _, Eq.trans (World.drewN_drewN _ _ _) (congrArg (World.drewN _) (Nat.add_assoc _ _ _))⟩); have p207 : 0 ≤ (x5_2 : Int) := of_decide_eq_true (by first | (with_reducible assumption) | assumption); have q207 : x5_2 < (((rd_T49 l0 x3_1).f0).length : Int) := of_decide_eq_true (by first | (with_reducible assumption) | assumption); obtain ⟨ad207, e207, hx207_0⟩ := Kd.at_int HR201_0.out x5_2 p207 q207; obtain rfl : ad205 = ad207 := (by injection e207); replace hx207_0 := (HB.out.cell (World.block_lt_of_cell? w _ hx207_0)).trans hx207_0; replace p207 := eq_true p207; replace q207 := eq_true q207; have p208 : 0 ≤ ((ji25) : Int) := of_decide_eq_true (by first | (with_reducible assumption) | assumption); have q208 : (ji25) < (((rd_T49 l0 x3_1).f0).length : Int) := of_decide_eq_true (by first | (with_reducible assumption) | assumption); obtain ⟨ad208, e208, hx208_0⟩ := Kd.at_int HR201_0.out (ji25) p208 q208; obtain rfl : ad205 = ad208 := (by injection e208); replace hx208_0 := (HB.out.cell (World.block_lt_of_cell? w _ hx208_0)).trans hx208_0; replace p208 := eq_true p208; replace q208 := eq_true q208)); try go_wp2_with (first | (go_at_call 18; (with_reducible refine (changeforgeref3_In.calls (rd ((rd_T49 l0 x3_1).f0) x5_2) 0 (wrap64 (x3_1 - 1)) true _ A22.out).mono ?_); rintro e w' ⟨rfl, ⟨nd, rfl⟩⟩; (try first | exact ⟨rfl, _, World.drewN_drewN _ _ _⟩ | exact ⟨rfl, _, Eq.trans (World.drewN_drewN _ _ _) (congrArg (World.drewN _) (Nat.add_assoc _ _ _))⟩); have p207 : 0 ≤ (x5_2 : Int) := of_decide_eq_true (by first | (with_reducible assumption) | assumption); have q207 : x5_2 < (((rd_T49 l0 x3_1).f0).length : Int) := of_decide_eq_true (by first | (with_reducible assumption) | assumption); obtain ⟨ad207, e207, hx207_0⟩ := Kd.at_int HR201_0.out x5_2 p207 q207; obtain rfl : ad205 = ad207 := (by injection e207); replace hx207_0 := (HB.out.cell (World.block_lt_of_cell? w _ hx207_0)).trans hx207_0; replace p207 := eq_true p207; replace q207 := eq_true q207; have p208 : 0 ≤ ((ji25) : Int) := of_decide_eq_true (by first | (with_reducible assumption) | assumption); have q208 : (ji25) < (((rd_T49 l0 x3_1).f0).length : Int) := of_decide_eq_true (by first | (with_reducible assumption) | assumption); obtain ⟨ad208, e208, hx208_0⟩ := Kd.at_int HR201_0.out (ji25) p208 q208; obtain rfl : ad205 = ad208 := (by injection e208); replace hx208_0 := (HB.out.cell (World.block_lt_of_cell? w _ hx208_0)).trans hx208_0; replace p208 := eq_true p208; replace q208 := eq_true q208)))
          go_roundg k2
          case measure => have := HK1.out; have := HK2.out; omega
          case rel => exact ⟨(wrap64 (x5_2 + 1)), (x199000_2), (x199001_2), (by first | rfl | (simp; done) | (simp [*]; done) | (simp [i64_w]; done)), H', ⟨by have := HK1.out; have := HK2.out; omega⟩, ⟨by (with_reducible repeat (first | refine bN ?_ _ | refine bD ?_ | refine bA ?_ _)); exact BK198.out⟩, ⟨by (with_reducible repeat (first | refine bN ?_ _ | refine bD ?_ | refine bA ?_ _)); exact BK202.out⟩, ⟨by repeat (first | (with_reducible first | exact HB.out | apply lA | apply lN | apply lD | refine lS ?_ GE198.out | refine lS ?_ GE202.out) | exact HB.out)⟩⟩
        rw [if_pos c28] at H
        have c28b0 : decide ((rd ((rd_T49 l0 x3_1).f0) x5_2) ≤ (rd ((rd_T49 l0 x3_1).f0) (ji25))) = true := decide_eq_true c28
        clear c28
        replace H := Option.bind_eq_some_iff.mp H
        obtain ⟨⟨t209, t210⟩, A290, H⟩ := H
        replace H : (some (t209, t210)) = some (r1, r2) := H
        have A29 := aZ A290
        clear A290
        simp only [Option.some.injEq, Prod.mk.injEq] at H
        obtain ⟨rfl, rfl⟩ := H
        have hnb30 := NB202_198.out
        have hnc30 := NB198_202.out
        have hcz31_0 : wr.cell? ⟨gb202, 0, none⟩ = some (.slice A201_0 ((rd_T49 l0 x3_1).f0).length c201_0) := (blk_cell BK202.out 0).trans rfl
        have hcz31_1 : wr.cell? ⟨gb202, 1, none⟩ = some (.int .i64 ((rd_T49 l0 x3_1).f1)) := (blk_cell BK202.out 1).trans rfl
        have hcz31_2 : wr.cell? ⟨gb202, 2, none⟩ = some (.int .i64 ((rd_T49 l0 x3_1).f2)) := (blk_cell BK202.out 2).trans rfl
        have hcz31_3 : wr.cell? ⟨gb202, 3, none⟩ = some (.int .i64 ((rd_T49 l0 x3_1).f3)) := (blk_cell BK202.out 3).trans rfl
        have hcz31_4 : wr.cell? ⟨gb202, 4, none⟩ = some (.string ((rd_T49 l0 x3_1).f4)) := (blk_cell BK202.out 4).trans rfl
        have hfz31_0 := blk_frozen BK202.out 0
        have hfz31_1 := blk_frozen BK202.out 1
        have hfz31_2 := blk_frozen BK202.out 2
        have hfz31_3 := blk_frozen BK202.out 3
        have hfz31_4 := blk_frozen BK202.out 4
        have p205 : 0 ≤ (x5_2 : Int) := of_decide_eq_true (by first | (with_reducible assumption) | assumption)
        have q205 : x5_2 < (((rd_T49 l0 x3_1).f0).length : Int) := of_decide_eq_true (by first | (with_reducible assumption) | assumption)
        obtain ⟨ad205, e205, hx205_0⟩ := Kd.at_int HR201_0.out x5_2 p205 q205
        cases e205
        replace hx205_0 := (HB.out.cell (World.block_lt_of_cell? w _ hx205_0)).trans hx205_0
        replace p205 := eq_true p205
        replace q205 := eq_true q205
        go_wp2_with (first | (go_at_call 18; (with_reducible refine (changeforgeref3_In.calls (rd ((rd_T49 l0 x3_1).f0) x5_2) 0 (wrap64 (x3_1 - 1)) true _ A22.out).mono ?_); rintro e w' ⟨rfl, ⟨nd, rfl⟩⟩; (try first | exact ⟨rfl, _, World.drewN_drewN _ _ _⟩ | exact ⟨rfl, _, Eq.trans (World.drewN_drewN _ _ _) (congrArg (World.drewN _) (Nat.add_assoc _ _ _))⟩); have p207 : 0 ≤ (x5_2 : Int) := of_decide_eq_true (by first | (with_reducible assumption) | assumption); have q207 : x5_2 < (((rd_T49 l0 x3_1).f0).length : Int) := of_decide_eq_true (by first | (with_reducible assumption) | assumption); obtain ⟨ad207, e207, hx207_0⟩ := Kd.at_int HR201_0.out x5_2 p207 q207; obtain rfl : ad205 = ad207 := (by injection e207); replace hx207_0 := (HB.out.cell (World.block_lt_of_cell? w _ hx207_0)).trans hx207_0; replace p207 := eq_true p207; replace q207 := eq_true q207; have p208 : 0 ≤ ((ji25) : Int) := of_decide_eq_true (by first | (with_reducible assumption) | assumption); have q208 : (ji25) < (((rd_T49 l0 x3_1).f0).length : Int) := of_decide_eq_true (by first | (with_reducible assumption) | assumption); obtain ⟨ad208, e208, hx208_0⟩ := Kd.at_int HR201_0.out (ji25) p208 q208; obtain rfl : ad205 = ad208 := (by injection e208); replace hx208_0 := (HB.out.cell (World.block_lt_of_cell? w _ hx208_0)).trans hx208_0; replace p208 := eq_true p208; replace q208 := eq_true q208) | (go_at_call 19; (with_reducible refine (changeforgeref3_Fault.calls 5 x3_1 t209 t210 _ A29.out).mono ?_); rintro e w32 ⟨rfl, hb⟩; have n0_ := aZ (blk_below (g := gb198) (o := .cells #[.int .i64 x199000_2, .int .i64 x199001_2] 26 (0, 0)) (by (with_reducible repeat (first | refine bN ?_ _ | refine bD ?_ | refine bA ?_ _)); exact BK198.out) hb); have n1_ := aZ (blk_below (g := gb202) (o := .cells #[.slice (some ad205) ((rd_T49 l0 x3_1).f0).length c201_0, .int .i64 ((rd_T49 l0 x3_1).f1), .int .i64 ((rd_T49 l0 x3_1).f2), .int .i64 ((rd_T49 l0 x3_1).f3), .string ((rd_T49 l0 x3_1).f4)] 49 (0, 0)) (by (with_reducible repeat (first | refine bN ?_ _ | refine bD ?_ | refine bA ?_ _)); exact BK202.out) hb); have n2_ := aZ (lT (by repeat (first | (with_reducible first | exact HB.out | apply lA | apply lN | apply lD | refine lS ?_ GE198.out | refine lS ?_ GE202.out) | exact HB.out)) hb); clear BK198; clear BK202; clear HB; have BK198 := n0_; have BK202 := n1_; have HB := n2_; clear n0_ n1_ n2_; (try clear hb); (try clear hb2); (try clear hk); (try clear hi); have hcz33_0 : w32.cell? ⟨gb198, 0, none⟩ = some (.int .i64 x199000_2) := (blk_cell BK198.out 0).trans rfl; have hcz33_1 : w32.cell? ⟨gb198, 1, none⟩ = some (.int .i64 x199001_2) := (blk_cell BK198.out 1).trans rfl; have hfz33_0 := blk_frozen BK198.out 0; have hfz33_1 := blk_frozen BK198.out 1))
        repeat (go_quiet (first | (go_at_call 18; (with_reducible refine (changeforgeref3_In.calls (rd ((rd_T49 l0 x3_1).f0) x5_2) 0 (wrap64 (x3_1 - 1)) true _ A22.out).mono ?_); rintro e w' ⟨rfl, ⟨nd, rfl⟩⟩; (try first | exact ⟨rfl, _, World.drewN_drewN _ _ _⟩ | exact ⟨rfl, _, Eq.trans (World.drewN_drewN _ _ _) (congrArg (World.drewN _) (Nat.add_assoc _ _ _))⟩); have p207 : 0 ≤ (x5_2 : Int) := of_decide_eq_true (by first | (with_reducible assumption) | assumption); have q207 : x5_2 < (((rd_T49 l0 x3_1).f0).length : Int) := of_decide_eq_true (by first | (with_reducible assumption) | assumption); obtain ⟨ad207, e207, hx207_0⟩ := Kd.at_int HR201_0.out x5_2 p207 q207; obtain rfl : ad205 = ad207 := (by injection e207); replace hx207_0 := (HB.out.cell (World.block_lt_of_cell? w _ hx207_0)).trans hx207_0; replace p207 := eq_true p207; replace q207 := eq_true q207; have p208 : 0 ≤ ((ji25) : Int) := of_decide_eq_true (by first | (with_reducible assumption) | assumption); have q208 : (ji25) < (((rd_T49 l0 x3_1).f0).length : Int) := of_decide_eq_true (by first | (with_reducible assumption) | assumption); obtain ⟨ad208, e208, hx208_0⟩ := Kd.at_int HR201_0.out (ji25) p208 q208; obtain rfl : ad205 = ad208 := (by injection e208); replace hx208_0 := (HB.out.cell (World.block_lt_of_cell? w _ hx208_0)).trans hx208_0; replace p208 := eq_true p208; replace q208 := eq_true q208) | (go_at_call 19; (with_reducible refine (changeforgeref3_Fault.calls 5 x3_1 t209 t210 _ A29.out).mono ?_); rintro e w32 ⟨rfl, hb⟩; have n0_ := aZ (blk_below (g := gb198) (o := .cells #[.int .i64 x199000_2, .int .i64 x199001_2] 26 (0, 0)) (by (with_reducible repeat (first | refine bN ?_ _ | refine bD ?_ | refine bA ?_ _)); exact BK198.out) hb); have n1_ := aZ (blk_below (g := gb202) (o := .cells #[.slice (some ad205) ((rd_T49 l0 x3_1).f0).length c201_0, .int .i64 ((rd_T49 l0 x3_1).f1), .int .i64 ((rd_T49 l0 x3_1).f2), .int .i64 ((rd_T49 l0 x3_1).f3), .string ((rd_T49 l0 x3_1).f4)] 49 (0, 0)) (by (with_reducible repeat (first | refine bN ?_ _ | refine bD ?_ | refine bA ?_ _)); exact BK202.out) hb); have n2_ := aZ (lT (by repeat (first | (with_reducible first | exact HB.out | apply lA | apply lN | apply lD | refine lS ?_ GE198.out | refine lS ?_ GE202.out) | exact HB.out)) hb); clear BK198; clear BK202; clear HB; have BK198 := n0_; have BK202 := n1_; have HB := n2_; clear n0_ n1_ n2_; (try clear hb); (try clear hb2); (try clear hk); (try clear hi); have hcz33_0 : w32.cell? ⟨gb198, 0, none⟩ = some (.int .i64 x199000_2) := (blk_cell BK198.out 0).trans rfl; have hcz33_1 : w32.cell? ⟨gb198, 1, none⟩ = some (.int .i64 x199001_2) := (blk_cell BK198.out 1).trans rfl; have hfz33_0 := blk_frozen BK198.out 0; have hfz33_1 := blk_frozen BK198.out 1)); try go_wp2_with (first | (go_at_call 18; (with_reducible refine (changeforgeref3_In.calls (rd ((rd_T49 l0 x3_1).f0) x5_2) 0 (wrap64 (x3_1 - 1)) true _ A22.out).mono ?_); rintro e w' ⟨rfl, ⟨nd, rfl⟩⟩; (try first | exact ⟨rfl, _, World.drewN_drewN _ _ _⟩ | exact ⟨rfl, _, Eq.trans (World.drewN_drewN _ _ _) (congrArg (World.drewN _) (Nat.add_assoc _ _ _))⟩); have p207 : 0 ≤ (x5_2 : Int) := of_decide_eq_true (by first | (with_reducible assumption) | assumption); have q207 : x5_2 < (((rd_T49 l0 x3_1).f0).length : Int) := of_decide_eq_true (by first | (with_reducible assumption) | assumption); obtain ⟨ad207, e207, hx207_0⟩ := Kd.at_int HR201_0.out x5_2 p207 q207; obtain rfl : ad205 = ad207 := (by injection e207); replace hx207_0 := (HB.out.cell (World.block_lt_of_cell? w _ hx207_0)).trans hx207_0; replace p207 := eq_true p207; replace q207 := eq_true q207; have p208 : 0 ≤ ((ji25) : Int) := of_decide_eq_true (by first | (with_reducible assumption) | assumption); have q208 : (ji25) < (((rd_T49 l0 x3_1).f0).length : Int) := of_decide_eq_true (by first | (with_reducible assumption) | assumption); obtain ⟨ad208, e208, hx208_0⟩ := Kd.at_int HR201_0.out (ji25) p208 q208; obtain rfl : ad205 = ad208 := (by injection e208); replace hx208_0 := (HB.out.cell (World.block_lt_of_cell? w _ hx208_0)).trans hx208_0; replace p208 := eq_true p208; replace q208 := eq_true q208) | (go_at_call 19; (with_reducible refine (changeforgeref3_Fault.calls 5 x3_1 t209 t210 _ A29.out).mono ?_); rintro e w32 ⟨rfl, hb⟩; have n0_ := aZ (blk_below (g := gb198) (o := .cells #[.int .i64 x199000_2, .int .i64 x199001_2] 26 (0, 0)) (by (with_reducible repeat (first | refine bN ?_ _ | refine bD ?_ | refine bA ?_ _)); exact BK198.out) hb); have n1_ := aZ (blk_below (g := gb202) (o := .cells #[.slice (some ad205) ((rd_T49 l0 x3_1).f0).length c201_0, .int .i64 ((rd_T49 l0 x3_1).f1), .int .i64 ((rd_T49 l0 x3_1).f2), .int .i64 ((rd_T49 l0 x3_1).f3), .string ((rd_T49 l0 x3_1).f4)] 49 (0, 0)) (by (with_reducible repeat (first | refine bN ?_ _ | refine bD ?_ | refine bA ?_ _)); exact BK202.out) hb); have n2_ := aZ (lT (by repeat (first | (with_reducible first | exact HB.out | apply lA | apply lN | apply lD | refine lS ?_ GE198.out | refine lS ?_ GE202.out) | exact HB.out)) hb); clear BK198; clear BK202; clear HB; have BK198 := n0_; have BK202 := n1_; have HB := n2_; clear n0_ n1_ n2_; (try clear hb); (try clear hb2); (try clear hk); (try clear hi); have hcz33_0 : w32.cell? ⟨gb198, 0, none⟩ = some (.int .i64 x199000_2) := (blk_cell BK198.out 0).trans rfl; have hcz33_1 : w32.cell? ⟨gb198, 1, none⟩ = some (.int .i64 x199001_2) := (blk_cell BK198.out 1).trans rfl; have hfz33_0 := blk_frozen BK198.out 0; have hfz33_1 := blk_frozen BK198.out 1)))
        refine bodyPost_ret (results_cell_row rfl _ _ gb198 26 #[.int .i64 t209, .int .i64 t210] (0, 0) _ rfl (by (with_reducible repeat (first | refine bN ?_ _ | refine bD ?_ | refine bA ?_ _)); refine blk_put (cs := #[.int .i64 t209, .int .i64 x199001_2]) ?_ 1 _ rfl; (with_reducible repeat (first | refine bN ?_ _ | refine bD ?_ | refine bA ?_ _)); refine blk_put (cs := #[.int .i64 x199000_2, .int .i64 x199001_2]) ?_ 0 _ rfl; (with_reducible repeat (first | refine bN ?_ _ | refine bD ?_ | refine bA ?_ _)); exact BK198.out) Try.underlying26 rfl (by kernel_rfl)) rfl ?_
        exact ⟨by first | rfl | (simp [errW_none, errW_some] <;> rfl) | (simp only [← hji25]; first | rfl | (simp [errW_none, errW_some] <;> rfl)) | (simp [*, errW_none, errW_some] <;> rfl), by repeat (first | (with_reducible first | exact HB.out | apply lA | apply lN | apply lD | refine lS ?_ GE198.out | refine lS ?_ GE202.out) | exact HB.out)⟩
      rw [if_neg c20] at H
      have c20b0 : decide (x5_2 < (((rd_T49 l0 x3_1).f0).length : Int)) = false := decide_eq_false c20
      clear c20
      have HC43 := aZ H
      clear H
      have hnb44 := NB202_198.out
      have hnc44 := NB198_202.out
      have hcz45_0 : wr.cell? ⟨gb202, 0, none⟩ = some (.slice A201_0 ((rd_T49 l0 x3_1).f0).length c201_0) := (blk_cell BK202.out 0).trans rfl
      have hcz45_1 : wr.cell? ⟨gb202, 1, none⟩ = some (.int .i64 ((rd_T49 l0 x3_1).f1)) := (blk_cell BK202.out 1).trans rfl
      have hcz45_2 : wr.cell? ⟨gb202, 2, none⟩ = some (.int .i64 ((rd_T49 l0 x3_1).f2)) := (blk_cell BK202.out 2).trans rfl
      have hcz45_3 : wr.cell? ⟨gb202, 3, none⟩ = some (.int .i64 ((rd_T49 l0 x3_1).f3)) := (blk_cell BK202.out 3).trans rfl
      have hcz45_4 : wr.cell? ⟨gb202, 4, none⟩ = some (.string ((rd_T49 l0 x3_1).f4)) := (blk_cell BK202.out 4).trans rfl
      have hfz45_0 := blk_frozen BK202.out 0
      have hfz45_1 := blk_frozen BK202.out 1
      have hfz45_2 := blk_frozen BK202.out 2
      have hfz45_3 := blk_frozen BK202.out 3
      have hfz45_4 := blk_frozen BK202.out 4
      go_upto_region 16 with (fail)
      repeat (go_quiet (fail); go_upto_region 16 with (fail))
      go_cut [77] (fun v77 wc => ∃ (kq : Nat) (x77_42 : Bool), v77 = .bool x77_42 ∧ Aside0 (changeforgeref3_HistoryFault.j2 kq l0 x3_1 x77_42 ((rd_T49 l0 x3_1).f0) ((rd_T49 l0 x3_1).f1) ((rd_T49 l0 x3_1).f2) ((rd_T49 l0 x3_1).f3) ((rd_T49 l0 x3_1).f4) = some (r1, r2)) ∧ Aside0 (kq ≤ k2) ∧ Aside0 (wc.heap[gb198]? = some (.cells #[.int .i64 x199000_2, .int .i64 x199001_2] 26 (0, 0))) ∧ Aside0 (wc.heap[gb202]? = some (.cells #[(.slice A201_0 ((rd_T49 l0 x3_1).f0).length c201_0), .int .i64 ((rd_T49 l0 x3_1).f1), .int .i64 ((rd_T49 l0 x3_1).f2), .int .i64 ((rd_T49 l0 x3_1).f3), .string ((rd_T49 l0 x3_1).f4)] 49 (0, 0))) ∧ Aside0 (Below w.heap.size w wc))
      case first =>
       have H := HC43.out
       clear HC43
       replace H := Option.bind_eq_some_iff.mp H
       obtain ⟨t213, A460, H⟩ := H
       replace H : (if t213 = true then ((changeforgeref3_In.f ((rd_T49 l0 x3_1).f2) 0 100000).bind fun t214 => (if t214 = true then ((changeforgeref3_isDigest.f ((rd_T49 l0 x3_1).f3)).bind fun t215 => (changeforgeref3_HistoryFault.j2 k2 l0 x3_1 (!t215) ((rd_T49 l0 x3_1).f0) ((rd_T49 l0 x3_1).f1) ((rd_T49 l0 x3_1).f2) ((rd_T49 l0 x3_1).f3) ((rd_T49 l0 x3_1).f4))) else (changeforgeref3_HistoryFault.j2 k2 l0 x3_1 true ((rd_T49 l0 x3_1).f0) ((rd_T49 l0 x3_1).f1) ((rd_T49 l0 x3_1).f2) ((rd_T49 l0 x3_1).f3) ((rd_T49 l0 x3_1).f4)))) else (changeforgeref3_HistoryFault.j2 k2 l0 x3_1 true ((rd_T49 l0 x3_1).f0) ((rd_T49 l0 x3_1).f1) ((rd_T49 l0 x3_1).f2) ((rd_T49 l0 x3_1).f3) ((rd_T49 l0 x3_1).f4))) = some (r1, r2) := H
       have A46 := aZ A460
       clear A460
       by_cases c47 : t213 = true
       rotate_left
       · replace c47 := Bool.eq_false_iff.mpr c47
         subst c47
         have H1 : (changeforgeref3_HistoryFault.j2 k2 l0 x3_1 true ((rd_T49 l0 x3_1).f0) ((rd_T49 l0 x3_1).f1) ((rd_T49 l0 x3_1).f2) ((rd_T49 l0 x3_1).f3) ((rd_T49 l0 x3_1).f4)) = some (r1, r2) := by rw [if_neg (show ¬ (false = true) by decide)] at H; exact H
         clear H
         have H := H1
         clear H1
         have H' := aZ H
         clear H
         have hnb55 := NB202_198.out
         have hnc55 := NB198_202.out
         have hcz56_0 : wr.cell? ⟨gb202, 0, none⟩ = some (.slice A201_0 ((rd_T49 l0 x3_1).f0).length c201_0) := (blk_cell BK202.out 0).trans rfl
         have hcz56_1 : wr.cell? ⟨gb202, 1, none⟩ = some (.int .i64 ((rd_T49 l0 x3_1).f1)) := (blk_cell BK202.out 1).trans rfl
         have hcz56_2 : wr.cell? ⟨gb202, 2, none⟩ = some (.int .i64 ((rd_T49 l0 x3_1).f2)) := (blk_cell BK202.out 2).trans rfl
         have hcz56_3 : wr.cell? ⟨gb202, 3, none⟩ = some (.int .i64 ((rd_T49 l0 x3_1).f3)) := (blk_cell BK202.out 3).trans rfl
         have hcz56_4 : wr.cell? ⟨gb202, 4, none⟩ = some (.string ((rd_T49 l0 x3_1).f4)) := (blk_cell BK202.out 4).trans rfl
         have hfz56_0 := blk_frozen BK202.out 0
         have hfz56_1 := blk_frozen BK202.out 1
         have hfz56_2 := blk_frozen BK202.out 2
         have hfz56_3 := blk_frozen BK202.out 3
         have hfz56_4 := blk_frozen BK202.out 4
         go_wp2_with (first | (go_at_call 18; (with_reducible refine (changeforgeref3_In.calls ((rd_T49 l0 x3_1).f1) 0 7 false _ A46.out).mono ?_); rintro e w' ⟨rfl, ⟨nd, rfl⟩⟩; (try first | exact ⟨rfl, _, World.drewN_drewN _ _ _⟩ | exact ⟨rfl, _, Eq.trans (World.drewN_drewN _ _ _) (congrArg (World.drewN _) (Nat.add_assoc _ _ _))⟩)))
         repeat (go_quiet (first | (go_at_call 18; (with_reducible refine (changeforgeref3_In.calls ((rd_T49 l0 x3_1).f1) 0 7 false _ A46.out).mono ?_); rintro e w' ⟨rfl, ⟨nd, rfl⟩⟩; (try first | exact ⟨rfl, _, World.drewN_drewN _ _ _⟩ | exact ⟨rfl, _, Eq.trans (World.drewN_drewN _ _ _) (congrArg (World.drewN _) (Nat.add_assoc _ _ _))⟩))); try go_wp2_with (first | (go_at_call 18; (with_reducible refine (changeforgeref3_In.calls ((rd_T49 l0 x3_1).f1) 0 7 false _ A46.out).mono ?_); rintro e w' ⟨rfl, ⟨nd, rfl⟩⟩; (try first | exact ⟨rfl, _, World.drewN_drewN _ _ _⟩ | exact ⟨rfl, _, Eq.trans (World.drewN_drewN _ _ _) (congrArg (World.drewN _) (Nat.add_assoc _ _ _))⟩))))
         go_meet
         case rel => exact ⟨_, (true), (by first | rfl | (simp; done) | (simp [*]; done) | (simp [i64_w]; done)), H', ⟨by have := HK1.out; have := HK2.out; first | omega | exact Nat.le_refl _⟩, ⟨by (with_reducible repeat (first | refine bN ?_ _ | refine bD ?_ | refine bA ?_ _)); exact BK198.out⟩, ⟨by (with_reducible repeat (first | refine bN ?_ _ | refine bD ?_ | refine bA ?_ _)); exact BK202.out⟩, ⟨by repeat (first | (with_reducible first | exact HB.out | apply lA | apply lN | apply lD | refine lS ?_ GE198.out | refine lS ?_ GE202.out) | exact HB.out)⟩⟩
       subst c47
       have H1 : ((changeforgeref3_In.f ((rd_T49 l0 x3_1).f2) 0 100000).bind fun t214 => (if t214 = true then ((changeforgeref3_isDigest.f ((rd_T49 l0 x3_1).f3)).bind fun t215 => (changeforgeref3_HistoryFault.j2 k2 l0 x3_1 (!t215) ((rd_T49 l0 x3_1).f0) ((rd_T49 l0 x3_1).f1) ((rd_T49 l0 x3_1).f2) ((rd_T49 l0 x3_1).f3) ((rd_T49 l0 x3_1).f4))) else (changeforgeref3_HistoryFault.j2 k2 l0 x3_1 true ((rd_T49 l0 x3_1).f0) ((rd_T49 l0 x3_1).f1) ((rd_T49 l0 x3_1).f2) ((rd_T49 l0 x3_1).f3) ((rd_T49 l0 x3_1).f4)))) = some (r1, r2) := by rw [if_pos rfl] at H; exact H
       clear H
       have H := H1
       clear H1
       replace H := Option.bind_eq_some_iff.mp H
       obtain ⟨t214, A480, H⟩ := H
       replace H : (if t214 = true then ((changeforgeref3_isDigest.f ((rd_T49 l0 x3_1).f3)).bind fun t215 => (changeforgeref3_HistoryFault.j2 k2 l0 x3_1 (!t215) ((rd_T49 l0 x3_1).f0) ((rd_T49 l0 x3_1).f1) ((rd_T49 l0 x3_1).f2) ((rd_T49 l0 x3_1).f3) ((rd_T49 l0 x3_1).f4))) else (changeforgeref3_HistoryFault.j2 k2 l0 x3_1 true ((rd_T49 l0 x3_1).f0) ((rd_T49 l0 x3_1).f1) ((rd_T49 l0 x3_1).f2) ((rd_T49 l0 x3_1).f3) ((rd_T49 l0 x3_1).f4))) = some (r1, r2) := H
       have A48 := aZ A480
       clear A480
       by_cases c49 : t214 = true
       rotate_left
       · replace c49 := Bool.eq_false_iff.mpr c49
         subst c49
         have H1 : (changeforgeref3_HistoryFault.j2 k2 l0 x3_1 true ((rd_T49 l0 x3_1).f0) ((rd_T49 l0 x3_1).f1) ((rd_T49 l0 x3_1).f2) ((rd_T49 l0 x3_1).f3) ((rd_T49 l0 x3_1).f4)) = some (r1, r2) := by rw [if_neg (show ¬ (false = true) by decide)] at H; exact H
         clear H
         have H := H1
         clear H1
         have H' := aZ H
         clear H
         have hnb53 := NB202_198.out
         have hnc53 := NB198_202.out
         have hcz54_0 : wr.cell? ⟨gb202, 0, none⟩ = some (.slice A201_0 ((rd_T49 l0 x3_1).f0).length c201_0) := (blk_cell BK202.out 0).trans rfl
         have hcz54_1 : wr.cell? ⟨gb202, 1, none⟩ = some (.int .i64 ((rd_T49 l0 x3_1).f1)) := (blk_cell BK202.out 1).trans rfl
         have hcz54_2 : wr.cell? ⟨gb202, 2, none⟩ = some (.int .i64 ((rd_T49 l0 x3_1).f2)) := (blk_cell BK202.out 2).trans rfl
         have hcz54_3 : wr.cell? ⟨gb202, 3, none⟩ = some (.int .i64 ((rd_T49 l0 x3_1).f3)) := (blk_cell BK202.out 3).trans rfl
         have hcz54_4 : wr.cell? ⟨gb202, 4, none⟩ = some (.string ((rd_T49 l0 x3_1).f4)) := (blk_cell BK202.out 4).trans rfl
         have hfz54_0 := blk_frozen BK202.out 0
         have hfz54_1 := blk_frozen BK202.out 1
         have hfz54_2 := blk_frozen BK202.out 2
         have hfz54_3 := blk_frozen BK202.out 3
         have hfz54_4 := blk_frozen BK202.out 4
         go_wp2_with (first | (go_at_call 18; (with_reducible refine (changeforgeref3_In.calls ((rd_T49 l0 x3_1).f1) 0 7 true _ A46.out).mono ?_); rintro e w' ⟨rfl, ⟨nd, rfl⟩⟩; (try first | exact ⟨rfl, _, World.drewN_drewN _ _ _⟩ | exact ⟨rfl, _, Eq.trans (World.drewN_drewN _ _ _) (congrArg (World.drewN _) (Nat.add_assoc _ _ _))⟩)) | (go_at_call 18; (with_reducible refine (changeforgeref3_In.calls ((rd_T49 l0 x3_1).f2) 0 100000 false _ A48.out).mono ?_); rintro e w' ⟨rfl, ⟨nd, rfl⟩⟩; (try first | exact ⟨rfl, _, World.drewN_drewN _ _ _⟩ | exact ⟨rfl, _, Eq.trans (World.drewN_drewN _ _ _) (congrArg (World.drewN _) (Nat.add_assoc _ _ _))⟩)))
         repeat (go_quiet (first | (go_at_call 18; (with_reducible refine (changeforgeref3_In.calls ((rd_T49 l0 x3_1).f1) 0 7 true _ A46.out).mono ?_); rintro e w' ⟨rfl, ⟨nd, rfl⟩⟩; (try first | exact ⟨rfl, _, World.drewN_drewN _ _ _⟩ | exact ⟨rfl, _, Eq.trans (World.drewN_drewN _ _ _) (congrArg (World.drewN _) (Nat.add_assoc _ _ _))⟩)) | (go_at_call 18; (with_reducible refine (changeforgeref3_In.calls ((rd_T49 l0 x3_1).f2) 0 100000 false _ A48.out).mono ?_); rintro e w' ⟨rfl, ⟨nd, rfl⟩⟩; (try first | exact ⟨rfl, _, World.drewN_drewN _ _ _⟩ | exact ⟨rfl, _, Eq.trans (World.drewN_drewN _ _ _) (congrArg (World.drewN _) (Nat.add_assoc _ _ _))⟩))); try go_wp2_with (first | (go_at_call 18; (with_reducible refine (changeforgeref3_In.calls ((rd_T49 l0 x3_1).f1) 0 7 true _ A46.out).mono ?_); rintro e w' ⟨rfl, ⟨nd, rfl⟩⟩; (try first | exact ⟨rfl, _, World.drewN_drewN _ _ _⟩ | exact ⟨rfl, _, Eq.trans (World.drewN_drewN _ _ _) (congrArg (World.drewN _) (Nat.add_assoc _ _ _))⟩)) | (go_at_call 18; (with_reducible refine (changeforgeref3_In.calls ((rd_T49 l0 x3_1).f2) 0 100000 false _ A48.out).mono ?_); rintro e w' ⟨rfl, ⟨nd, rfl⟩⟩; (try first | exact ⟨rfl, _, World.drewN_drewN _ _ _⟩ | exact ⟨rfl, _, Eq.trans (World.drewN_drewN _ _ _) (congrArg (World.drewN _) (Nat.add_assoc _ _ _))⟩))))
         go_meet
         case rel => exact ⟨_, (true), (by first | rfl | (simp; done) | (simp [*]; done) | (simp [i64_w]; done)), H', ⟨by have := HK1.out; have := HK2.out; first | omega | exact Nat.le_refl _⟩, ⟨by (with_reducible repeat (first | refine bN ?_ _ | refine bD ?_ | refine bA ?_ _)); exact BK198.out⟩, ⟨by (with_reducible repeat (first | refine bN ?_ _ | refine bD ?_ | refine bA ?_ _)); exact BK202.out⟩, ⟨by repeat (first | (with_reducible first | exact HB.out | apply lA | apply lN | apply lD | refine lS ?_ GE198.out | refine lS ?_ GE202.out) | exact HB.out)⟩⟩
       subst c49
       have H1 : ((changeforgeref3_isDigest.f ((rd_T49 l0 x3_1).f3)).bind fun t215 => (changeforgeref3_HistoryFault.j2 k2 l0 x3_1 (!t215) ((rd_T49 l0 x3_1).f0) ((rd_T49 l0 x3_1).f1) ((rd_T49 l0 x3_1).f2) ((rd_T49 l0 x3_1).f3) ((rd_T49 l0 x3_1).f4))) = some (r1, r2) := by rw [if_pos rfl] at H; exact H
       clear H
       have H := H1
       clear H1
       replace H := Option.bind_eq_some_iff.mp H
       obtain ⟨t215, A500, H⟩ := H
       replace H : (changeforgeref3_HistoryFault.j2 k2 l0 x3_1 (!t215) ((rd_T49 l0 x3_1).f0) ((rd_T49 l0 x3_1).f1) ((rd_T49 l0 x3_1).f2) ((rd_T49 l0 x3_1).f3) ((rd_T49 l0 x3_1).f4)) = some (r1, r2) := H
       have A50 := aZ A500
       clear A500
       have H' := aZ H
       clear H
       have hnb51 := NB202_198.out
       have hnc51 := NB198_202.out
       have hcz52_0 : wr.cell? ⟨gb202, 0, none⟩ = some (.slice A201_0 ((rd_T49 l0 x3_1).f0).length c201_0) := (blk_cell BK202.out 0).trans rfl
       have hcz52_1 : wr.cell? ⟨gb202, 1, none⟩ = some (.int .i64 ((rd_T49 l0 x3_1).f1)) := (blk_cell BK202.out 1).trans rfl
       have hcz52_2 : wr.cell? ⟨gb202, 2, none⟩ = some (.int .i64 ((rd_T49 l0 x3_1).f2)) := (blk_cell BK202.out 2).trans rfl
       have hcz52_3 : wr.cell? ⟨gb202, 3, none⟩ = some (.int .i64 ((rd_T49 l0 x3_1).f3)) := (blk_cell BK202.out 3).trans rfl
       have hcz52_4 : wr.cell? ⟨gb202, 4, none⟩ = some (.string ((rd_T49 l0 x3_1).f4)) := (blk_cell BK202.out 4).trans rfl
       have hfz52_0 := blk_frozen BK202.out 0
       have hfz52_1 := blk_frozen BK202.out 1
       have hfz52_2 := blk_frozen BK202.out 2
       have hfz52_3 := blk_frozen BK202.out 3
       have hfz52_4 := blk_frozen BK202.out 4
       go_wp2_with (first | (go_at_call 18; (with_reducible refine (changeforgeref3_In.calls ((rd_T49 l0 x3_1).f1) 0 7 true _ A46.out).mono ?_); rintro e w' ⟨rfl, ⟨nd, rfl⟩⟩; (try first | exact ⟨rfl, _, World.drewN_drewN _ _ _⟩ | exact ⟨rfl, _, Eq.trans (World.drewN_drewN _ _ _) (congrArg (World.drewN _) (Nat.add_assoc _ _ _))⟩)) | (go_at_call 18; (with_reducible refine (changeforgeref3_In.calls ((rd_T49 l0 x3_1).f2) 0 100000 true _ A48.out).mono ?_); rintro e w' ⟨rfl, ⟨nd, rfl⟩⟩; (try first | exact ⟨rfl, _, World.drewN_drewN _ _ _⟩ | exact ⟨rfl, _, Eq.trans (World.drewN_drewN _ _ _) (congrArg (World.drewN _) (Nat.add_assoc _ _ _))⟩)) | (go_at_call 36; (with_reducible refine (changeforgeref3_isDigest.calls ((rd_T49 l0 x3_1).f3) t215 _ A50.out).mono ?_); rintro e w' ⟨rfl, ⟨nd, rfl⟩⟩; (try first | exact ⟨rfl, _, World.drewN_drewN _ _ _⟩ | exact ⟨rfl, _, Eq.trans (World.drewN_drewN _ _ _) (congrArg (World.drewN _) (Nat.add_assoc _ _ _))⟩)))
       repeat (go_quiet (first | (go_at_call 18; (with_reducible refine (changeforgeref3_In.calls ((rd_T49 l0 x3_1).f1) 0 7 true _ A46.out).mono ?_); rintro e w' ⟨rfl, ⟨nd, rfl⟩⟩; (try first | exact ⟨rfl, _, World.drewN_drewN _ _ _⟩ | exact ⟨rfl, _, Eq.trans (World.drewN_drewN _ _ _) (congrArg (World.drewN _) (Nat.add_assoc _ _ _))⟩)) | (go_at_call 18; (with_reducible refine (changeforgeref3_In.calls ((rd_T49 l0 x3_1).f2) 0 100000 true _ A48.out).mono ?_); rintro e w' ⟨rfl, ⟨nd, rfl⟩⟩; (try first | exact ⟨rfl, _, World.drewN_drewN _ _ _⟩ | exact ⟨rfl, _, Eq.trans (World.drewN_drewN _ _ _) (congrArg (World.drewN _) (Nat.add_assoc _ _ _))⟩)) | (go_at_call 36; (with_reducible refine (changeforgeref3_isDigest.calls ((rd_T49 l0 x3_1).f3) t215 _ A50.out).mono ?_); rintro e w' ⟨rfl, ⟨nd, rfl⟩⟩; (try first | exact ⟨rfl, _, World.drewN_drewN _ _ _⟩ | exact ⟨rfl, _, Eq.trans (World.drewN_drewN _ _ _) (congrArg (World.drewN _) (Nat.add_assoc _ _ _))⟩))); try go_wp2_with (first | (go_at_call 18; (with_reducible refine (changeforgeref3_In.calls ((rd_T49 l0 x3_1).f1) 0 7 true _ A46.out).mono ?_); rintro e w' ⟨rfl, ⟨nd, rfl⟩⟩; (try first | exact ⟨rfl, _, World.drewN_drewN _ _ _⟩ | exact ⟨rfl, _, Eq.trans (World.drewN_drewN _ _ _) (congrArg (World.drewN _) (Nat.add_assoc _ _ _))⟩)) | (go_at_call 18; (with_reducible refine (changeforgeref3_In.calls ((rd_T49 l0 x3_1).f2) 0 100000 true _ A48.out).mono ?_); rintro e w' ⟨rfl, ⟨nd, rfl⟩⟩; (try first | exact ⟨rfl, _, World.drewN_drewN _ _ _⟩ | exact ⟨rfl, _, Eq.trans (World.drewN_drewN _ _ _) (congrArg (World.drewN _) (Nat.add_assoc _ _ _))⟩)) | (go_at_call 36; (with_reducible refine (changeforgeref3_isDigest.calls ((rd_T49 l0 x3_1).f3) t215 _ A50.out).mono ?_); rintro e w' ⟨rfl, ⟨nd, rfl⟩⟩; (try first | exact ⟨rfl, _, World.drewN_drewN _ _ _⟩ | exact ⟨rfl, _, Eq.trans (World.drewN_drewN _ _ _) (congrArg (World.drewN _) (Nat.add_assoc _ _ _))⟩))))
       go_meet
       case rel => exact ⟨_, (!t215), (by first | rfl | (simp; done) | (simp [*]; done) | (simp [i64_w]; done)), H', ⟨by have := HK1.out; have := HK2.out; first | omega | exact Nat.le_refl _⟩, ⟨by (with_reducible repeat (first | refine bN ?_ _ | refine bD ?_ | refine bA ?_ _)); exact BK198.out⟩, ⟨by (with_reducible repeat (first | refine bN ?_ _ | refine bD ?_ | refine bA ?_ _)); exact BK202.out⟩, ⟨by repeat (first | (with_reducible first | exact HB.out | apply lA | apply lN | apply lD | refine lS ?_ GE198.out | refine lS ?_ GE202.out) | exact HB.out)⟩⟩
      case rest =>
       clear HC43
       (try clear c20); (try clear c20b0); (try clear hcz45_0); (try clear hcz45_1); (try clear hcz45_2); (try clear hcz45_3); (try clear hcz45_4); (try clear hfz45_0); (try clear hfz45_1); (try clear hfz45_2); (try clear hfz45_3); (try clear hfz45_4)
       obtain ⟨kq, x77_42, rfl, HA, HJ42, BK198, BK202, HB⟩ := hcut
       cases kq with
       | zero => exact absurd HA.out (by simp [changeforgeref3_HistoryFault.j2])
       | succ kj42 =>
        have H := HA.out
        clear HA
        simp only [changeforgeref3_HistoryFault.j2] at H
        by_cases c57 : x77_42 = true
        · subst c57
          have H1 : ((changeforgeref3_Fault.f 3 x3_1).bind fun bt216 => (some (bt216.1, bt216.2))) = some (r1, r2) := by rw [if_pos rfl] at H; exact H
          clear H
          have H := H1
          clear H1
          replace H := Option.bind_eq_some_iff.mp H
          obtain ⟨⟨t216, t217⟩, A580, H⟩ := H
          replace H : (some (t216, t217)) = some (r1, r2) := H
          have A58 := aZ A580
          clear A580
          simp only [Option.some.injEq, Prod.mk.injEq] at H
          obtain ⟨rfl, rfl⟩ := H
          go_wp2_with (first | (go_at_call 19; (with_reducible refine (changeforgeref3_Fault.calls 3 x3_1 t216 t217 _ A58.out).mono ?_); rintro e w59 ⟨rfl, hb⟩; have n0_ := aZ (blk_below (g := gb198) (o := .cells #[.int .i64 x199000_2, .int .i64 x199001_2] 26 (0, 0)) (by (with_reducible repeat (first | refine bN ?_ _ | refine bD ?_ | refine bA ?_ _)); exact BK198.out) hb); have n1_ := aZ (blk_below (g := gb202) (o := .cells #[.slice A201_0 ((rd_T49 l0 x3_1).f0).length c201_0, .int .i64 ((rd_T49 l0 x3_1).f1), .int .i64 ((rd_T49 l0 x3_1).f2), .int .i64 ((rd_T49 l0 x3_1).f3), .string ((rd_T49 l0 x3_1).f4)] 49 (0, 0)) (by (with_reducible repeat (first | refine bN ?_ _ | refine bD ?_ | refine bA ?_ _)); exact BK202.out) hb); have n2_ := aZ (lT (by repeat (first | (with_reducible first | exact HB.out | apply lA | apply lN | apply lD | refine lS ?_ GE198.out | refine lS ?_ GE202.out) | exact HB.out)) hb); clear BK198; clear BK202; clear HB; have BK198 := n0_; have BK202 := n1_; have HB := n2_; clear n0_ n1_ n2_; (try clear hb); (try clear hb2); (try clear hk); (try clear hi); have hnb60 := NB198_202.out; have hnc60 := NB202_198.out; have hcz61_0 : w59.cell? ⟨gb198, 0, none⟩ = some (.int .i64 x199000_2) := (blk_cell BK198.out 0).trans rfl; have hcz61_1 : w59.cell? ⟨gb198, 1, none⟩ = some (.int .i64 x199001_2) := (blk_cell BK198.out 1).trans rfl; have hfz61_0 := blk_frozen BK198.out 0; have hfz61_1 := blk_frozen BK198.out 1))
          repeat (go_quiet (first | (go_at_call 19; (with_reducible refine (changeforgeref3_Fault.calls 3 x3_1 t216 t217 _ A58.out).mono ?_); rintro e w59 ⟨rfl, hb⟩; have n0_ := aZ (blk_below (g := gb198) (o := .cells #[.int .i64 x199000_2, .int .i64 x199001_2] 26 (0, 0)) (by (with_reducible repeat (first | refine bN ?_ _ | refine bD ?_ | refine bA ?_ _)); exact BK198.out) hb); have n1_ := aZ (blk_below (g := gb202) (o := .cells #[.slice A201_0 ((rd_T49 l0 x3_1).f0).length c201_0, .int .i64 ((rd_T49 l0 x3_1).f1), .int .i64 ((rd_T49 l0 x3_1).f2), .int .i64 ((rd_T49 l0 x3_1).f3), .string ((rd_T49 l0 x3_1).f4)] 49 (0, 0)) (by (with_reducible repeat (first | refine bN ?_ _ | refine bD ?_ | refine bA ?_ _)); exact BK202.out) hb); have n2_ := aZ (lT (by repeat (first | (with_reducible first | exact HB.out | apply lA | apply lN | apply lD | refine lS ?_ GE198.out | refine lS ?_ GE202.out) | exact HB.out)) hb); clear BK198; clear BK202; clear HB; have BK198 := n0_; have BK202 := n1_; have HB := n2_; clear n0_ n1_ n2_; (try clear hb); (try clear hb2); (try clear hk); (try clear hi); have hnb60 := NB198_202.out; have hnc60 := NB202_198.out; have hcz61_0 : w59.cell? ⟨gb198, 0, none⟩ = some (.int .i64 x199000_2) := (blk_cell BK198.out 0).trans rfl; have hcz61_1 : w59.cell? ⟨gb198, 1, none⟩ = some (.int .i64 x199001_2) := (blk_cell BK198.out 1).trans rfl; have hfz61_0 := blk_frozen BK198.out 0; have hfz61_1 := blk_frozen BK198.out 1)); try go_wp2_with (first | (go_at_call 19; (with_reducible refine (changeforgeref3_Fault.calls 3 x3_1 t216 t217 _ A58.out).mono ?_); rintro e w59 ⟨rfl, hb⟩; have n0_ := aZ (blk_below (g := gb198) (o := .cells #[.int .i64 x199000_2, .int .i64 x199001_2] 26 (0, 0)) (by (with_reducible repeat (first | refine bN ?_ _ | refine bD ?_ | refine bA ?_ _)); exact BK198.out) hb); have n1_ := aZ (blk_below (g := gb202) (o := .cells #[.slice A201_0 ((rd_T49 l0 x3_1).f0).length c201_0, .int .i64 ((rd_T49 l0 x3_1).f1), .int .i64 ((rd_T49 l0 x3_1).f2), .int .i64 ((rd_T49 l0 x3_1).f3), .string ((rd_T49 l0 x3_1).f4)] 49 (0, 0)) (by (with_reducible repeat (first | refine bN ?_ _ | refine bD ?_ | refine bA ?_ _)); exact BK202.out) hb); have n2_ := aZ (lT (by repeat (first | (with_reducible first | exact HB.out | apply lA | apply lN | apply lD | refine lS ?_ GE198.out | refine lS ?_ GE202.out) | exact HB.out)) hb); clear BK198; clear BK202; clear HB; have BK198 := n0_; have BK202 := n1_; have HB := n2_; clear n0_ n1_ n2_; (try clear hb); (try clear hb2); (try clear hk); (try clear hi); have hnb60 := NB198_202.out; have hnc60 := NB202_198.out; have hcz61_0 : w59.cell? ⟨gb198, 0, none⟩ = some (.int .i64 x199000_2) := (blk_cell BK198.out 0).trans rfl; have hcz61_1 : w59.cell? ⟨gb198, 1, none⟩ = some (.int .i64 x199001_2) := (blk_cell BK198.out 1).trans rfl; have hfz61_0 := blk_frozen BK198.out 0; have hfz61_1 := blk_frozen BK198.out 1)))
          refine bodyPost_ret (results_cell_row rfl _ _ gb198 26 #[.int .i64 t216, .int .i64 t217] (0, 0) _ rfl (by (with_reducible repeat (first | refine bN ?_ _ | refine bD ?_ | refine bA ?_ _)); refine blk_put (cs := #[.int .i64 t216, .int .i64 x199001_2]) ?_ 1 _ rfl; (with_reducible repeat (first | refine bN ?_ _ | refine bD ?_ | refine bA ?_ _)); refine blk_put (cs := #[.int .i64 x199000_2, .int .i64 x199001_2]) ?_ 0 _ rfl; (with_reducible repeat (first | refine bN ?_ _ | refine bD ?_ | refine bA ?_ _)); exact BK198.out) Try.underlying26 rfl (by kernel_rfl)) rfl ?_
          exact ⟨by first | rfl | (simp [errW_none, errW_some] <;> rfl) | (simp [*, errW_none, errW_some] <;> rfl), by repeat (first | (with_reducible first | exact HB.out | apply lA | apply lN | apply lD | refine lS ?_ GE198.out | refine lS ?_ GE202.out) | exact HB.out)⟩
        replace c57 := Bool.eq_false_iff.mpr c57
        subst c57
        have H1 : (if (((rd_T49 l0 x3_1).f4).size : Int) > 80 then ((changeforgeref3_Fault.f 10 x3_1).bind fun bt218 => (some (bt218.1, bt218.2))) else (changeforgeref3_HistoryFault.l0 kj42 l0 (wrap64 (x3_1 + 1)))) = some (r1, r2) := by rw [if_neg (show ¬ (false = true) by decide)] at H; exact H
        clear H
        have H := H1
        clear H1
        by_cases c62 : (((rd_T49 l0 x3_1).f4).size : Int) > 80
        rotate_left
        · rw [if_neg c62] at H
          have c62b0 : decide (80 < (((rd_T49 l0 x3_1).f4).size : Int)) = false := decide_eq_false c62
          have c62b1 : decide (80 < ((rd_T49 l0 x3_1).f4).size) = false := decide_eq_false (by omega)
          clear c62
          have H' := aZ H
          clear H
          have hnb68 := NB202_198.out
          have hnc68 := NB198_202.out
          have hcz69_0 : wc.cell? ⟨gb202, 0, none⟩ = some (.slice A201_0 ((rd_T49 l0 x3_1).f0).length c201_0) := (blk_cell BK202.out 0).trans rfl
          have hcz69_1 : wc.cell? ⟨gb202, 1, none⟩ = some (.int .i64 ((rd_T49 l0 x3_1).f1)) := (blk_cell BK202.out 1).trans rfl
          have hcz69_2 : wc.cell? ⟨gb202, 2, none⟩ = some (.int .i64 ((rd_T49 l0 x3_1).f2)) := (blk_cell BK202.out 2).trans rfl
          have hcz69_3 : wc.cell? ⟨gb202, 3, none⟩ = some (.int .i64 ((rd_T49 l0 x3_1).f3)) := (blk_cell BK202.out 3).trans rfl
          have hcz69_4 : wc.cell? ⟨gb202, 4, none⟩ = some (.string ((rd_T49 l0 x3_1).f4)) := (blk_cell BK202.out 4).trans rfl
          have hfz69_0 := blk_frozen BK202.out 0
          have hfz69_1 := blk_frozen BK202.out 1
          have hfz69_2 := blk_frozen BK202.out 2
          have hfz69_3 := blk_frozen BK202.out 3
          have hfz69_4 := blk_frozen BK202.out 4
          go_wp2
          repeat (go_quiet (fail); try go_wp2)
          go_roundg kj42
          case measure => have := HK1.out; have := HK2.out; have := HJ42.out; omega
          case rel => exact ⟨(wrap64 (x3_1 + 1)), (x199000_2), (x199001_2), (by first | rfl | (simp; done) | (simp [*]; done) | (simp [i64_w]; done)), H', ⟨by have := HK1.out; have := HK2.out; have := HJ42.out; omega⟩, ⟨by (with_reducible repeat (first | refine bN ?_ _ | refine bD ?_ | refine bA ?_ _)); exact BK198.out⟩, ⟨by repeat (first | (with_reducible first | exact HB.out | apply lA | apply lN | apply lD | refine lS ?_ GE198.out | refine lS ?_ GE202.out) | exact HB.out)⟩⟩
        rw [if_pos c62] at H
        have c62b0 : decide (80 < (((rd_T49 l0 x3_1).f4).size : Int)) = true := decide_eq_true c62
        have c62b1 : decide (80 < ((rd_T49 l0 x3_1).f4).size) = true := decide_eq_true (by omega)
        clear c62
        replace H := Option.bind_eq_some_iff.mp H
        obtain ⟨⟨t218, t219⟩, A630, H⟩ := H
        replace H : (some (t218, t219)) = some (r1, r2) := H
        have A63 := aZ A630
        clear A630
        simp only [Option.some.injEq, Prod.mk.injEq] at H
        obtain ⟨rfl, rfl⟩ := H
        have hnb64 := NB202_198.out
        have hnc64 := NB198_202.out
        have hcz65_0 : wc.cell? ⟨gb202, 0, none⟩ = some (.slice A201_0 ((rd_T49 l0 x3_1).f0).length c201_0) := (blk_cell BK202.out 0).trans rfl
        have hcz65_1 : wc.cell? ⟨gb202, 1, none⟩ = some (.int .i64 ((rd_T49 l0 x3_1).f1)) := (blk_cell BK202.out 1).trans rfl
        have hcz65_2 : wc.cell? ⟨gb202, 2, none⟩ = some (.int .i64 ((rd_T49 l0 x3_1).f2)) := (blk_cell BK202.out 2).trans rfl
        have hcz65_3 : wc.cell? ⟨gb202, 3, none⟩ = some (.int .i64 ((rd_T49 l0 x3_1).f3)) := (blk_cell BK202.out 3).trans rfl
        have hcz65_4 : wc.cell? ⟨gb202, 4, none⟩ = some (.string ((rd_T49 l0 x3_1).f4)) := (blk_cell BK202.out 4).trans rfl
        have hfz65_0 := blk_frozen BK202.out 0
        have hfz65_1 := blk_frozen BK202.out 1
        have hfz65_2 := blk_frozen BK202.out 2
        have hfz65_3 := blk_frozen BK202.out 3
        have hfz65_4 := blk_frozen BK202.out 4
        go_wp2_with (first | (go_at_call 19; (with_reducible refine (changeforgeref3_Fault.calls 10 x3_1 t218 t219 _ A63.out).mono ?_); rintro e w66 ⟨rfl, hb⟩; have n0_ := aZ (blk_below (g := gb198) (o := .cells #[.int .i64 x199000_2, .int .i64 x199001_2] 26 (0, 0)) (by (with_reducible repeat (first | refine bN ?_ _ | refine bD ?_ | refine bA ?_ _)); exact BK198.out) hb); have n1_ := aZ (blk_below (g := gb202) (o := .cells #[.slice A201_0 ((rd_T49 l0 x3_1).f0).length c201_0, .int .i64 ((rd_T49 l0 x3_1).f1), .int .i64 ((rd_T49 l0 x3_1).f2), .int .i64 ((rd_T49 l0 x3_1).f3), .string ((rd_T49 l0 x3_1).f4)] 49 (0, 0)) (by (with_reducible repeat (first | refine bN ?_ _ | refine bD ?_ | refine bA ?_ _)); exact BK202.out) hb); have n2_ := aZ (lT (by repeat (first | (with_reducible first | exact HB.out | apply lA | apply lN | apply lD | refine lS ?_ GE198.out | refine lS ?_ GE202.out) | exact HB.out)) hb); clear BK198; clear BK202; clear HB; have BK198 := n0_; have BK202 := n1_; have HB := n2_; clear n0_ n1_ n2_; (try clear hb); (try clear hb2); (try clear hk); (try clear hi); have hcz67_0 : w66.cell? ⟨gb198, 0, none⟩ = some (.int .i64 x199000_2) := (blk_cell BK198.out 0).trans rfl; have hcz67_1 : w66.cell? ⟨gb198, 1, none⟩ = some (.int .i64 x199001_2) := (blk_cell BK198.out 1).trans rfl; have hfz67_0 := blk_frozen BK198.out 0; have hfz67_1 := blk_frozen BK198.out 1))
        repeat (go_quiet (first | (go_at_call 19; (with_reducible refine (changeforgeref3_Fault.calls 10 x3_1 t218 t219 _ A63.out).mono ?_); rintro e w66 ⟨rfl, hb⟩; have n0_ := aZ (blk_below (g := gb198) (o := .cells #[.int .i64 x199000_2, .int .i64 x199001_2] 26 (0, 0)) (by (with_reducible repeat (first | refine bN ?_ _ | refine bD ?_ | refine bA ?_ _)); exact BK198.out) hb); have n1_ := aZ (blk_below (g := gb202) (o := .cells #[.slice A201_0 ((rd_T49 l0 x3_1).f0).length c201_0, .int .i64 ((rd_T49 l0 x3_1).f1), .int .i64 ((rd_T49 l0 x3_1).f2), .int .i64 ((rd_T49 l0 x3_1).f3), .string ((rd_T49 l0 x3_1).f4)] 49 (0, 0)) (by (with_reducible repeat (first | refine bN ?_ _ | refine bD ?_ | refine bA ?_ _)); exact BK202.out) hb); have n2_ := aZ (lT (by repeat (first | (with_reducible first | exact HB.out | apply lA | apply lN | apply lD | refine lS ?_ GE198.out | refine lS ?_ GE202.out) | exact HB.out)) hb); clear BK198; clear BK202; clear HB; have BK198 := n0_; have BK202 := n1_; have HB := n2_; clear n0_ n1_ n2_; (try clear hb); (try clear hb2); (try clear hk); (try clear hi); have hcz67_0 : w66.cell? ⟨gb198, 0, none⟩ = some (.int .i64 x199000_2) := (blk_cell BK198.out 0).trans rfl; have hcz67_1 : w66.cell? ⟨gb198, 1, none⟩ = some (.int .i64 x199001_2) := (blk_cell BK198.out 1).trans rfl; have hfz67_0 := blk_frozen BK198.out 0; have hfz67_1 := blk_frozen BK198.out 1)); try go_wp2_with (first | (go_at_call 19; (with_reducible refine (changeforgeref3_Fault.calls 10 x3_1 t218 t219 _ A63.out).mono ?_); rintro e w66 ⟨rfl, hb⟩; have n0_ := aZ (blk_below (g := gb198) (o := .cells #[.int .i64 x199000_2, .int .i64 x199001_2] 26 (0, 0)) (by (with_reducible repeat (first | refine bN ?_ _ | refine bD ?_ | refine bA ?_ _)); exact BK198.out) hb); have n1_ := aZ (blk_below (g := gb202) (o := .cells #[.slice A201_0 ((rd_T49 l0 x3_1).f0).length c201_0, .int .i64 ((rd_T49 l0 x3_1).f1), .int .i64 ((rd_T49 l0 x3_1).f2), .int .i64 ((rd_T49 l0 x3_1).f3), .string ((rd_T49 l0 x3_1).f4)] 49 (0, 0)) (by (with_reducible repeat (first | refine bN ?_ _ | refine bD ?_ | refine bA ?_ _)); exact BK202.out) hb); have n2_ := aZ (lT (by repeat (first | (with_reducible first | exact HB.out | apply lA | apply lN | apply lD | refine lS ?_ GE198.out | refine lS ?_ GE202.out) | exact HB.out)) hb); clear BK198; clear BK202; clear HB; have BK198 := n0_; have BK202 := n1_; have HB := n2_; clear n0_ n1_ n2_; (try clear hb); (try clear hb2); (try clear hk); (try clear hi); have hcz67_0 : w66.cell? ⟨gb198, 0, none⟩ = some (.int .i64 x199000_2) := (blk_cell BK198.out 0).trans rfl; have hcz67_1 : w66.cell? ⟨gb198, 1, none⟩ = some (.int .i64 x199001_2) := (blk_cell BK198.out 1).trans rfl; have hfz67_0 := blk_frozen BK198.out 0; have hfz67_1 := blk_frozen BK198.out 1)))
        refine bodyPost_ret (results_cell_row rfl _ _ gb198 26 #[.int .i64 t218, .int .i64 t219] (0, 0) _ rfl (by (with_reducible repeat (first | refine bN ?_ _ | refine bD ?_ | refine bA ?_ _)); refine blk_put (cs := #[.int .i64 t218, .int .i64 x199001_2]) ?_ 1 _ rfl; (with_reducible repeat (first | refine bN ?_ _ | refine bD ?_ | refine bA ?_ _)); refine blk_put (cs := #[.int .i64 x199000_2, .int .i64 x199001_2]) ?_ 0 _ rfl; (with_reducible repeat (first | refine bN ?_ _ | refine bD ?_ | refine bA ?_ _)); exact BK198.out) Try.underlying26 rfl (by kernel_rfl)) rfl ?_
        exact ⟨by first | rfl | (simp [errW_none, errW_some] <;> rfl) | (simp [*, errW_none, errW_some] <;> rfl), by repeat (first | (with_reducible first | exact HB.out | apply lA | apply lN | apply lD | refine lS ?_ GE198.out | refine lS ?_ GE202.out) | exact HB.out)⟩
end Go.Proofs.Ytojhnjgnpjoacaa.P
