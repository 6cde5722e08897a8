/- The reference's fault of a history, and two equal lists of numbers compared: what they come to. -/
import Derived.Test.YtojhnjgnpjoacaaHist1
import Derived.Test.YtojhnjgnpjoacaaP10
import Derived.Test.YtojhnjgnpjoacaaP11
namespace Go.Proofs.Ytojhnjgnpjoacaa.HistF
open Go.RowKit Go.Proofs.YtojhnjgnpjoacaaW.PrintWords Go.Proofs.YtojhnjgnpjoacaaW.PrintEv Go.Proofs.Ytojhnjgnpjoacaa.P Go.Proofs.Ytojhnjgnpjoacaa.Hist
set_option linter.unusedVariables false

theorem ints_l0 {a : List Int} (ha : (a.length : Int) ≤ 140737488351232) : ∀ (m : Nat) (i : Int), 0 ≤ i → i + m = a.length → Ev (fun k => changeforgeref3_Ints.l0 k a a i) true := by
  intro m
  induction m with
  | zero =>
    intro i h0 hi
    refine Ev.step (fun k_ => by rw [changeforgeref3_Ints.l0]) ?_
    refine ev_neg (by omega) ?_
    exact ev_now _
  | succ m ih =>
    intro i h0 hi
    refine Ev.step (fun k_ => by rw [changeforgeref3_Ints.l0]) ?_
    refine ev_pos (by omega) (ev_pos (by omega) (ev_pos (by omega) (ev_pos rfl ?_)))
    rw [w64 (by omega)]
    exact ih (i + 1) (by omega) (by omega)
theorem ints_same {a : List Int} (ha : (a.length : Int) ≤ 140737488351232) : Ev (fun k => changeforgeref3_Ints.f k a a) true := by
  unfold changeforgeref3_Ints.f
  exact ev_pos rfl (ints_l0 ha a.length 0 (by omega) (by omega))

theorem In_eq (a b c : Int) : changeforgeref3_In.f a b c = some (decide (b ≤ a ∧ a ≤ c)) := by
  unfold changeforgeref3_In.f
  split
  · congr 1; simp; omega
  · congr 1; simp; omega
theorem isDigest_eq (a : Int) : changeforgeref3_isDigest.f a = some (decide (0 ≤ a ∧ a ≤ 2305843009213693950)) := by
  unfold changeforgeref3_isDigest.f
  rw [In_eq]; rfl
theorem Fault_eq (a b : Int) : changeforgeref3_Fault.f a b = some (a, b) := rfl

theorem hf_j2 {l : List C} {i : Int} {b : Bool} {ps : List Int} {au ti tr : Int} {ms : ByteArray} {R : Int × Int} (hR : Ev (fun k => changeforgeref3_HistoryFault.l0 k l (wrap64 (i + 1))) R) :
    Ev (fun k => changeforgeref3_HistoryFault.j2 k l i b ps au ti tr ms) (if b = true then (3, i) else if (ms.size : Int) > 80 then (10, i) else R) := by
  refine Ev.step (fun k_ => by rw [changeforgeref3_HistoryFault.j2]) ?_
  exact ev_ite (fun _ => ev_now _) (fun _ => ev_ite (fun _ => ev_now _) (fun _ => hR))
theorem hf_l1 {l : List C} {i : Int} {ps : List Int} {au ti tr : Int} {ms : ByteArray} {R : Int × Int} (hi0 : 0 ≤ i) (hi : i ≤ 1000) (hp : (ps.length : Int) ≤ 1000) (hR : Ev (fun k => changeforgeref3_HistoryFault.l0 k l (wrap64 (i + 1))) R) :
    ∀ (m : Nat) (q : Int), 0 ≤ q → q + m = ps.length → Ev (fun k => changeforgeref3_HistoryFault.l1 k l i q ps au ti tr ms)
      (if pchk i ps m q ≠ 0 then (pchk i ps m q, i) else if (au < 0 ∨ au > 7 ∨ ti < 0 ∨ ti > 100000 ∨ tr < 0 ∨ tr ≥ 2305843009213693951) then (3, i) else if (ms.size : Int) > 80 then (10, i) else R) := by
  intro m
  induction m with
  | zero =>
    intro q h0 hq
    refine Ev.step (fun k_ => by rw [changeforgeref3_HistoryFault.l1]) ?_
    refine ev_neg (by omega) ?_
    rw [if_neg (by simp [pchk]), In_eq]
    refine ev_some (ev_cases (fun h1 => ?_) (fun h1 => ?_))
    · have h1 := of_decide_eq_true h1
      rw [In_eq]
      refine ev_some (ev_cases (fun h2 => ?_) (fun h2 => ?_))
      · have h2 := of_decide_eq_true h2
        rw [isDigest_eq]
        refine ev_some (ev_cast (hf_j2 hR) ?_)
        by_cases h3 : 0 ≤ tr ∧ tr ≤ 2305843009213693950
        · rw [if_neg (by simp [h3]), if_neg (show ¬ (au < 0 ∨ au > 7 ∨ ti < 0 ∨ ti > 100000 ∨ tr < 0 ∨ tr ≥ 2305843009213693951) by omega)]
        · rw [if_pos (by rw [decide_eq_false h3]; rfl), if_pos (by omega)]
      · have h2 : ¬ (0 ≤ ti ∧ ti ≤ 100000) := fun h => h2 (decide_eq_true h)
        refine ev_cast (hf_j2 hR) ?_
        rw [if_pos rfl, if_pos (by omega)]
    · have h1 : ¬ (0 ≤ au ∧ au ≤ 7) := fun h => h1 (decide_eq_true h)
      refine ev_cast (hf_j2 hR) ?_
      rw [if_pos rfl, if_pos (by omega)]
  | succ m ih =>
    intro q h0 hq
    have ih' := ih (q + 1) (by omega) (by omega)
    have hs : pchk i ps (m + 1) q = (if rd ps q < 0 ∨ rd ps q ≥ i then 3 else if q > 0 ∧ rd ps (q - 1) ≥ rd ps q then 5 else pchk i ps m (q + 1)) := rfl
    refine Ev.step (fun k_ => by rw [changeforgeref3_HistoryFault.l1]) ?_
    refine ev_pos (by omega) (ev_pos (by omega) ?_)
    rw [In_eq, w64 (x := i - 1) (by omega), w64 (x := q + 1) (by omega), w64 (x := q - 1) (by omega)]
    refine ev_some (ev_cases (fun h1 => ?_) (fun h1 => ?_))
    · have h1 := of_decide_eq_true h1
      rw [if_neg (by omega)] at hs
      refine ev_cases (fun h2 => ev_pos (by omega) (ev_pos (by omega) (ev_cases (fun h3 => ?_) (fun h3 => ?_)))) (fun h2 => ?_)
      · rw [if_pos (by omega)] at hs
        rw [hs]; exact ev_now _
      · rw [if_neg (by omega)] at hs
        rw [hs]; exact ih'
      · rw [if_neg (by omega)] at hs
        rw [hs]; exact ih'
    · have h1 : ¬ (0 ≤ rd ps q ∧ rd ps q ≤ i - 1) := fun h => h1 (decide_eq_true h)
      rw [if_pos (by omega)] at hs
      rw [hs]; exact ev_now _
theorem hf_l0 {l : List C} (hl : (l.length : Int) ≤ 60) : ∀ (n : Nat) (i : Int), 0 ≤ i → i + n = l.length → Ev (fun k => changeforgeref3_HistoryFault.l0 k l i) (vfrom l n i) := by
  intro n
  induction n with
  | zero =>
    intro i h0 hi
    refine Ev.step (fun k_ => by rw [changeforgeref3_HistoryFault.l0]) ?_
    refine ev_neg (by omega) ?_
    exact ev_now _
  | succ n ih =>
    intro i h0 hi
    have hR : Ev (fun k => changeforgeref3_HistoryFault.l0 k l (wrap64 (i + 1))) (vfrom l n (i + 1)) := by
      rw [w64 (by omega)]; exact ih (i + 1) (by omega) (by omega)
    have hs : vfrom l (n + 1) i = (if chk i (rd_T49 l i) ≠ 0 then (chk i (rd_T49 l i), i) else vfrom l n (i + 1)) := rfl
    have hc : chk i (rd_T49 l i) = (if ((rd_T49 l i).f0.length : Int) > 3 then 2 else if pchk i (rd_T49 l i).f0 (rd_T49 l i).f0.length 0 ≠ 0 then pchk i (rd_T49 l i).f0 (rd_T49 l i).f0.length 0 else if bad (rd_T49 l i) then 3 else if ((rd_T49 l i).f4.size : Int) > 80 then 10 else 0) := rfl
    refine Ev.step (fun k_ => by rw [changeforgeref3_HistoryFault.l0]) ?_
    refine ev_pos (by omega) (ev_pos (by omega) (ev_cases (fun h1 => ?_) (fun h1 => ?_)))
    · rw [if_pos h1] at hc
      rw [hs, hc]; exact ev_now _
    · refine ev_cast (hf_l1 h0 (by omega) (by omega) hR (rd_T49 l i).f0.length 0 (by omega) (by simp)) ?_
      rw [if_neg h1] at hc
      rw [hs, hc]
      by_cases c1 : pchk i (rd_T49 l i).f0 (rd_T49 l i).f0.length 0 ≠ 0
      · rw [if_pos c1, if_pos c1, if_pos c1]
      · rw [if_neg c1, if_neg c1]
        by_cases c2 : bad (rd_T49 l i)
        · rw [if_pos c2, if_pos (show (3 : Int) ≠ 0 by decide)]
          exact if_pos c2
        · rw [if_neg c2, if_neg (show ¬ ((rd_T49 l i).f1 < 0 ∨ (rd_T49 l i).f1 > 7 ∨ (rd_T49 l i).f2 < 0 ∨ (rd_T49 l i).f2 > 100000 ∨ (rd_T49 l i).f3 < 0 ∨ (rd_T49 l i).f3 ≥ 2305843009213693951) from c2)]
          by_cases c3 : ((rd_T49 l i).f4.size : Int) > 80
          · rw [if_pos c3, if_pos c3]; rfl
          · rw [if_neg c3, if_neg c3]; rfl
theorem hfault_ev {l : List C} : Ev (fun k => changeforgeref3_HistoryFault.f k l) (vf l) := by
  unfold changeforgeref3_HistoryFault.f vf
  refine ev_ite (fun _ => ?_) (fun h => ?_)
  · exact ev_now _
  · exact hf_l0 (by omega) l.length 0 (by omega) (by omega)

end Go.Proofs.Ytojhnjgnpjoacaa.HistF
