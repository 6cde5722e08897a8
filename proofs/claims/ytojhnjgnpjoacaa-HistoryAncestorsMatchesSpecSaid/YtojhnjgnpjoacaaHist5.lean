/- The reference's fault of a history, its table of ancestors, and its best common ancestors: what they come to. -/
import Derived.Test.YtojhnjgnpjoacaaHist4
import Derived.Test.YtojhnjgnpjoacaaP7
import Derived.Test.YtojhnjgnpjoacaaP8
namespace Go.Proofs.Ytojhnjgnpjoacaa.Hist
open Go.RowKit Go.Proofs.YtojhnjgnpjoacaaW.PrintWords Go.Proofs.YtojhnjgnpjoacaaW.PrintEv Go.Proofs.Ytojhnjgnpjoacaa.P
set_option linter.unusedVariables false

theorem In_eq (a b c : Int) : changeforgeref3_In.f a b c = some (decide (b ≤ a ∧ a ≤ c)) := by
  unfold changeforgeref3_In.f
  split
  · congr 1; simp; omega
  · congr 1; simp; omega
theorem isDigest_eq (a : Int) : changeforgeref3_isDigest.f a = some (decide (0 ≤ a ∧ a ≤ 2305843009213693950)) := by
  unfold changeforgeref3_isDigest.f
  rw [In_eq]; rfl
theorem Fault_eq (a b : Int) : changeforgeref3_Fault.f a b = some (a, b) := rfl

theorem hf_j2 {l : List C} {i : Int} {b : Bool} {ps : List Int} {au ti tr : Int} {ms : ByteArray} {R : Int × Int} (hR : Ev (fun k => changeforgeref3_HistoryFault.l0 k l (wrap64 (i + 1))) R) :
    Ev (fun k => changeforgeref3_HistoryFault.j2 k l i b ps au ti tr ms) (if b = true then (3, i) else if (ms.size : Int) > 80 then (10, i) else R) := by
  refine Ev.step (fun k_ => by rw [changeforgeref3_HistoryFault.j2]) ?_
  exact ev_ite (fun _ => ev_now _) (fun _ => ev_ite (fun _ => ev_now _) (fun _ => hR))
theorem hf_l1 {l : List C} {i : Int} {ps : List Int} {au ti tr : Int} {ms : ByteArray} {R : Int × Int} (hi0 : 0 ≤ i) (hi : i ≤ 1000) (hp : (ps.length : Int) ≤ 1000) (hR : Ev (fun k => changeforgeref3_HistoryFault.l0 k l (wrap64 (i + 1))) R) :
    ∀ (m : Nat) (q : Int), 0 ≤ q → q + m = ps.length → Ev (fun k => changeforgeref3_HistoryFault.l1 k l i q ps au ti tr ms)
      (if pchk i ps m q ≠ 0 then (pchk i ps m q, i) else if (au < 0 ∨ au > 7 ∨ ti < 0 ∨ ti > 100000 ∨ tr < 0 ∨ tr ≥ 2305843009213693951) then (3, i) else if (ms.size : Int) > 80 then (10, i) else R) := by
  intro m
  induction m with
  | zero =>
    intro q h0 hq
    refine Ev.step (fun k_ => by rw [changeforgeref3_HistoryFault.l1]) ?_
    refine ev_neg (by omega) ?_
    rw [if_neg (by simp [pchk]), In_eq]
    refine ev_some (ev_cases (fun h1 => ?_) (fun h1 => ?_))
    · have h1 := of_decide_eq_true h1
      rw [In_eq]
      refine ev_some (ev_cases (fun h2 => ?_) (fun h2 => ?_))
      · have h2 := of_decide_eq_true h2
        rw [isDigest_eq]
        refine ev_some (ev_cast (hf_j2 hR) ?_)
        by_cases h3 : 0 ≤ tr ∧ tr ≤ 2305843009213693950
        · rw [if_neg (by simp [h3]), if_neg (show ¬ (au < 0 ∨ au > 7 ∨ ti < 0 ∨ ti > 100000 ∨ tr < 0 ∨ tr ≥ 2305843009213693951) by omega)]
        · rw [if_pos (by rw [decide_eq_false h3]; rfl), if_pos (by omega)]
      · have h2 : ¬ (0 ≤ ti ∧ ti ≤ 100000) := fun h => h2 (decide_eq_true h)
        refine ev_cast (hf_j2 hR) ?_
        rw [if_pos rfl, if_pos (by omega)]
    · have h1 : ¬ (0 ≤ au ∧ au ≤ 7) := fun h => h1 (decide_eq_true h)
      refine ev_cast (hf_j2 hR) ?_
      rw [if_pos rfl, if_pos (by omega)]
  | succ m ih =>
    intro q h0 hq
    have ih' := ih (q + 1) (by omega) (by omega)
    have hs : pchk i ps (m + 1) q = (if rd ps q < 0 ∨ rd ps q ≥ i then 3 else if q > 0 ∧ rd ps (q - 1) ≥ rd ps q then 5 else pchk i ps m (q + 1)) := rfl
    refine Ev.step (fun k_ => by rw [changeforgeref3_HistoryFault.l1]) ?_
    refine ev_pos (by omega) (ev_pos (by omega) ?_)
    rw [In_eq, w64 (x := i - 1) (by omega), w64 (x := q + 1) (by omega), w64 (x := q - 1) (by omega)]
    refine ev_some (ev_cases (fun h1 => ?_) (fun h1 => ?_))
    · have h1 := of_decide_eq_true h1
      rw [if_neg (by omega)] at hs
      refine ev_cases (fun h2 => ev_pos (by omega) (ev_pos (by omega) (ev_cases (fun h3 => ?_) (fun h3 => ?_)))) (fun h2 => ?_)
      · rw [if_pos (by omega)] at hs
        rw [hs]; exact ev_now _
      · rw [if_neg (by omega)] at hs
        rw [hs]; exact ih'
      · rw [if_neg (by omega)] at hs
        rw [hs]; exact ih'
    · have h1 : ¬ (0 ≤ rd ps q ∧ rd ps q ≤ i - 1) := fun h => h1 (decide_eq_true h)
      rw [if_pos (by omega)] at hs
      rw [hs]; exact ev_now _
theorem hf_l0 {l : List C} (hl : (l.length : Int) ≤ 60) : ∀ (n : Nat) (i : Int), 0 ≤ i → i + n = l.length → Ev (fun k => changeforgeref3_HistoryFault.l0 k l i) (vfrom l n i) := by
  intro n
  induction n with
  | zero =>
    intro i h0 hi
    refine Ev.step (fun k_ => by rw [changeforgeref3_HistoryFault.l0]) ?_
    refine ev_neg (by omega) ?_
    exact ev_now _
  | succ n ih =>
    intro i h0 hi
    have hR : Ev (fun k => changeforgeref3_HistoryFault.l0 k l (wrap64 (i + 1))) (vfrom l n (i + 1)) := by
      rw [w64 (by omega)]; exact ih (i + 1) (by omega) (by omega)
    have hs : vfrom l (n + 1) i = (if chk i (rd_T49 l i) ≠ 0 then (chk i (rd_T49 l i), i) else vfrom l n (i + 1)) := rfl
    have hc : chk i (rd_T49 l i) = (if ((rd_T49 l i).f0.length : Int) > 3 then 2 else if pchk i (rd_T49 l i).f0 (rd_T49 l i).f0.length 0 ≠ 0 then pchk i (rd_T49 l i).f0 (rd_T49 l i).f0.length 0 else if bad (rd_T49 l i) then 3 else if ((rd_T49 l i).f4.size : Int) > 80 then 10 else 0) := rfl
    refine Ev.step (fun k_ => by rw [changeforgeref3_HistoryFault.l0]) ?_
    refine ev_pos (by omega) (ev_pos (by omega) (ev_cases (fun h1 => ?_) (fun h1 => ?_)))
    · rw [if_pos h1] at hc
      rw [hs, hc]; exact ev_now _
    · refine ev_cast (hf_l1 h0 (by omega) (by omega) hR (rd_T49 l i).f0.length 0 (by omega) (by simp)) ?_
      rw [if_neg h1] at hc
      rw [hs, hc]
      by_cases c1 : pchk i (rd_T49 l i).f0 (rd_T49 l i).f0.length 0 ≠ 0
      · rw [if_pos c1, if_pos c1, if_pos c1]
      · rw [if_neg c1, if_neg c1]
        by_cases c2 : bad (rd_T49 l i)
        · rw [if_pos c2, if_pos (show (3 : Int) ≠ 0 by decide)]
          exact if_pos c2
        · rw [if_neg c2, if_neg (show ¬ ((rd_T49 l i).f1 < 0 ∨ (rd_T49 l i).f1 > 7 ∨ (rd_T49 l i).f2 < 0 ∨ (rd_T49 l i).f2 > 100000 ∨ (rd_T49 l i).f3 < 0 ∨ (rd_T49 l i).f3 ≥ 2305843009213693951) from c2)]
          by_cases c3 : ((rd_T49 l i).f4.size : Int) > 80
          · rw [if_pos c3, if_pos c3]; rfl
          · rw [if_neg c3, if_neg c3]; rfl
theorem hfault_ev {l : List C} : Ev (fun k => changeforgeref3_HistoryFault.f k l) (vf l) := by
  unfold changeforgeref3_HistoryFault.f vf
  refine ev_ite (fun _ => ?_) (fun h => ?_)
  · exact ev_now _
  · exact hf_l0 (by omega) l.length 0 (by omega) (by omega)

noncomputable def reach (l : List C) (n : Nat) : List (List Bool) := (List.range n).map fun i : Nat => ancs l (i : Int)
theorem reach_length (l : List C) (n : Nat) : (reach l n).length = n := by simp [reach]
theorem reach_rd {l : List C} {n : Nat} {b : Int} (h0 : 0 ≤ b) (h : b < n) : rd_L5 (reach l n) b = ancs l b := by
  obtain ⟨k, rfl⟩ := Int.eq_ofNat_of_zero_le h0
  have : k < n := by omega
  simp [rd_L5, reach, List.getD_eq_getElem?_getD, this]
theorem reach_snoc (l : List C) (n : Nat) : reach l (n + 1) = reach l n ++ [ancs l (n : Int)] := by simp [reach, List.range_succ]

theorem reach_l2 {l : List C} {n : Nat} {i x : Int} {R : List (List Bool)} (hv : Valid l) (hn : (n : Int) = i) (h0 : 0 ≤ i) (hi : i < l.length) (hx0 : 0 ≤ x) (hx : x < i) :
    ∀ (m : Nat) (q : Int) (o : List Bool), 0 ≤ q → q + m = (rd_T49 l i).f0.length → o.length = l.length →
      (∀ o' : List Bool, o'.length = l.length → (∀ y : Int, 0 ≤ y → y ≠ x → rdOf false o' y = rdOf false o y) → (rdOf false o' x = true ↔ (rdOf false o x = true ∨ ∃ j : Int, q ≤ j ∧ j < (rd_T49 l i).f0.length ∧ Anc l (rd (rd_T49 l i).f0 j) x)) → Ev (fun k => changeforgeref3_Reach.l1 k l (reach l n) i o' (wrap64 (x + 1))) R) →
      Ev (fun k => changeforgeref3_Reach.l2 k l (reach l n) i o x q) R := by
  have hv60 := hv.len
  have hpl := hv.plen i h0 hi
  intro m
  induction m with
  | zero =>
    intro q o hq0 hq hl hR
    refine Ev.step (fun k_ => by rw [changeforgeref3_Reach.l2]) ?_
    refine ev_pos h0 (ev_pos hi (ev_neg (by omega) ?_))
    exact hR o hl (fun y _ _ => rfl) ⟨Or.inl, fun h => h.elim id (fun ⟨j, h1, h2, _⟩ => by omega)⟩
  | succ m ih =>
    intro q o hq0 hq hl hR
    have hp := hv.par i q h0 hi hq0 (by omega)
    have ha : rdOf false (ancs l (rd (rd_T49 l i).f0 q)) x = true ↔ Anc l (rd (rd_T49 l i).f0 q) x := ancs_rd hx0 (by omega)
    have key : ∀ b : Bool, (b = true ↔ (rdOf false o x = true ∨ Anc l (rd (rd_T49 l i).f0 q) x)) → Ev (fun k => changeforgeref3_Reach.l2 k l (reach l n) i (o.set x.toNat b) x (wrap64 (q + 1))) R := by
      intro b hb
      rw [w64 (by omega)]
      refine ih (q + 1) _ (by omega) (by omega) (by rw [List.length_set]; exact hl) (fun o' hl' h1 h2 => hR o' hl' (fun y hy0 hy => ?_) ?_)
      · rw [h1 y hy0 hy, rdOf_set false o b hx0 (by omega) hy0, if_neg hy]
      · rw [h2, rdOf_set false o b hx0 (by omega) hx0, if_pos rfl, hb]
        constructor
        · rintro ((h | h) | ⟨j, h3, h4, h5⟩)
          · exact Or.inl h
          · exact Or.inr ⟨q, Int.le_refl _, by omega, h⟩
          · exact Or.inr ⟨j, by omega, h4, h5⟩
        · rintro (h | ⟨j, h3, h4, h5⟩)
          · exact Or.inl (Or.inl h)
          · by_cases e : j = q
            · subst e; exact Or.inl (Or.inr h5)
            · exact Or.inr ⟨j, by omega, h4, h5⟩
    have hlen : ((reach l n).length : Int) = i := by rw [reach_length, hn]
    refine Ev.step (fun k_ => by rw [changeforgeref3_Reach.l2]) ?_
    refine ev_pos h0 (ev_pos hi (ev_pos (by omega) (ev_pos (by omega) (ev_pos (by omega) (ev_cases (fun h1 => ?_) (fun h1 => ?_))))))
    · exact key true (by simp [h1])
    · refine ev_pos (by omega) (ev_pos hp.1 (ev_pos (by omega) ?_))
      rw [reach_rd hp.1 (by omega)]
      refine ev_pos (by rw [ancs_length]; omega) ?_
      exact key _ (by rw [ha]; simp [h1])
theorem reach_l1 {l : List C} {n : Nat} {i : Int} {R : List (List Bool)} (hv : Valid l) (hn : (n : Int) = i) (h0 : 0 ≤ i) (hi : i < l.length) (hR : Ev (fun k => changeforgeref3_Reach.l0 k l (reach l (n + 1)) (i + 1)) R) :
    ∀ (m : Nat) (x : Int) (o : List Bool), 0 ≤ x → x + m = i → o.length = l.length → (∀ y : Int, 0 ≤ y → y < l.length → (rdOf false o y = true ↔ (y = i ∨ (y < x ∧ Anc l i y)))) →
      Ev (fun k => changeforgeref3_Reach.l1 k l (reach l n) i o x) R := by
  have hv60 := hv.len
  intro m
  induction m with
  | zero =>
    intro x o hx0 hx hl ho
    have e : o = ancs l i := by
      refine ext_rdOf (d := false) (by rw [hl, ancs_length]) (fun y hy0 hy => ?_)
      rw [Bool.eq_iff_iff, ho y hy0 (by omega), ancs_rd hy0 (by omega)]
      constructor
      · rintro (rfl | h)
        · exact Anc.refl _ _
        · exact h.2
      · intro h
        have := h.le hv
        by_cases e : y = i
        · exact Or.inl e
        · exact Or.inr ⟨by omega, h⟩
    have hlen : (reach l n).length = n := reach_length l n
    refine Ev.step (fun k_ => by rw [changeforgeref3_Reach.l1]) ?_
    refine ev_neg (by omega) (ev_pos (by omega) ?_)
    rw [w64 (by omega), e, ← hn, ← reach_snoc, hn]
    exact hR
  | succ m ih =>
    intro x o hx0 hx hl ho
    refine Ev.step (fun k_ => by rw [changeforgeref3_Reach.l1]) ?_
    refine ev_pos (by omega) ?_
    refine reach_l2 hv hn h0 hi hx0 (by omega) (rd_T49 l i).f0.length 0 o (by omega) (by simp) hl (fun o' hl' h1 h2 => ?_)
    rw [w64 (by omega)]
    refine ih (x + 1) o' (by omega) (by omega) hl' (fun y hy0 hy => ?_)
    by_cases e : y = x
    · subst e
      rw [h2, ho y hy0 hy]
      constructor
      · rintro ((h | h) | ⟨j, h3, h4, h5⟩)
        · exact Or.inl h
        · omega
        · refine Or.inr ⟨by omega, ?_⟩
          exact (Anc.par (⟨h0, hi, rd_mem h3 h4⟩ : Par l i _)).trans h5
      · rintro (h | ⟨_, h⟩)
        · omega
        · obtain ⟨q, hq, hqa⟩ := h.first (by omega)
          obtain ⟨j, hj0, hj, rfl⟩ := mem_rd hq.2.2
          exact Or.inr ⟨j, hj0, hj, hqa⟩
    · rw [h1 y hy0 e, ho y hy0 hy]
      constructor
      · rintro (h | h)
        · exact Or.inl h
        · exact Or.inr ⟨by omega, h.2⟩
      · rintro (h | h)
        · exact Or.inl h
        · exact Or.inr ⟨by omega, h.2⟩
theorem reach_l0 {l : List C} (hv : Valid l) : ∀ (m n : Nat) (i : Int), (n : Int) = i → i + m = l.length → Ev (fun k => changeforgeref3_Reach.l0 k l (reach l n) i) (reach l l.length) := by
  have hv60 := hv.len
  intro m
  induction m with
  | zero =>
    intro n i hn hi
    refine Ev.step (fun k_ => by rw [changeforgeref3_Reach.l0]) ?_
    refine ev_neg (by omega) ?_
    have : n = l.length := by omega
    rw [this]; exact ev_now _
  | succ m ih =>
    intro n i hn hi
    refine Ev.step (fun k_ => by rw [changeforgeref3_Reach.l0]) ?_
    refine ev_pos (by omega) (ev_pos (by omega) (ev_pos (by omega) (ev_some (ev_pos (by omega) (ev_pos (by rw [List.length_replicate]; omega) ?_)))))
    refine reach_l1 hv hn (by omega) (by omega) (ih (n + 1) (i + 1) (by omega) (by omega)) i.toNat 0 _ (by omega) (by omega) (by simp) (fun y hy0 hy => ?_)
    rw [rdOf_set false _ true (by omega) (by rw [List.length_replicate]; omega) hy0, rdOf_replicate]
    by_cases e : y = i
    · simp [e]
    · simp [e]; omega
theorem reach_ev {l : List C} (hv : Valid l) : Ev (fun k => changeforgeref3_Reach.f k l) (reach l l.length) := by
  unfold changeforgeref3_Reach.f
  exact reach_l0 hv l.length 0 0 (by omega) (by omega)
end Go.Proofs.Ytojhnjgnpjoacaa.Hist
