/- The reference's ApplyDelta comes to what deltachain.Apply comes to. -/
import Derived.Test.YtgmpnghgmcgghaaDeltaA
import Derived.Test.YtgmpnghgmcgghaaP11
import Derived.Test.YtgmpnghgmcgghaaP12
namespace Go.Proofs.Ytgmpnghgmcgghaa.Delta
open Go.RowKit Go.Proofs.YtgmpnghgmcgghaaW.PrintWords Go.Proofs.YtgmpnghgmcgghaaW.PrintEv Go.Proofs.Ytgmpnghgmcgghaa.P
set_option linter.unusedVariables false

theorem ad_l2 {b f2 : List Int} {ds : List D} {i f0 f1 : Int} (hf2 : (f2.length : Int) ≤ 140737488351232) {R : List Int × Int × Int} : ∀ (n j : Nat) (out : List Int), j + n = f2.length → (out.length : Int) + n ≤ 140737488353300 →
      Ev (fun k => if ((out ++ f2.drop j).length : Int) > 1000 then ((changeforgeref3_Fault.f 10 i).bind fun bt282 => (some (([] : List Int), bt282.1, bt282.2))) else (changeforgeref3_ApplyDelta.l0 k b ds (out ++ f2.drop j) (wrap64 (i + 1)))) R →
      Ev (fun k => changeforgeref3_ApplyDelta.l2 k b ds out i (j : Int) f0 f1 f2) R := by
  intro n
  induction n with
  | zero =>
    intro j out hj ho hR
    rw [List.drop_eq_nil_of_le (by omega), List.append_nil] at hR
    refine Ev.step (fun k_ => by rw [changeforgeref3_ApplyDelta.l2]) ?_
    exact ev_neg (by omega) hR
  | succ n ih =>
    intro j out hj ho hR
    refine Ev.step (fun k_ => by rw [changeforgeref3_ApplyDelta.l2]) ?_
    rw [w64 (x := (j : Int) + 1) (by omega)]
    refine ev_pos (by omega) (ev_pos (by omega) (ev_pos (by omega) ?_))
    have := ih (j + 1) (out ++ [rd f2 (j : Int)]) (by omega) (by rw [List.length_append, List.length_singleton]; omega) (by
      rw [List.append_assoc, List.singleton_append, ← drop_cons_rd (by omega)]; exact hR)
    rw [show ((j + 1 : Nat) : Int) = (j : Int) + 1 by omega] at this
    exact this
theorem ad_l1 {b f2 : List Int} {ds : List D} {i : Int} {p q : Nat} (hb : (b.length : Int) ≤ 1000) (hpq : p + q ≤ b.length) {R : List Int × Int × Int} : ∀ (n j : Nat) (out : List Int), j + n = q → (out.length : Int) + n ≤ 2000 →
      Ev (fun k => changeforgeref3_ApplyDelta.l2 k b ds (out ++ (b.drop (p + j)).take n) i 0 (p : Int) (q : Int) f2) R →
      Ev (fun k => changeforgeref3_ApplyDelta.l1 k b ds out i (j : Int) (p : Int) (q : Int) f2) R := by
  intro n
  induction n with
  | zero =>
    intro j out hj ho hR
    rw [List.take_zero, List.append_nil] at hR
    refine Ev.step (fun k_ => by rw [changeforgeref3_ApplyDelta.l1]) ?_
    exact ev_neg (by omega) hR
  | succ n ih =>
    intro j out hj ho hR
    rw [drop_cons_rd (by omega), List.take_succ_cons] at hR
    refine Ev.step (fun k_ => by rw [changeforgeref3_ApplyDelta.l1]) ?_
    rw [w64 (x := (j : Int) + 1) (by omega), w64 (x := (p : Int) + (j : Int)) (by omega)]
    refine ev_pos (by omega) (ev_pos (by omega) (ev_pos (by omega) (ev_pos (by omega) ?_)))
    have := ih (j + 1) (out ++ [rd b ((p : Int) + (j : Int))]) (by omega) (by rw [List.length_append, List.length_singleton]; omega) (by
      rw [List.append_assoc, List.singleton_append, show (p : Int) + (j : Int) = ((p + j : Nat) : Int) by omega]; exact hR)
    rw [show ((j + 1 : Nat) : Int) = (j : Int) + 1 by omega] at this
    exact this
/-- One round of ApplyDelta. -/
theorem ad_round {b out : List Int} {ds : List D} {i : Int} (hb : (b.length : Int) ≤ 1000) (ho : (out.length : Int) ≤ 1000) (hds : (ds.length : Int) ≤ 1000) (h0 : 0 ≤ i) (hi : i < ds.length) {d : D} (hd : rd_T37 ds i = d) (hm : (d.f2.length : Int) ≤ 140737488351232) {R : List Int × Int × Int}
    (h1 : opD b d ≠ 0 → R = ([], opD b d, i)) (h2 : opD b d = 0 → ((out ++ seg b d).length : Int) > 1000 → R = ([], 10, i)) (h3 : opD b d = 0 → ((out ++ seg b d).length : Int) ≤ 1000 → Ev (fun k => changeforgeref3_ApplyDelta.l0 k b ds (out ++ seg b d) (i + 1)) R) :
    Ev (fun k => changeforgeref3_ApplyDelta.l0 k b ds out i) R := by
  have hr3 : (d.f1 < 0 ∨ (0 < d.f1 ∧ (d.f0 < 0 ∨ d.f0 > b.length ∨ d.f1 > b.length - d.f0))) → R = ([], 3, i) := by
    intro hf
    have e := opF3 (n := b.length) (f0 := d.f0) (f1 := d.f1) (m := d.f2.length) hf
    rw [h1 (by unfold opD; rw [e]; decide)]
    unfold opD; rw [e]
  have hj1t : ∀ c, (d.f1 < 0 ∨ (0 < d.f1 ∧ (d.f0 < 0 ∨ d.f0 > b.length ∨ d.f1 > b.length - d.f0))) → c = true → Ev (fun k => changeforgeref3_ApplyDelta.j1 k b ds out i c d.f0 d.f1 d.f2) R := by
    intro c hf hc
    subst hc
    rw [hr3 hf]
    refine Ev.step (fun k_ => by rw [changeforgeref3_ApplyDelta.j1]) ?_
    exact ev_pos rfl (ev_now _)
  have hj2 : ∀ c, ¬ (d.f1 < 0 ∨ (0 < d.f1 ∧ (d.f0 < 0 ∨ d.f0 > b.length ∨ d.f1 > b.length - d.f0))) → (c = true ↔ ((0 < d.f1 ∧ 0 < (d.f2.length : Int)) ∨ (d.f1 = 0 ∧ (d.f0 ≠ 0 ∨ (d.f2.length : Int) = 0)))) → Ev (fun k => changeforgeref3_ApplyDelta.j2 k b ds out i c d.f0 d.f1 d.f2) R := by
    intro c hf hc
    by_cases hc2 : c = true
    · have e := opF5 (n := b.length) (f0 := d.f0) (f1 := d.f1) (m := d.f2.length) hf (hc.1 hc2)
      rw [h1 (by unfold opD; rw [e]; decide)]
      unfold opD; rw [e]
      refine Ev.step (fun k_ => by rw [changeforgeref3_ApplyDelta.j2]) ?_
      exact ev_pos hc2 (ev_now _)
    · have e : opD b d = 0 := opF0 (n := b.length) (f0 := d.f0) (f1 := d.f1) (m := d.f2.length) hf (fun h => hc2 (hc.2 h))
      have hl := seg_length hf
      have hla : ((out ++ seg b d).length : Int) = out.length + (d.f1 + d.f2.length) := by rw [List.length_append]; omega
      have hf1 : 0 ≤ d.f1 ∧ d.f1 ≤ 1000 := by omega
      have hend : Ev (fun k => if ((out ++ seg b d).length : Int) > 1000 then ((changeforgeref3_Fault.f 10 i).bind fun bt282 => (some (([] : List Int), bt282.1, bt282.2))) else (changeforgeref3_ApplyDelta.l0 k b ds (out ++ seg b d) (wrap64 (i + 1)))) R := by
        rw [w64 (x := i + 1) (by omega)]
        refine ev_cases (fun h => ?_) (fun h => h3 e (by omega))
        rw [h2 e h]; exact ev_now _
      refine Ev.step (fun k_ => by rw [changeforgeref3_ApplyDelta.j2]) ?_
      refine ev_neg hc2 ?_
      by_cases h4 : 0 < d.f1
      · obtain ⟨p, hp⟩ : ∃ p : Nat, d.f0 = p := ⟨d.f0.toNat, by omega⟩
        obtain ⟨q, hq⟩ : ∃ q : Nat, d.f1 = q := ⟨d.f1.toNat, by omega⟩
        unfold seg at hend
        rw [if_pos h4, hp, hq, ← List.append_assoc, show ((p : Int)).toNat = p by omega, show ((q : Int)).toNat = q by omega] at hend
        rw [hp, hq]
        refine ad_l1 hb (by omega) q 0 out (by omega) (by omega) ?_
        have hcl : (((b.drop p).take q).length : Int) = q := by rw [List.length_take, List.length_drop]; omega
        exact ad_l2 hm d.f2.length 0 (out ++ (b.drop p).take q) (by omega) (by rw [List.length_append]; omega) hend
      · unfold seg at hend
        rw [if_neg h4, List.nil_append] at hend
        refine Ev.step (fun k_ => by rw [changeforgeref3_ApplyDelta.l1]) ?_
        refine ev_neg h4 ?_
        exact ad_l2 hm d.f2.length 0 out (by omega) (by omega) hend
  have hj1f : ∀ c, ¬ (d.f1 < 0 ∨ (0 < d.f1 ∧ (d.f0 < 0 ∨ d.f0 > b.length ∨ d.f1 > b.length - d.f0))) → c = false → Ev (fun k => changeforgeref3_ApplyDelta.j1 k b ds out i c d.f0 d.f1 d.f2) R := by
    intro c hf hc
    subst hc
    refine Ev.step (fun k_ => by rw [changeforgeref3_ApplyDelta.j1]) ?_
    refine ev_neg (by decide) (ev_cases (fun h4 => hj2 true hf ?_) (fun h4 => ev_cases (fun h5 => hj2 _ hf ?_) (fun h5 => hj2 false hf ?_)))
    · rw [beq_iff_eq, decide_eq_decide] at h4
      simp only [true_iff]; omega
    · rw [beq_iff_eq, decide_eq_decide] at h4
      rw [bne_iff_ne]; omega
    · rw [beq_iff_eq, decide_eq_decide] at h4
      simp only [Bool.false_eq_true, false_iff]; omega
  refine Ev.step (fun k_ => by rw [changeforgeref3_ApplyDelta.l0]) ?_
  rw [hd]
  refine ev_pos (by omega) (ev_pos (by omega) ?_)
  refine ev_cases (fun h => ?_) (fun h => ev_cases (fun h4 => ?_) (fun h4 => hj1f false (by omega) rfl))
  · rw [hr3 (by omega)]; exact ev_now _
  · by_cases h5 : 0 ≤ d.f0 ∧ d.f0 ≤ (b.length : Int)
    · refine ev_const (a := true) (by unfold changeforgeref3_In.f; rw [if_pos (by omega), decide_eq_true (by omega)]) (ev_pos rfl ?_)
      rw [w64 (x := (b.length : Int) - d.f0) (by omega)]
      by_cases h7 : d.f1 > (b.length : Int) - d.f0
      · exact hj1t _ (by omega) (decide_eq_true h7)
      · exact hj1f _ (by omega) (decide_eq_false h7)
    · refine ev_const (a := false) (by unfold changeforgeref3_In.f; split <;> simp <;> omega) (ev_neg (by decide) (hj1t true (by omega) rfl))
theorem ad_l0 {b : List Int} {ds : List D} (hb : (b.length : Int) ≤ 1000) (hds : (ds.length : Int) ≤ 1000) (hm : ∀ d ∈ ds, (d.f2.length : Int) ≤ 140737488351232) :
    ∀ (n i : Nat) (out : List Int), i + n = ds.length → (out.length : Int) ≤ 1000 → Ev (fun k => changeforgeref3_ApplyDelta.l0 k b ds out (i : Int)) (apS b (ds.drop i) (i : Int) out) := by
  intro n
  induction n with
  | zero =>
    intro i out hi ho
    rw [List.drop_eq_nil_of_le (by omega)]
    refine Ev.step (fun k_ => by rw [changeforgeref3_ApplyDelta.l0]) ?_
    exact ev_neg (by omega) (ev_now _)
  | succ n ih =>
    intro i out hi ho
    have hil : i < ds.length := by omega
    have hmem : rd_T37 ds (i : Int) ∈ ds := by
      have := dropD hil
      exact List.mem_of_mem_drop (i := i) (by rw [this]; exact List.mem_cons_self)
    rw [dropD hil]
    refine ad_round hb ho hds (by omega) (by omega) rfl (hm _ hmem) (fun h => ?_) (fun h h2 => ?_) (fun h h2 => ?_)
    · simp only [apS]; rw [if_pos h]
    · simp only [apS]; rw [if_neg (by omega), if_pos h2]
    · have := ih (i + 1) _ (by omega) h2
      simp only [apS]; rw [if_neg (by omega), if_neg (by omega)]
      rw [show ((i + 1 : Nat) : Int) = (i : Int) + 1 by omega] at this
      exact this
theorem applydelta_ev {b : List Int} {ds : List D} (hm : ∀ d ∈ ds, (d.f2.length : Int) ≤ 140737488351232) : Ev (fun k => changeforgeref3_ApplyDelta.f k b ds) (apR b ds) := by
  unfold changeforgeref3_ApplyDelta.f apR
  refine ev_ite (fun h => ev_now _) (fun h => ev_ite (fun h2 => ev_now _) (fun h2 => ?_))
  exact ad_l0 (by omega) (by omega) hm ds.length 0 [] (by omega) (by simp)

end Go.Proofs.Ytgmpnghgmcgghaa.Delta
