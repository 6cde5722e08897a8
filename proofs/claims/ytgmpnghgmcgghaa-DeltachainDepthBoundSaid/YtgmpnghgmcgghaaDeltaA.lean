/- A delta applied: deltachain.Apply and the reference's ApplyDelta, one specification; the round trip; a text against itself. -/
import Derived.Test.YtgmpnghgmcgghaaDelta1
import Derived.Test.YtgmpnghgmcgghaaDeltaEx
import Derived.Test.YtgmpnghgmcgghaaP5
namespace Go.Proofs.Ytgmpnghgmcgghaa.Delta
open Go.RowKit Go.Proofs.YtgmpnghgmcgghaaW.PrintWords Go.Proofs.YtgmpnghgmcgghaaW.PrintEv Go.Proofs.Ytgmpnghgmcgghaa.P
set_option linter.unusedVariables false

/-- What is wrong with an operation: n: the base's length, m: its data's. -/
def opF (n f0 f1 m : Int) : Int := if f1 < 0 ∨ (0 < f1 ∧ (f0 < 0 ∨ f0 > n ∨ f1 > n - f0)) then 3 else if (0 < f1 ∧ 0 < m) ∨ (f1 = 0 ∧ (f0 ≠ 0 ∨ m = 0)) then 5 else 0
/-- What an operation appends. -/
def seg (b : List Int) (d : D) : List Int := (if 0 < d.f1 then (b.drop d.f0.toNat).take d.f1.toNat else []) ++ d.f2
abbrev opD (b : List Int) (d : D) : Int := opF (b.length : Int) d.f0 d.f1 (d.f2.length : Int)
def apS (b : List Int) : List D → Int → List Int → List Int × Int × Int
  | [], _, out => (out, 0, 0)
  | d :: ds, i, out => if opD b d ≠ 0 then ([], opD b d, i) else if ((out ++ seg b d).length : Int) > 1000 then ([], 10, i) else apS b ds (i + 1) (out ++ seg b d)
theorem opF3 {n f0 f1 m : Int} (h : f1 < 0 ∨ (0 < f1 ∧ (f0 < 0 ∨ f0 > n ∨ f1 > n - f0))) : opF n f0 f1 m = 3 := by unfold opF; rw [if_pos h]
theorem opF5 {n f0 f1 m : Int} (h : ¬ (f1 < 0 ∨ (0 < f1 ∧ (f0 < 0 ∨ f0 > n ∨ f1 > n - f0)))) (h2 : (0 < f1 ∧ 0 < m) ∨ (f1 = 0 ∧ (f0 ≠ 0 ∨ m = 0))) : opF n f0 f1 m = 5 := by unfold opF; rw [if_neg h, if_pos h2]
theorem opF0 {n f0 f1 m : Int} (h : ¬ (f1 < 0 ∨ (0 < f1 ∧ (f0 < 0 ∨ f0 > n ∨ f1 > n - f0)))) (h2 : ¬ ((0 < f1 ∧ 0 < m) ∨ (f1 = 0 ∧ (f0 ≠ 0 ∨ m = 0)))) : opF n f0 f1 m = 0 := by unfold opF; rw [if_neg h, if_neg h2]
theorem opF_ok {n f0 f1 m : Int} (h : opF n f0 f1 m = 0) : ¬ (f1 < 0 ∨ (0 < f1 ∧ (f0 < 0 ∨ f0 > n ∨ f1 > n - f0))) ∧ ¬ ((0 < f1 ∧ 0 < m) ∨ (f1 = 0 ∧ (f0 ≠ 0 ∨ m = 0))) := by
  by_cases h1 : f1 < 0 ∨ (0 < f1 ∧ (f0 < 0 ∨ f0 > n ∨ f1 > n - f0))
  · rw [opF3 h1] at h; omega
  · by_cases h2 : (0 < f1 ∧ 0 < m) ∨ (f1 = 0 ∧ (f0 ≠ 0 ∨ m = 0))
    · rw [opF5 h1 h2] at h; omega
    · exact ⟨h1, h2⟩
theorem seg_length {b : List Int} {d : D} (h : ¬ (d.f1 < 0 ∨ (0 < d.f1 ∧ (d.f0 < 0 ∨ d.f0 > b.length ∨ d.f1 > b.length - d.f0)))) : ((seg b d).length : Int) = d.f1 + d.f2.length := by
  unfold seg
  rw [List.length_append]
  split
  · rw [List.length_take, List.length_drop]; omega
  · simp only [List.length_nil]; omega
theorem seg_cut {b : List Int} {d : D} (h1 : 0 < d.f1) (h0 : 0 ≤ d.f0) : (b.take (d.f0 + d.f1).toNat).drop d.f0.toNat = (b.drop d.f0.toNat).take d.f1.toNat := by
  rw [List.drop_take]; congr 1; omega

/-- One round of Apply. -/
theorem apply_round {b out : List Int} {ds : List D} {i : Int} (hb : (b.length : Int) ≤ 1000) (ho : (out.length : Int) ≤ 1000) (hds : (ds.length : Int) ≤ 1000) (h0 : 0 ≤ i) (hi : i < ds.length) {d : D} (hd : rd_T37 ds i = d) (hm : (d.f2.length : Int) ≤ 140737488351232) {R : List Int × Int × Int}
    (h1 : opD b d ≠ 0 → R = ([], opD b d, i)) (h2 : opD b d = 0 → ((out ++ seg b d).length : Int) > 1000 → R = ([], 10, i)) (h3 : opD b d = 0 → ((out ++ seg b d).length : Int) ≤ 1000 → Ev (fun k => deltachain_Apply.l0 k b (out ++ seg b d) ds (ds.length : Int) (i + 1)) R) :
    Ev (fun k => deltachain_Apply.l0 k b out ds (ds.length : Int) i) R := by
  have hj1t : ∀ c, (d.f1 < 0 ∨ (0 < d.f1 ∧ (d.f0 < 0 ∨ d.f0 > b.length ∨ d.f1 > b.length - d.f0))) → c = true → Ev (fun k => deltachain_Apply.j1 k b out i ds (ds.length : Int) i c d.f0 d.f1 d.f2) R := by
    intro c hf hc
    subst hc
    have e := opF3 (n := b.length) (f0 := d.f0) (f1 := d.f1) (m := d.f2.length) hf
    rw [h1 (by unfold opD; rw [e]; decide)]
    unfold opD; rw [e]
    refine Ev.step (fun k_ => by rw [deltachain_Apply.j1]) ?_
    exact ev_pos rfl (ev_now _)
  have hj2 : ∀ c, ¬ (d.f1 < 0 ∨ (0 < d.f1 ∧ (d.f0 < 0 ∨ d.f0 > b.length ∨ d.f1 > b.length - d.f0))) → (c = true ↔ ((0 < d.f1 ∧ 0 < (d.f2.length : Int)) ∨ (d.f1 = 0 ∧ (d.f0 ≠ 0 ∨ (d.f2.length : Int) = 0)))) → Ev (fun k => deltachain_Apply.j2 k b out i ds (ds.length : Int) i c d.f0 d.f1 d.f2) R := by
    intro c hf hc
    by_cases hc2 : c = true
    · have e := opF5 (n := b.length) (f0 := d.f0) (f1 := d.f1) (m := d.f2.length) hf (hc.1 hc2)
      rw [h1 (by unfold opD; rw [e]; decide)]
      unfold opD; rw [e]
      refine Ev.step (fun k_ => by rw [deltachain_Apply.j2]) ?_
      exact ev_pos hc2 (ev_now _)
    · have e : opD b d = 0 := opF0 (n := b.length) (f0 := d.f0) (f1 := d.f1) (m := d.f2.length) hf (fun h => hc2 (hc.2 h))
      have hl := seg_length hf
      have hla : ((out ++ seg b d).length : Int) = out.length + (d.f1 + d.f2.length) := by rw [List.length_append]; omega
      have hf1 : 0 ≤ d.f1 ∧ d.f1 ≤ 1000 := by omega
      refine Ev.step (fun k_ => by rw [deltachain_Apply.j2]) ?_
      refine ev_neg hc2 ?_
      rw [w64 (x := (out.length : Int) + d.f1) (by omega), w64 (by omega)]
      refine ev_cases (fun h => ?_) (fun h => ?_)
      · rw [h2 e (by omega)]; exact ev_now _
      · have h3' := h3 e (by omega)
        unfold seg at h3'
        rw [w64 (x := i + 1) (by omega)]
        refine ev_cases (fun h4 => ?_) (fun h4 => ?_)
        · rw [if_pos h4, ← List.append_assoc] at h3'
          rw [w64 (x := d.f0 + d.f1) (by omega), seg_cut h4 (by omega)]
          have hcl : (((b.drop d.f0.toNat).take d.f1.toNat).length : Int) = d.f1 := by rw [List.length_take, List.length_drop]; omega
          refine ev_pos (by omega) (ev_pos (by omega) (ev_pos (by omega) (ev_some (ev_pos (by omega) (ev_some (ev_pos ?_ h3'))))))
          rw [List.length_append]; omega
        · rw [if_neg h4, List.nil_append] at h3'
          exact ev_pos (by omega) h3'
  have hj1f : ∀ c, ¬ (d.f1 < 0 ∨ (0 < d.f1 ∧ (d.f0 < 0 ∨ d.f0 > b.length ∨ d.f1 > b.length - d.f0))) → c = false → Ev (fun k => deltachain_Apply.j1 k b out i ds (ds.length : Int) i c d.f0 d.f1 d.f2) R := by
    intro c hf hc
    subst hc
    refine Ev.step (fun k_ => by rw [deltachain_Apply.j1]) ?_
    refine ev_neg (by decide) (ev_cases (fun h4 => ev_cases (fun h5 => hj2 true hf ⟨fun _ => by omega, fun _ => rfl⟩) (fun h5 => ev_neg (by omega) (hj2 false hf ⟨fun h => (by cases h), fun h => by omega⟩))) (fun h4 => ev_cases (fun h5 => ev_cases (fun h6 => hj2 _ hf ?_) (fun h6 => hj2 true hf ⟨fun _ => by omega, fun _ => rfl⟩)) (fun h5 => hj2 false hf ⟨fun h => (by cases h), fun h => by omega⟩)))
    rw [beq_iff_eq]; omega
  refine Ev.step (fun k_ => by rw [deltachain_Apply.l0]) ?_
  rw [hd]
  refine ev_pos (by omega) (ev_pos (by omega) (ev_pos (by omega) ?_))
  refine ev_cases (fun h => hj1t true (by omega) rfl) (fun h => ev_cases (fun h4 => ev_cases (fun h5 => hj1t true (by omega) rfl) (fun h5 => ev_cases (fun h6 => hj1t true (by omega) rfl) (fun h6 => ?_))) (fun h4 => hj1f false (by omega) rfl))
  rw [w64 (x := (b.length : Int) - d.f0) (by omega)]
  by_cases h7 : d.f1 > (b.length : Int) - d.f0
  · exact hj1t _ (by omega) (decide_eq_true h7)
  · exact hj1f _ (by omega) (decide_eq_false h7)

theorem dropD {ds : List D} {i : Nat} (h : i < ds.length) : ds.drop i = rd_T37 ds (i : Int) :: ds.drop (i + 1) := by
  rw [List.drop_eq_getElem_cons h]; congr 1
  simp [rd_T37, List.getD_eq_getElem?_getD, List.getElem?_eq_getElem h]
theorem apply_l0 {b : List Int} {ds : List D} (hb : (b.length : Int) ≤ 1000) (hds : (ds.length : Int) ≤ 1000) (hm : ∀ d ∈ ds, (d.f2.length : Int) ≤ 140737488351232) :
    ∀ (n i : Nat) (out : List Int), i + n = ds.length → (out.length : Int) ≤ 1000 → Ev (fun k => deltachain_Apply.l0 k b out ds (ds.length : Int) (i : Int)) (apS b (ds.drop i) (i : Int) out) := by
  intro n
  induction n with
  | zero =>
    intro i out hi ho
    rw [List.drop_eq_nil_of_le (by omega)]
    refine Ev.step (fun k_ => by rw [deltachain_Apply.l0]) ?_
    exact ev_neg (by omega) (ev_now _)
  | succ n ih =>
    intro i out hi ho
    have hil : i < ds.length := by omega
    have hmem : rd_T37 ds (i : Int) ∈ ds := by
      have := dropD hil
      exact List.mem_of_mem_drop (i := i) (by rw [this]; exact List.mem_cons_self)
    rw [dropD hil]
    refine apply_round hb ho hds (by omega) (by omega) rfl (hm _ hmem) (fun h => ?_) (fun h h2 => ?_) (fun h h2 => ?_)
    · simp only [apS]; rw [if_pos h]
    · simp only [apS]; rw [if_neg (by omega), if_pos h2]
    · have := ih (i + 1) _ (by omega) h2
      simp only [apS]; rw [if_neg (by omega), if_neg (by omega)]
      rw [show ((i + 1 : Nat) : Int) = (i : Int) + 1 by omega] at this
      exact this
def apR (b : List Int) (ds : List D) : List Int × Int × Int := if (b.length : Int) > 1000 then ([], 10, -1) else if (ds.length : Int) > 1000 then ([], 2, -1) else apS b ds 0 []
theorem apply_ev {b : List Int} {ds : List D} (hm : ∀ d ∈ ds, (d.f2.length : Int) ≤ 140737488351232) : Ev (fun k => deltachain_Apply.f k b ds) (apR b ds) := by
  unfold deltachain_Apply.f apR
  refine ev_bind sized_ev1 (ev_cases (fun h => ?_) (fun h => ?_))
  · have h := of_decide_eq_true h
    rw [if_neg (by omega)]
    refine ev_ite (fun h2 => ev_now _) (fun h2 => ?_)
    exact apply_l0 h (by omega) hm ds.length 0 [] (by omega) (by simp)
  · have h : ¬ (b.length : Int) ≤ 1000 := fun h' => h (decide_eq_true h')
    rw [if_pos (by omega)]; exact ev_now _

end Go.Proofs.Ytgmpnghgmcgghaa.Delta
