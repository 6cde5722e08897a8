/- The fault of a store: objects.Validate and the reference's StoreFault, one value. -/
import Derived.Test.YtnmkmamobhkcbaaObj2
import Derived.Test.YtnmkmamobhkcbaaP10
import Derived.Test.YtnmkmamobhkcbaaP22
namespace Go.Proofs.Ytnmkmamobhkcbaa.Obj
open Go.RowKit Go.Proofs.YtnmkmamobhkcbaaW.PrintWords Go.Proofs.YtnmkmamobhkcbaaW.PrintEv Go.Proofs.Ytnmkmamobhkcbaa.P Go.Proofs.Ytnmkmamobhkcbaa.Dig
set_option linter.unusedVariables false

abbrev at_ (l : List SO) (i : Int) : SO := rd_T46 l i
def of1 (o : SO) : Int × Int := oflt o.f1.f0 o.f1.f1 o.f1.f2
def od1 (o : SO) : Int := odg o.f1.f0 o.f1.f1 o.f1.f2
abbrev Good1 (o : SO) : Prop := Good o.f1.f0 o.f1.f1 o.f1.f2
def sfl (l : List SO) : Nat → Int → Int × Int
  | 0, _ => (0, 0)
  | n + 1, i => if (of1 (at_ l i)).1 ≠ 0 then ((of1 (at_ l i)).1, i) else if od1 (at_ l i) ≠ (at_ l i).f0 then (18, i) else if i > 0 ∧ (at_ l (i - 1)).f0 ≥ (at_ l i).f0 then (5, i) else sfl l n (i + 1)
/-- The fault of a store. -/
def sf (l : List SO) : Int × Int := if (l.length : Int) > 40 then (2, 0) else sfl l l.length 0
/-- A store without fault. -/
structure Store (l : List SO) : Prop where
  len : (l.length : Int) ≤ 40
  good : ∀ i : Int, 0 ≤ i → i < l.length → Good1 (at_ l i) ∧ od1 (at_ l i) = (at_ l i).f0
  asc : ∀ i : Int, 0 < i → i < l.length → (at_ l (i - 1)).f0 < (at_ l i).f0
theorem sfl_zero {l : List SO} : ∀ {n : Nat} {k : Int}, (sfl l n k).1 = 0 → sfl l n k = (0, 0) ∧ ∀ i, k ≤ i → i < k + n → Good1 (at_ l i) ∧ od1 (at_ l i) = (at_ l i).f0 ∧ (0 < i → (at_ l (i - 1)).f0 < (at_ l i).f0)
  | 0, k, _ => ⟨rfl, fun i h1 h2 => by omega⟩
  | n + 1, k, h => by
    unfold sfl at h ⊢
    by_cases c1 : (of1 (at_ l k)).1 ≠ 0
    · rw [if_pos c1] at h; exact absurd h c1
    rw [if_neg c1] at h ⊢
    by_cases c2 : od1 (at_ l k) ≠ (at_ l k).f0
    · rw [if_pos c2] at h; exact absurd h (show ¬ (18 : Int) = 0 by decide)
    rw [if_neg c2] at h ⊢
    by_cases c3 : k > 0 ∧ (at_ l (k - 1)).f0 ≥ (at_ l k).f0
    · rw [if_pos c3] at h; exact absurd h (show ¬ (5 : Int) = 0 by decide)
    rw [if_neg c3] at h ⊢
    obtain ⟨h1, h2⟩ := sfl_zero h
    refine ⟨h1, fun i hi hi' => ?_⟩
    by_cases e : i = k
    · subst e
      exact ⟨(oflt_zero (Decidable.not_not.1 c1)).2, Decidable.not_not.1 c2, fun h0 => by omega⟩
    · exact h2 i (by omega) (by omega)
theorem sf_zero {l : List SO} (h : (sf l).1 = 0) : sf l = (0, 0) ∧ Store l := by
  unfold sf at h ⊢
  by_cases c : (l.length : Int) > 40
  · rw [if_pos c] at h; exact absurd h (by decide)
  · rw [if_neg c] at h ⊢
    obtain ⟨h1, h2⟩ := sfl_zero h
    exact ⟨h1, by omega, fun i h0 hi => ⟨(h2 i h0 (by omega)).1, (h2 i h0 (by omega)).2.1⟩, fun i h0 hi => (h2 i (by omega) (by omega)).2.2 h0⟩
theorem at_mem {l : List SO} {i : Int} (h0 : 0 ≤ i) (h : i < l.length) : at_ l i ∈ l := by
  obtain ⟨n, rfl⟩ := Int.eq_ofNat_of_zero_le h0
  show rdOf _ l (n : Int) ∈ l
  rw [rdOf_nat _ l (by omega)]
  exact List.getElem_mem _
theorem ok_bytes {o : SO} (h : S46.ok o) : Bytes o.f1.f2 := by
  intro b hb
  have := h.2.2.2.2 b hb
  simp [Lit.wf, IntKind.min, IntKind.max, IntKind.bits, IntKind.signed] at this
  omega
theorem of1_flt {o : SO} (c : (of1 o).1 ≠ 0) : (odR o.f1.f0 o.f1.f1 o.f1.f2) = (0, of1 o) := by
  unfold odR
  exact if_pos c
theorem od1_eq {o : SO} (c : ¬ (of1 o).1 ≠ 0) : (odR o.f1.f0 o.f1.f1 o.f1.f2) = (od1 o, 0, 0) := by
  unfold odR
  exact if_neg c
section
variable {l : List SO}
theorem val_l0 (hp : ∀ x ∈ l, S46.ok x) (hl : (l.length : Int) ≤ 40) : ∀ (m i : Nat), i + m = l.length → Ev (fun k => objects_Validate.l0 k l (l.length : Int) (i : Int) l) (sfl l m (i : Int)) := by
  intro m
  induction m with
  | zero =>
    intro i hi
    refine Ev.step (fun k_ => by rw [objects_Validate.l0]) ?_
    exact ev_neg (by omega) (ev_now _)
  | succ m ih =>
    intro i hi
    have next := ih (i + 1) (by omega)
    rw [show ((i + 1 : Nat) : Int) = (i : Int) + 1 by omega] at next
    have hd := odigest_ev (kd := (at_ l (i : Int)).f1.f0) (ls := (at_ l (i : Int)).f1.f1) (ok_bytes (hp _ (at_mem (i := (i : Int)) (by omega) (by omega))))
    refine Ev.step (fun k_ => by rw [objects_Validate.l0]) ?_
    refine ev_pos (by omega) (ev_pos (by omega) (ev_pos (by omega) (ev_bind hd ?_)))
    unfold sfl
    by_cases c1 : (of1 (at_ l (i : Int))).1 ≠ 0
    · rw [of1_flt c1, if_pos c1]
      refine ev_pos ?_ (ev_now _)
      have : ((of1 (at_ l (i : Int))).1 == 0) = false := beq_eq_false_iff_ne.2 c1
      simp [this]
    · rw [od1_eq c1, if_neg c1]
      refine ev_neg (by simp) ?_
      by_cases c2 : od1 (at_ l (i : Int)) ≠ (at_ l (i : Int)).f0
      · rw [if_pos c2]
        exact ev_neg c2 (ev_now _)
      · have c2 := Decidable.not_not.1 c2
        rw [if_neg (not_not_intro c2)]
        refine ev_pos c2 ?_
        rw [w64 (x := (i : Int) - 1) (by omega), w64 (x := (i : Int) + 1) (by omega)]
        refine ev_cases (fun c3 => ev_pos (by omega) (ev_pos (by omega) (ev_cases (fun c4 => ?_) (fun c4 => ?_)))) (fun c3 => ?_)
        · have c4 : (at_ l ((i : Int) - 1)).f0 ≥ od1 (at_ l (i : Int)) := c4
          rw [if_pos ⟨c3, c2 ▸ c4⟩]; exact ev_now _
        · have c4 : ¬ (at_ l ((i : Int) - 1)).f0 ≥ od1 (at_ l (i : Int)) := c4
          rw [if_neg (fun h => c4 (c2 ▸ h.2))]; exact next
        · rw [if_neg (fun h => c3 h.1)]; exact next
theorem val_ev (hp : ∀ x ∈ l, S46.ok x) : Ev (fun k => objects_Validate.f k l) (sf l) := by
  unfold objects_Validate.f sf
  exact ev_ite (fun _ => ev_now _) (fun h => val_l0 hp (by omega) l.length 0 (by omega))
theorem sflt_l0 (hp : ∀ x ∈ l, S46.ok x) (hl : (l.length : Int) ≤ 40) : ∀ (m i : Nat), i + m = l.length → Ev (fun k => changeforgeref3_StoreFault.l0 k (i : Int) l) (sfl l m (i : Int)) := by
  intro m
  induction m with
  | zero =>
    intro i hi
    refine Ev.step (fun k_ => by rw [changeforgeref3_StoreFault.l0]) ?_
    exact ev_neg (by omega) (ev_now _)
  | succ m ih =>
    intro i hi
    have next := ih (i + 1) (by omega)
    rw [show ((i + 1 : Nat) : Int) = (i : Int) + 1 by omega] at next
    have hb := ok_bytes (hp _ (at_mem (i := (i : Int)) (by omega) (by omega)))
    have hd := ofault_ev (kd := (at_ l (i : Int)).f1.f0) (ls := (at_ l (i : Int)).f1.f1) (ds := (at_ l (i : Int)).f1.f2)
    refine Ev.step (fun k_ => by rw [changeforgeref3_StoreFault.l0]) ?_
    refine ev_pos (by omega) (ev_pos (by omega) (ev_bind hd ?_))
    unfold sfl
    by_cases c1 : (of1 (at_ l (i : Int))).1 ≠ 0
    · rw [if_pos c1]
      exact ev_neg c1 (ev_now _)
    · rw [if_neg c1]
      have hg := (oflt_zero (Decidable.not_not.1 c1)).2
      refine ev_pos (Decidable.not_not.1 c1) (ev_bind (rodigest_ev hg hb) ?_)
      by_cases c2 : od1 (at_ l (i : Int)) ≠ (at_ l (i : Int)).f0
      · rw [if_pos c2]
        exact ev_neg c2 (ev_now _)
      · have c2 := Decidable.not_not.1 c2
        rw [if_neg (not_not_intro c2)]
        refine ev_pos c2 ?_
        rw [w64 (x := (i : Int) - 1) (by omega), w64 (x := (i : Int) + 1) (by omega)]
        refine ev_cases (fun c3 => ev_pos (by omega) (ev_pos (by omega) (ev_cases (fun c4 => ?_) (fun c4 => ?_)))) (fun c3 => ?_)
        · rw [if_pos ⟨c3, c4⟩]; exact ev_now _
        · rw [if_neg (fun h => c4 h.2)]; exact next
        · rw [if_neg (fun h => c3 h.1)]; exact next
theorem sflt_ev (hp : ∀ x ∈ l, S46.ok x) : Ev (fun k => changeforgeref3_StoreFault.f k l) (sf l) := by
  unfold changeforgeref3_StoreFault.f sf
  exact ev_ite (fun _ => ev_now _) (fun h => sflt_l0 hp (by omega) l.length 0 (by omega))
end
end Go.Proofs.Ytnmkmamobhkcbaa.Obj
