/- A chain of deltas: its versions, its depths, its fault; what deltachain.unpack comes to. -/
import Derived.Test.YtgmpnghgmcgghaaDeltaA
import Derived.Test.YtgmpnghgmcgghaaP16
import Derived.Test.YtgmpnghgmcgghaaP19
import Derived.Test.YtgmpnghgmcgghaaP20
import Derived.Test.YtgmpnghgmcgghaaP21
namespace Go.Proofs.Ytgmpnghgmcgghaa.Delta
open Go.RowKit Go.Proofs.YtgmpnghgmcgghaaW.PrintWords Go.Proofs.YtgmpnghgmcgghaaW.PrintEv Go.Proofs.Ytgmpnghgmcgghaa.P
set_option linter.unusedVariables false

abbrev E := S45
abbrev vA (vs : List (List Int)) (i : Int) : List Int := rd_L1 vs i
abbrev eA (l : List E) (i : Int) : E := rd_T45 l i
def ver1 (vs : List (List Int)) (c : E) : List Int := if c.f0 < 0 then c.f1 else (apR (vA vs c.f0) c.f2).1
def dep1 (ds : List Int) (c : E) : Int := if c.f0 < 0 then 0 else rd ds c.f0 + 1
def vers (l : List E) : Nat → List (List Int)
  | 0 => []
  | n + 1 => vers l n ++ [ver1 (vers l n) (eA l (n : Int))]
def deps (l : List E) : Nat → List Int
  | 0 => []
  | n + 1 => deps l n ++ [dep1 (deps l n) (eA l (n : Int))]
/-- What is wrong with entry i, the versions ahead of it being vs. -/
def cf1 (vs : List (List Int)) (i : Int) (c : E) : Int :=
  if c.f0 < -1 ∨ c.f0 ≥ i then 3 else if (c.f0 = -1 ∧ 0 < c.f2.length) ∨ (0 ≤ c.f0 ∧ 0 < c.f1.length) then 5 else if (c.f1.length : Int) > 1000 then 10 else if c.f0 = -1 then 0 else (apR (vA vs c.f0) c.f2).2.1
def cfrom (l : List E) : Nat → Nat → Int × Int
  | 0, _ => (0, 0)
  | n + 1, i => if cf1 (vers l i) i (eA l (i : Int)) ≠ 0 then (cf1 (vers l i) i (eA l (i : Int)), (i : Int)) else cfrom l n (i + 1)
def chF (l : List E) : Int × Int := if (l.length : Int) > 20 then (2, -1) else cfrom l l.length 0
def Fine (l : List E) (n : Nat) : Prop := ∀ i : Nat, i < n → cf1 (vers l i) i (eA l (i : Int)) = 0

theorem vers_length (l : List E) : ∀ n, (vers l n).length = n
  | 0 => rfl
  | n + 1 => by simp [vers, vers_length l n]
theorem deps_length (l : List E) : ∀ n, (deps l n).length = n
  | 0 => rfl
  | n + 1 => by simp [deps, deps_length l n]
theorem vA_left {xs : List (List Int)} {x : List Int} {i : Int} (h0 : 0 ≤ i) (h : i < xs.length) : vA (xs ++ [x]) i = vA xs i := by
  simp only [rd_L1, List.getD_eq_getElem?_getD]
  rw [List.getElem?_append_left (by omega)]
theorem vA_last {xs : List (List Int)} {x : List Int} : vA (xs ++ [x]) (xs.length : Int) = x := by
  simp [rd_L1, List.getD_eq_getElem?_getD]
theorem vers_keep (l : List E) {i : Int} (h0 : 0 ≤ i) : ∀ (d n : Nat), i < n → vA (vers l (n + d)) i = vA (vers l n) i
  | 0, n, _ => rfl
  | d + 1, n, h => by
    rw [← vers_keep l h0 d n h]
    show vA (vers l (n + d) ++ [_]) i = _
    exact vA_left h0 (by rw [vers_length]; omega)
theorem deps_keep (l : List E) {i : Int} (h0 : 0 ≤ i) : ∀ (d n : Nat), i < n → rd (deps l (n + d)) i = rd (deps l n) i
  | 0, n, _ => rfl
  | d + 1, n, h => by
    rw [← deps_keep l h0 d n h]
    show rd (deps l (n + d) ++ [_]) i = _
    exact rd_append_left h0 (by rw [deps_length]; omega)
theorem vers_at (l : List E) {i n : Nat} (h : i < n) : vA (vers l n) (i : Int) = ver1 (vers l i) (eA l (i : Int)) := by
  obtain ⟨d, rfl⟩ : ∃ d, n = (i + 1) + d := ⟨n - (i + 1), by omega⟩
  rw [vers_keep l (by omega) d (i + 1) (by omega)]
  have := vA_last (xs := vers l i) (x := ver1 (vers l i) (eA l (i : Int)))
  rw [vers_length] at this
  exact this
theorem deps_at (l : List E) {i n : Nat} (h : i < n) : rd (deps l n) (i : Int) = dep1 (deps l i) (eA l (i : Int)) := by
  obtain ⟨d, rfl⟩ : ∃ d, n = (i + 1) + d := ⟨n - (i + 1), by omega⟩
  rw [deps_keep l (by omega) d (i + 1) (by omega)]
  have := rd_append_last (xs := deps l i) (y := dep1 (deps l i) (eA l (i : Int)))
  rw [deps_length] at this
  exact this
theorem cf1_ok {vs : List (List Int)} {i : Int} {c : E} (h : cf1 vs i c = 0) : -1 ≤ c.f0 ∧ c.f0 < i ∧ ¬ ((c.f0 = -1 ∧ 0 < c.f2.length) ∨ (0 ≤ c.f0 ∧ 0 < c.f1.length)) ∧ (c.f1.length : Int) ≤ 1000 ∧ (c.f0 ≠ -1 → (apR (vA vs c.f0) c.f2).2.1 = 0) := by
  unfold cf1 at h
  by_cases h1 : c.f0 < -1 ∨ c.f0 ≥ i
  · rw [if_pos h1] at h; omega
  · rw [if_neg h1] at h
    by_cases h2 : (c.f0 = -1 ∧ 0 < c.f2.length) ∨ (0 ≤ c.f0 ∧ 0 < c.f1.length)
    · rw [if_pos h2] at h; omega
    · rw [if_neg h2] at h
      by_cases h3 : (c.f1.length : Int) > 1000
      · rw [if_pos h3] at h; omega
      · rw [if_neg h3] at h
        exact ⟨by omega, by omega, h2, by omega, fun h4 => by rw [if_neg h4] at h; exact h⟩
theorem deps_bound {l : List E} {n : Nat} (hf : Fine l n) : ∀ m : Nat, m ≤ n → ∀ i : Nat, i < m → 0 ≤ rd (deps l n) (i : Int) ∧ rd (deps l n) (i : Int) ≤ i := by
  intro m
  induction m with
  | zero => intro _ i h; omega
  | succ m ih =>
    intro hm i hi
    have hc := cf1_ok (hf i (by omega))
    rw [deps_at l (by omega)]
    unfold dep1
    split
    · omega
    · rename_i h
      obtain ⟨b, hb⟩ := Int.eq_ofNat_of_zero_le (show 0 ≤ (eA l (i : Int)).f0 by omega)
      have h2 := ih (by omega) b (by omega)
      rw [hb]
      obtain ⟨d, rfl⟩ : ∃ d, n = i + d := ⟨n - i, by omega⟩
      rw [deps_keep l (by omega) d i (by omega)] at h2
      omega
theorem apS_zero {b : List Int} : ∀ {ds : List D} {i : Int} {out : List Int}, (apS b ds i out).2.1 = 0 → (apS b ds i out).2.2 = 0
  | [], _, _, _ => rfl
  | d :: ds, i, out, h => by
    unfold apS at h ⊢
    by_cases h1 : opD b d ≠ 0
    · rw [if_pos h1] at h; exact absurd h h1
    · rw [if_neg h1] at h ⊢
      by_cases h2 : ((out ++ seg b d).length : Int) > 1000
      · rw [if_pos h2] at h; exact absurd h (by show ¬ ((10 : Int) = 0); decide)
      · rw [if_neg h2] at h ⊢
        exact apS_zero h
theorem apR_zero {b : List Int} {ds : List D} (h : (apR b ds).2.1 = 0) : (apR b ds).2.2 = 0 := by
  unfold apR at h ⊢
  split at h
  · exact absurd h (by show ¬ ((10 : Int) = 0); decide)
  · split at h
    · exact absurd h (by show ¬ ((2 : Int) = 0); decide)
    · rename_i h1 h2
      rw [if_neg h1, if_neg h2]
      exact apS_zero h
theorem bad_flt {f : Int × Int} (h : f.1 ≠ 0) : (!(f.1 == 0) || (!(f.2 == 0))) = true := by
  have : (f.1 == 0) = false := beq_eq_false_iff_ne.2 h
  rw [this]; rfl
theorem clone_ok {a : List Int} (h : (a.length : Int) ≤ 1000) : bytes_Clone.f a = some a := by
  unfold bytes_Clone.f
  rw [Option.bind_some, if_pos (by simp; omega), List.nil_append]
abbrev CR := List (List Int) × List Int × Int × Int
/-- The rest of the chain, from entry i on. -/
def cuR (l : List E) (n i : Nat) : CR := if (cfrom l n i).1 ≠ 0 then ([], [], cfrom l n i) else (vers l (i + n), deps l (i + n), 0, 0)
theorem cu_bad {l : List E} {n i : Nat} {c : Int} (h : cf1 (vers l i) i (eA l (i : Int)) = c) (hc : c ≠ 0) : cuR l (n + 1) i = ([], [], c, (i : Int)) := by
  unfold cuR
  rw [show cfrom l (n + 1) i = (c, (i : Int)) by simp only [cfrom]; rw [h, if_pos hc], if_pos (by exact hc)]
theorem cu_good {l : List E} {n i : Nat} (h : cf1 (vers l i) i (eA l (i : Int)) = 0) : cuR l (n + 1) i = cuR l n (i + 1) := by
  unfold cuR
  rw [show cfrom l (n + 1) i = cfrom l n (i + 1) by simp only [cfrom]; rw [h]; rfl, show i + (n + 1) = i + 1 + n by omega]
section
variable {l : List E}
theorem unp_j2 (hl : (l.length : Int) ≤ 20) {i n : Nat} (hi : i < l.length) (hf : Fine l i) {x : Bool} {c : E} (hc : c = eA l (i : Int)) (hm : ∀ d ∈ c.f2, (d.f2.length : Int) ≤ 140737488351232) (h1 : ¬ (c.f0 < -1 ∨ c.f0 ≥ (i : Int))) (hx : x = true ↔ (c.f0 = -1 ∧ 0 < c.f2.length) ∨ (0 ≤ c.f0 ∧ 0 < c.f1.length))
    (ih : cf1 (vers l i) i (eA l (i : Int)) = 0 → Ev (fun k => deltachain_unpack.l0 k (vers l (i + 1)) (deps l (i + 1)) l (l.length : Int) ((i + 1 : Nat) : Int)) (cuR l n (i + 1))) :
    Ev (fun k => deltachain_unpack.j2 k (vers l i) (deps l i) (i : Int) l (l.length : Int) (i : Int) x c.f0 c.f1 c.f2) (cuR l (n + 1) i) := by
  have hvl := vers_length l i
  have hdl := deps_length l i
  have hcf : cf1 (vers l i) i (eA l (i : Int)) = if (c.f0 = -1 ∧ 0 < c.f2.length) ∨ (0 ≤ c.f0 ∧ 0 < c.f1.length) then 5 else if (c.f1.length : Int) > 1000 then 10 else if c.f0 = -1 then 0 else (apR (vA (vers l i) c.f0) c.f2).2.1 := by
    rw [← hc]; unfold cf1; rw [if_neg h1]
  have go : ∀ (v : List Int) (d : Int), v = ver1 (vers l i) c → d = dep1 (deps l i) c → cf1 (vers l i) i (eA l (i : Int)) = 0 → Ev (fun k => deltachain_unpack.l0 k (vers l i ++ [v]) (deps l i ++ [d]) l (l.length : Int) (wrap64 ((i : Int) + 1))) (cuR l (n + 1) i) := by
    intro v d hv hd h0
    rw [w64 (by omega), cu_good h0, hv, hd, hc]
    exact ih h0
  refine Ev.step (fun k_ => by rw [deltachain_unpack.j2]) ?_
  refine ev_cases (fun hx1 => ?_) (fun hx1 => ?_)
  · rw [if_pos (hx.1 hx1)] at hcf
    rw [cu_bad hcf (by decide)]
    exact ev_now _
  · rw [if_neg (fun h => hx1 (hx.2 h))] at hcf
    refine ev_bind sized_ev1 (ev_cases (fun h2 => ?_) (fun h2 => ?_))
    · have h2 := of_decide_eq_true h2
      rw [if_neg (by omega)] at hcf
      refine ev_cases (fun h3 => ?_) (fun h3 => ?_)
      · rw [if_pos h3] at hcf
        refine ev_const (clone_ok h2) (ev_some (ev_pos (by simp; omega) (ev_some (ev_pos (by simp; omega) ?_))))
        exact go _ _ (by unfold ver1; rw [if_pos (by omega)]) (by unfold dep1; rw [if_pos (by omega)]) hcf
      · rw [if_neg h3] at hcf
        refine ev_pos (by omega) (ev_pos (by omega) (ev_bind (apply_ev hm) (ev_cases (fun h4 => ?_) (fun h4 => ?_))))
        · have hne : (apR (vA (vers l i) c.f0) c.f2).2.1 ≠ 0 := fun h5 => by
            rw [h5, apR_zero h5] at h4
            exact absurd h4 (by decide)
          rw [cu_bad hcf hne]
          exact ev_now _
        · have h5 : (apR (vA (vers l i) c.f0) c.f2).2.1 = 0 := by
            by_cases h6 : (apR (vA (vers l i) c.f0) c.f2).2.1 = 0
            · exact h6
            · exact absurd (bad_flt h6) h4
          rw [h5] at hcf
          refine ev_some (ev_pos (by simp; omega) (ev_pos (by omega) (ev_some (ev_pos (by simp; omega) ?_))))
          refine go _ _ (by unfold ver1; rw [if_neg (by omega)]) ?_ hcf
          unfold dep1
          rw [if_neg (by omega)]
          obtain ⟨b, hb⟩ := Int.eq_ofNat_of_zero_le (show 0 ≤ c.f0 by omega)
          have := deps_bound hf i (Nat.le_refl _) b (by omega)
          rw [hb]
          exact w64 (by omega)
    · have h2 : (c.f1.length : Int) > 1000 := by
        have : ¬ (c.f1.length : Int) ≤ 1000 := fun h => h2 (decide_eq_true h)
        omega
      rw [if_pos h2] at hcf
      rw [cu_bad hcf (by decide)]
      exact ev_now _
theorem unp_j1 (hl : (l.length : Int) ≤ 20) {i n : Nat} (hi : i < l.length) (hf : Fine l i) {x : Bool} {c : E} (hc : c = eA l (i : Int)) (hm : ∀ d ∈ c.f2, (d.f2.length : Int) ≤ 140737488351232) (hx : x = true ↔ c.f0 < -1 ∨ c.f0 ≥ (i : Int))
    (ih : cf1 (vers l i) i (eA l (i : Int)) = 0 → Ev (fun k => deltachain_unpack.l0 k (vers l (i + 1)) (deps l (i + 1)) l (l.length : Int) ((i + 1 : Nat) : Int)) (cuR l n (i + 1))) :
    Ev (fun k => deltachain_unpack.j1 k (vers l i) (deps l i) (i : Int) l (l.length : Int) (i : Int) x c.f0 c.f1 c.f2) (cuR l (n + 1) i) := by
  refine Ev.step (fun k_ => by rw [deltachain_unpack.j1]) ?_
  refine ev_cases (fun h1 => ?_) (fun h1 => ?_)
  · have : cf1 (vers l i) i (eA l (i : Int)) = 3 := by rw [← hc]; unfold cf1; rw [if_pos (hx.1 h1)]
    rw [cu_bad this (by decide)]
    exact ev_now _
  · have h1 : ¬ (c.f0 < -1 ∨ c.f0 ≥ (i : Int)) := fun h => h1 (hx.2 h)
    refine ev_cases (fun h2 => ev_cases (fun h3 => ?_) (fun h3 => ev_neg (by omega) ?_)) (fun h2 => ev_pos (by omega) ?_)
    · exact unp_j2 hl hi hf hc hm h1 (⟨fun _ => Or.inl ⟨by omega, by omega⟩, fun _ => rfl⟩) ih
    · exact unp_j2 hl hi hf hc hm h1 (⟨fun h => absurd h (by decide), fun h => h.elim (fun h => by omega) (fun h => by omega)⟩) ih
    · exact unp_j2 hl hi hf hc hm h1 (by rw [decide_eq_true_eq]; exact ⟨fun h => Or.inr ⟨by omega, by omega⟩, fun h => h.elim (fun h => by omega) (fun h => by omega)⟩) ih
theorem unp_l0 (hl : (l.length : Int) ≤ 20) (hm : ∀ i : Nat, i < l.length → ∀ d ∈ (eA l (i : Int)).f2, (d.f2.length : Int) ≤ 140737488351232) : ∀ (n i : Nat), i + n = l.length → Fine l i → Ev (fun k => deltachain_unpack.l0 k (vers l i) (deps l i) l (l.length : Int) (i : Int)) (cuR l n i) := by
  intro n
  induction n with
  | zero =>
    intro i hi hf
    refine Ev.step (fun k_ => by rw [deltachain_unpack.l0]) ?_
    refine ev_neg (by omega) ?_
    exact ev_now _
  | succ n ih =>
    intro i hi hf
    have ih' : cf1 (vers l i) i (eA l (i : Int)) = 0 → Ev (fun k => deltachain_unpack.l0 k (vers l (i + 1)) (deps l (i + 1)) l (l.length : Int) ((i + 1 : Nat) : Int)) (cuR l n (i + 1)) := fun h => ih (i + 1) (by omega) (fun j hj => by
      by_cases e : j = i
      · rw [e]; exact h
      · exact hf j (by omega))
    refine Ev.step (fun k_ => by rw [deltachain_unpack.l0]) ?_
    refine ev_pos (by omega) (ev_pos (by omega) (ev_pos (by omega) (ev_cases (fun h1 => ?_) (fun h1 => ?_))))
    · exact unp_j1 hl (by omega) hf rfl (hm i (by omega)) ⟨fun _ => Or.inl h1, fun _ => rfl⟩ ih'
    · exact unp_j1 hl (by omega) hf rfl (hm i (by omega)) (by rw [decide_eq_true_eq]; exact ⟨Or.inr, fun h => h.resolve_left h1⟩) ih'
def OkL (l : List E) : Prop := ∀ i : Nat, i < l.length → ∀ d ∈ (eA l (i : Int)).f2, (d.f2.length : Int) ≤ 140737488351232
def unpR (l : List E) : CR := if (chF l).1 ≠ 0 then ([], [], chF l) else (vers l l.length, deps l l.length, 0, 0)
theorem ok_len {c : E} (h : S45.ok c) : ∀ d ∈ c.f2, (d.f2.length : Int) ≤ 140737488351232 := fun d hd => by
  have := (h.2.2.2 d hd).2.2.1
  omega
theorem ok_at (hp : ∀ x ∈ l, S45.ok x) : OkL l := fun i hi => by
  have : eA l (i : Int) = l[i] := by simp [rd_T45, List.getD_eq_getElem?_getD, List.getElem?_eq_getElem hi]
  rw [this]
  exact ok_len (hp _ (List.getElem_mem _))
theorem unpack_ev (hp : OkL l) : Ev (fun k => deltachain_unpack.f k l) (unpR l) := by
  unfold deltachain_unpack.f
  refine ev_cases (fun h => ?_) (fun h => ?_)
  · have : unpR l = ([], [], 2, -1) := by unfold unpR chF; rw [if_pos h]; rfl
    rw [this]
    exact ev_now _
  · have := unp_l0 (l := l) (by omega) hp l.length 0 (by omega) (fun j hj => by omega)
    have e : cuR l l.length 0 = unpR l := by unfold cuR unpR chF; rw [if_neg h]; simp
    rw [← e]
    exact this
def readR (l : List E) (i : Int) : List Int × Int × Int := if (chF l).1 ≠ 0 then ([], chF l) else if i < 0 ∨ i ≥ l.length then ([], 6, -1) else (vA (vers l l.length) i, 0, 0)
theorem read_ev (hp : OkL l) (i : Int) : Ev (fun k => deltachain_Read.f k l i) (readR l i) := by
  unfold deltachain_Read.f readR
  refine ev_bind (unpack_ev hp) ?_
  unfold unpR
  by_cases h : (chF l).1 ≠ 0
  · rw [if_pos h, if_pos h]
    refine ev_pos (bad_flt h) ?_
    exact ev_now _
  · rw [if_neg h, if_neg h]
    have hl := vers_length l l.length
    have hl' : ((vers l l.length, deps l l.length, 0, 0) : CR).1.length = l.length := hl
    refine ev_neg (by simp) (ev_cases (fun h1 => ?_) (fun h1 => ev_cases (fun h2 => ?_) (fun h2 => ?_)))
    · rw [if_pos (show i < 0 ∨ i ≥ (l.length : Int) from Or.inl h1)]; exact ev_now _
    · rw [if_pos (show i < 0 ∨ i ≥ (l.length : Int) by omega)]; exact ev_now _
    · rw [if_neg (show ¬ (i < 0 ∨ i ≥ (l.length : Int)) by omega)]
      refine ev_pos (by omega) (ev_pos (by omega) ?_)
      exact ev_now _
theorem depths_ev (hp : OkL l) : Ev (fun k => deltachain_Depths.f k l) ((unpR l).2) := by
  unfold deltachain_Depths.f
  exact ev_bind (unpack_ev hp) (ev_now _)
theorem cfrom_zero : ∀ {n i : Nat}, (cfrom l n i).1 = 0 → cfrom l n i = (0, 0) ∧ ∀ j, i ≤ j → j < i + n → cf1 (vers l j) j (eA l (j : Int)) = 0
  | 0, i, _ => ⟨rfl, fun j h1 h2 => by omega⟩
  | n + 1, i, h => by
    by_cases h1 : cf1 (vers l i) i (eA l (i : Int)) ≠ 0
    · have : cfrom l (n + 1) i = (cf1 (vers l i) i (eA l (i : Int)), (i : Int)) := by simp only [cfrom]; rw [if_pos h1]
      rw [this] at h
      exact absurd h h1
    · have e : cfrom l (n + 1) i = cfrom l n (i + 1) := by simp only [cfrom]; rw [if_neg h1]
      rw [e] at h ⊢
      obtain ⟨h2, h3⟩ := cfrom_zero h
      refine ⟨h2, fun j hj1 hj2 => ?_⟩
      by_cases e : j = i
      · rw [e]; exact Decidable.not_not.1 h1
      · exact h3 j (by omega) (by omega)
theorem chF_zero (h : (chF l).1 = 0) : chF l = (0, 0) ∧ (l.length : Int) ≤ 20 ∧ Fine l l.length := by
  unfold chF at h ⊢
  by_cases h1 : (l.length : Int) > 20
  · rw [if_pos h1] at h; exact absurd h (by decide)
  · rw [if_neg h1] at h ⊢
    obtain ⟨h2, h3⟩ := cfrom_zero h
    exact ⟨h2, by omega, fun j hj => h3 j (by omega) (by omega)⟩
end
end Go.Proofs.Ytgmpnghgmcgghaa.Delta
