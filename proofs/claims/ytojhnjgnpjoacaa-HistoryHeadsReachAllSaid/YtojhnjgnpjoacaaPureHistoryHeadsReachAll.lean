/- The pure statement of HistoryHeadsReachAll. -/
import Derived.Test.YtojhnjgnpjoacaaHistEx
import Derived.Test.YtojhnjgnpjoacaaHist11
import Derived.Test.YtojhnjgnpjoacaaP20
namespace Go.Proofs.Ytojhnjgnpjoacaa.Pure
open Go.RowKit Go.Proofs.YtojhnjgnpjoacaaW.PrintWords Go.Proofs.YtojhnjgnpjoacaaW.PrintEv Go.Proofs.Ytojhnjgnpjoacaa.P Go.Proofs.Ytojhnjgnpjoacaa.Hist
set_option linter.unusedVariables false
section
variable {l : List C}
theorem hra_l3 (hl : (l.length : Int) ≤ 60) {s : List Bool} (hsl : s.length = l.length) (hs : ∀ x : Int, 0 ≤ x → x < l.length → rdOf false s x = true) : ∀ (m : Nat) (i : Int), 0 ≤ i → i + m = l.length → Ev (fun k => changeforgelaw3_HistoryHeadsReachAll.l3 k l s i) true := by
  intro m
  induction m with
  | zero =>
    intro i h0 hi
    refine Ev.step (fun k_ => by rw [changeforgelaw3_HistoryHeadsReachAll.l3]) ?_
    refine ev_neg (by omega) ?_
    exact ev_now _
  | succ m ih =>
    intro i h0 hi
    refine Ev.step (fun k_ => by rw [changeforgelaw3_HistoryHeadsReachAll.l3]) ?_
    refine ev_pos (by omega) (ev_pos h0 (ev_pos (by omega) (ev_pos (hs i h0 (by omega)) ?_)))
    rw [w64 (by omega)]
    exact ih (i + 1) (by omega) (by omega)
theorem hra_l2 (hl : (l.length : Int) ≤ 60) {h i : Int} (hi0 : 0 ≤ i) (hi : i < 60) {s0 : List Bool} (hR : ∀ s : List Bool, s.length = l.length → (∀ x : Int, 0 ≤ x → x < l.length → (rdOf false s0 x = true ∨ Anc l h x) → rdOf false s x = true) → Ev (fun k => changeforgelaw3_HistoryHeadsReachAll.l0 k l (heads l) s (i + 1)) true) :
    ∀ (m : Nat) (q : Int) (s : List Bool), 0 ≤ q → q + m = l.length → s.length = l.length → (∀ x : Int, 0 ≤ x → x < l.length → rdOf false s0 x = true → rdOf false s x = true) → (∀ x : Int, 0 ≤ x → x < q → Anc l h x → rdOf false s x = true) →
      Ev (fun k => changeforgelaw3_HistoryHeadsReachAll.l2 k l (heads l) s i (ancs l h) q) true := by
  intro m
  induction m with
  | zero =>
    intro q s h0 hq hsl h1 h2
    refine Ev.step (fun k_ => by rw [changeforgelaw3_HistoryHeadsReachAll.l2]) ?_
    refine ev_neg (by omega) ?_
    rw [w64 (by omega)]
    exact hR s hsl (fun x hx0 hx h => h.elim (h1 x hx0 hx) (h2 x hx0 (by omega)))
  | succ m ih =>
    intro q s h0 hq hsl h1 h2
    have key : ∀ b : Bool, ((rdOf false s q = true ∨ Anc l h q) → b = true) → Ev (fun k => changeforgelaw3_HistoryHeadsReachAll.l2 k l (heads l) (s.set q.toNat b) i (ancs l h) (wrap64 (q + 1))) true := by
      intro b hb
      rw [w64 (by omega)]
      refine ih (q + 1) _ (by omega) (by omega) (by rw [List.length_set]; exact hsl) (fun x hx0 hx h3 => ?_) (fun x hx0 hx h3 => ?_)
      · rw [rdOf_set false s b h0 (by omega) hx0]
        by_cases e : x = q
        · subst e; rw [if_pos rfl]; exact hb (Or.inl (h1 _ hx0 hx h3))
        · rw [if_neg e]; exact h1 x hx0 hx h3
      · rw [rdOf_set false s b h0 (by omega) hx0]
        by_cases e : x = q
        · subst e; rw [if_pos rfl]; exact hb (Or.inr h3)
        · rw [if_neg e]; exact h2 x hx0 (by omega) h3
    refine Ev.step (fun k_ => by rw [changeforgelaw3_HistoryHeadsReachAll.l2]) ?_
    refine ev_pos (by omega) (ev_pos h0 (ev_pos (by omega) (ev_cases (fun h3 => ?_) (fun h3 => ?_))))
    · exact key true (fun _ => rfl)
    · refine ev_pos (by rw [ancs_length]; omega) (key _ (fun h4 => ?_))
      rw [ancs_rd h0 (by omega)]
      exact h4.resolve_left h3
theorem hra_l1 (hv : Valid l) {i : Int} (hi0 : 0 ≤ i) (hi : i < (heads l).length) {s : List Bool} (hR : Ev (fun k => changeforgelaw3_HistoryHeadsReachAll.l2 k l (heads l) s i (ancs l (rd (heads l) i)) 0) true) :
    ∀ (m : Nat) (q : Int), 0 ≤ q → q + m = (heads l).length → Ev (fun k => changeforgelaw3_HistoryHeadsReachAll.l1 k l (heads l) s i (ancs l (rd (heads l) i)) q) true := by
  have hv60 := hv.len
  have hle := headf_length l l.length
  have hle : (heads l).length ≤ l.length := hle
  intro m
  induction m with
  | zero =>
    intro q h0 hq
    refine Ev.step (fun k_ => by rw [changeforgelaw3_HistoryHeadsReachAll.l1]) ?_
    exact ev_neg (by omega) hR
  | succ m ih =>
    intro q h0 hq
    have hm := mem_heads.1 (rd_mem h0 (xs := heads l) (by omega))
    have ih' := ih (q + 1) (by omega) (by omega)
    refine Ev.step (fun k_ => by rw [changeforgelaw3_HistoryHeadsReachAll.l1]) ?_
    rw [w64 (x := q + 1) (by omega), In_dec, w64 (x := (l.length : Int) - 1) (by omega)]
    refine ev_pos (by omega) (ev_pos h0 (ev_some (ev_pos (by simp; omega) (ev_cases (fun _ => ih') (fun h1 => ?_)))))
    refine ev_pos hm.1 (ev_pos (by rw [ancs_length]; omega) (ev_neg ?_ ih'))
    rw [ancs_rd hm.1 hm.2.1]
    intro ha
    obtain ⟨z, _, hz⟩ := ha.last (fun e => by
      obtain ⟨a, rfl⟩ := Int.eq_ofNat_of_zero_le h0
      obtain ⟨b, rfl⟩ := Int.eq_ofNat_of_zero_le hi0
      rw [rd_nat _ (by omega), rd_nat _ (by omega)] at e
      have hn := List.pairwise_iff_getElem.1 (heads_nodup l)
      rcases Nat.lt_trichotomy a b with h | h | h
      · exact hn a b (by omega) (by omega) h e
      · exact h1 (by omega)
      · exact hn b a (by omega) (by omega) h e.symm)
    exact hm.2.2 z hz
theorem hra_l0 (hp : ∀ x ∈ l, S49.ok x) (hv : Valid l) (hf : vf l = (0, 0)) : ∀ (m : Nat) (i : Int) (s : List Bool), 0 ≤ i → i + m = (heads l).length → s.length = l.length →
    (∀ x j : Int, 0 ≤ x → x < l.length → 0 ≤ j → j < i → Anc l (rd (heads l) j) x → rdOf false s x = true) → Ev (fun k => changeforgelaw3_HistoryHeadsReachAll.l0 k l (heads l) s i) true := by
  have hv60 := hv.len
  have hle := headf_length l l.length
  have hle : (heads l).length ≤ l.length := hle
  intro m
  induction m with
  | zero =>
    intro i s h0 hi hsl hs
    refine Ev.step (fun k_ => by rw [changeforgelaw3_HistoryHeadsReachAll.l0]) ?_
    refine ev_neg (by omega) (hra_l3 hv60 hsl (fun x hx0 hx => ?_) l.length 0 (by omega) (by omega))
    obtain ⟨h, hm, ha⟩ := under_head hv l.length x hx0 hx (by omega)
    obtain ⟨j, hj0, hj, rfl⟩ := mem_rd hm
    exact hs x j hx0 hx hj0 (by omega) ha
  | succ m ih =>
    intro i s h0 hi hsl hs
    have hm := mem_heads.1 (rd_mem h0 (xs := heads l) (by omega))
    have ha : ancR l (rd (heads l) i) = (ancs l (rd (heads l) i), 0, 0) := by
      unfold ancR; rw [hf, if_neg (by decide), if_neg (by omega)]
    refine Ev.step (fun k_ => by rw [changeforgelaw3_HistoryHeadsReachAll.l0]) ?_
    refine ev_pos (by omega) (ev_pos h0 (ev_bind (ancestors_ev hp _) ?_))
    rw [ha]
    refine ev_pos rfl ?_
    refine Ev.step (fun k_ => by rw [changeforgelaw3_HistoryHeadsReachAll.j1]) ?_
    refine ev_neg (by simp [ancs_length]) ?_
    refine hra_l1 hv h0 (by omega) ?_ (heads l).length 0 (by omega) (by omega)
    refine hra_l2 hv60 h0 (by omega) (s0 := s) (fun s' hsl' hs' => ih (i + 1) s' (by omega) (by omega) hsl' (fun x j hx0 hx hj0 hj hanc => ?_)) l.length 0 s (by omega) (by omega) hsl (fun x _ _ h => h) (fun x h1 h2 => by omega)
    by_cases e : j = i
    · subst e; exact hs' x hx0 hx (Or.inr hanc)
    · exact hs' x hx0 hx (Or.inl (hs x j hx0 hx hj0 (by omega) hanc))
end
theorem HistoryHeadsReachAll : changeforgelaw3_HistoryHeadsReachAll.Pure := by
  intro l hl
  refine ev_ex ?_
  have hp := hl.2
  unfold changeforgelaw3_HistoryHeadsReachAll.f
  refine ev_bind hexample_ev (ev_pos rfl (ev_bind (heads_ev hp) ?_))
  unfold headsR
  by_cases h : (vf l).1 ≠ 0
  · rw [if_pos h]
    refine ev_neg h ?_
    exact ev_now _
  · obtain ⟨e, hv⟩ := vf_zero (Decidable.not_not.1 h)
    have hv60 := hv.len
    rw [if_neg h]
    refine ev_pos rfl (ev_pos (by omega) (ev_pos (by omega) ?_))
    exact hra_l0 hp hv e (heads l).length 0 _ (by omega) (by omega) (by simp) (fun x j h1 h2 h3 h4 => by omega)
end Go.Proofs.Ytojhnjgnpjoacaa.Pure
