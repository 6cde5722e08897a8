/- The pure statement of HistoryOrderTopological. -/
import Derived.Test.YtojhnjgnpjoacaaHistEx
import Derived.Test.YtojhnjgnpjoacaaHist10
import Derived.Test.YtojhnjgnpjoacaaP18
namespace Go.Proofs.Ytojhnjgnpjoacaa.Pure
open Go.RowKit Go.Proofs.YtojhnjgnpjoacaaW.PrintWords Go.Proofs.YtojhnjgnpjoacaaW.PrintEv Go.Proofs.Ytojhnjgnpjoacaa.P Go.Proofs.Ytojhnjgnpjoacaa.Hist
set_option linter.unusedVariables false
section
variable {l : List C}
theorem topo_l3 (hv : Valid l) {at_ : List Int} (hl : at_.length = l.length) (hat : ∀ a : Int, 0 ≤ a → a < l.length → rd at_ (rd (ordr l) a) = a) {i : Int} (hi0 : 0 ≤ i) (hi : i < l.length) (hR : Ev (fun k => changeforgelaw3_HistoryOrderTopological.l2 k l at_ (i + 1)) true) :
    ∀ (m : Nat) (q : Int), 0 ≤ q → q + m = (rd_T49 l i).f0.length → Ev (fun k => changeforgelaw3_HistoryOrderTopological.l3 k l at_ i q) true := by
  have hv60 := hv.len
  obtain ⟨ho, hol⟩ := ordr_ord hv
  have hplen := hv.plen i hi0 hi
  intro m
  induction m with
  | zero =>
    intro q h0 hq
    refine Ev.step (fun k_ => by rw [changeforgelaw3_HistoryOrderTopological.l3]) ?_
    refine ev_pos hi0 (ev_pos hi (ev_neg (by omega) ?_))
    rw [w64 (by omega)]
    exact hR
  | succ m ih =>
    intro q h0 hq
    have hpar := hv.par i q hi0 hi h0 (by omega)
    have hp : Par l i (rd (rd_T49 l i).f0 q) := ⟨hi0, hi, rd_mem h0 (by omega)⟩
    obtain ⟨a, ha0, ha, ea⟩ := mem_rd (ho.full hol (i := i) hi0 hi)
    obtain ⟨c, hc0, hc, ec⟩ := mem_rd (ho.full hol (i := rd (rd_T49 l i).f0 q) hpar.1 (by omega))
    have hlt := ho.before (a := c) (c := a) (k := i) hc0 hc (by rw [ec]; exact hp) ea ha0 ha
    have e1 := hat a ha0 (by omega)
    have e2 := hat c hc0 (by omega)
    rw [ea] at e1
    rw [ec] at e2
    refine Ev.step (fun k_ => by rw [changeforgelaw3_HistoryOrderTopological.l3]) ?_
    refine ev_pos hi0 (ev_pos hi (ev_pos (by omega) (ev_pos h0 (ev_pos hpar.1 (ev_pos (by omega) (ev_pos (by omega) (ev_neg (by omega) ?_)))))))
    rw [w64 (by omega)]
    exact ih (q + 1) (by omega) (by omega)
theorem topo_l2 (hv : Valid l) {at_ : List Int} (hl : at_.length = l.length) (hat : ∀ a : Int, 0 ≤ a → a < l.length → rd at_ (rd (ordr l) a) = a) : ∀ (m : Nat) (i : Int), 0 ≤ i → i + m = l.length → Ev (fun k => changeforgelaw3_HistoryOrderTopological.l2 k l at_ i) true := by
  intro m
  induction m with
  | zero =>
    intro i h0 hi
    refine Ev.step (fun k_ => by rw [changeforgelaw3_HistoryOrderTopological.l2]) ?_
    refine ev_neg (by omega) ?_
    exact ev_now _
  | succ m ih =>
    intro i h0 hi
    refine Ev.step (fun k_ => by rw [changeforgelaw3_HistoryOrderTopological.l2]) ?_
    exact ev_pos (by omega) (topo_l3 hv hl hat h0 (by omega) (ih (i + 1) (by omega) (by omega)) (rd_T49 l i).f0.length 0 (by omega) (by simp))
theorem topo_l1 (hv : Valid l) : ∀ (m : Nat) (i : Int) (at_ : List Int), 0 ≤ i → i + m = l.length → at_.length = l.length → (∀ a : Int, 0 ≤ a → a < i → rd at_ (rd (ordr l) a) = a) → (∀ x : Int, 0 ≤ x → x < l.length → (∀ a : Int, 0 ≤ a → a < i → rd (ordr l) a ≠ x) → rd at_ x = -1) →
    Ev (fun k => changeforgelaw3_HistoryOrderTopological.l1 k l (ordr l) at_ i) true := by
  have hv60 := hv.len
  obtain ⟨ho, hol⟩ := ordr_ord hv
  have hinj : ∀ a c : Int, 0 ≤ a → a < c → c < l.length → rd (ordr l) a ≠ rd (ordr l) c := fun a c h0 h1 h2 e => by
    obtain ⟨x, rfl⟩ := Int.eq_ofNat_of_zero_le h0
    obtain ⟨y, rfl⟩ := Int.eq_ofNat_of_zero_le (show 0 ≤ c by omega)
    rw [rd_nat _ (by omega), rd_nat _ (by omega)] at e
    exact List.pairwise_iff_getElem.1 ho.good.1 x y (by omega) (by omega) (by omega) e
  intro m
  induction m with
  | zero =>
    intro i at_ h0 hi hl hat hno
    refine Ev.step (fun k_ => by rw [changeforgelaw3_HistoryOrderTopological.l1]) ?_
    exact ev_neg (by omega) (topo_l2 hv hl (fun a h1 h2 => hat a h1 (by omega)) l.length 0 (by omega) (by omega))
  | succ m ih =>
    intro i at_ h0 hi hl hat hno
    have hm := ho.good.2.1 _ (rd_mem h0 (xs := ordr l) (by omega))
    have hneg := hno (rd (ordr l) i) hm.1 hm.2 (fun a h1 h2 => hinj a i h1 h2 (by omega))
    refine Ev.step (fun k_ => by rw [changeforgelaw3_HistoryOrderTopological.l1]) ?_
    refine ev_pos (by omega) (ev_pos h0 ?_)
    rw [In_dec, w64 (x := (l.length : Int) - 1) (by omega)]
    refine ev_some (ev_pos (by simp; omega) (ev_pos hm.1 (ev_pos (by omega) (ev_neg (by omega) ?_))))
    rw [w64 (by omega)]
    refine ih (i + 1) _ (by omega) (by omega) (by rw [List.length_set]; exact hl) (fun a h1 h2 => ?_) (fun x h1 h2 h3 => ?_)
    · have hma := ho.good.2.1 _ (rd_mem h1 (xs := ordr l) (by omega))
      rw [rd_set at_ _ hm.1 (by omega) hma.1]
      by_cases e : a = i
      · subst e; rw [if_pos rfl]
      · rw [if_neg (hinj a i h1 (by omega) (by omega)), hat a h1 (by omega)]
    · rw [rd_set at_ _ hm.1 (by omega) h1, if_neg (Ne.symm (h3 i h0 (by omega)))]
      exact hno x h1 h2 (fun a h4 h5 => h3 a h4 (by omega))
theorem topo_l0 (hv : Valid l) : ∀ (m : Nat) (i : Int) (at_ : List Int), 0 ≤ i → i + m = l.length → at_.length = l.length → (∀ x : Int, 0 ≤ x → x < i → rd at_ x = -1) → Ev (fun k => changeforgelaw3_HistoryOrderTopological.l0 k l (ordr l) at_ i) true := by
  have hv60 := hv.len
  obtain ⟨ho, hol⟩ := ordr_ord hv
  intro m
  induction m with
  | zero =>
    intro i at_ h0 hi hl hno
    refine Ev.step (fun k_ => by rw [changeforgelaw3_HistoryOrderTopological.l0]) ?_
    exact ev_neg (by omega) (topo_l1 hv l.length 0 at_ (by omega) (by omega) hl (fun a h1 h2 => by omega) (fun x h1 h2 _ => hno x h1 (by omega)))
  | succ m ih =>
    intro i at_ h0 hi hl hno
    refine Ev.step (fun k_ => by rw [changeforgelaw3_HistoryOrderTopological.l0]) ?_
    refine ev_pos (by omega) (ev_pos h0 (ev_pos (by omega) ?_))
    rw [w64 (by omega)]
    refine ih (i + 1) _ (by omega) (by omega) (by rw [List.length_set]; exact hl) (fun x h1 h2 => ?_)
    rw [rd_set at_ _ h0 (by omega) h1]
    by_cases e : x = i
    · rw [if_pos e]
    · rw [if_neg e]; exact hno x h1 (by omega)
end
theorem HistoryOrderTopological : changeforgelaw3_HistoryOrderTopological.Pure := by
  intro l hl
  refine ev_ex ?_
  have hp := hl.2
  unfold changeforgelaw3_HistoryOrderTopological.f
  refine ev_bind hexample_ev (ev_pos rfl (ev_bind (order_ev hp) ?_))
  unfold ordR
  by_cases h : (vf l).1 ≠ 0
  · rw [if_pos h]
    refine ev_neg h ?_
    exact ev_now _
  · obtain ⟨e, hv⟩ := vf_zero (Decidable.not_not.1 h)
    have hv60 := hv.len
    rw [if_neg h]
    refine ev_pos rfl (ev_pos (by rw [(ordr_ord hv).2]) (ev_pos (by omega) (ev_pos (by omega) ?_)))
    exact topo_l0 hv l.length 0 _ (by omega) (by omega) (by simp) (fun x h0 h1 => by omega)
end Go.Proofs.Ytojhnjgnpjoacaa.Pure
