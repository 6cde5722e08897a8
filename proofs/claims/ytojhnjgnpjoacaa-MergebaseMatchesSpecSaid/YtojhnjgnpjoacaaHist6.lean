/- The reference's best common ancestors: what they come to. -/
import Derived.Test.YtojhnjgnpjoacaaHist5
import Derived.Test.YtojhnjgnpjoacaaP9
namespace Go.Proofs.Ytojhnjgnpjoacaa.Hist
open Go.RowKit Go.Proofs.YtojhnjgnpjoacaaW.PrintWords Go.Proofs.YtojhnjgnpjoacaaW.PrintEv Go.Proofs.Ytojhnjgnpjoacaa.P
set_option linter.unusedVariables false

section
variable {l : List C} {ns : List Int} {R : List Int}
theorem bo_l1 (hv : Valid l) (hns : ∀ j : Int, 0 ≤ j → j < ns.length → 0 ≤ rd ns j ∧ rd ns j < l.length) (hnl : (ns.length : Int) ≤ 1000) {i : Int} (h0 : 0 ≤ i) (hi : i < l.length) :
    ∀ (m : Nat) (q : Int) (o : List Bool), 0 ≤ q → q + m = ns.length → o.length = l.length →
      (∀ o' : List Bool, o'.length = l.length → (∀ y : Int, 0 ≤ y → y ≠ i → rdOf false o' y = rdOf false o y) → (rdOf false o' i = true ↔ (rdOf false o i = true ∧ ∀ j : Int, q ≤ j → j < ns.length → Anc l (rd ns j) i)) → Ev (fun k => changeforgeref3_BestOf.l0 k l ns (reach l l.length) o' (wrap64 (i + 1))) R) →
      Ev (fun k => changeforgeref3_BestOf.l1 k l ns (reach l l.length) o i q) R := by
  have hv60 := hv.len
  intro m
  induction m with
  | zero =>
    intro q o hq0 hq hl hR
    refine Ev.step (fun k_ => by rw [changeforgeref3_BestOf.l1]) ?_
    refine ev_neg (by omega) ?_
    exact hR o hl (fun y _ _ => rfl) ⟨fun h => ⟨h, fun j h1 h2 => by omega⟩, fun h => h.1⟩
  | succ m ih =>
    intro q o hq0 hq hl hR
    have hb := hns q hq0 (by omega)
    have ha : rdOf false (ancs l (rd ns q)) i = true ↔ Anc l (rd ns q) i := ancs_rd h0 hi
    have key : ∀ b : Bool, (b = true ↔ (rdOf false o i = true ∧ Anc l (rd ns q) i)) → Ev (fun k => changeforgeref3_BestOf.l1 k l ns (reach l l.length) (o.set i.toNat b) i (wrap64 (q + 1))) R := by
      intro b hb
      rw [w64 (by omega)]
      refine ih (q + 1) _ (by omega) (by omega) (by rw [List.length_set]; exact hl) (fun o' hl' h1 h2 => hR o' hl' (fun y hy0 hy => ?_) ?_)
      · rw [h1 y hy0 hy, rdOf_set false o b h0 (by omega) hy0, if_neg hy]
      · rw [h2, rdOf_set false o b h0 (by omega) h0, if_pos rfl, hb]
        constructor
        · rintro ⟨⟨h3, h4⟩, h5⟩
          refine ⟨h3, fun j h6 h7 => ?_⟩
          by_cases e : j = q
          · subst e; exact h4
          · exact h5 j (by omega) h7
        · rintro ⟨h3, h4⟩
          exact ⟨⟨h3, h4 q (Int.le_refl _) (by omega)⟩, fun j h6 h7 => h4 j (by omega) h7⟩
    have hlen : ((reach l l.length).length : Int) = l.length := by rw [reach_length]
    refine Ev.step (fun k_ => by rw [changeforgeref3_BestOf.l1]) ?_
    refine ev_pos (by omega) (ev_pos h0 (ev_pos (by omega) (ev_cases (fun h1 => ?_) (fun h1 => ?_))))
    · refine ev_pos hq0 (ev_pos hb.1 (ev_pos (by omega) ?_))
      rw [reach_rd hb.1 hb.2]
      refine ev_pos (by rw [ancs_length]; omega) ?_
      exact key _ (by rw [ha]; simp [h1])
    · exact key false (by simp [h1])
theorem bo_l0 (hv : Valid l) (hns : ∀ j : Int, 0 ≤ j → j < ns.length → 0 ≤ rd ns j ∧ rd ns j < l.length) (hnl : (ns.length : Int) ≤ 1000)
    (hR : ∀ o' : List Bool, o'.length = l.length → (∀ y : Int, 0 ≤ y → y < l.length → (rdOf false o' y = true ↔ Com l ns y)) → Ev (fun k => changeforgeref3_BestOf.l2 k l (reach l l.length) o' [] 0) R) :
    ∀ (m : Nat) (i : Int) (o : List Bool), 0 ≤ i → i + m = l.length → o.length = l.length → (∀ y : Int, 0 ≤ y → y < i → (rdOf false o y = true ↔ Com l ns y)) →
      Ev (fun k => changeforgeref3_BestOf.l0 k l ns (reach l l.length) o i) R := by
  have hv60 := hv.len
  intro m
  induction m with
  | zero =>
    intro i o h0 hi hl ho
    refine Ev.step (fun k_ => by rw [changeforgeref3_BestOf.l0]) ?_
    refine ev_neg (by omega) ?_
    exact hR o hl (fun y hy0 hy => ho y hy0 (by omega))
  | succ m ih =>
    intro i o h0 hi hl ho
    refine Ev.step (fun k_ => by rw [changeforgeref3_BestOf.l0]) ?_
    refine ev_pos (by omega) (ev_pos h0 (ev_pos (by omega) ?_))
    refine bo_l1 hv hns hnl h0 (by omega) ns.length 0 _ (by omega) (by omega) (by rw [List.length_set]; exact hl) (fun o' hl' h1 h2 => ?_)
    rw [w64 (by omega)]
    refine ih (i + 1) o' (by omega) (by omega) hl' (fun y hy0 hy => ?_)
    by_cases e : y = i
    · subst e
      rw [h2, rdOf_set false o true h0 (by omega) h0, if_pos rfl]
      constructor
      · rintro ⟨_, h3⟩ n hn
        obtain ⟨j, hj0, hj, rfl⟩ := mem_rd hn
        exact h3 j hj0 hj
      · intro h
        exact ⟨rfl, fun j hj0 hj => h _ (rd_mem hj0 hj)⟩
    · rw [h1 y hy0 e, rdOf_set false o true h0 (by omega) hy0, if_neg e]
      exact ho y hy0 (by omega)
theorem bo_l3 (hv : Valid l) {o : List Bool} (hl : o.length = l.length) {out : List Int} (hol : (out.length : Int) ≤ 60) {i : Int} (h0 : 0 ≤ i) (hi : i < l.length) {Q : Int → Prop} (hQ : ∀ y : Int, 0 ≤ y → y < l.length → (rdOf false o y = true ↔ Q y))
    (hyes : Bst l Q i → Ev (fun k => changeforgeref3_BestOf.l2 k l (reach l l.length) o (out ++ [i]) (i + 1)) R) (hno : ¬ Bst l Q i → Ev (fun k => changeforgeref3_BestOf.l2 k l (reach l l.length) o out (i + 1)) R) :
    ∀ (m : Nat) (q : Int) (b : Bool), 0 ≤ q → q + m = l.length → (b = true ↔ (Q i ∧ ∀ j : Int, 0 ≤ j → j < q → Q j → Anc l j i → j = i)) → Ev (fun k => changeforgeref3_BestOf.l3 k l (reach l l.length) o out i b q) R := by
  have hv60 := hv.len
  intro m
  induction m with
  | zero =>
    intro q b hq0 hq hb
    have hB : b = true ↔ Bst l Q i := by
      rw [hb]
      exact ⟨fun h => ⟨h.1, fun j hj0 hj => h.2 j hj0 (by omega)⟩, fun h => ⟨h.1, fun j hj0 hj => h.2 j hj0 (by omega)⟩⟩
    refine Ev.step (fun k_ => by rw [changeforgeref3_BestOf.l3]) ?_
    refine ev_neg (by omega) (ev_cases (fun h => ev_pos (by omega) ?_) (fun h => ?_))
    · rw [w64 (by omega)]; exact hyes (hB.1 h)
    · rw [w64 (by omega)]; exact hno (fun h' => h (hB.2 h'))
  | succ m ih =>
    intro q b hq0 hq hb
    have ha : rdOf false (ancs l q) i = true ↔ Anc l q i := ancs_rd h0 hi
    have hlen : ((reach l l.length).length : Int) = l.length := by rw [reach_length]
    have key : ∀ b' : Bool, (b' = true ↔ (b = true ∧ (Q q → Anc l q i → q = i))) → Ev (fun k => changeforgeref3_BestOf.l3 k l (reach l l.length) o out i b' (wrap64 (q + 1))) R := by
      intro b' hb'
      rw [w64 (by omega)]
      refine ih (q + 1) b' (by omega) (by omega) ?_
      rw [hb', hb]
      constructor
      · rintro ⟨⟨h1, h2⟩, h3⟩
        refine ⟨h1, fun j hj0 hj hjq hja => ?_⟩
        by_cases e : j = q
        · subst e; exact h3 hjq hja
        · exact h2 j hj0 (by omega) hjq hja
      · rintro ⟨h1, h2⟩
        exact ⟨⟨h1, fun j hj0 hj => h2 j hj0 (by omega)⟩, h2 q hq0 (by omega)⟩
    refine Ev.step (fun k_ => by rw [changeforgeref3_BestOf.l3]) ?_
    refine ev_pos (by omega) (ev_cases (fun h1 => key b ⟨fun h => ⟨h, fun _ _ => h1⟩, fun h => h.1⟩) (fun h1 => ev_pos hq0 (ev_pos (by omega) (ev_cases (fun h2 => ev_pos (by omega) (ev_pos h0 ?_)) (fun h2 => key b ⟨fun h => ⟨h, fun h3 => absurd ((hQ q hq0 (by omega)).2 h3) h2⟩, fun h => h.1⟩)))))
    rw [reach_rd hq0 (by omega)]
    refine ev_pos (by rw [ancs_length]; omega) (ev_cases (fun h3 => key false ?_) (fun h3 => key b ⟨fun h => ⟨h, fun _ h4 => absurd (ha.2 h4) h3⟩, fun h => h.1⟩))
    constructor
    · intro h; exact absurd h (by decide)
    · rintro ⟨_, h⟩; exact absurd (h ((hQ q hq0 (by omega)).1 h2) (ha.1 h3)) h1
theorem bo_l2 (hv : Valid l) {o : List Bool} (hl : o.length = l.length) {Q : Int → Prop} (hQ : ∀ y : Int, 0 ≤ y → y < l.length → (rdOf false o y = true ↔ Q y)) :
    ∀ (m n : Nat) (i : Int), (n : Int) = i → i + m = l.length → Ev (fun k => changeforgeref3_BestOf.l2 k l (reach l l.length) o (lst (Bst l Q) n 0) i) (lst (Bst l Q) l.length 0) := by
  have hv60 := hv.len
  intro m
  induction m with
  | zero =>
    intro n i hn hi
    refine Ev.step (fun k_ => by rw [changeforgeref3_BestOf.l2]) ?_
    refine ev_neg (by omega) ?_
    have : n = l.length := by omega
    rw [this]; exact ev_now _
  | succ m ih =>
    intro n i hn hi
    have hll := lst_length (P := Bst l Q) (n := n) (i := 0)
    have hs := lst_snoc (P := Bst l Q) (n := n) (i := 0)
    rw [show (0 : Int) + n = i by omega] at hs
    refine Ev.step (fun k_ => by rw [changeforgeref3_BestOf.l2]) ?_
    refine ev_pos (by omega) (ev_pos (by omega) (ev_pos (by omega) ?_))
    refine bo_l3 hv hl (by omega) (by omega) (by omega) hQ (fun h => ?_) (fun h => ?_) l.length 0 _ (by omega) (by omega) ⟨fun h => ⟨(hQ i (by omega) (by omega)).1 h, fun j hj0 hj => by omega⟩, fun h => (hQ i (by omega) (by omega)).2 h.1⟩
    · rw [lst_yes h] at hs
      have := ih (n + 1) (i + 1) (by omega) (by omega)
      rw [hs] at this; exact this
    · rw [lst_no h] at hs
      have := ih (n + 1) (i + 1) (by omega) (by omega)
      rw [hs] at this
      have e : lst (Bst l Q) n 0 ++ lst (Bst l Q) 0 (i + 1) = lst (Bst l Q) n 0 := List.append_nil _
      rw [e] at this; exact this
theorem bestof_ev (hv : Valid l) (hns : ∀ x ∈ ns, 0 ≤ x ∧ x < l.length) (hnl : (ns.length : Int) ≤ 1000) : Ev (fun k => changeforgeref3_BestOf.f k l ns) (commons l ns) := by
  have hv60 := hv.len
  unfold changeforgeref3_BestOf.f
  refine ev_bind (reach_ev hv) (ev_pos (by omega) (ev_pos (by omega) ?_))
  refine bo_l0 hv (fun j hj0 hj => hns _ (rd_mem hj0 hj)) hnl (fun o' hl' ho' => bo_l2 hv hl' ho' l.length 0 0 (by omega) (by omega)) l.length 0 _ (by omega) (by omega) (by simp) (fun y hy0 hy => by omega)
end
end Go.Proofs.Ytojhnjgnpjoacaa.Hist
