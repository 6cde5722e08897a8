/- What history.Order comes to: the order of the history ('ordr'), each commit behind its children, the newest first. -/
import Derived.Test.YtojhnjgnpjoacaaHist8
import Derived.Test.YtojhnjgnpjoacaaP19
import Derived.Test.YtojhnjgnpjoacaaP20
import Derived.Test.YtojhnjgnpjoacaaP21
namespace Go.Proofs.Ytojhnjgnpjoacaa.Hist
open Go.RowKit Go.Proofs.YtojhnjgnpjoacaaW.PrintWords Go.Proofs.YtojhnjgnpjoacaaW.PrintEv Go.Proofs.Ytojhnjgnpjoacaa.P
set_option linter.unusedVariables false

/-! the best of a list -/
theorem cfc_le {l : List C} {x y : Int} : ¬ 0 < cfc l x y ↔ tm l x < tm l y ∨ (tm l x = tm l y ∧ x ≤ y) := by
  have hx : tmc l x = tm l x := rfl
  have hy : tmc l y = tm l y := rfl
  unfold cfc
  rw [hx, hy]
  split <;> omega
theorem mxp_spec {l : List C} {r : List Int} : ∀ i, i < r.length → mxp l r i ∈ r ∧ ∀ j : Nat, j ≤ i → tm l (r.getD j 0) < tm l (mxp l r i) ∨ (tm l (r.getD j 0) = tm l (mxp l r i) ∧ r.getD j 0 ≤ mxp l r i) := by
  intro i
  have hg : ∀ j, j < r.length → r.getD j 0 ∈ r := fun j hj => by
    rw [List.getD_eq_getElem?_getD, List.getElem?_eq_getElem hj]; exact List.getElem_mem _
  induction i with
  | zero =>
    intro hi
    refine ⟨hg 0 hi, fun j hj => ?_⟩
    have : j = 0 := by omega
    subst this
    exact Or.inr ⟨rfl, Int.le_refl _⟩
  | succ i ih =>
    intro hi
    obtain ⟨h1, h2⟩ := ih (by omega)
    simp only [mxp]
    by_cases hc : 0 < cfc l (r.getD (i + 1) 0) (mxp l r i)
    · rw [if_pos hc]
      have hc' := mt cfc_le.2 (Decidable.not_not.2 hc)
      refine ⟨hg _ hi, fun j hj => ?_⟩
      by_cases e : j = i + 1
      · subst e; omega
      · have := h2 j (by omega); omega
    · rw [if_neg hc]
      have hc' := cfc_le.1 hc
      refine ⟨h1, fun j hj => ?_⟩
      by_cases e : j = i + 1
      · subst e; exact hc'
      · exact h2 j (by omega)
theorem mxp_best {l : List C} {o r : List Int} (hr : ∀ x, x ∈ r ↔ Rdy l o x) (hne : r ≠ []) : Newest l o (mxp l r (r.length - 1)) := by
  have hp : 0 < r.length := List.length_pos_iff.2 hne
  obtain ⟨h1, h2⟩ := mxp_spec (l := l) (r := r) (r.length - 1) (by omega)
  refine ⟨(hr _).1 h1, fun i hi => ?_⟩
  obtain ⟨j, hj, e⟩ := List.mem_iff_getElem.1 ((hr i).2 hi)
  have := h2 j (by omega)
  rw [List.getD_eq_getElem?_getD, List.getElem?_eq_getElem hj] at this
  simpa [e] using this
theorem take_rd {ps : List Int} {q : Nat} (h : q < ps.length) : ps.take (q + 1) = ps.take q ++ [rd ps (q : Int)] := by
  rw [List.take_succ_eq_append_getElem h, rd_nat ps h]
theorem mem_take_rd {ps : List Int} {x : Int} {q : Nat} (h : x ∈ ps.take q) : ∃ j : Int, 0 ≤ j ∧ j < q ∧ j < ps.length ∧ rd ps j = x := by
  obtain ⟨j, hj, e⟩ := List.mem_iff_getElem.1 h
  rw [List.length_take] at hj
  refine ⟨j, by omega, by omega, by omega, ?_⟩
  rw [rd_nat ps (by omega), ← e, List.getElem_take]
theorem mem_drop_rd {ps : List Int} {x : Int} {q : Nat} (h : x ∈ ps.drop q) : ∃ j : Int, q ≤ j ∧ j < ps.length ∧ rd ps j = x := by
  obtain ⟨j, hj, e⟩ := List.mem_iff_getElem.1 h
  rw [List.length_drop] at hj
  refine ⟨(q + j : Nat), by omega, by omega, ?_⟩
  rw [rd_nat ps (by omega), ← e, List.getElem_drop]

section
variable {l : List C} {R : List Int × Int × Int}
/-- A commit's parents, counted. -/
theorem ord_l1 (hv : Valid l) {i : Nat} (hi : i < l.length) {ps : List Int} (hps : ps = (rd_T49 l (i : Int)).f0) : ∀ (m q : Nat) (o : List Int), q + m = ps.length → o.length = l.length →
      (∀ x : Int, 0 ≤ x → x < l.length → rd o x = cni l i x + (if x ∈ ps.take q then 1 else 0)) →
      (∀ o' : List Int, o'.length = l.length → (∀ x : Int, 0 ≤ x → x < l.length → rd o' x = cni l (i + 1) x) → Ev (fun k => history_Order.l0 k o' l (l.length : Int) ((i + 1 : Nat) : Int) l) R) →
      Ev (fun k => history_Order.l1 k o l (l.length : Int) (i : Int) ps (ps.length : Int) (q : Int) l) R := by
  have hv60 := hv.len
  intro m
  induction m with
  | zero =>
    intro q o hq hl ho hR
    refine Ev.step (fun k_ => by rw [history_Order.l1]) ?_
    refine ev_neg (by omega) ?_
    rw [w64 (by omega)]
    refine hR o hl (fun x h0 h1 => ?_)
    rw [ho x h0 h1, List.take_of_length_le (by omega), cni_succ]
    congr 1
    have : x ∈ ps ↔ Par l (i : Int) x := ⟨fun h => ⟨by omega, by omega, by rw [← hps]; exact h⟩, fun h => by rw [hps]; exact h.2.2⟩
    by_cases h : x ∈ ps
    · rw [if_pos h, if_pos (this.1 h)]
    · rw [if_neg h, if_neg (fun h2 => h (this.2 h2))]
  | succ m ih =>
    intro q o hq hl ho hR
    have hpar := hv.par i q (by omega) (by omega) (by omega) (by rw [← hps]; omega)
    rw [← hps] at hpar
    have hplen := hv.plen i (by omega) (by omega)
    rw [← hps] at hplen
    have hnot : rd ps (q : Int) ∉ ps.take q := fun h => by
      obtain ⟨j, hj0, hjq, hjl, e⟩ := mem_take_rd h
      have := par_nodup hv (i := i) (by omega) (by omega) hj0 hjq (by rw [← hps]; omega)
      rw [← hps] at this
      omega
    have hop := ho _ hpar.1 (by omega)
    rw [if_neg hnot] at hop
    have hle := cni_le (l := l) (p := rd ps (q : Int)) i
    have hge := cni_nonneg (l := l) (p := rd ps (q : Int)) i
    refine Ev.step (fun k_ => by rw [history_Order.l1]) ?_
    refine ev_pos (by omega) (ev_pos (by omega) (ev_pos (by omega) (ev_pos hpar.1 (ev_pos (by omega) ?_))))
    rw [w64 (x := (q : Int) + 1) (by omega), w64 (by omega)]
    refine ih (q + 1) _ (by omega) (by rw [List.length_set]; exact hl) (fun x h0 h1 => ?_) hR
    rw [rd_set o _ hpar.1 (by omega) h0, take_rd (by omega)]
    by_cases e : x = rd ps (q : Int)
    · subst e
      rw [if_pos rfl, hop, if_pos (by simp)]
      omega
    · rw [if_neg e, ho x h0 h1]
      congr 1
      by_cases h : x ∈ ps.take q
      · rw [if_pos h, if_pos (List.mem_append_left _ h)]
      · rw [if_neg h, if_neg (fun h2 => (List.mem_append.1 h2).elim h (fun h3 => e (by simpa using h3)))]
theorem ord_l0 (hv : Valid l) (hR : ∀ o' : List Int, o'.length = l.length → (∀ x : Int, 0 ≤ x → x < l.length → rd o' x = cnt l [] x) → Ev (fun k => history_Order.l2 k o' [] o' (o'.length : Int) 0 l) R) :
    ∀ (m i : Nat) (o : List Int), i + m = l.length → o.length = l.length → (∀ x : Int, 0 ≤ x → x < l.length → rd o x = cni l i x) → Ev (fun k => history_Order.l0 k o l (l.length : Int) (i : Int) l) R := by
  have hv60 := hv.len
  intro m
  induction m with
  | zero =>
    intro i o hi hl ho
    refine Ev.step (fun k_ => by rw [history_Order.l0]) ?_
    refine ev_neg (by omega) (hR o hl (fun x h0 h1 => ?_))
    rw [ho x h0 h1, ← cni_all, show i = l.length by omega]
  | succ m ih =>
    intro i o hi hl ho
    refine Ev.step (fun k_ => by rw [history_Order.l0]) ?_
    refine ev_pos (by omega) (ev_pos (by omega) (ev_pos (by omega) ?_))
    exact ord_l1 hv (by omega) rfl (rd_T49 l (i : Int)).f0.length 0 o (by omega) hl (fun x h0 h1 => by rw [ho x h0 h1]; simp) (fun o' hl' ho' => ih (i + 1) o' (by omega) hl' ho')
theorem ord_l2 (hv : Valid l) {ws : List Int} (hw : ws.length = l.length) (hws : ∀ x : Int, 0 ≤ x → x < l.length → rd ws x = cnt l [] x)
    (hR : ∀ r : List Int, r.Nodup → (∀ x : Int, x ∈ r ↔ Rdy l [] x) → Ev (fun k => history_Order.l3 k ws r [] l) R) :
    ∀ (m i : Nat) (r : List Int), i + m = l.length → r.Nodup → (∀ x : Int, x ∈ r ↔ 0 ≤ x ∧ x < i ∧ cnt l [] x = 0) → Ev (fun k => history_Order.l2 k ws r ws (ws.length : Int) (i : Int) l) R := by
  have hv60 := hv.len
  intro m
  induction m with
  | zero =>
    intro i r hi hn hr
    refine Ev.step (fun k_ => by rw [history_Order.l2]) ?_
    refine ev_neg (by omega) (hR r hn (fun x => ?_))
    rw [hr x, rdy_iff]
    constructor
    · rintro ⟨h0, h1, h2⟩; exact ⟨h0, by omega, by simp, h2⟩
    · rintro ⟨h0, h1, _, h2⟩; exact ⟨h0, by omega, h2⟩
  | succ m ih =>
    intro i r hi hn hr
    have hrl : r.length ≤ l.length := by
      have := len_le_of_subset hn (ys := rng l.length) (fun x hx => mem_rng.2 ⟨((hr x).1 hx).1, by have := ((hr x).1 hx).2.1; omega⟩)
      rwa [rng_length] at this
    have hi' := hws i (by omega) (by omega)
    refine Ev.step (fun k_ => by rw [history_Order.l2]) ?_
    rw [w64 (by omega)]
    refine ev_pos (by omega) (ev_pos (by omega) (ev_pos (by omega) (ev_cases (fun h1 => ev_pos (by omega) ?_) (fun h1 => ?_))))
    · refine ih (i + 1) _ (by omega) ?_ (fun x => ?_)
      · rw [List.nodup_append]
        refine ⟨hn, by simp, fun a ha c hc e => ?_⟩
        have : c = i := by simpa using hc
        have := ((hr a).1 ha).2.1
        omega
      · rw [List.mem_append, hr x, List.mem_singleton]
        constructor
        · rintro (⟨h2, h3, h4⟩ | rfl)
          · exact ⟨h2, by omega, h4⟩
          · exact ⟨by omega, by omega, by omega⟩
        · rintro ⟨h2, h3, h4⟩
          by_cases e : x = i
          · exact Or.inr e
          · exact Or.inl ⟨h2, by omega, h4⟩
    · refine ih (i + 1) r (by omega) hn (fun x => ?_)
      rw [hr x]
      constructor
      · rintro ⟨h2, h3, h4⟩; exact ⟨h2, by omega, h4⟩
      · rintro ⟨h2, h3, h4⟩
        refine ⟨h2, ?_, h4⟩
        have : x ≠ i := fun e => h1 (by rw [hi', ← e]; exact h4)
        omega
/-- A listed commit's parents, each with one child less to wait for. -/
theorem ord_l4 (hv : Valid l) {o o' ps : List Int} {b : Int} (ho : Ord l o) (hb : Newest l o b) (ho' : o' = o ++ [b]) (hps : ps = (rd_T49 l b).f0)
    (hR : ∀ ws r : List Int, ws.length = l.length → (∀ x : Int, 0 ≤ x → x < l.length → rd ws x = cnt l o' x) → r.Nodup → (∀ x : Int, x ∈ r ↔ Rdy l o' x) → Ev (fun k => history_Order.l3 k ws r o' l) R) :
    ∀ (m q : Nat) (ws r : List Int), q + m = ps.length → ws.length = l.length → (∀ x : Int, 0 ≤ x → x < l.length → rd ws x = cnt l o' x + (if x ∈ ps.drop q then 1 else 0)) → r.Nodup →
      (∀ x : Int, x ∈ r ↔ 0 ≤ x ∧ x < l.length ∧ x ∉ o' ∧ rd ws x = 0) → Ev (fun k => history_Order.l4 k ws r o' ps (ps.length : Int) (q : Int) l) R := by
  have hv60 := hv.len
  have hb0 := hb.1.1
  have hbl := hb.1.2.1
  intro m
  induction m with
  | zero =>
    intro q ws r hq hw hws hn hr
    refine Ev.step (fun k_ => by rw [history_Order.l4]) ?_
    have hws' : ∀ x : Int, 0 ≤ x → x < l.length → rd ws x = cnt l o' x := fun x h0 h1 => by
      rw [hws x h0 h1, List.drop_eq_nil_of_le (by omega)]; simp
    refine ev_neg (by omega) (hR ws r hw hws' hn (fun x => ?_))
    rw [hr x, rdy_iff]
    constructor
    · rintro ⟨h0, h1, h2, h3⟩; exact ⟨h0, h1, h2, by rw [← hws' x h0 h1]; exact h3⟩
    · rintro ⟨h0, h1, h2, h3⟩; exact ⟨h0, h1, h2, by rw [hws' x h0 h1]; exact h3⟩
  | succ m ih =>
    intro q ws r hq hw hws hn hr
    have hrl : r.length ≤ l.length := by
      have := len_le_of_subset hn (ys := rng l.length) (fun x hx => mem_rng.2 ⟨((hr x).1 hx).1, ((hr x).1 hx).2.1⟩)
      rwa [rng_length] at this
    have hpar := hv.par b q hb0 hbl (by omega) (by rw [← hps]; omega)
    rw [← hps] at hpar
    obtain ⟨p, hp⟩ : ∃ p, p = rd ps (q : Int) := ⟨_, rfl⟩
    rw [← hp] at hpar
    have hplen := hv.plen b hb0 hbl
    rw [← hps] at hplen
    have hdrop : ps.drop q = p :: ps.drop (q + 1) := by rw [hp]; exact drop_cons_rd (by omega)
    have hpb : Par l b p := ⟨hb0, hbl, by rw [← hps, hp]; exact rd_mem (by omega) (by omega)⟩
    have hnot : p ∉ ps.drop (q + 1) := fun h => by
      obtain ⟨j, hj0, hjl, e⟩ := mem_drop_rd h
      have := par_nodup hv (i := b) hb0 hbl (j := q) (j' := j) (by omega) (by omega) (by rw [← hps]; omega)
      rw [← hps] at this
      omega
    have hpo : p ∉ o' := fun h => by
      rw [ho', List.mem_append, List.mem_singleton] at h
      rcases h with h | h
      · exact hb.1.2.2.1 (ho.good.2.2 p h b hpb)
      · omega
    have hwp := hws p hpar.1 (by omega)
    rw [hdrop, if_pos (by simp)] at hwp
    have hc0 := cnt_nonneg (l := l) (o := o') (p := p)
    have hc1 := cnt_le (l := l) (o := o') (p := p)
    have hset : ∀ x : Int, 0 ≤ x → x < l.length → rd (ws.set p.toNat (cnt l o' p)) x = cnt l o' x + (if x ∈ ps.drop (q + 1) then 1 else 0) := fun x h0 h1 => by
      rw [rd_set ws _ hpar.1 (by omega) h0]
      by_cases e : x = p
      · subst e; rw [if_pos rfl, if_neg hnot]; omega
      · rw [if_neg e, hws x h0 h1, hdrop]
        congr 1
        by_cases h : x ∈ ps.drop (q + 1)
        · rw [if_pos h, if_pos (List.mem_cons_of_mem _ h)]
        · rw [if_neg h, if_neg (fun h2 => (List.mem_cons.1 h2).elim e h)]
    have hold : ∀ x : Int, 0 ≤ x → x < l.length → x ≠ p → rd (ws.set p.toNat (cnt l o' p)) x = rd ws x := fun x h0 h1 e => by rw [rd_set ws _ hpar.1 (by omega) h0, if_neg e]
    have hnew : rd (ws.set p.toNat (cnt l o' p)) p = cnt l o' p := by rw [rd_set ws _ hpar.1 (by omega) hpar.1, if_pos rfl]
    refine Ev.step (fun k_ => by rw [history_Order.l4]) ?_
    rw [← hp, w64 (x := (q : Int) + 1) (by omega), hwp, w64 (x := cnt l o' p + 1 - 1) (by omega), show cnt l o' p + 1 - 1 = cnt l o' p by omega]
    refine ev_pos (by omega) (ev_pos (by omega) (ev_pos (by omega) (ev_pos hpar.1 (ev_pos (by omega) (ev_some ?_)))))
    rw [hnew]
    refine ev_cases (fun h1 => ev_pos (by omega) ?_) (fun h1 => ?_)
    · refine ih (q + 1) _ _ (by omega) (by rw [List.length_set]; exact hw) hset ?_ (fun x => ?_)
      · rw [List.nodup_append]
        refine ⟨hn, by simp, fun a ha c hc e => ?_⟩
        have : c = p := by simpa using hc
        have := ((hr a).1 ha).2.2.2
        rw [e, ‹c = p›] at this
        omega
      · rw [List.mem_append, List.mem_singleton]
        constructor
        · rintro (h | rfl)
          · have h' := (hr x).1 h
            have : x ≠ p := fun e => by
              have := h'.2.2.2
              rw [e] at this
              omega
            exact ⟨h'.1, h'.2.1, h'.2.2.1, by rw [hold x h'.1 h'.2.1 this]; exact h'.2.2.2⟩
          · exact ⟨hpar.1, by omega, hpo, by rw [hnew]; exact h1⟩
        · rintro ⟨h2, h3, h4, h5⟩
          by_cases e : x = p
          · exact Or.inr e
          · exact Or.inl ((hr x).2 ⟨h2, h3, h4, by rw [← hold x h2 h3 e]; exact h5⟩)
    · refine ih (q + 1) _ r (by omega) (by rw [List.length_set]; exact hw) hset hn (fun x => ?_)
      rw [hr x]
      constructor
      · rintro ⟨h2, h3, h4, h5⟩
        have : x ≠ p := fun e => by rw [e] at h5; omega
        exact ⟨h2, h3, h4, by rw [hold x h2 h3 this]; exact h5⟩
      · rintro ⟨h2, h3, h4, h5⟩
        have : x ≠ p := fun e => by rw [e, hnew] at h5; exact h1 h5
        exact ⟨h2, h3, h4, by rw [← hold x h2 h3 this]; exact h5⟩
theorem ord_l3 (hv : Valid l) : ∀ (m : Nat) (o ws r : List Int), o.length + m = l.length → Ord l o → ws.length = l.length → (∀ x : Int, 0 ≤ x → x < l.length → rd ws x = cnt l o x) → r.Nodup → (∀ x : Int, x ∈ r ↔ Rdy l o x) →
    Ev (fun k => history_Order.l3 k ws r o l) (ordr l, 0, 0) := by
  have hv60 := hv.len
  intro m
  induction m with
  | zero =>
    intro o ws r hm ho hw hws hn hr
    have hnil : r = [] := by
      apply List.eq_nil_iff_forall_not_mem.2
      intro x hx
      have h := (hr x).1 hx
      exact h.2.2.1 (ho.full (by omega) h.1 h.2.1)
    refine Ev.step (fun k_ => by rw [history_Order.l3]) ?_
    refine ev_neg (by simp [hnil]) ?_
    rw [ho.eq hv (by omega)]
    exact ev_now _
  | succ m ih =>
    intro o ws r hm ho hw hws hn hr
    have hne : r ≠ [] := by
      obtain ⟨b, hb⟩ := ho.ready hv (by omega)
      intro e
      have := (hr b).2 hb
      rw [e] at this
      simp at this
    have hp : 0 < r.length := List.length_pos_iff.2 hne
    have hrl : r.length ≤ l.length := by
      have := len_le_of_subset hn (ys := rng l.length) (fun x hx => mem_rng.2 ⟨((hr x).1 hx).1, ((hr x).1 hx).2.1⟩)
      rwa [rng_length] at this
    have hb := mxp_best hr hne
    obtain ⟨b, hbe⟩ : ∃ b, b = mxp l r (r.length - 1) := ⟨_, rfl⟩
    rw [← hbe] at hb
    have ht : ∀ c ∈ l, 0 ≤ c.f2 ∧ c.f2 ≤ 1000000 := fun c hc => by
      obtain ⟨j, hj, e⟩ := List.mem_iff_getElem.1 hc
      have := (hv.good j (by omega) (by omega)).1
      unfold bad at this
      have e2 : rd_T49 l (j : Int) = c := by simp [rd_T49, List.getD_eq_getElem?_getD, List.getElem?_eq_getElem hj, e]
      rw [e2] at this
      omega
    have hmf : slices_MaxFunc_int_int.f r l = some (b, r) := by
      unfold slices_MaxFunc_int_int.f
      rw [if_pos ⟨hne, fun x hx => ⟨((hr x).1 hx).1, ((hr x).1 hx).2.1⟩, ht, by omega, by omega⟩, hbe]
    have hdf : slices_DeleteFunc_int_int.f r b = some (r.filter fun x => !(x == b)) := by
      unfold slices_DeleteFunc_int_int.f
      rw [if_pos ⟨hne, by omega⟩]
    refine Ev.step (fun k_ => by rw [history_Order.l3]) ?_
    refine ev_pos (by omega) (ev_const hmf (ev_const hdf (ev_pos (by omega) (ev_pos hb.1.1 (ev_pos hb.1.2.1 ?_)))))
    refine ord_l4 hv ho hb rfl rfl (fun ws' r' hw' hws' hn' hr' => ih _ ws' r' (by simp; omega) (.snoc ho hb) hw' hws' hn' hr') (rd_T49 l b).f0.length 0 ws _ (by omega) hw (fun x h0 h1 => ?_) (hn.filter _) (fun x => ?_)
    · rw [hws x h0 h1, cnt_snoc hb.1.1 hb.1.2.1 hb.1.2.2.1, List.drop_zero]
      congr 1
      by_cases h : Par l b x
      · rw [if_pos h, if_pos h.2.2]
      · rw [if_neg h, if_neg (fun h2 => h ⟨hb.1.1, hb.1.2.1, h2⟩)]
    · simp only [List.mem_filter, Bool.not_eq_true', beq_eq_false_iff_ne, hr x, rdy_iff, List.mem_append, List.mem_singleton, not_or]
      constructor
      · rintro ⟨⟨h0, h1, h2, h3⟩, h4⟩; exact ⟨h0, h1, ⟨h2, h4⟩, by rw [hws x h0 h1]; exact h3⟩
      · rintro ⟨h0, h1, ⟨h2, h4⟩, h3⟩; exact ⟨⟨h0, h1, h2, by rw [← hws x h0 h1]; exact h3⟩, h4⟩
end
noncomputable def ordR (l : List C) : List Int × Int × Int := if (vf l).1 ≠ 0 then ([], vf l) else (ordr l, 0, 0)
theorem order_ev {l : List C} (hp : ∀ x ∈ l, S49.ok x) : Ev (fun k => history_Order.f k l) (ordR l) := by
  unfold history_Order.f ordR
  refine ev_bind (validate_ev hp) ?_
  by_cases h : (vf l).1 ≠ 0
  · rw [if_pos h]
    refine ev_pos (flt_yes h) ?_
    exact ev_now _
  · obtain ⟨e, hv⟩ := vf_zero (Decidable.not_not.1 h)
    have hv60 := hv.len
    rw [if_neg h, e]
    refine ev_neg (by decide) (ev_pos (by omega) (ev_pos (by omega) ?_))
    refine ord_l0 hv (fun o' hl' ho' => ?_) l.length 0 _ (by omega) (by simp) (fun x h0 h1 => ?_)
    · refine ord_l2 hv hl' ho' (fun r hn hr => ord_l3 hv l.length [] o' r (by simp) .nil hl' ho' hn hr) l.length 0 [] (by omega) List.nodup_nil (fun x => ?_)
      constructor
      · intro h; exact absurd h (by simp)
      · rintro ⟨h0, h1, _⟩; omega
    · have : rd (List.replicate ((l.length : Int)).toNat 0) x = 0 := rdOf_replicate 0 _ x
      rw [this, cni_zero]
end Go.Proofs.Ytojhnjgnpjoacaa.Hist
