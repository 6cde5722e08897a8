/- The reference's lists of a history (its heads, its order, its generations) and history.Generations: what they come to. -/
import Derived.Test.YtojhnjgnpjoacaaHist11
import Derived.Test.YtojhnjgnpjoacaaP28
import Derived.Test.YtojhnjgnpjoacaaP29
import Derived.Test.YtojhnjgnpjoacaaP30
import Derived.Test.YtojhnjgnpjoacaaP31
import Derived.Test.YtojhnjgnpjoacaaP32
namespace Go.Proofs.Ytojhnjgnpjoacaa.Hist
open Go.RowKit Go.Proofs.YtojhnjgnpjoacaaW.PrintWords Go.Proofs.YtojhnjgnpjoacaaW.PrintEv Go.Proofs.Ytojhnjgnpjoacaa.P
set_option linter.unusedVariables false

theorem has_l0 {xs : List Int} {x : Int} (hl : (xs.length : Int) ≤ 1000000) : ∀ (m i : Nat), i + m = xs.length → Ev (fun k => changeforgeref3_Has.l0 k xs x (i : Int)) (decide (x ∈ xs.drop i)) := by
  intro m
  induction m with
  | zero =>
    intro i hi
    refine Ev.step (fun k_ => by rw [changeforgeref3_Has.l0]) ?_
    refine ev_neg (by omega) ?_
    rw [List.drop_eq_nil_of_le (by omega)]
    exact ev_now _
  | succ m ih =>
    intro i hi
    have ih' := ih (i + 1) (by omega)
    have hd := drop_cons_rd (xs := xs) (i := i) (by omega)
    refine Ev.step (fun k_ => by rw [changeforgeref3_Has.l0]) ?_
    rw [w64 (by omega)]
    refine ev_pos (by omega) (ev_pos (by omega) (ev_cases (fun h1 => ?_) (fun h1 => ?_)))
    · rw [hd, decide_eq_true (by rw [h1]; simp)]
      exact ev_now _
    · have : (x ∈ xs.drop i) ↔ (x ∈ xs.drop (i + 1)) := by
        rw [hd, List.mem_cons]
        exact ⟨fun h => h.resolve_left (fun e => h1 e.symm), Or.inr⟩
      rw [decide_eq_decide.2 this]
      exact ih'
theorem has_ev {xs : List Int} {x : Int} (hl : (xs.length : Int) ≤ 1000000) : Ev (fun k => changeforgeref3_Has.f k xs x) (decide (x ∈ xs)) := by
  have := has_l0 (x := x) hl xs.length 0 (by omega)
  rw [List.drop_zero] at this
  exact this
section
variable {l : List C}
theorem mem_par {k x : Int} (h0 : 0 ≤ k) (h1 : k < l.length) : x ∈ (rd_T49 l k).f0 ↔ Par l k x := ⟨fun h => ⟨h0, h1, h⟩, fun h => h.2.2⟩

/-! heads -/
theorem hof_l1 (hv : Valid l) {i : Int} {o : List Int} {R : List Int} {B : Prop} (ho : o.length < 17592186044416) (hi0 : 0 ≤ i) (hi : i < 60) (hyes : (∃ k, Par l k i) → Ev (fun k => changeforgeref3_HeadsOf.l0 k l o (i + 1)) R) (hno : (¬ ∃ k, Par l k i) → Ev (fun k => changeforgeref3_HeadsOf.l0 k l (o ++ [i]) (i + 1)) R) :
    ∀ (m : Nat) (q : Int) (b : Bool), 0 ≤ q → q + m = l.length → (b = true ↔ ∃ k, k < q ∧ Par l k i) → Ev (fun k => changeforgeref3_HeadsOf.l1 k l o i b q) R := by
  have hv60 := hv.len
  intro m
  induction m with
  | zero =>
    intro q b h0 hq hb
    have hx : (∃ k, k < q ∧ Par l k i) ↔ ∃ k, Par l k i := ⟨fun ⟨k, _, h⟩ => ⟨k, h⟩, fun ⟨k, h⟩ => ⟨k, by have := h.2.1; omega, h⟩⟩
    rw [hx] at hb
    refine Ev.step (fun k_ => by rw [changeforgeref3_HeadsOf.l1]) ?_
    rw [w64 (x := i + 1) (by omega)]
    refine ev_neg (by omega) (ev_cases (fun h => hyes (hb.1 h)) (fun h => ev_pos ho (hno (fun h2 => h (hb.2 h2)))))
  | succ m ih =>
    intro q b h0 hq hb
    have hplen := hv.plen q h0 (by omega)
    refine Ev.step (fun k_ => by rw [changeforgeref3_HeadsOf.l1]) ?_
    rw [w64 (by omega)]
    refine ev_pos (by omega) (ev_cases (fun h => ?_) (fun h => ev_pos h0 (ev_bind (has_ev (by omega)) ?_)))
    · refine ih (q + 1) true (by omega) (by omega) ⟨fun _ => ?_, fun _ => rfl⟩
      obtain ⟨k, h1, h2⟩ := hb.1 h
      exact ⟨k, by omega, h2⟩
    · refine ih (q + 1) _ (by omega) (by omega) ?_
      rw [decide_eq_true_eq, mem_par h0 (by omega)]
      constructor
      · intro h1; exact ⟨q, by omega, h1⟩
      · rintro ⟨k, h1, h2⟩
        by_cases e : k = q
        · rw [← e]; exact h2
        · exact absurd (hb.2 ⟨k, by omega, h2⟩) h
theorem hof_l0 (hv : Valid l) : ∀ (m i : Nat), i + m = l.length → Ev (fun k => changeforgeref3_HeadsOf.l0 k l (headf l i) (i : Int)) (heads l) := by
  have hv60 := hv.len
  intro m
  induction m with
  | zero =>
    intro i hi
    refine Ev.step (fun k_ => by rw [changeforgeref3_HeadsOf.l0]) ?_
    refine ev_neg (by omega) ?_
    rw [show i = l.length by omega]
    exact ev_now _
  | succ m ih =>
    intro i hi
    have ih' := ih (i + 1) (by omega)
    have hle := headf_length l i
    refine Ev.step (fun k_ => by rw [changeforgeref3_HeadsOf.l0]) ?_
    refine ev_pos (by omega) (hof_l1 (B := True) hv (by omega) (by omega) (by omega) (fun h => ?_) (fun h => ?_) l.length 0 false (by omega) (by omega) ⟨fun h => absurd h (by decide), fun ⟨k, h1, h2⟩ => by have := h2.1; omega⟩)
    · rw [headf_no] at ih'
      · exact ih'
      · intro h2
        obtain ⟨k, hk⟩ := h
        exact absurd (cnt_zero.1 h2 k hk) (by simp)
    · rw [headf_yes] at ih'
      · exact ih'
      · exact cnt_zero.2 (fun k hk => absurd ⟨k, hk⟩ h)
theorem hof_ev (hv : Valid l) : Ev (fun k => changeforgeref3_HeadsOf.f k l) (heads l) := hof_l0 hv l.length 0 (by omega)

/-! the order -/
theorem oof_l2 (hv : Valid l) {o : List Int} {b i : Int} {R : List Int} (hol : (o.length : Int) ≤ 1000) (hi0 : 0 ≤ i) (hi : i < l.length) (hb : b < 0 ∨ (0 ≤ b ∧ b < l.length))
    (hR : ∀ b' : Int, ((¬ Rdy l o i ∨ (0 ≤ b ∧ tm l i < tm l b)) → b' = b) → (Rdy l o i → (b < 0 ∨ tm l b ≤ tm l i) → b' = i) → Ev (fun k => changeforgeref3_OrderOf.l1 k l o b' (i + 1)) R) :
    ∀ (m : Nat) (q : Int) (f : Bool), 0 ≤ q → q + m = l.length → (f = true ↔ (i ∉ o ∧ ∀ k, k < q → Par l k i → k ∈ o)) → Ev (fun k => changeforgeref3_OrderOf.l2 k l o b i f q) R := by
  have hv60 := hv.len
  intro m
  induction m with
  | zero =>
    intro q f h0 hq hf
    have hrd : f = true ↔ Rdy l o i := by
      rw [hf]
      unfold Rdy
      exact ⟨fun ⟨h1, h2⟩ => ⟨hi0, hi, h1, fun k hk => h2 k (by have := hk.2.1; omega) hk⟩, fun ⟨_, _, h1, h2⟩ => ⟨h1, fun k _ hk => h2 k hk⟩⟩
    refine Ev.step (fun k_ => by rw [changeforgeref3_OrderOf.l2]) ?_
    rw [w64 (x := i + 1) (by omega)]
    refine ev_neg (by omega) (ev_cases (fun h1 => ?_) (fun h1 => ?_))
    · have hr := hrd.1 h1
      refine ev_cases (fun h2 => ?_) (fun h2 => ?_)
      · exact hR i (fun h => h.elim (fun h => absurd hr h) (fun h => by omega)) (fun _ _ => rfl)
      · refine ev_pos hi0 (ev_pos hi (ev_pos (by omega) (ev_pos (by omega) (ev_cases (fun h3 => ?_) (fun h3 => ?_)))))
        · have h3 : tm l b ≤ tm l i := h3
          exact hR i (fun h => h.elim (fun h => absurd hr h) (fun h => by omega)) (fun _ _ => rfl)
        · have h3 : ¬ tm l b ≤ tm l i := h3
          exact hR b (fun _ => rfl) (fun _ h => by omega)
    · exact hR b (fun _ => rfl) (fun h => absurd (hrd.2 h) h1)
  | succ m ih =>
    intro q f h0 hq hf
    have hplen := hv.plen q h0 (by omega)
    refine Ev.step (fun k_ => by rw [changeforgeref3_OrderOf.l2]) ?_
    rw [w64 (by omega)]
    refine ev_pos (by omega) (ev_pos h0 (ev_bind (has_ev (by omega)) (ev_cases (fun h1 => ev_bind (has_ev (by omega)) (ev_cases (fun h2 => ?_) (fun h2 => ?_))) (fun h1 => ?_))))
    · have h2 := of_decide_eq_true h2
      refine ih (q + 1) f (by omega) (by omega) ?_
      rw [hf]
      exact ⟨fun ⟨h3, h4⟩ => ⟨h3, fun k hk hp => by
        by_cases e : k = q
        · rw [e]; exact h2
        · exact h4 k (by omega) hp⟩, fun ⟨h3, h4⟩ => ⟨h3, fun k hk hp => h4 k (by omega) hp⟩⟩
    · have h1 := (mem_par h0 (by omega)).1 (of_decide_eq_true h1)
      refine ih (q + 1) false (by omega) (by omega) ⟨fun h => absurd h (by decide), fun ⟨h3, h4⟩ => ?_⟩
      exact absurd (decide_eq_true (h4 q (by omega) h1)) h2
    · have h1 : ¬ Par l q i := fun h => h1 (decide_eq_true ((mem_par h0 (by omega)).2 h))
      refine ih (q + 1) f (by omega) (by omega) ?_
      rw [hf]
      exact ⟨fun ⟨h3, h4⟩ => ⟨h3, fun k hk hp => by
        by_cases e : k = q
        · rw [e] at hp; exact absurd hp h1
        · exact h4 k (by omega) hp⟩, fun ⟨h3, h4⟩ => ⟨h3, fun k hk hp => h4 k (by omega) hp⟩⟩
theorem oof_l1 (hv : Valid l) {o : List Int} {R : List Int} (hol : (o.length : Int) ≤ 1000) (hrdy : ∃ b, Rdy l o b) (hR : ∀ b, Newest l o b → Ev (fun k => changeforgeref3_OrderOf.l0 k l (o ++ [b])) R) :
    ∀ (m : Nat) (i b : Int), 0 ≤ i → i + m = l.length → ((b < 0 ∧ ∀ j, j < i → ¬ Rdy l o j) ∨ (Rdy l o b ∧ b < i ∧ ∀ j, j < i → Rdy l o j → tm l j < tm l b ∨ (tm l j = tm l b ∧ j ≤ b))) → Ev (fun k => changeforgeref3_OrderOf.l1 k l o b i) R := by
  have hv60 := hv.len
  intro m
  induction m with
  | zero =>
    intro i b h0 hi hb
    refine Ev.step (fun k_ => by rw [changeforgeref3_OrderOf.l1]) ?_
    refine ev_neg (by omega) (ev_pos (by omega) (hR b ?_))
    rcases hb with ⟨_, h⟩ | ⟨h1, _, h2⟩
    · obtain ⟨x, hx⟩ := hrdy
      exact absurd hx (h x (by have := hx.2.1; omega))
    · exact ⟨h1, fun j hj => h2 j (by have := hj.2.1; omega) hj⟩
  | succ m ih =>
    intro i b h0 hi hb
    refine Ev.step (fun k_ => by rw [changeforgeref3_OrderOf.l1]) ?_
    refine ev_pos (by omega) (ev_bind (has_ev (by omega)) ?_)
    refine oof_l2 hv hol h0 (by omega) ?_ (fun b' h1 h2 => ih (i + 1) b' (by omega) (by omega) ?_) l.length 0 _ (by omega) (by omega) ?_
    · rcases hb with h | h
      · exact Or.inl h.1
      · exact Or.inr ⟨h.1.1, h.1.2.1⟩
    · by_cases hr : Rdy l o i
      · rcases hb with ⟨h3, h4⟩ | ⟨h3, h4, h5⟩
        · have e := h2 hr (Or.inl h3)
          subst e
          refine Or.inr ⟨hr, by omega, fun j hj hj2 => ?_⟩
          by_cases e : j = b'
          · subst e; omega
          · exact absurd hj2 (h4 j (by omega))
        · by_cases h6 : tm l b ≤ tm l i
          · have e := h2 hr (Or.inr h6)
            subst e
            refine Or.inr ⟨hr, by omega, fun j hj hj2 => ?_⟩
            by_cases e : j = b'
            · subst e; omega
            · have := h5 j (by omega) hj2; omega
          · have e := h1 (Or.inr ⟨h3.1, by omega⟩)
            subst e
            refine Or.inr ⟨h3, by omega, fun j hj hj2 => ?_⟩
            by_cases e : j = i
            · subst e; omega
            · exact h5 j (by omega) hj2
      · have e := h1 (Or.inl hr)
        subst e
        rcases hb with ⟨h3, h4⟩ | ⟨h3, h4, h5⟩
        · refine Or.inl ⟨h3, fun j hj => ?_⟩
          by_cases e : j = i
          · subst e; exact hr
          · exact h4 j (by omega)
        · refine Or.inr ⟨h3, by omega, fun j hj hj2 => ?_⟩
          by_cases e : j = i
          · subst e; exact absurd hj2 hr
          · exact h5 j (by omega) hj2
    · simp only [Bool.not_eq_true', decide_eq_false_iff_not]
      exact ⟨fun h => ⟨h, fun k hk hp => by have := hp.1; omega⟩, fun h => h.1⟩
theorem oof_l0 (hv : Valid l) : ∀ (m : Nat) (o : List Int), o.length + m = l.length → Ord l o → Ev (fun k => changeforgeref3_OrderOf.l0 k l o) (ordr l) := by
  have hv60 := hv.len
  intro m
  induction m with
  | zero =>
    intro o hm ho
    refine Ev.step (fun k_ => by rw [changeforgeref3_OrderOf.l0]) ?_
    refine ev_neg (by omega) ?_
    rw [ho.eq hv (by omega)]
    exact ev_now _
  | succ m ih =>
    intro o hm ho
    refine Ev.step (fun k_ => by rw [changeforgeref3_OrderOf.l0]) ?_
    refine ev_pos (by omega) (oof_l1 hv (by omega) (ho.ready hv (by omega)) (fun b hb => ih _ (by simp; omega) (.snoc ho hb)) l.length 0 (-1) (by omega) (by omega) (Or.inl ⟨by omega, fun j hj h => by have := h.1; omega⟩))
theorem oof_ev (hv : Valid l) : Ev (fun k => changeforgeref3_OrderOf.f k l) (ordr l) := oof_l0 hv l.length [] (by simp) .nil

/-! generations -/
theorem mx_eq (a b : Int) : mx a b = if a < b then b else a := by unfold mx; first | rfl | (split <;> split <;> omega) | omega
def gvf (g : List Int) (a : Int) (ps : List Int) : Int := ps.foldl (fun a p => mx a (rd g p + 1)) a
theorem gvf_congr {g g' : List Int} : ∀ {ps : List Int} {a : Int}, (∀ p ∈ ps, rd g p = rd g' p) → gvf g a ps = gvf g' a ps
  | [], a, _ => rfl
  | p :: ps, a, h => by
    show gvf g (mx a (rd g p + 1)) ps = gvf g' (mx a (rd g' p + 1)) ps
    rw [h p (List.mem_cons_self ..)]
    exact gvf_congr (fun x hx => h x (List.mem_cons_of_mem _ hx))
theorem gvf_bound {g : List Int} {B : Int} : ∀ {ps : List Int} {a : Int}, 1 ≤ a → a ≤ B → (∀ p ∈ ps, rd g p + 1 ≤ B) → 1 ≤ gvf g a ps ∧ gvf g a ps ≤ B
  | [], a, h1, h2, _ => ⟨h1, h2⟩
  | p :: ps, a, h1, h2, h => by
    have hp := h p (List.mem_cons_self ..)
    have : gvf g a (p :: ps) = gvf g (mx a (rd g p + 1)) ps := rfl
    rw [this]
    refine gvf_bound ?_ ?_ (fun x hx => h x (List.mem_cons_of_mem _ hx))
    · rw [mx_eq]; split <;> omega
    · rw [mx_eq]; split <;> omega
abbrev pr (l : List C) (x : Int) : List Int := (rd_T49 l x).f0
def IsG (l : List C) (g : List Int) (n : Int) : Prop := ∀ x : Int, 0 ≤ x → x < n → rd g x = gvf g 1 (pr l x)
theorem pr_lt (hv : Valid l) {x p : Int} (h0 : 0 ≤ x) (h1 : x < l.length) (h : p ∈ pr l x) : 0 ≤ p ∧ p < x := Par.lt hv ⟨h0, h1, h⟩
theorem isg_uniq (hv : Valid l) {g g' : List Int} (hg : IsG l g l.length) (hg' : IsG l g' l.length) (h1 : g.length = l.length) (h2 : g'.length = l.length) : g = g' := by
  have key : ∀ n : Nat, ∀ x : Int, 0 ≤ x → x < n → x < l.length → rd g x = rd g' x := by
    intro n
    induction n with
    | zero => intro x h0 h; omega
    | succ n ih =>
      intro x h0 h hx
      rw [hg x h0 hx, hg' x h0 hx]
      exact gvf_congr (fun p hp => by have := pr_lt hv h0 hx hp; exact ih p this.1 (by omega) (by omega))
  exact ext_rd (by rw [h1, h2]) (fun i h0 hi => key l.length i h0 (by omega) (by omega))
theorem isg_bound (hv : Valid l) {g : List Int} {n : Int} (hn : n ≤ l.length) (hg : IsG l g n) : ∀ x : Int, 0 ≤ x → x < n → 1 ≤ rd g x ∧ rd g x ≤ x + 1 := by
  have key : ∀ m : Nat, ∀ x : Int, 0 ≤ x → x < m → x < n → 1 ≤ rd g x ∧ rd g x ≤ x + 1 := by
    intro m
    induction m with
    | zero => intro x h0 h; omega
    | succ m ih =>
      intro x h0 h hx
      rw [hg x h0 hx]
      exact gvf_bound (by omega) (by omega) (fun p hp => by
        have := pr_lt hv h0 (by omega) hp
        have := ih p this.1 (by omega) (by omega)
        omega)
  intro x h0 hx
  exact key n.toNat x h0 (by omega) hx
theorem isg_step (hv : Valid l) {g : List Int} {i v : Int} (hl : g.length = l.length) (h0 : 0 ≤ i) (hi : i < l.length) (hg : IsG l g i) (hvv : v = gvf g 1 (pr l i)) : IsG l (g.set i.toNat v) (i + 1) := by
  intro x hx0 hx
  have hc : gvf (g.set i.toNat v) 1 (pr l x) = gvf g 1 (pr l x) := gvf_congr (fun p hp => by
    have := pr_lt hv hx0 (by omega) hp
    rw [rd_set g v h0 (by omega) this.1, if_neg (by omega)])
  rw [hc, rd_set g v h0 (by omega) hx0]
  by_cases e : x = i
  · rw [if_pos e, e, hvv]
  · rw [if_neg e]; exact hg x hx0 (by omega)
theorem isg_ex (hv : Valid l) : ∀ n : Nat, n ≤ l.length → ∃ g : List Int, g.length = l.length ∧ IsG l g n := by
  intro n
  induction n with
  | zero => intro _; exact ⟨List.replicate l.length 0, by simp, fun x h0 h => by omega⟩
  | succ n ih =>
    intro hn
    obtain ⟨g, hl, hg⟩ := ih (by omega)
    have := isg_step hv (i := n) hl (by omega) (by omega) hg rfl
    rw [show ((n : Int) + 1) = ((n + 1 : Nat) : Int) by omega] at this
    exact ⟨g.set (n : Int).toNat (gvf g 1 (pr l (n : Int))), by rw [List.length_set]; exact hl, this⟩
noncomputable def gens (l : List C) : List Int := open Classical in if h : ∃ g : List Int, g.length = l.length ∧ IsG l g l.length then h.choose else []
theorem gens_spec (hv : Valid l) : (gens l).length = l.length ∧ IsG l (gens l) l.length := by
  have h := isg_ex hv l.length (Nat.le_refl _)
  unfold gens
  rw [dif_pos h]
  exact h.choose_spec
theorem gens_eq (hv : Valid l) {g : List Int} (hl : g.length = l.length) (hg : IsG l g l.length) : g = gens l := isg_uniq hv hg (gens_spec hv).2 hl (gens_spec hv).1

theorem gen_l1 (hv : Valid l) {i : Int} {g ps : List Int} {R : List Int × Int × Int} (hgl : g.length = l.length) (hi0 : 0 ≤ i) (hi : i < l.length) (hg : IsG l g i) (hps : ps = pr l i)
    (hR : Ev (fun k => history_Generations.l0 k (g.set i.toNat (gvf g 1 ps)) l (l.length : Int) (i + 1)) R) :
    ∀ (m q : Nat) (a : Int), q + m = ps.length → 1 ≤ a → a ≤ 100 → gvf g a (ps.drop q) = gvf g 1 ps → Ev (fun k => history_Generations.l1 k (g.set i.toNat a) i l (l.length : Int) i ps (ps.length : Int) (q : Int)) R := by
  have hv60 := hv.len
  have hplen := hv.plen i hi0 hi
  have hplen : (ps.length : Int) ≤ 3 := by rw [hps]; exact hplen
  intro m
  induction m with
  | zero =>
    intro q a hq ha1 ha ha2
    refine Ev.step (fun k_ => by rw [history_Generations.l1]) ?_
    rw [List.drop_eq_nil_of_le (by omega)] at ha2
    refine ev_neg (by omega) ?_
    rw [w64 (by omega), show a = gvf g 1 ps from ha2]
    exact hR
  | succ m ih =>
    intro q a hq ha1 ha ha2
    have hpm : rd ps (q : Int) ∈ pr l i := by rw [← hps]; exact rd_mem (by omega) (by omega)
    have hp := pr_lt hv hi0 hi hpm
    have hb := isg_bound hv (by omega) hg _ hp.1 hp.2
    rw [drop_cons_rd (by omega)] at ha2
    refine Ev.step (fun k_ => by rw [history_Generations.l1]) ?_
    refine ev_pos (by omega) (ev_pos (by omega) (ev_pos (by omega) (ev_pos hi0 (ev_pos (by rw [List.length_set]; omega) (ev_pos hp.1 (ev_pos (by rw [List.length_set]; omega) ?_))))))
    rw [rd_set g a hi0 (by omega) hi0, if_pos rfl, rd_set g a hi0 (by omega) hp.1, if_neg (by omega), List.set_set, w64 (x := (q : Int) + 1) (by omega), w64 (by omega)]
    refine ih (q + 1) _ (by omega) ?_ ?_ ha2
    · rw [mx_eq]; split <;> omega
    · rw [mx_eq]; split <;> omega
theorem gen_l0 (hv : Valid l) : ∀ (m : Nat) (i : Int) (g : List Int), 0 ≤ i → i + m = l.length → g.length = l.length → IsG l g i → Ev (fun k => history_Generations.l0 k g l (l.length : Int) i) (gens l, 0, 0) := by
  have hv60 := hv.len
  intro m
  induction m with
  | zero =>
    intro i g h0 hi hl hg
    refine Ev.step (fun k_ => by rw [history_Generations.l0]) ?_
    refine ev_neg (by omega) ?_
    rw [gens_eq hv hl (fun x h1 h2 => hg x h1 (by omega))]
    exact ev_now _
  | succ m ih =>
    intro i g h0 hi hl hg
    refine Ev.step (fun k_ => by rw [history_Generations.l0]) ?_
    refine ev_pos (by omega) (ev_pos h0 (ev_pos (by omega) (ev_pos (by omega) ?_)))
    refine gen_l1 hv hl h0 (by omega) hg rfl (ih (i + 1) _ (by omega) (by omega) (by rw [List.length_set]; exact hl) (isg_step hv hl h0 (by omega) hg rfl)) (pr l i).length 0 1 (by omega) (by omega) (by omega) rfl
noncomputable def gensR (l : List C) : List Int × Int × Int := if (vf l).1 ≠ 0 then ([], vf l) else (gens l, 0, 0)
theorem gens_ev (hp : ∀ x ∈ l, S49.ok x) : Ev (fun k => history_Generations.f k l) (gensR l) := by
  unfold history_Generations.f gensR
  refine ev_bind (validate_ev hp) ?_
  by_cases h : (vf l).1 ≠ 0
  · rw [if_pos h]
    refine ev_pos (flt_yes h) ?_
    exact ev_now _
  · obtain ⟨e, hv⟩ := vf_zero (Decidable.not_not.1 h)
    have hv60 := hv.len
    rw [if_neg h, e]
    refine ev_neg (by decide) (ev_pos (by omega) (ev_pos (by omega) ?_))
    exact gen_l0 hv l.length 0 _ (by omega) (by omega) (by simp) (fun x h0 h1 => by omega)
theorem gof_l2 (hv : Valid l) {i : Int} {g : List Int} {ps : List Int} {c : Bool} {R : List Int} (hgl : g.length = l.length) (hi0 : 0 ≤ i) (hi : i < l.length) (hg : IsG l g i) (hps : ps = pr l i)
    (hsame : rd g i = gvf g 1 ps → Ev (fun k => changeforgeref3_GenerationsOf.l1 k l g c (i + 1)) R) (hset : rd g i ≠ gvf g 1 ps → Ev (fun k => changeforgeref3_GenerationsOf.l1 k l (g.set i.toNat (gvf g 1 ps)) true (i + 1)) R) :
    ∀ (m q : Nat) (a : Int), q + m = ps.length → 1 ≤ a → a ≤ 100 → gvf g a (ps.drop q) = gvf g 1 ps → Ev (fun k => changeforgeref3_GenerationsOf.l2 k l g c i a (q : Int)) R := by
  have hv60 := hv.len
  have hplen : (ps.length : Int) ≤ 3 := by rw [hps]; exact hv.plen i hi0 hi
  have hps' : (rd_T49 l i).f0 = ps := hps.symm
  intro m
  induction m with
  | zero =>
    intro q a hq ha1 ha ha2
    rw [List.drop_eq_nil_of_le (by omega)] at ha2
    have ha2 : a = gvf g 1 ps := ha2
    refine Ev.step (fun k_ => by rw [changeforgeref3_GenerationsOf.l2]) ?_
    rw [hps', w64 (x := i + 1) (by omega)]
    refine ev_pos hi0 (ev_pos hi (ev_neg (by omega) (ev_pos (by omega) (ev_cases (fun h => hsame (by rw [← ha2]; exact h.symm)) (fun h => ?_)))))
    rw [ha2] at h ⊢
    exact hset (fun e => h e.symm)
  | succ m ih =>
    intro q a hq ha1 ha ha2
    have hpm : rd ps (q : Int) ∈ pr l i := by rw [← hps]; exact rd_mem (by omega) (by omega)
    have hp := pr_lt hv hi0 hi hpm
    have hb := isg_bound hv (by omega) hg _ hp.1 hp.2
    rw [drop_cons_rd (by omega)] at ha2
    refine Ev.step (fun k_ => by rw [changeforgeref3_GenerationsOf.l2]) ?_
    rw [hps', w64 (x := (q : Int) + 1) (by omega), w64 (x := 1 + _) (by omega), Int.add_comm 1]
    refine ev_pos hi0 (ev_pos hi (ev_pos (by omega) (ev_pos (by omega) (ev_pos hp.1 (ev_pos (by omega) (ih (q + 1) _ (by omega) ?_ ?_ ha2))))))
    · rw [mx_eq]; split <;> omega
    · rw [mx_eq]; split <;> omega
theorem gof_still (hv : Valid l) : ∀ (m : Nat) (i : Int), 0 ≤ i → i + m = l.length → Ev (fun k => changeforgeref3_GenerationsOf.l1 k l (gens l) false i) (gens l) := by
  obtain ⟨hgl, hg⟩ := gens_spec hv
  intro m
  induction m with
  | zero =>
    intro i h0 hi
    refine Ev.step (fun k_ => by rw [changeforgeref3_GenerationsOf.l1]) ?_
    refine ev_neg (by omega) ?_
    refine Ev.step (fun k_ => by rw [changeforgeref3_GenerationsOf.l0]) ?_
    refine ev_neg (by decide) ?_
    exact ev_now _
  | succ m ih =>
    intro i h0 hi
    refine Ev.step (fun k_ => by rw [changeforgeref3_GenerationsOf.l1]) ?_
    refine ev_pos (by omega) ?_
    exact gof_l2 hv hgl h0 (by omega) (fun x h1 h2 => hg x h1 (by omega)) rfl (fun _ => ih (i + 1) (by omega) (by omega)) (fun h => absurd (hg i h0 (by omega)) h) (pr l i).length 0 1 (by omega) (by omega) (by omega) rfl
theorem gof_l1 (hv : Valid l) : ∀ (m : Nat) (i : Int) (g : List Int) (c : Bool), 0 ≤ i → i + m = l.length → g.length = l.length → IsG l g i → Ev (fun k => changeforgeref3_GenerationsOf.l1 k l g c i) (gens l) := by
  intro m
  induction m with
  | zero =>
    intro i g c h0 hi hl hg
    have e := gens_eq hv hl (fun x h1 h2 => hg x h1 (by omega))
    refine Ev.step (fun k_ => by rw [changeforgeref3_GenerationsOf.l1]) ?_
    refine ev_neg (by omega) ?_
    refine Ev.step (fun k_ => by rw [changeforgeref3_GenerationsOf.l0]) ?_
    rw [e]
    refine ev_cases (fun _ => gof_still hv l.length 0 (by omega) (by omega)) (fun _ => ?_)
    exact ev_now _
  | succ m ih =>
    intro i g c h0 hi hl hg
    refine Ev.step (fun k_ => by rw [changeforgeref3_GenerationsOf.l1]) ?_
    refine ev_pos (by omega) ?_
    refine gof_l2 hv hl h0 (by omega) hg rfl (fun h => ih (i + 1) g c (by omega) (by omega) hl (fun x h1 h2 => ?_)) (fun h => ih (i + 1) _ true (by omega) (by omega) (by rw [List.length_set]; exact hl) (isg_step hv hl h0 (by omega) hg rfl)) (pr l i).length 0 1 (by omega) (by omega) (by omega) rfl
    by_cases e : x = i
    · rw [e]; exact h
    · exact hg x h1 (by omega)
theorem gof_ev (hv : Valid l) : Ev (fun k => changeforgeref3_GenerationsOf.f k l) (gens l) := by
  have hv60 := hv.len
  unfold changeforgeref3_GenerationsOf.f
  refine ev_pos (by omega) (ev_pos (by omega) ?_)
  refine Ev.step (fun k_ => by rw [changeforgeref3_GenerationsOf.l0]) ?_
  exact ev_pos rfl (gof_l1 hv l.length 0 _ false (by omega) (by omega) (by simp) (fun x h0 h1 => by omega))
end
end Go.Proofs.Ytojhnjgnpjoacaa.Hist
