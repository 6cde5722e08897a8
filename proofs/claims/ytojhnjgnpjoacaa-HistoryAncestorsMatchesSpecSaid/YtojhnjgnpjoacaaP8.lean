/- What the Go functions of this seat compute, and that they do: printed by a program over the kit's print. -/
import Derived.Test.YtojhnjgnpjoacaaP0
namespace Go.Proofs.Ytojhnjgnpjoacaa.P
open Go.RowKit Go.Proofs.YtojhnjgnpjoacaaW.PrintWords Go.Proofs.YtojhnjgnpjoacaaW.PrintLast Go.Proofs.YtojhnjgnpjoacaaW.PrintMore
attribute [local go_sem] max2_int min2_int max_two min_two max_three min_three max_four min_four   -- for this text's walks alone
set_option linter.unusedVariables false
set_option linter.unusedSimpArgs false

/-! ### changeforgeref3_Reach: function 22 -/
mutual
def changeforgeref3_Reach.l0 : Nat → List (S49) → List (List Bool) → Int → Option ((List (List Bool)))
  | 0, _, _, _ => none
  | k + 1, x0, x3, x4 => if x4 < (x0.length : Int) then (if 0 ≤ (x0.length : Int) then (if ((x0.length : Int) : Int).toNat ≤ 281474976710656 then ((some (List.replicate ((x0.length : Int) : Int).toNat false : List Bool)).bind fun y222 => (if 0 ≤ x4 then (if x4 < (y222.length : Int) then (changeforgeref3_Reach.l1 k x0 x3 x4 (y222.set (x4 : Int).toNat true) 0) else (none)) else (none))) else (none)) else (none)) else (some x3)
def changeforgeref3_Reach.l1 : Nat → List (S49) → List (List Bool) → Int → List Bool → Int → Option ((List (List Bool)))
  | 0, _, _, _, _, _ => none
  | k + 1, x0, x3, x4, x5, x6 => if x6 < x4 then (changeforgeref3_Reach.l2 k x0 x3 x4 x5 x6 0) else (if x3.length < 5864062014805 then (changeforgeref3_Reach.l0 k x0 (x3 ++ [x5]) (wrap64 (x4 + 1))) else (none))
def changeforgeref3_Reach.l2 : Nat → List (S49) → List (List Bool) → Int → List Bool → Int → Int → Option ((List (List Bool)))
  | 0, _, _, _, _, _, _ => none
  | k + 1, x0, x3, x4, x5, x6, x7 => if 0 ≤ x4 then (if x4 < (x0.length : Int) then (if x7 < (((rd_T49 x0 x4).f0).length : Int) then (if 0 ≤ x6 then (if x6 < (x5.length : Int) then (if rdOf false x5 x6 = true then (changeforgeref3_Reach.l2 k x0 x3 x4 (x5.set (x6 : Int).toNat true) x6 (wrap64 (x7 + 1))) else (if 0 ≤ x7 then (if 0 ≤ (rd ((rd_T49 x0 x4).f0) x7) then (if (rd ((rd_T49 x0 x4).f0) x7) < (x3.length : Int) then (if x6 < ((rd_L5 x3 (rd ((rd_T49 x0 x4).f0) x7)).length : Int) then (changeforgeref3_Reach.l2 k x0 x3 x4 (x5.set (x6 : Int).toNat (rdOf false (rd_L5 x3 (rd ((rd_T49 x0 x4).f0) x7)) x6)) x6 (wrap64 (x7 + 1))) else (none)) else (none)) else (none)) else (none))) else (none)) else (none)) else (changeforgeref3_Reach.l1 k x0 x3 x4 x5 (wrap64 (x6 + 1)))) else (none)) else (none)
end
def changeforgeref3_Reach.f (k : Nat) (l0 : List (S49)) : Option ((List (List Bool))) := changeforgeref3_Reach.l0 k l0 ([] : List (List Bool)) 0
theorem changeforgeref3_Reach.mono_l : ∀ k, (∀ y0 y1 y2, LeO (changeforgeref3_Reach.l0 k y0 y1 y2) (changeforgeref3_Reach.l0 (k + 1) y0 y1 y2)) ∧ (∀ y0 y1 y2 y3 y4, LeO (changeforgeref3_Reach.l1 k y0 y1 y2 y3 y4) (changeforgeref3_Reach.l1 (k + 1) y0 y1 y2 y3 y4)) ∧ (∀ y0 y1 y2 y3 y4 y5, LeO (changeforgeref3_Reach.l2 k y0 y1 y2 y3 y4 y5) (changeforgeref3_Reach.l2 (k + 1) y0 y1 y2 y3 y4 y5))
  | 0 => ⟨fun _ _ _ r h => by simp [changeforgeref3_Reach.l0] at h, fun _ _ _ _ _ r h => by simp [changeforgeref3_Reach.l1] at h, fun _ _ _ _ _ _ r h => by simp [changeforgeref3_Reach.l2] at h⟩
  | k + 1 => by
    obtain ⟨ih0, ih1, ih2⟩ := changeforgeref3_Reach.mono_l k
    refine ⟨?_, ?_, ?_⟩
    · intro y0 y1 y2
      unfold changeforgeref3_Reach.l0
      repeat' first
      | (with_reducible exact ih0 _ _ _)
      | (with_reducible exact ih1 _ _ _ _ _)
      | (with_reducible exact ih2 _ _ _ _ _ _)
      | (with_reducible exact LeO.refl _)
      | (with_reducible exact LeO.none _)
      | (with_reducible refine LeO.ite ?_ ?_)
      | (with_reducible refine LeO.bind ?_ (fun _ => ?_))
      | exact ih0 _ _ _
      | exact ih1 _ _ _ _ _
      | exact ih2 _ _ _ _ _ _
      | exact LeO.none _
      | refine LeO.ite ?_ ?_
      | refine LeO.bind ?_ (fun _ => ?_)
    · intro y0 y1 y2 y3 y4
      unfold changeforgeref3_Reach.l1
      repeat' first
      | (with_reducible exact ih0 _ _ _)
      | (with_reducible exact ih1 _ _ _ _ _)
      | (with_reducible exact ih2 _ _ _ _ _ _)
      | (with_reducible exact LeO.refl _)
      | (with_reducible exact LeO.none _)
      | (with_reducible refine LeO.ite ?_ ?_)
      | (with_reducible refine LeO.bind ?_ (fun _ => ?_))
      | exact ih0 _ _ _
      | exact ih1 _ _ _ _ _
      | exact ih2 _ _ _ _ _ _
      | exact LeO.none _
      | refine LeO.ite ?_ ?_
      | refine LeO.bind ?_ (fun _ => ?_)
    · intro y0 y1 y2 y3 y4 y5
      unfold changeforgeref3_Reach.l2
      repeat' first
      | (with_reducible exact ih0 _ _ _)
      | (with_reducible exact ih1 _ _ _ _ _)
      | (with_reducible exact ih2 _ _ _ _ _ _)
      | (with_reducible exact LeO.refl _)
      | (with_reducible exact LeO.none _)
      | (with_reducible refine LeO.ite ?_ ?_)
      | (with_reducible refine LeO.bind ?_ (fun _ => ?_))
      | exact ih0 _ _ _
      | exact ih1 _ _ _ _ _
      | exact ih2 _ _ _ _ _ _
      | exact LeO.none _
      | refine LeO.ite ?_ ?_
      | refine LeO.bind ?_ (fun _ => ?_)
theorem changeforgeref3_Reach.mono : ∀ a0 k, LeO (changeforgeref3_Reach.f k a0) (changeforgeref3_Reach.f (k + 1) a0) := by
  intro a0 k
  obtain ⟨ih0, ih1, ih2⟩ := changeforgeref3_Reach.mono_l k
  unfold changeforgeref3_Reach.f
  repeat' first
      | (with_reducible exact ih0 _ _ _)
      | (with_reducible exact ih1 _ _ _ _ _)
      | (with_reducible exact ih2 _ _ _ _ _ _)
      | (with_reducible exact LeO.refl _)
      | (with_reducible exact LeO.none _)
      | (with_reducible refine LeO.ite ?_ ?_)
      | (with_reducible refine LeO.bind ?_ (fun _ => ?_))
      | exact ih0 _ _ _
      | exact ih1 _ _ _ _ _
      | exact ih2 _ _ _ _ _ _
      | exact LeO.none _
      | refine LeO.ite ?_ ?_
      | refine LeO.bind ?_ (fun _ => ?_)
set_option maxHeartbeats 8000000 in
set_option maxRecDepth 100000 in
theorem changeforgeref3_Reach.calls (k : Nat) (A0 : Option Addr) (c0 : Nat) (l0 : List (S49)) (r : List (List Bool)) (w : World) (hr0 : Kd.C k49 w A0 l0.length l0) (hc0 : l0.length ≤ c0) (h : changeforgeref3_Reach.f k l0 = some r) :
  Calls Try.prog 22 #[.slice A0 l0.length c0] w fun e w' => ∃ v0_ : Value, e = .returned (v0_) ∧ Kd.S (Kd.slice 4 Kd.bool) 37 w' w.heap.size (fun _ => True) v0_ r ∧ Below w.heap.size w w' := by
  have HR0 := aZ hr0
  have HC0 := aZ hc0
  clear hr0 hc0
  have HB := aZ (Below.refl w.heap.size w)
  have H : (changeforgeref3_Reach.l0 k l0 ([] : List (List Bool)) 0) = some r := h
  clear h
  have H' := aZ H
  clear H
  go_enter Try.func22, Try.ntmps22
  go_wp2
  go_loopg [3, 4] k (fun kq v3 v4 w' => ∃ (x3_1 : List (List Bool)) (x4_1 : Int), v4 = .int .i64 x4_1 ∧ Aside0 (changeforgeref3_Reach.l0 kq l0 x3_1 x4_1 = some r) ∧ Aside0 (kq ≤ k) ∧ Aside0 (Kd.S (Kd.slice 4 Kd.bool) 37 w' w.heap.size (fun _ => True) v3 x3_1) ∧ Aside0 (Below w.heap.size w w'))
  case atStart => exact ⟨(([] : List (List Bool))), (0), (by first | rfl | (simp; done) | (simp [*]; done)), H', ⟨Nat.le_refl _⟩, ⟨by first | exact Kd.S_nil _ _ _ _ _ | exact Kd.N_nil _ _ _ _ _ | exact Kd.V_nil _ _ _ _ _ | exact Kd.Q_nil _ _ _ _ _ | exact Kd.R_nil _ _ _ _ _⟩, ⟨by repeat (first | (with_reducible first | exact HB.out | apply lA | apply lN | apply lD) | exact HB.out)⟩⟩
  case round =>
   clear H'
   obtain ⟨x3_1, x4_1, rfl, HA, HK1, HO_3, HB⟩ := hrel
   cases gk with
   | zero => exact absurd HA.out (by simp [changeforgeref3_Reach.l0])
   | succ k1 =>
    have H := HA.out
    clear HA
    simp only [changeforgeref3_Reach.l0] at H
    by_cases c2 : x4_1 < (l0.length : Int)
    rotate_left
    · rw [if_neg c2] at H
      have c2b0 : decide (x4_1 < (l0.length : Int)) = false := decide_eq_false c2
      clear c2
      obtain rfl := Option.some.inj H
      go_wp2
      go_ret
      exact ⟨_, by first | rfl | (simp [errW_none, errW_some] <;> rfl) | (simp [*, errW_none, errW_some] <;> rfl), by (with_reducible repeat (first | apply Kd.S_alloc | apply Kd.S_drewN | apply Kd.S_drew)); exact HO_3.out, by repeat (first | (with_reducible first | exact HB.out | apply lA | apply lN | apply lD) | exact HB.out)⟩

    rw [if_pos c2] at H
    have c2b0 : decide (x4_1 < (l0.length : Int)) = true := decide_eq_true c2
    clear c2
    by_cases c3 : 0 ≤ (l0.length : Int)
    rotate_left
    · rw [if_neg c3] at H
      exact absurd H (by simp)
    rw [if_pos c3] at H
    have c3b0 := eq_true c3
    have c3b1 : decide (0 ≤ (l0.length : Int)) = true := decide_eq_true c3
    clear c3
    by_cases c4 : ((l0.length : Int) : Int).toNat ≤ 281474976710656
    rotate_left
    · rw [if_neg c4] at H
      exact absurd H (by simp)
    rw [if_pos c4] at H
    have c4b0 := eq_true c4
    have c4b1 : decide (((l0.length : Int) : Int).toNat ≤ 281474976710656) = true := decide_eq_true c4
    clear c4
    obtain ⟨y222, hy222⟩ : ∃ y_ : List Bool, y_ = (List.replicate ((l0.length : Int) : Int).toNat false) := ⟨_, rfl⟩
    replace H : (if 0 ≤ x4_1 then (if x4_1 < (y222.length : Int) then (changeforgeref3_Reach.l1 k1 l0 x3_1 x4_1 (y222.set (x4_1 : Int).toNat true) 0) else (none)) else (none)) = some r := by first | (rw [hy222]; with_reducible exact H) | (have H2_ := (Option.bind_some _ _).symm.trans H; rw [hy222]; with_reducible exact H2_) | (have H2_ := (Option.bind_some _ _).symm.trans H; with_reducible exact H2_) | with_reducible exact H | (rw [hy222]; exact H) | exact H
    have Ny222 := aZ hy222
    clear hy222
    by_cases c5 : 0 ≤ x4_1
    rotate_left
    · rw [if_neg c5] at H
      exact absurd H (by simp)
    rw [if_pos c5] at H
    have c5b0 : decide (0 ≤ x4_1) = true := decide_eq_true c5
    clear c5
    by_cases c6 : x4_1 < (y222.length : Int)
    rotate_left
    · rw [if_neg c6] at H
      exact absurd H (by simp)
    rw [if_pos c6] at H
    have c6b0 : decide (x4_1 < (y222.length : Int)) = true := decide_eq_true c6
    clear c6
    obtain ⟨y225, hy225⟩ : ∃ y_ : List Bool, y_ = (y222.set (x4_1 : Int).toNat true) := ⟨_, rfl⟩
    replace H : (changeforgeref3_Reach.l1 k1 l0 x3_1 x4_1 y225 0) = some r := by first | (rw [hy225]; with_reducible exact H) | (have H2_ := (Option.bind_some _ _).symm.trans H; rw [hy225]; with_reducible exact H2_) | (have H2_ := (Option.bind_some _ _).symm.trans H; with_reducible exact H2_) | with_reducible exact H | (rw [hy225]; exact H) | exact H
    have Ny225 := aZ hy225
    clear hy225
    have H' := aZ H
    clear H
    go_wp2_with (first | ((with_reducible refine gate_dst (N := 16) rfl ?_); refine Kd.R_make Kd.bool _ 4 rfl (N := 16) rfl 37 _ _ rfl (l0.length : Int) rfl rfl Try.underlying37 (.bool false) 1 info4 rfl (by decide) (by omega) false (ok := fun _ => True) (okp := fun _ => True) rfl (fun _ hk => hk) trivial (of_decide_eq_true (by first | (with_reducible assumption) | assumption)) (Nat.le_trans (Nat.mul_le_mul_right _ (of_decide_eq_true (by first | (with_reducible assumption) | assumption) : (l0.length : Int).toNat ≤ 281474976710656)) (by omega)) (Below.refl _ _) (Nat.le_refl _) ?_; intro v223 w8 ho9 hb hg_ hnew_; clear hg_ hnew_; (first | rw [← Ny222.out] at ho9 | (simp only [Int.reduceToNat] at ho9; rw [← Ny222.out] at ho9)); have n0_ := aZ (Kd.S_elder' (by (with_reducible repeat (first | apply Kd.S_alloc | apply Kd.S_drewN | apply Kd.S_drew)); exact HO_3.out) (Kd.R_base ho9) hb); have n1_ := aZ (Kd.R_lower ho9 (lZ (by repeat (first | (with_reducible first | exact HB.out | apply lA | apply lN | apply lD) | exact HB.out)))); have n2_ := aZ (lT (by repeat (first | (with_reducible first | exact HB.out | apply lA | apply lN | apply lD) | exact HB.out)) hb); clear HO_3; clear HB; have HO_3 := n0_; have HO224 := n1_; have HB := n2_; clear n0_ n1_ n2_; clear hb ho9; have p7 : 0 ≤ (x4_1 : Int) := of_decide_eq_true (by first | (with_reducible assumption) | assumption); have q7 : (x4_1 : Int) < ((y222.length : Int) : Int) := of_decide_eq_true (by first | (with_reducible assumption) | assumption); obtain ⟨go7, co7, eo7, gb7, gl7, cl7, HG7⟩ := Kd.R_form HO224.out (by omega); (first | cases eo7 | (injection eo7 with ea_ en_ ec_; (first | subst ea_ | (injection ea_ with ea_; subst ea_)); subst ec_; clear en_)); have GB7 := aZ gb7; have GG7 := aZ HG7; clear gb7 gl7 HG7; obtain ⟨hx7_0, hf7_0⟩ := Kd.R_celln false HO224.out (x4_1 : Int) p7 q7; replace p7 := eq_true p7; replace q7 := eq_true q7; obtain ⟨hy10_, hz10_⟩ := Kd.R_celln false HO224.out (x4_1 : Int) (of_decide_eq_true (by first | (with_reducible assumption) | assumption)) (of_decide_eq_true (by first | (with_reducible assumption) | assumption)); have HP10 := Kd.R_putg HO224.out (x4_1 : Int) true) | ((with_reducible refine gate_store (t := 4) (p := 19) rfl ?_); refine store_event (t := 4) (p := 19) (v := ?vo_w11) (w1 := (w8.setCell ⟨go7, (x4_1 : Int).toNat, none⟩ (.bool true))) ?hg ?ho ?hn ?hr ?_; (case ho => rfl); (case hg => rfl); (case hn => rfl); (case hr => first | (go_simp; done) | (go_simp; rfl)); intro w11 hw; have hg : w8.grownBy w11 (some go7) := (by rw [hw]; exact HP10.2); have hp_ : Kd.R Kd.bool 4 w11 w.heap.size (fun _ => True) (.slice (some ⟨go7, 0, none⟩) y222.length co7) y225 := (by rw [hw, Ny225.out]; exact HP10.1); clear HP10; have n0_ := aZ (Kd.S_after (v := (.slice (some ⟨go7, 0, none⟩) y222.length co7)) (v1 := (.slice (some ⟨go7, 0, none⟩) y222.length co7)) (ok := (fun _ => True)) (by (with_reducible repeat (first | apply Kd.S_alloc | apply Kd.S_drewN | apply Kd.S_drew)); exact HO_3.out) hg (.inl rfl)); have n1_ := aZ (hp_); have n2_ := aZ ((by rw [hw]; exact lS (HB.out) GB7.out : Below w.heap.size w w11)); clear HO_3; clear HO224; clear HB; have HO_3 := n0_; have HO224 := n1_; have HB := n2_; clear n0_ n1_ n2_; clear hg hw hp_))
    go_loopg [6] k1 (fun kq v6 w' => ∃ (x5_2 : List Bool) (x6_2 : Int), v6 = .int .i64 x6_2 ∧ Aside0 (changeforgeref3_Reach.l1 kq l0 x3_1 x4_1 x5_2 x6_2 = some r) ∧ Aside0 (kq ≤ k1) ∧ Aside0 (Kd.S (Kd.slice 4 Kd.bool) 37 w' w.heap.size (fun k_ => some k_ ≠ ((.slice (some ⟨go7, 0, none⟩) y222.length co7) : Value).ownBlock) u3 x3_1) ∧ Aside0 (Kd.R Kd.bool 4 w' w.heap.size (fun _ => True) (.slice (some ⟨go7, 0, none⟩) y222.length co7) x5_2) ∧ Aside0 (Below w.heap.size w w'))
    case atStart => exact ⟨(y225), (0), (by first | rfl | (simp; done) | (simp [*]; done)), H', ⟨Nat.le_refl _⟩, ⟨by (with_reducible repeat (first | apply Kd.S_alloc | apply Kd.S_drewN | apply Kd.S_drew)); exact Kd.S_mono HO_3.out (fun _ hk => hk.2)⟩, ⟨by (with_reducible repeat (first | apply Kd.rA | apply Kd.rN | apply Kd.rD)); exact HO224.out⟩, ⟨by repeat (first | (with_reducible first | exact HB.out | apply lA | apply lN | apply lD) | exact HB.out)⟩⟩
    case round =>
     clear H'
     (try clear c2); (try clear c2b0); (try clear c3); (try clear c3b0); (try clear c3b1); (try clear c4); (try clear c4b0); (try clear c4b1); (try clear c5); (try clear c5b0); (try clear c6); (try clear c6b0); (try clear p7); (try clear q7); (try clear hx7_0)
     obtain ⟨x5_2, x6_2, rfl, HA, HK2, HO_3, HO_5, HB⟩ := hrel
     have hl5_2 := (Kd.R_reads' HO_5.out).1
     rw [hl5_2] at HO_5
     (try simp only [hl5_2])
     (try simp only [hl5_2] at HO_3)
     cases gk with
     | zero => exact absurd HA.out (by simp [changeforgeref3_Reach.l1])
     | succ k2 =>
      have H := HA.out
      clear HA
      simp only [changeforgeref3_Reach.l1] at H
      by_cases c12 : x6_2 < x4_1
      rotate_left
      · rw [if_neg c12] at H
        have c12b0 : decide (x6_2 < x4_1) = false := decide_eq_false c12
        clear c12
        by_cases c31 : x3_1.length < 5864062014805
        rotate_left
        · rw [if_neg c31] at H
          exact absurd H (by simp)
        rw [if_pos c31] at H
        have LMc31 := aZ c31
        clear c31
        obtain ⟨y226, hy226⟩ : ∃ y_ : List (List Bool), y_ = (x3_1 ++ [x5_2]) := ⟨_, rfl⟩
        replace H : (changeforgeref3_Reach.l0 k2 l0 y226 (wrap64 (x4_1 + 1))) = some r := by first | (rw [hy226]; with_reducible exact H) | (have H2_ := (Option.bind_some _ _).symm.trans H; rw [hy226]; with_reducible exact H2_) | (have H2_ := (Option.bind_some _ _).symm.trans H; with_reducible exact H2_) | with_reducible exact H | (rw [hy226]; exact H) | exact H
        have Ny226 := aZ hy226
        clear hy226
        have H' := aZ H
        clear H
        go_wp2_with (first | ((with_reducible refine gate_builtin (b := .append) (xs := #[.tmp 58, .tmp 60]) rfl ?_); at_builtin; refine Kd.S_append (Kd.slice 4 Kd.bool) (w0 := w) w.heap.size rfl (.tmp 58) (.tmp 60) 38 37 (.slice none 0 0) 24 rfl Try.underlying38 info37 rfl (by decide) (by omega) u3 x3_1 x5_2 [.slice (some ⟨go7, 0, none⟩) x5_2.length co7] (fun _ => True) (fun k_ => some k_ = (.slice (some ⟨go7, 0, none⟩) x5_2.length co7 : Value).ownBlock) rfl rfl ?aP (fun k_ hk_ => ((Kd.R_mono (ok' := fun k_ => ((fun _ => True)) k_ ∧ some k_ ≠ (u3 : Value).ownBlock) (Kd.R_apart' (HO_5.out) (Kd.S_typed HO_3.out) (by decide)) (fun k_ hk => ⟨trivial, hk.2⟩))).1 k_ hk_.symm) ?aF ?aO ?aB ?aS ?aL ?_; (case aP => exact Kd.M_row (Kd.R_mono (Kd.R_tight rfl (Kd.R_mono (ok' := fun k_ => ((fun _ => True)) k_ ∧ some k_ ≠ (u3 : Value).ownBlock) (Kd.R_apart' (HO_5.out) (Kd.S_typed HO_3.out) (by decide)) (fun k_ hk => ⟨trivial, hk.2⟩))) (fun _ h_ => h_))); (case aB => exact (by repeat (first | (with_reducible first | exact HB.out | apply lA | apply lN | apply lD) | exact HB.out))); (case aF => exact (fun _ _ => trivial)); (case aO => exact (by (with_reducible repeat (first | apply Kd.S_alloc | apply Kd.S_drewN | apply Kd.S_drew)); exact Kd.S_mono HO_3.out (fun k_ hk => ⟨trivial, fun e_ => hk e_⟩))); (case aS => exact (lZ (by repeat (first | (with_reducible first | exact HB.out | apply lA | apply lN | apply lD) | exact HB.out)))); (case aL => have := LMc31.out; omega); intro v227 w32 ho hb hg hat; rw [← Ny226.out] at ho; have n0_ := aZ (hb); have n1_ := aZ (ho); clear HB; clear HO_3; clear HO_5; have HB := n0_; have HO228 := n1_; clear n0_ n1_; clear ho hb hg hat))
        (try simp only [← hl5_2])
        go_roundg k2
        case measure => have := HK1.out; have := HK2.out; omega
        case rel => exact ⟨(y226), (wrap64 (x4_1 + 1)), (by first | rfl | (simp; done) | (simp [*]; done)), H', ⟨by have := HK1.out; have := HK2.out; omega⟩, ⟨by (try simp only [hl5_2]); (with_reducible repeat (first | apply Kd.S_alloc | apply Kd.S_drewN | apply Kd.S_drew)); exact HO228.out⟩, ⟨by repeat (first | (with_reducible first | exact HB.out | apply lA | apply lN | apply lD) | exact HB.out)⟩⟩
      rw [if_pos c12] at H
      have c12b0 : decide (x6_2 < x4_1) = true := decide_eq_true c12
      clear c12
      have H' := aZ H
      clear H
      go_wp2
      go_loopg [7] k2 (fun kq v7 w' => ∃ (x5_3 : List Bool) (x7_3 : Int), v7 = .int .i64 x7_3 ∧ Aside0 (changeforgeref3_Reach.l2 kq l0 x3_1 x4_1 x5_3 x6_2 x7_3 = some r) ∧ Aside0 (kq ≤ k2) ∧ Aside0 (Kd.S (Kd.slice 4 Kd.bool) 37 w' w.heap.size (fun k_ => some k_ ≠ ((.slice (some ⟨go7, 0, none⟩) x5_2.length co7) : Value).ownBlock) u3 x3_1) ∧ Aside0 (Kd.R Kd.bool 4 w' w.heap.size (fun _ => True) (.slice (some ⟨go7, 0, none⟩) x5_2.length co7) x5_3) ∧ Aside0 (Below w.heap.size w w'))
      case atStart => exact ⟨(x5_2), (0), (by first | rfl | (simp; done) | (simp [*]; done)), H', ⟨Nat.le_refl _⟩, ⟨by (try simp only [hl5_2]); (with_reducible repeat (first | apply Kd.S_alloc | apply Kd.S_drewN | apply Kd.S_drew)); exact HO_3.out⟩, ⟨by (try simp only [hl5_2]); (with_reducible repeat (first | apply Kd.rA | apply Kd.rN | apply Kd.rD)); exact HO_5.out⟩, ⟨by repeat (first | (with_reducible first | exact HB.out | apply lA | apply lN | apply lD) | exact HB.out)⟩⟩
      case round =>
       clear H'
       (try clear c12); (try clear c12b0)
       obtain ⟨x5_3, x7_3, rfl, HA, HK3, HO_3, HO_5, HB⟩ := hrel
       have hl5_3 := (Kd.R_reads' HO_5.out).1
       rw [hl5_3] at HO_5
       (try simp only [hl5_3])
       (try simp only [hl5_3] at HO_3)
       cases gk with
       | zero => exact absurd HA.out (by simp [changeforgeref3_Reach.l2])
       | succ k3 =>
        have H := HA.out
        clear HA
        simp only [changeforgeref3_Reach.l2] at H
        by_cases c13 : 0 ≤ x4_1
        rotate_left
        · rw [if_neg c13] at H
          exact absurd H (by simp)
        rw [if_pos c13] at H
        have c13b0 : decide (0 ≤ x4_1) = true := decide_eq_true c13
        clear c13
        by_cases c14 : x4_1 < (l0.length : Int)
        rotate_left
        · rw [if_neg c14] at H
          exact absurd H (by simp)
        rw [if_pos c14] at H
        have c14b0 : decide (x4_1 < (l0.length : Int)) = true := decide_eq_true c14
        (try (have c14b0z5_2 := c14b0; simp only [hl5_2] at c14b0z5_2))
        (try (have c14b0z5_3 := c14b0; simp only [hl5_3] at c14b0z5_3))
        clear c14
        by_cases c15 : x7_3 < (((rd_T49 l0 x4_1).f0).length : Int)
        rotate_left
        · rw [if_neg c15] at H
          have c15b0 : decide (x7_3 < (((rd_T49 l0 x4_1).f0).length : Int)) = false := decide_eq_false c15
          (try (have c15b0z5_2 := c15b0; simp only [hl5_2] at c15b0z5_2))
          (try (have c15b0z5_3 := c15b0; simp only [hl5_3] at c15b0z5_3))
          clear c15
          have H' := aZ H
          clear H
          have p229 : 0 ≤ (x4_1 : Int) := of_decide_eq_true (by first | (with_reducible assumption) | assumption)
          have q229 : x4_1 < (l0.length : Int) := of_decide_eq_true (by first | (with_reducible assumption) | assumption)
          obtain ⟨ad229, A229_0, c229_0, e229, hx229_0, hx229_1, hx229_2, hx229_3, hx229_4, hl229_0, hi229_0⟩ := at_T49 HR0.out x4_1 p229 q229
          cases e229
          replace hx229_0 := (HB.out.cell (World.block_lt_of_cell? w _ hx229_0)).trans hx229_0
          replace hx229_1 := (HB.out.cell (World.block_lt_of_cell? w _ hx229_1)).trans hx229_1
          replace hx229_2 := (HB.out.cell (World.block_lt_of_cell? w _ hx229_2)).trans hx229_2
          replace hx229_3 := (HB.out.cell (World.block_lt_of_cell? w _ hx229_3)).trans hx229_3
          replace hx229_4 := (HB.out.cell (World.block_lt_of_cell? w _ hx229_4)).trans hx229_4
          have HR229_0 := aZ hi229_0
          have HC229_0 := aZ hl229_0
          clear hi229_0 hl229_0
          replace p229 := eq_true p229
          replace q229 := eq_true q229
          go_wp2
          (try simp only [← hl5_2, ← hl5_3])
          go_roundg k3
          case measure => have := HK1.out; have := HK2.out; have := HK3.out; omega
          case rel => exact ⟨(x5_3), (wrap64 (x6_2 + 1)), (by first | rfl | (simp; done) | (simp [*]; done)), H', ⟨by have := HK1.out; have := HK2.out; have := HK3.out; omega⟩, ⟨by (try simp only [hl5_2]); (try simp only [hl5_3]); (with_reducible repeat (first | apply Kd.S_alloc | apply Kd.S_drewN | apply Kd.S_drew)); exact HO_3.out⟩, ⟨by (try simp only [hl5_2]); (try simp only [hl5_3]); (with_reducible repeat (first | apply Kd.rA | apply Kd.rN | apply Kd.rD)); exact HO_5.out⟩, ⟨by repeat (first | (with_reducible first | exact HB.out | apply lA | apply lN | apply lD) | exact HB.out)⟩⟩
        rw [if_pos c15] at H
        have c15b0 : decide (x7_3 < (((rd_T49 l0 x4_1).f0).length : Int)) = true := decide_eq_true c15
        (try (have c15b0z5_2 := c15b0; simp only [hl5_2] at c15b0z5_2))
        (try (have c15b0z5_3 := c15b0; simp only [hl5_3] at c15b0z5_3))
        clear c15
        by_cases c16 : 0 ≤ x6_2
        rotate_left
        · rw [if_neg c16] at H
          exact absurd H (by simp)
        rw [if_pos c16] at H
        have c16b0 : decide (0 ≤ x6_2) = true := decide_eq_true c16
        clear c16
        by_cases c17 : x6_2 < (x5_3.length : Int)
        rotate_left
        · rw [if_neg c17] at H
          exact absurd H (by simp)
        rw [if_pos c17] at H
        have c17b0 : decide (x6_2 < (x5_3.length : Int)) = true := decide_eq_true c17
        (try (have c17b0z5_2 := c17b0; simp only [hl5_2] at c17b0z5_2))
        (try (have c17b0z5_3 := c17b0; simp only [hl5_3] at c17b0z5_3))
        clear c17
        obtain ⟨bq18, hbq18⟩ : ∃ b_ : Bool, b_ = (rdOf false x5_3 x6_2) := ⟨_, rfl⟩
        replace H : (if bq18 = true then (changeforgeref3_Reach.l2 k3 l0 x3_1 x4_1 (x5_3.set (x6_2 : Int).toNat true) x6_2 (wrap64 (x7_3 + 1))) else (if 0 ≤ x7_3 then (if 0 ≤ (rd ((rd_T49 l0 x4_1).f0) x7_3) then (if (rd ((rd_T49 l0 x4_1).f0) x7_3) < (x3_1.length : Int) then (if x6_2 < ((rd_L5 x3_1 (rd ((rd_T49 l0 x4_1).f0) x7_3)).length : Int) then (changeforgeref3_Reach.l2 k3 l0 x3_1 x4_1 (x5_3.set (x6_2 : Int).toNat (rdOf false (rd_L5 x3_1 (rd ((rd_T49 l0 x4_1).f0) x7_3)) x6_2)) x6_2 (wrap64 (x7_3 + 1))) else (none)) else (none)) else (none)) else (none))) = some r := by rw [← hbq18] at H; exact H
        have Nbq18 := aZ hbq18
        clear hbq18
        by_cases c19 : bq18 = true
        · subst c19
          have H1 : (changeforgeref3_Reach.l2 k3 l0 x3_1 x4_1 (x5_3.set (x6_2 : Int).toNat true) x6_2 (wrap64 (x7_3 + 1))) = some r := by rw [if_pos rfl] at H; exact H
          clear H
          have H := H1
          clear H1
          obtain ⟨y231, hy231⟩ : ∃ y_ : List Bool, y_ = (x5_3.set (x6_2 : Int).toNat true) := ⟨_, rfl⟩
          replace H : (changeforgeref3_Reach.l2 k3 l0 x3_1 x4_1 y231 x6_2 (wrap64 (x7_3 + 1))) = some r := by first | (rw [hy231]; with_reducible exact H) | (have H2_ := (Option.bind_some _ _).symm.trans H; rw [hy231]; with_reducible exact H2_) | (have H2_ := (Option.bind_some _ _).symm.trans H; with_reducible exact H2_) | with_reducible exact H | (rw [hy231]; exact H) | exact H
          have Ny231 := aZ hy231
          clear hy231
          have H' := aZ H
          clear H
          have p229 : 0 ≤ (x4_1 : Int) := of_decide_eq_true (by first | (with_reducible assumption) | assumption)
          have q229 : x4_1 < (l0.length : Int) := of_decide_eq_true (by first | (with_reducible assumption) | assumption)
          obtain ⟨ad229, A229_0, c229_0, e229, hx229_0, hx229_1, hx229_2, hx229_3, hx229_4, hl229_0, hi229_0⟩ := at_T49 HR0.out x4_1 p229 q229
          cases e229
          replace hx229_0 := (HB.out.cell (World.block_lt_of_cell? w _ hx229_0)).trans hx229_0
          replace hx229_1 := (HB.out.cell (World.block_lt_of_cell? w _ hx229_1)).trans hx229_1
          replace hx229_2 := (HB.out.cell (World.block_lt_of_cell? w _ hx229_2)).trans hx229_2
          replace hx229_3 := (HB.out.cell (World.block_lt_of_cell? w _ hx229_3)).trans hx229_3
          replace hx229_4 := (HB.out.cell (World.block_lt_of_cell? w _ hx229_4)).trans hx229_4
          have HR229_0 := aZ hi229_0
          have HC229_0 := aZ hl229_0
          clear hi229_0 hl229_0
          replace p229 := eq_true p229
          replace q229 := eq_true q229
          have p230 : 0 ≤ (x6_2 : Int) := of_decide_eq_true (by first | (with_reducible assumption) | assumption)
          have q230 : x6_2 < (x5_3.length : Int) := of_decide_eq_true (by first | (with_reducible assumption) | assumption)
          obtain ⟨ad230, e230, hx230_0⟩ := Kd.at_bool (Kd.R_reads' HO_5.out).2.2 x6_2 p230 q230
          (try rw [← Nbq18.out] at hx230_0)
          obtain rfl : (⟨go7, 0, none⟩ : Addr) = ad230 := (by injection e230)
          (first | simp only [add_plain] at hx230_0 | simp only [add_at] at hx230_0 | simp only [Addr.add, Nat.zero_add] at hx230_0 | skip)
          replace p230 := eq_true p230
          replace q230 := eq_true q230
          have p20 : 0 ≤ (x6_2 : Int) := of_decide_eq_true (by first | (with_reducible assumption) | assumption)
          have q20 : (x6_2 : Int) < ((x5_3.length : Int) : Int) := of_decide_eq_true (by first | (with_reducible assumption) | assumption)
          obtain ⟨hx20_0, hf20_0⟩ := Kd.R_celln false HO_5.out (x6_2 : Int) p20 q20
          replace p20 := eq_true p20
          replace q20 := eq_true q20
          have HP21 := Kd.R_putg HO_5.out (x6_2 : Int) true
          go_wp2_with (first | ((with_reducible refine gate_store (t := 4) (p := 57) rfl ?_); refine store_event (t := 4) (p := 57) (v := ?vo_w22) (w1 := (wr.setCell ⟨go7, (x6_2 : Int).toNat, none⟩ (.bool true))) ?hg ?ho ?hn ?hr ?_; (case ho => rfl); (case hg => rfl); (case hn => rfl); (case hr => first | (go_simp; done) | (go_simp; rfl)); intro w22 hw; have hg : wr.grownBy w22 (some go7) := (by rw [hw]; exact HP21.2); have hp_ : Kd.R Kd.bool 4 w22 w.heap.size (fun _ => True) (.slice (some ⟨go7, 0, none⟩) x5_3.length co7) y231 := (by rw [hw, Ny231.out]; exact HP21.1); clear HP21; have n0_ := aZ (Kd.S_after (v := (.slice (some ⟨go7, 0, none⟩) x5_3.length co7)) (v1 := (.slice (some ⟨go7, 0, none⟩) x5_3.length co7)) (ok := (fun _ => True)) (by (with_reducible repeat (first | apply Kd.S_alloc | apply Kd.S_drewN | apply Kd.S_drew)); exact Kd.S_mono HO_3.out (fun _ hk => ⟨trivial, hk⟩)) hg (.inl rfl)); have n1_ := aZ (hp_); have n2_ := aZ ((by rw [hw]; exact lS (HB.out) GB7.out : Below w.heap.size w w22)); clear HO_3; clear HO_5; clear HB; have HO_3 := n0_; have HO_5 := n1_; have HB := n2_; clear n0_ n1_ n2_; clear hg hw hp_))
          (try simp only [← hl5_3])
          go_roundg k3
          case measure => have := HK1.out; have := HK2.out; have := HK3.out; omega
          case rel => exact ⟨(y231), (wrap64 (x7_3 + 1)), (by first | rfl | (simp; done) | (simp [*]; done)), H', ⟨by have := HK1.out; have := HK2.out; have := HK3.out; omega⟩, ⟨by (try simp only [hl5_2]); (try simp only [hl5_3]); (with_reducible repeat (first | apply Kd.S_alloc | apply Kd.S_drewN | apply Kd.S_drew)); exact Kd.S_mono HO_3.out (fun _ hk => hk.2)⟩, ⟨by (try simp only [hl5_2]); (try simp only [hl5_3]); (with_reducible repeat (first | apply Kd.rA | apply Kd.rN | apply Kd.rD)); exact HO_5.out⟩, ⟨by repeat (first | (with_reducible first | exact HB.out | apply lA | apply lN | apply lD) | exact HB.out)⟩⟩
        replace c19 := Bool.eq_false_iff.mpr c19
        subst c19
        have H1 : (if 0 ≤ x7_3 then (if 0 ≤ (rd ((rd_T49 l0 x4_1).f0) x7_3) then (if (rd ((rd_T49 l0 x4_1).f0) x7_3) < (x3_1.length : Int) then (if x6_2 < ((rd_L5 x3_1 (rd ((rd_T49 l0 x4_1).f0) x7_3)).length : Int) then (changeforgeref3_Reach.l2 k3 l0 x3_1 x4_1 (x5_3.set (x6_2 : Int).toNat (rdOf false (rd_L5 x3_1 (rd ((rd_T49 l0 x4_1).f0) x7_3)) x6_2)) x6_2 (wrap64 (x7_3 + 1))) else (none)) else (none)) else (none)) else (none)) = some r := by rw [if_neg (show ¬ (false = true) by decide)] at H; exact H
        clear H
        have H := H1
        clear H1
        by_cases c23 : 0 ≤ x7_3
        rotate_left
        · rw [if_neg c23] at H
          exact absurd H (by simp)
        rw [if_pos c23] at H
        have c23b0 : decide (0 ≤ x7_3) = true := decide_eq_true c23
        clear c23
        by_cases c24 : 0 ≤ (rd ((rd_T49 l0 x4_1).f0) x7_3)
        rotate_left
        · rw [if_neg c24] at H
          exact absurd H (by simp)
        rw [if_pos c24] at H
        have c24b0 : decide (0 ≤ (rd ((rd_T49 l0 x4_1).f0) x7_3)) = true := decide_eq_true c24
        clear c24
        by_cases c25 : (rd ((rd_T49 l0 x4_1).f0) x7_3) < (x3_1.length : Int)
        rotate_left
        · rw [if_neg c25] at H
          exact absurd H (by simp)
        rw [if_pos c25] at H
        have c25b0 : decide ((rd ((rd_T49 l0 x4_1).f0) x7_3) < (x3_1.length : Int)) = true := decide_eq_true c25
        (try (have c25b0z5_2 := c25b0; simp only [hl5_2] at c25b0z5_2))
        (try (have c25b0z5_3 := c25b0; simp only [hl5_3] at c25b0z5_3))
        clear c25
        by_cases c26 : x6_2 < ((rd_L5 x3_1 (rd ((rd_T49 l0 x4_1).f0) x7_3)).length : Int)
        rotate_left
        · rw [if_neg c26] at H
          exact absurd H (by simp)
        rw [if_pos c26] at H
        have c26b0 : decide (x6_2 < ((rd_L5 x3_1 (rd ((rd_T49 l0 x4_1).f0) x7_3)).length : Int)) = true := decide_eq_true c26
        (try (have c26b0z5_2 := c26b0; simp only [hl5_2] at c26b0z5_2))
        (try (have c26b0z5_3 := c26b0; simp only [hl5_3] at c26b0z5_3))
        clear c26
        obtain ⟨y236, hy236⟩ : ∃ y_ : List Bool, y_ = (x5_3.set (x6_2 : Int).toNat (rdOf false (rd_L5 x3_1 (rd ((rd_T49 l0 x4_1).f0) x7_3)) x6_2)) := ⟨_, rfl⟩
        replace H : (changeforgeref3_Reach.l2 k3 l0 x3_1 x4_1 y236 x6_2 (wrap64 (x7_3 + 1))) = some r := by first | (rw [hy236]; with_reducible exact H) | (have H2_ := (Option.bind_some _ _).symm.trans H; rw [hy236]; with_reducible exact H2_) | (have H2_ := (Option.bind_some _ _).symm.trans H; with_reducible exact H2_) | with_reducible exact H | (rw [hy236]; exact H) | exact H
        have Ny236 := aZ hy236
        clear hy236
        have H' := aZ H
        clear H
        have p229 : 0 ≤ (x4_1 : Int) := of_decide_eq_true (by first | (with_reducible assumption) | assumption)
        have q229 : x4_1 < (l0.length : Int) := of_decide_eq_true (by first | (with_reducible assumption) | assumption)
        obtain ⟨ad229, A229_0, c229_0, e229, hx229_0, hx229_1, hx229_2, hx229_3, hx229_4, hl229_0, hi229_0⟩ := at_T49 HR0.out x4_1 p229 q229
        cases e229
        replace hx229_0 := (HB.out.cell (World.block_lt_of_cell? w _ hx229_0)).trans hx229_0
        replace hx229_1 := (HB.out.cell (World.block_lt_of_cell? w _ hx229_1)).trans hx229_1
        replace hx229_2 := (HB.out.cell (World.block_lt_of_cell? w _ hx229_2)).trans hx229_2
        replace hx229_3 := (HB.out.cell (World.block_lt_of_cell? w _ hx229_3)).trans hx229_3
        replace hx229_4 := (HB.out.cell (World.block_lt_of_cell? w _ hx229_4)).trans hx229_4
        have HR229_0 := aZ hi229_0
        have HC229_0 := aZ hl229_0
        clear hi229_0 hl229_0
        replace p229 := eq_true p229
        replace q229 := eq_true q229
        have p230 : 0 ≤ (x6_2 : Int) := of_decide_eq_true (by first | (with_reducible assumption) | assumption)
        have q230 : x6_2 < (x5_3.length : Int) := of_decide_eq_true (by first | (with_reducible assumption) | assumption)
        obtain ⟨ad230, e230, hx230_0⟩ := Kd.at_bool (Kd.R_reads' HO_5.out).2.2 x6_2 p230 q230
        (try rw [← Nbq18.out] at hx230_0)
        obtain rfl : (⟨go7, 0, none⟩ : Addr) = ad230 := (by injection e230)
        (first | simp only [add_plain] at hx230_0 | simp only [add_at] at hx230_0 | simp only [Addr.add, Nat.zero_add] at hx230_0 | skip)
        replace p230 := eq_true p230
        replace q230 := eq_true q230
        have p232 : 0 ≤ (x4_1 : Int) := of_decide_eq_true (by first | (with_reducible assumption) | assumption)
        have q232 : x4_1 < (l0.length : Int) := of_decide_eq_true (by first | (with_reducible assumption) | assumption)
        obtain ⟨ad232, A232_0, c232_0, e232, hx232_0, hx232_1, hx232_2, hx232_3, hx232_4, hl232_0, hi232_0⟩ := at_T49 HR0.out x4_1 p232 q232
        obtain rfl : ad229 = ad232 := (by injection e232)
        replace hx232_0 := (HB.out.cell (World.block_lt_of_cell? w _ hx232_0)).trans hx232_0
        replace hx232_1 := (HB.out.cell (World.block_lt_of_cell? w _ hx232_1)).trans hx232_1
        replace hx232_2 := (HB.out.cell (World.block_lt_of_cell? w _ hx232_2)).trans hx232_2
        replace hx232_3 := (HB.out.cell (World.block_lt_of_cell? w _ hx232_3)).trans hx232_3
        replace hx232_4 := (HB.out.cell (World.block_lt_of_cell? w _ hx232_4)).trans hx232_4
        have HR232_0 := aZ hi232_0
        have HC232_0 := aZ hl232_0
        clear hi232_0 hl232_0
        replace p232 := eq_true p232
        replace q232 := eq_true q232
        have ea_ := Option.some.inj (hx229_0.symm.trans hx232_0)
        injection ea_ with ea_ en_ ec_
        subst ea_
        subst ec_
        clear en_
        have p233 : 0 ≤ (x7_3 : Int) := of_decide_eq_true (by first | (with_reducible assumption) | assumption)
        have q233 : x7_3 < (((rd_T49 l0 x4_1).f0).length : Int) := of_decide_eq_true (by first | (with_reducible assumption) | assumption)
        obtain ⟨ad233, e233, hx233_0⟩ := Kd.at_int HR232_0.out x7_3 p233 q233
        cases e233
        replace hx233_0 := (HB.out.cell (World.block_lt_of_cell? w _ hx233_0)).trans hx233_0
        replace p233 := eq_true p233
        replace q233 := eq_true q233
        obtain ⟨Ao28, co28, eo28⟩ := Kd.S_slice HO_3.out
        subst eo28
        have p234 : 0 ≤ ((rd ((rd_T49 l0 x4_1).f0) x7_3) : Int) := of_decide_eq_true (by first | (with_reducible assumption) | assumption)
        have q234 : (rd ((rd_T49 l0 x4_1).f0) x7_3) < (x3_1.length : Int) := of_decide_eq_true (by first | (with_reducible assumption) | assumption)
        obtain ⟨ad234, A234_0, c234_0, e234, hx234_0, hl234_0, hi234_0⟩ := at_L5 (Kd.S_reads' HO_3.out).2.2 (rd ((rd_T49 l0 x4_1).f0) x7_3) p234 q234
        cases e234
        obtain ⟨ce234, hce234, hMe234, hcc234⟩ := Kd.S_get HO_3.out [] (rd ((rd_T49 l0 x4_1).f0) x7_3) p234 (by first | exact q234 | exact of_decide_eq_true (by first | (with_reducible assumption) | assumption) | (have e_ := (Kd.S_reads' HO_3.out).1; omega))
        obtain ⟨ve234_0, rfl, ge234_0⟩ := hMe234
        have hv234_0 := hcc234 0 _ rfl
        rw [Nat.add_zero, show ((Kd.slice 4 Kd.bool)).sz = 1 from rfl, Nat.mul_one] at hv234_0
        replace hv234_0 := Option.some.inj (hv234_0.symm.trans hx234_0)
        rw [hv234_0] at ge234_0
        have HL234_0 := aZ (show Kd.R Kd.bool 4 _ _ _ _ (rd_L5 x3_1 (rd ((rd_T49 l0 x4_1).f0) x7_3)) from ge234_0)
        clear hv234_0 ge234_0
        clear hcc234 hce234
        have HR234_0 := aZ hi234_0
        have HC234_0 := aZ hl234_0
        clear hi234_0 hl234_0
        replace p234 := eq_true p234
        replace q234 := eq_true q234
        have p235 : 0 ≤ (x6_2 : Int) := of_decide_eq_true (by first | (with_reducible assumption) | assumption)
        have q235 : x6_2 < ((rd_L5 x3_1 (rd ((rd_T49 l0 x4_1).f0) x7_3)).length : Int) := of_decide_eq_true (by first | (with_reducible assumption) | assumption)
        obtain ⟨ad235, e235, hx235_0⟩ := Kd.at_bool (by repeat (first | (with_reducible exact HR234_0.out) | (with_reducible refine Kd.C_alloc ?_ _) | (with_reducible refine Kd.C_drewN ?_ _) | (with_reducible refine Kd.C_drew ?_) | exact HR234_0.out)) x6_2 p235 q235
        (try rw [← Nbq18.out] at hx235_0)
        cases e235
        replace p235 := eq_true p235
        replace q235 := eq_true q235
        have p27 : 0 ≤ (x6_2 : Int) := of_decide_eq_true (by first | (with_reducible assumption) | assumption)
        have q27 : (x6_2 : Int) < ((x5_3.length : Int) : Int) := of_decide_eq_true (by first | (with_reducible assumption) | assumption)
        obtain ⟨hx27_0, hf27_0⟩ := Kd.R_celln false HO_5.out (x6_2 : Int) p27 q27
        replace p27 := eq_true p27
        replace q27 := eq_true q27
        have HP29 := Kd.R_putg HO_5.out (x6_2 : Int) (rdOf false (rd_L5 x3_1 (rd ((rd_T49 l0 x4_1).f0) x7_3)) x6_2)
        go_wp2_with (first | ((with_reducible refine gate_store (t := 4) (p := 57) rfl ?_); refine store_event (t := 4) (p := 57) (v := ?vo_w30) (w1 := (wr.setCell ⟨go7, (x6_2 : Int).toNat, none⟩ (.bool (rdOf false (rd_L5 x3_1 (rd ((rd_T49 l0 x4_1).f0) x7_3)) x6_2)))) ?hg ?ho ?hn ?hr ?_; (case ho => rfl); (case hg => rfl); (case hn => rfl); (case hr => first | (go_simp; done) | (go_simp; rfl)); intro w30 hw; have hg : wr.grownBy w30 (some go7) := (by rw [hw]; exact HP29.2); have hp_ : Kd.R Kd.bool 4 w30 w.heap.size (fun _ => True) (.slice (some ⟨go7, 0, none⟩) x5_3.length co7) y236 := (by rw [hw, Ny236.out]; exact HP29.1); clear HP29; have n0_ := aZ (Kd.S_after (v := (.slice (some ⟨go7, 0, none⟩) x5_3.length co7)) (v1 := (.slice (some ⟨go7, 0, none⟩) x5_3.length co7)) (ok := (fun _ => True)) (by (with_reducible repeat (first | apply Kd.S_alloc | apply Kd.S_drewN | apply Kd.S_drew)); exact Kd.S_mono HO_3.out (fun _ hk => ⟨trivial, hk⟩)) hg (.inl rfl)); have n1_ := aZ (hp_); have n2_ := aZ (Kd.R_after (v := (.slice (some ⟨go7, 0, none⟩) x5_3.length co7)) (v1 := (.slice (some ⟨go7, 0, none⟩) x5_3.length co7)) (ok := (fun k_ => some k_ ≠ (.slice (some ad234) x3_1.length co28 : Value).ownBlock)) (by (with_reducible repeat (first | apply Kd.rA | apply Kd.rN | apply Kd.rD)); exact Kd.R_mono HL234_0.out (fun _ hk => ⟨hk.2, hk.1⟩)) hg (.inl rfl)); have n3_ := aZ ((by rw [hw]; exact lS (HB.out) GB7.out : Below w.heap.size w w30)); clear HO_3; clear HO_5; clear HL234_0; clear HB; have HO_3 := n0_; have HO_5 := n1_; have HL234_0 := n2_; have HB := n3_; clear n0_ n1_ n2_ n3_; clear hg hw hp_))
        (try simp only [← hl5_3])
        go_roundg k3
        case measure => have := HK1.out; have := HK2.out; have := HK3.out; omega
        case rel => exact ⟨(y236), (wrap64 (x7_3 + 1)), (by first | rfl | (simp; done) | (simp [*]; done)), H', ⟨by have := HK1.out; have := HK2.out; have := HK3.out; omega⟩, ⟨by (try simp only [hl5_2]); (try simp only [hl5_3]); (with_reducible repeat (first | apply Kd.S_alloc | apply Kd.S_drewN | apply Kd.S_drew)); exact Kd.S_mono HO_3.out (fun _ hk => hk.2)⟩, ⟨by (try simp only [hl5_2]); (try simp only [hl5_3]); (with_reducible repeat (first | apply Kd.rA | apply Kd.rN | apply Kd.rD)); exact HO_5.out⟩, ⟨by repeat (first | (with_reducible first | exact HB.out | apply lA | apply lN | apply lD) | exact HB.out)⟩⟩
end Go.Proofs.Ytojhnjgnpjoacaa.P
