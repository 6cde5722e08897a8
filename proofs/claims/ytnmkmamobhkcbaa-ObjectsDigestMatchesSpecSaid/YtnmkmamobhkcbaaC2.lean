/- Part 2 of 4 of the proof of ObjectsDigestMatchesSpec: what the printed functions come to, and the row (no condition beyond the statement's own). -/
import Derived.Test.YtnmkmamobhkcbaaC1
namespace Go.Proofs.Ytnmkmamobhkcbaa.P
open Go.RowKit Go.Proofs.YtnmkmamobhkcbaaW.PrintWords Go.Proofs.YtnmkmamobhkcbaaW.PrintLast Go.Proofs.YtnmkmamobhkcbaaW.PrintMore
attribute [local go_sem] max2_int min2_int max_two min_two max_three min_three max_four min_four   -- for this text's walks alone
set_option linter.unusedVariables false
set_option linter.unusedSimpArgs false
def d5.l0 : Nat → Int → List Int → Int → Option (List Int)
  | 0, _, _, _ => none
  | k + 1, x0, x3, x4 => if x4 ≥ 0 then (if 0 ≤ x4 then (if x4 < (x3.length : Int) then (d5.l0 k (wrap64 (Int.tdiv x0 256)) (x3.set (x4 : Int).toNat ((Int.tmod x0 256) % 256)) (wrap64 (x4 - 1))) else (none)) else (none)) else (some x3)
def d5.f (k : Nat) (a0 : Int) : Option (List Int) := if 8 ≤ 281474976710656 then (d5.l0 k a0 (List.replicate 8 0) 7) else (none)
theorem d5.mono_l : ∀ k, (∀ y0 y1 y2, LeO (d5.l0 k y0 y1 y2) (d5.l0 (k + 1) y0 y1 y2))
  | 0 => fun _ _ _ r h => by simp [d5.l0] at h
  | k + 1 => by
    have t6 := d5.mono_l k
    · intro y0 y1 y2
      unfold d5.l0
      repeat' first | (with_reducible first | exact t6 _ _ _ | exact LeO.refl _ | exact LeO.none _ | refine LeO.ite ?_ ?_ | refine LeO.bind ?_ (fun _ => ?_)) | exact t6 _ _ _ | exact LeO.none _ | refine LeO.ite ?_ ?_ | refine LeO.bind ?_ (fun _ => ?_)
theorem d5.mono : ∀ a0 k, LeO (d5.f k a0) (d5.f (k + 1) a0) := by
  intro a0 k
  have t6 := d5.mono_l k
  unfold d5.f
  repeat' first | (with_reducible first | exact t6 _ _ _ | exact LeO.refl _ | exact LeO.none _ | refine LeO.ite ?_ ?_ | refine LeO.bind ?_ (fun _ => ?_)) | exact t6 _ _ _ | exact LeO.none _ | refine LeO.ite ?_ ?_ | refine LeO.bind ?_ (fun _ => ?_)
set_option maxHeartbeats 8000000 in
set_option maxRecDepth 100000 in
theorem d5.calls (k : Nat) (a0 : Int) (r : List Int) (w : World) (h : d5.f k a0 = some r) :
  Calls Try.prog 42 #[.int .i64 a0] w fun e w' => ∃ v0_ : Value, e = .returned (v0_) ∧ Kd.R (Kd.int .u8) 5 w' w.heap.size (fun _ => True) v0_ r ∧ Below w.heap.size w w' := by
  have HB := aZ (Below.refl w.heap.size w)
  have H : (if 8 ≤ 281474976710656 then (d5.l0 k a0 (List.replicate 8 0) 7) else (none)) = some r := h
  clear h
  by_cases c2 : 8 ≤ 281474976710656
  rotate_left
  · rw [if_neg c2] at H
    exact absurd H (by simp)

  rw [if_pos c2] at H
  have an7 := eq_true c2
  have aH7 : decide (8 ≤ 281474976710656) = true := decide_eq_true c2
  clear c2
  obtain ⟨cs2, aT5⟩ : ∃ y_ : List Int, y_ = (List.replicate 8 0) := ⟨_, rfl⟩
  replace H : (d5.l0 k a0 cs2 7) = some r := by first | (rw [aT5]; with_reducible exact H) | (have P7 := (Option.bind_some _ _).symm.trans H; rw [aT5]; with_reducible exact P7) | (have P7 := (Option.bind_some _ _).symm.trans H; with_reducible exact P7) | with_reducible exact H | (rw [aT5]; exact H) | exact H
  have bT8 := aZ aT5
  clear aT5
  have H' := aZ H
  clear H
  go_enter Try.func42, Try.ntmps42
  go_wp2_with (first | ((with_reducible refine gate_dst (N := 5) rfl ?_); refine Kd.R_make (Kd.int .u8) _ 5 rfl (N := 5) rfl 26 _ _ rfl 8 rfl rfl Try.underlying26 (.int .u8 0) 1 aI5 rfl (by decide) (by omega) 0 (ok := fun _ => True) (okp := fun _ => True) rfl (fun _ hk => hk) trivial (by omega) (by omega) (Below.refl _ _) (Nat.le_refl _) ?_; intro do7 w3 ho4 hb hg_ hnew_; clear hg_ hnew_; (first | rw [← bT8.out] at ho4 | (simp only [Int.reduceToNat] at ho4; rw [← bT8.out] at ho4)); have cs3 := aZ (Kd.R_lower ho4 (lZ (by repeat (first | (with_reducible first | exact HB.out | apply lA | apply lN | apply lD) | exact HB.out)))); replace HB := xhl HB hb; clear hb ho4))
  go_loopg [0, 4] k (fun kq v0 v4 w' => ∃ (ai2 : Int) (d6 : List Int) (o9 : Int), v0 = .int .i64 ai2 ∧ v4 = .int .i64 o9 ∧ Aside0 (d5.l0 kq ai2 d6 o9 = some r) ∧ Aside0 (kq ≤ k) ∧ Aside0 (Kd.R (Kd.int .u8) 5 w' w.heap.size (fun _ => True) do7 d6) ∧ Aside0 (Below w.heap.size w w'))
  case atStart => exact ⟨(a0), (cs2), (7), xrs, xrs, H', ⟨Nat.le_refl _⟩, ⟨by (with_reducible repeat (first | apply Kd.rA | apply Kd.rN | apply Kd.rD)); exact cs3.out⟩, xb HB⟩
  case round =>
   clear H'
   (try clear c2); (try clear an7); (try clear aH7)
   obtain ⟨ai2, d6, o9, rfl, rfl, HA, S8, al9, HB⟩ := hrel
   cases gk with
   | zero => exact absurd HA.out (by simp [d5.l0])
   | succ k1 =>
    have H := HA.out
    clear HA
    simp only [d5.l0] at H
    by_cases c5 : o9 ≥ 0
    rotate_left
    · rw [if_neg c5] at H
      have aK8 : decide (0 ≤ o9) = false := decide_eq_false c5
      clear c5
      obtain rfl := Option.some.inj H
      go_wp2
      go_ret
      exact ⟨_, xre, by (with_reducible repeat (first | apply Kd.rA | apply Kd.rN | apply Kd.rD)); exact al9.out, xq HB⟩
    rw [if_pos c5] at H
    have aK8 : decide (0 ≤ o9) = true := decide_eq_true c5
    clear c5
    by_cases c6 : 0 ≤ o9
    rotate_left
    · rw [if_neg c6] at H
      exact absurd H (by simp)
    rw [if_pos c6] at H
    have Y9 : decide (0 ≤ o9) = true := decide_eq_true c6
    clear c6
    by_cases c7 : o9 < (d6.length : Int)
    rotate_left
    · rw [if_neg c7] at H
      exact absurd H (by simp)
    rw [if_pos c7] at H
    have aS2 : decide (o9 < (d6.length : Int)) = true := decide_eq_true c7
    clear c7
    obtain ⟨cc1, aT7⟩ : ∃ y_ : List Int, y_ = (d6.set (o9 : Int).toNat ((Int.tmod ai2 256) % 256)) := ⟨_, rfl⟩
    replace H : (d5.l0 k1 (wrap64 (Int.tdiv ai2 256)) cc1 (wrap64 (o9 - 1))) = some r := by first | (rw [aT7]; with_reducible exact H) | (have P7 := (Option.bind_some _ _).symm.trans H; rw [aT7]; with_reducible exact P7) | (have P7 := (Option.bind_some _ _).symm.trans H; with_reducible exact P7) | with_reducible exact H | (rw [aT7]; exact H) | exact H
    have cs4 := aZ aT7
    clear aT7
    have H' := aZ H
    clear H
    have p8 : 0 ≤ (o9 : Int) := of_decide_eq_true xas
    have q8 : (o9 : Int) < ((d6.length : Int) : Int) := of_decide_eq_true xas
    obtain ⟨go8, co8, eo8, gb8, gl8, cl8, HG8⟩ := Kd.R_form al9.out (by omega)
    (first | cases eo8 | (injection eo8 with ea_ en_ ec_; (first | subst ea_ | (injection ea_ with ea_; subst ea_)); subst ec_; clear en_))
    have GB8 := aZ gb8
    have GG8 := aZ HG8
    clear gb8 gl8 HG8
    obtain ⟨dL5, dL6⟩ := Kd.R_celln 0 al9.out (o9 : Int) p8 q8
    replace p8 := eq_true p8
    replace q8 := eq_true q8
    have HP9 := Kd.R_putg al9.out (o9 : Int) ((Int.tmod ai2 256) % 256)
    go_wp2_with (first | ((with_reducible refine gate_store (t := 5) (p := 15) rfl ?_); refine store_event (t := 5) (p := 15) (v := ?vo_w10) (w1 := (wr.setCell ⟨go8, (o9 : Int).toNat, none⟩ (.int .u8 ((Int.tmod ai2 256) % 256)))) ?hg ?ho ?hn ?hr ?_; (case ho => rfl); (case hg => rfl); (case hn => rfl); (case hr => first | (go_simp; done) | (go_simp; rfl)); intro w10 hw; have hg : wr.grownBy w10 (some go8) := (by rw [hw]; exact HP9.2); have hp_ : Kd.R (Kd.int .u8) 5 w10 w.heap.size (fun _ => True) (.slice (some ⟨go8, 0, none⟩) d6.length co8) cc1 := (by rw [hw, cs4.out]; exact HP9.1); clear HP9; replace al9 := aZ (hp_); replace HB := aZ ((by rw [hw]; exact lS (HB.out) GB8.out : Below w.heap.size w w10)); clear hg hw hp_))
    go_roundg k1
    case measure => have := S8.out; omega
    case rel => exact ⟨(wrap64 (Int.tdiv ai2 256)), (cc1), (wrap64 (o9 - 1)), xrs, xrs, H', ⟨by have := S8.out; omega⟩, ⟨by (with_reducible repeat (first | apply Kd.rA | apply Kd.rN | apply Kd.rD)); exact al9.out⟩, xb HB⟩
def k6.f (a0 : Int) : Option (Int) := if (wrap64 (a0 + a0)) ≥ 2305843009213693951 then (some (wrap64 ((wrap64 (a0 + a0)) - 2305843009213693951))) else (some (wrap64 (a0 + a0)))
set_option maxHeartbeats 8000000 in
set_option maxRecDepth 100000 in
theorem k6.calls (a0 : Int) (r : Int) (w : World) (h : k6.f a0 = some r) :
    Calls Try.prog 67 #[.int .i64 a0] w fun e w' => e = .returned (.int .i64 r) ∧ Drawn0 w w' := by
  have H : (if (wrap64 (a0 + a0)) ≥ 2305843009213693951 then (some (wrap64 ((wrap64 (a0 + a0)) - 2305843009213693951))) else (some (wrap64 (a0 + a0)))) = some r := h
  clear h
  by_cases c2 : (wrap64 (a0 + a0)) ≥ 2305843009213693951
  · rw [if_pos c2] at H
    have an7 : decide (2305843009213693951 ≤ (wrap64 (a0 + a0))) = true := decide_eq_true c2
    clear c2
    obtain rfl := Option.some.inj H
    go_enter Try.func67, Try.ntmps67
    go_wp2
    go_ret
    exact ⟨by first | rfl | (simp; done) | (simp [*]; done), by repeat (first | exact Drawn0.refl _ | apply Drawn0.step)⟩
  · rw [if_neg c2] at H
    have an7 : decide (2305843009213693951 ≤ (wrap64 (a0 + a0))) = false := decide_eq_false c2
    clear c2
    obtain rfl := Option.some.inj H
    go_enter Try.func67, Try.ntmps67
    go_wp2
    go_ret
    exact ⟨by first | rfl | (simp; done) | (simp [*]; done), by repeat (first | exact Drawn0.refl _ | apply Drawn0.step)⟩
def b7.l0 : Nat → Int → Int → Int → Option (Int)
  | 0, _, _, _ => none
  | k + 1, x0, x1, x5 => if x1 > 0 then (if (Int.tmod x1 2) = 1 then ((k6.f x0).bind fun bv2 => (b7.l0 k bv2 (wrap64 (Int.tdiv x1 2)) (Int.tmod (wrap64 (x5 + x0)) 2305843009213693951))) else ((k6.f x0).bind fun bv3 => (b7.l0 k bv3 (wrap64 (Int.tdiv x1 2)) x5))) else (some x5)
def b7.f (k : Nat) (a0 : Int) (a1 : Int) : Option (Int) := b7.l0 k a0 a1 0
theorem b7.mono_l : ∀ k, (∀ y0 y1 y2, LeO (b7.l0 k y0 y1 y2) (b7.l0 (k + 1) y0 y1 y2))
  | 0 => fun _ _ _ r h => by simp [b7.l0] at h
  | k + 1 => by
    have t6 := b7.mono_l k
    · intro y0 y1 y2
      unfold b7.l0
      repeat' first | (with_reducible first | exact t6 _ _ _ | exact LeO.refl _ | exact LeO.none _ | refine LeO.ite ?_ ?_ | refine LeO.bind ?_ (fun _ => ?_)) | exact t6 _ _ _ | exact LeO.none _ | refine LeO.ite ?_ ?_ | refine LeO.bind ?_ (fun _ => ?_)
theorem b7.mono : ∀ a0 a1 k, LeO (b7.f k a0 a1) (b7.f (k + 1) a0 a1) := by
  intro a0 a1 k
  have t6 := b7.mono_l k
  unfold b7.f
  repeat' first | (with_reducible first | exact t6 _ _ _ | exact LeO.refl _ | exact LeO.none _ | refine LeO.ite ?_ ?_ | refine LeO.bind ?_ (fun _ => ?_)) | exact t6 _ _ _ | exact LeO.none _ | refine LeO.ite ?_ ?_ | refine LeO.bind ?_ (fun _ => ?_)
set_option maxHeartbeats 8000000 in
set_option maxRecDepth 100000 in
theorem b7.calls (k : Nat) (a0 : Int) (a1 : Int) (r : Int) (w : World) (h : b7.f k a0 a1 = some r) :
  Calls Try.prog 53 #[.int .i64 a0, .int .i64 a1] w fun e w' => e = .returned (.int .i64 r) ∧ Drawn0 w w' := by
  have H : (b7.l0 k a0 a1 0) = some r := h
  clear h
  have H' := aZ H
  clear H
  go_enter Try.func53, Try.ntmps53
  go_wp2
  go_loopg [0, 1, 5] k (fun kq v0 v1 v5 w' => ∃ (ai2 : Int) (an0 : Int) (d9 : Int), v0 = .int .i64 ai2 ∧ v1 = .int .i64 an0 ∧ v5 = .int .i64 d9 ∧ Aside0 (b7.l0 kq ai2 an0 d9 = some r) ∧ Aside0 (kq ≤ k) ∧ Drawn0 w w')
  case atStart => exact ⟨(a0), (a1), (0), xrs, xrs, xrs, H', ⟨Nat.le_refl _⟩, by repeat (first | exact Drawn0.refl _ | apply Drawn0.step)⟩
  case round =>
   clear H'
   obtain ⟨ai2, an0, d9, rfl, rfl, rfl, HA, S8, ⟨m1, rfl⟩⟩ := hrel
   cases gk with
   | zero => exact absurd HA.out (by simp [b7.l0])
   | succ k1 =>
    have H := HA.out
    clear HA
    simp only [b7.l0] at H
    by_cases c3 : an0 > 0
    rotate_left
    · rw [if_neg c3] at H
      have ae4 : decide (0 < an0) = false := decide_eq_false c3
      clear c3
      obtain rfl := Option.some.inj H
      go_wp2
      go_ret
      exact ⟨by first | rfl | (simp; done) | (simp [*]; done), by repeat (first | exact Drawn0.refl _ | apply Drawn0.step)⟩

    rw [if_pos c3] at H
    have ae4 : decide (0 < an0) = true := decide_eq_true c3
    clear c3
    by_cases c4 : (Int.tmod an0 2) = 1
    rotate_left
    · rw [if_neg c4] at H
      have Y8 : ((Int.tmod an0 2) == 1) = false := beq_eq_false_iff_ne.mpr c4
      have aR3 : ((Int.tmod an0 2) != 1) = true := bne_iff_ne.mpr c4
      replace H := Option.bind_eq_some_iff.mp H
      obtain ⟨bv3, A60, H⟩ := H
      replace H : (b7.l0 k1 bv3 (wrap64 (Int.tdiv an0 2)) d9) = some r := H
      have A6 := aZ A60
      clear A60
      have H' := aZ H
      clear H
      go_wp2_with (first | ((with_reducible refine gate_callee (f := 67) rfl ?_); refine goesL_ (some 16) rfl rfl Try.func67 (by kernel_rfl) rfl #[.int .i64 ai2] rfl xmp ?_; (with_reducible refine (k6.calls ai2 bv3 _ A6.out).mono ?_); rintro e w' ⟨rfl, ⟨nd, rfl⟩⟩; refine ⟨_, rfl, ?_⟩))
      go_roundg k1
      case measure => have := S8.out; omega
      case rel => exact ⟨(bv3), (wrap64 (Int.tdiv an0 2)), (d9), xrs, xrs, xrs, H', ⟨by have := S8.out; omega⟩, by repeat (first | exact Drawn0.refl _ | apply Drawn0.step)⟩
    rw [if_pos c4] at H
    have Y8 : ((Int.tmod an0 2) == 1) = true := beq_iff_eq.mpr c4
    have aR3 : ((Int.tmod an0 2) != 1) = false := bne_eq_false_iff_eq.mpr c4
    clear c4
    replace H := Option.bind_eq_some_iff.mp H
    obtain ⟨bv2, A50, H⟩ := H
    replace H : (b7.l0 k1 bv2 (wrap64 (Int.tdiv an0 2)) (Int.tmod (wrap64 (d9 + ai2)) 2305843009213693951)) = some r := H
    have A5 := aZ A50
    clear A50
    have H' := aZ H
    clear H
    go_wp2_with (first | ((with_reducible refine gate_callee (f := 67) rfl ?_); refine goesL_ (some 16) rfl rfl Try.func67 (by kernel_rfl) rfl #[.int .i64 ai2] rfl xmp ?_; (with_reducible refine (k6.calls ai2 bv2 _ A5.out).mono ?_); rintro e w' ⟨rfl, ⟨nd, rfl⟩⟩; refine ⟨_, rfl, ?_⟩))
    go_roundg k1
    case measure => have := S8.out; omega
    case rel => exact ⟨(bv2), (wrap64 (Int.tdiv an0 2)), (Int.tmod (wrap64 (d9 + ai2)) 2305843009213693951), xrs, xrs, xrs, H', ⟨by have := S8.out; omega⟩, by repeat (first | exact Drawn0.refl _ | apply Drawn0.step)⟩
def b6.l0 : Nat → List Int → Int → Int → Option (Int)
  | 0, _, _, _ => none
  | k + 1, x0, x3, x4 => if x4 < (x0.length : Int) then ((b7.f k x3 257).bind fun aX8 => (if 0 ≤ x4 then (b6.l0 k x0 (Int.tmod (wrap64 ((wrap64 (aX8 + (wrap64 (rd x0 x4)))) + 1)) 2305843009213693951) (wrap64 (x4 + 1))) else (none))) else (some x3)
def b6.f (k : Nat) (l0 : List Int) : Option (Int) := b6.l0 k l0 1 0
theorem b6.mono_l : ∀ k, (∀ y0 y1 y2, LeO (b6.l0 k y0 y1 y2) (b6.l0 (k + 1) y0 y1 y2))
  | 0 => fun _ _ _ r h => by simp [b6.l0] at h
  | k + 1 => by
    have t6 := b6.mono_l k
    · intro y0 y1 y2
      unfold b6.l0
      repeat' first | (with_reducible first | exact t6 _ _ _ | exact b7.mono _ _ _ | exact LeO.refl _ | exact LeO.none _ | refine LeO.ite ?_ ?_ | refine LeO.bind ?_ (fun _ => ?_)) | exact t6 _ _ _ | exact b7.mono _ _ _ | exact LeO.none _ | refine LeO.ite ?_ ?_ | refine LeO.bind ?_ (fun _ => ?_)
theorem b6.mono : ∀ a0 k, LeO (b6.f k a0) (b6.f (k + 1) a0) := by
  intro a0 k
  have t6 := b6.mono_l k
  unfold b6.f
  repeat' first | (with_reducible first | exact t6 _ _ _ | exact b7.mono _ _ _ | exact LeO.refl _ | exact LeO.none _ | refine LeO.ite ?_ ?_ | refine LeO.bind ?_ (fun _ => ?_)) | exact t6 _ _ _ | exact b7.mono _ _ _ | exact LeO.none _ | refine LeO.ite ?_ ?_ | refine LeO.bind ?_ (fun _ => ?_)
set_option maxHeartbeats 8000000 in
set_option maxRecDepth 100000 in
theorem b6.calls (k : Nat) (A0 : Option Addr) (c0 : Nat) (l0 : List Int) (r : Int) (w : World) (hr0 : Kd.C (Kd.int .u8) w A0 l0.length l0) (hc0 : l0.length ≤ c0) (h : b6.f k l0 = some r) :
  Calls Try.prog 43 #[.slice A0 l0.length c0] w fun e w' => e = .returned (.int .i64 r) ∧ Drawn0 w w' := by
  have HR0 := aZ hr0
  have HC0 := aZ hc0
  clear hr0 hc0
  have H : (b6.l0 k l0 1 0) = some r := h
  clear h
  have H' := aZ H
  clear H
  go_enter Try.func43, Try.ntmps43
  go_wp2
  repeat (go_quiet (fail); try go_wp2)
  go_loopg [3, 4] k (fun kq v3 v4 w' => ∃ (d6 : Int) (o9 : Int), v3 = .int .i64 d6 ∧ v4 = .int .i64 o9 ∧ Aside0 (b6.l0 kq l0 d6 o9 = some r) ∧ Aside0 (kq ≤ k) ∧ Drawn0 w w')
  case atStart => exact ⟨(1), (0), xrs, xrs, H', ⟨Nat.le_refl _⟩, by repeat (first | exact Drawn0.refl _ | apply Drawn0.step)⟩
  case round =>
   clear H'
   obtain ⟨d6, o9, rfl, rfl, HA, S8, ⟨m1, rfl⟩⟩ := hrel
   cases gk with
   | zero => exact absurd HA.out (by simp [b6.l0])
   | succ k1 =>
    have H := HA.out
    clear HA
    simp only [b6.l0] at H
    by_cases c2 : o9 < (l0.length : Int)
    rotate_left
    · rw [if_neg c2] at H
      have an7 : decide (o9 < (l0.length : Int)) = false := decide_eq_false c2
      clear c2
      obtain rfl := Option.some.inj H
      go_wp2
      repeat (go_quiet (fail); try go_wp2)
      go_ret
      exact ⟨by first | rfl | (simp; done) | (simp [*]; done), by repeat (first | exact Drawn0.refl _ | apply Drawn0.step)⟩

    rw [if_pos c2] at H
    have an7 : decide (o9 < (l0.length : Int)) = true := decide_eq_true c2
    clear c2
    replace H := Option.bind_eq_some_iff.mp H
    obtain ⟨aX8, A30, H⟩ := H
    replace H : (if 0 ≤ o9 then (b6.l0 k1 l0 (Int.tmod (wrap64 ((wrap64 (aX8 + (wrap64 (rd l0 o9)))) + 1)) 2305843009213693951) (wrap64 (o9 + 1))) else (none)) = some r := H
    have A3 := aZ A30
    clear A30
    by_cases c4 : 0 ≤ o9
    rotate_left
    · rw [if_neg c4] at H
      exact absurd H (by simp)
    rw [if_pos c4] at H
    have Y8 : decide (0 ≤ o9) = true := decide_eq_true c4
    clear c4
    have H' := aZ H
    clear H
    go_wp2_with (first | (go_at_call 53; (with_reducible refine (b7.calls k1 d6 257 aX8 _ A3.out).mono ?_); rintro e w' ⟨rfl, ⟨nd, rfl⟩⟩; (try first | exact ⟨rfl, _, World.drewN_drewN _ _ _⟩ | exact ⟨rfl, _, Eq.trans (World.drewN_drewN _ _ _) (congrArg (World.drewN _) (Nat.add_assoc _ _ _))⟩); have aF8 : 0 ≤ (o9 : Int) := of_decide_eq_true xas; have aF9 : o9 < (l0.length : Int) := of_decide_eq_true xas; obtain ⟨bT9, bv4, bi2⟩ := Kd.at_int HR0.out o9 aF8 aF9; cases bv4; replace aF8 := eq_true aF8; replace aF9 := eq_true aF9))
    repeat (go_quiet (first | (go_at_call 53; (with_reducible refine (b7.calls k1 d6 257 aX8 _ A3.out).mono ?_); rintro e w' ⟨rfl, ⟨nd, rfl⟩⟩; (try first | exact ⟨rfl, _, World.drewN_drewN _ _ _⟩ | exact ⟨rfl, _, Eq.trans (World.drewN_drewN _ _ _) (congrArg (World.drewN _) (Nat.add_assoc _ _ _))⟩); have aF8 : 0 ≤ (o9 : Int) := of_decide_eq_true xas; have aF9 : o9 < (l0.length : Int) := of_decide_eq_true xas; obtain ⟨bT9, bv4, bi2⟩ := Kd.at_int HR0.out o9 aF8 aF9; cases bv4; replace aF8 := eq_true aF8; replace aF9 := eq_true aF9)); try go_wp2_with (first | (go_at_call 53; (with_reducible refine (b7.calls k1 d6 257 aX8 _ A3.out).mono ?_); rintro e w' ⟨rfl, ⟨nd, rfl⟩⟩; (try first | exact ⟨rfl, _, World.drewN_drewN _ _ _⟩ | exact ⟨rfl, _, Eq.trans (World.drewN_drewN _ _ _) (congrArg (World.drewN _) (Nat.add_assoc _ _ _))⟩); have aF8 : 0 ≤ (o9 : Int) := of_decide_eq_true xas; have aF9 : o9 < (l0.length : Int) := of_decide_eq_true xas; obtain ⟨bT9, bv4, bi2⟩ := Kd.at_int HR0.out o9 aF8 aF9; cases bv4; replace aF8 := eq_true aF8; replace aF9 := eq_true aF9)))
    go_roundg k1
    case measure => have := S8.out; omega
    case rel => exact ⟨(Int.tmod (wrap64 ((wrap64 (aX8 + (wrap64 (rd l0 o9)))) + 1)) 2305843009213693951), (wrap64 (o9 + 1)), xrs, xrs, H', ⟨by have := S8.out; omega⟩, by repeat (first | exact Drawn0.refl _ | apply Drawn0.step)⟩
def b3.l0 : Nat → List Int → Int → Int → List Int → List Int → Option (Int)
  | 0, _, _, _, _, _ => none
  | k + 1, x3, x4, bE8, aN1, aN2 => if x4 < (aN1.length : Int) then (if 0 ≤ x4 then ((d5.f k (rd aN1 x4)).bind fun aI0 => (if x3.length + aI0.length < 140737488355328 then (b3.l0 k (x3 ++ aI0) (wrap64 (x4 + 1)) bE8 aN1 aN2) else (none))) else (none)) else (if x3.length + aN2.length < 140737488355328 then ((b6.f k (x3 ++ aN2)).bind fun bp6 => (some bp6)) else (none))
def b3.f (k : Nat) (d8 : Int) (b9 : List Int) (e0 : List Int) : Option (Int) := b3.l0 k (([(d8) % 256, ((b9.length : Int)) % 256] : List Int)) 0 d8 b9 e0
theorem b3.mono_l : ∀ k, (∀ y0 y1 y2 y3 y4, LeO (b3.l0 k y0 y1 y2 y3 y4) (b3.l0 (k + 1) y0 y1 y2 y3 y4))
  | 0 => fun _ _ _ _ _ r h => by simp [b3.l0] at h
  | k + 1 => by
    have t6 := b3.mono_l k
    · intro y0 y1 y2 y3 y4
      unfold b3.l0
      repeat' first | (with_reducible first | exact t6 _ _ _ _ _ | exact b6.mono _ _ | exact d5.mono _ _ | exact LeO.refl _ | exact LeO.none _ | refine LeO.ite ?_ ?_ | refine LeO.bind ?_ (fun _ => ?_)) | exact t6 _ _ _ _ _ | exact b6.mono _ _ | exact d5.mono _ _ | exact LeO.none _ | refine LeO.ite ?_ ?_ | refine LeO.bind ?_ (fun _ => ?_)
theorem b3.mono : ∀ a0 a1 a2 k, LeO (b3.f k a0 a1 a2) (b3.f (k + 1) a0 a1 a2) := by
  intro a0 a1 a2 k
  have t6 := b3.mono_l k
  unfold b3.f
  repeat' first | (with_reducible first | exact t6 _ _ _ _ _ | exact b6.mono _ _ | exact d5.mono _ _ | exact LeO.refl _ | exact LeO.none _ | refine LeO.ite ?_ ?_ | refine LeO.bind ?_ (fun _ => ?_)) | exact t6 _ _ _ _ _ | exact b6.mono _ _ | exact d5.mono _ _ | exact LeO.none _ | refine LeO.ite ?_ ?_ | refine LeO.bind ?_ (fun _ => ?_)
set_option maxHeartbeats 8000000 in
set_option maxRecDepth 100000 in
theorem b3.calls (k : Nat) (d8 : Int) (i9 : Option Addr) (i5 : Nat) (b9 : List Int) (i1 : Option Addr) (i3 : Nat) (e0 : List Int) (r : Int) (w : World) (F9 : Kd.C (Kd.int .i64) w i9 b9.length b9) (G0 : b9.length ≤ i5) (D9 : Kd.C (Kd.int .u8) w i1 e0.length e0) (E0 : e0.length ≤ i3) (h : b3.f k d8 b9 e0 = some r) :
  Calls Try.prog 31 #[.agg #[.int .i64 d8, .slice i9 b9.length i5, .slice i1 e0.length i3]] w fun e w' => e = .returned (.int .i64 r) ∧ Below w.heap.size w w' := by
  have aw1 := Try.underlying44
  have C4 := aZ F9
  have J6 := aZ G0
  clear F9 G0
  have G3 := aZ D9
  have N5 := aZ E0
  clear D9 E0
  have HB := aZ (Below.refl w.heap.size w)
  have H : (b3.l0 k (([(d8) % 256, ((b9.length : Int)) % 256] : List Int)) 0 d8 b9 e0) = some r := h
  clear h
  obtain ⟨cs6, aT8⟩ : ∃ y_ : List Int, y_ = (([(d8) % 256, ((b9.length : Int)) % 256] : List Int)) := ⟨_, rfl⟩
  replace H : (b3.l0 k cs6 0 d8 b9 e0) = some r := by first | (rw [aT8]; with_reducible exact H) | (have P7 := (Option.bind_some _ _).symm.trans H; rw [aT8]; with_reducible exact P7) | (have P7 := (Option.bind_some _ _).symm.trans H; with_reducible exact P7) | with_reducible exact H | (rw [aT8]; exact H) | exact H
  have bU0 := aZ aT8
  clear aT8
  have H' := aZ H
  clear H
  go_enter Try.func31, Try.ntmps31
  go_wp2_with (first | ((with_reducible refine gate_dst (N := 1) rfl ?_); refine box_event ?hg (N := 1) ?hd (cs := #[.int .i64 d8, .slice i9 b9.length i5, .slice i1 e0.length i3]) (t := 44) ?hr ?_; (case hd => rfl); (case hg => rfl); (case hr => first | (go_simp; done) | (go_simp; rfl)); intro ah7 hg w2 hbox hb; have C1 := aZ (hbox); have dL7 := xgh hg HB; have aJ5 := xgh hg HB; replace HB := xhl HB hb; clear hb hbox hg; have cc2 : w2.cell? ⟨ah7, 0, none⟩ = some (.int .i64 d8) := (blk_cell C1.out 0).trans rfl; have cc3 : w2.cell? ⟨ah7, 1, none⟩ = some (.slice i9 b9.length i5) := (blk_cell C1.out 1).trans rfl; have cc4 : w2.cell? ⟨ah7, 2, none⟩ = some (.slice i1 e0.length i3) := (blk_cell C1.out 2).trans rfl; have cc5 := blk_frozen C1.out 0; have cc6 := blk_frozen C1.out 1; have cc7 := blk_frozen C1.out 2) | ((with_reducible refine gate_dst (N := 12) rfl ?_); refine Kd.R_lit (Kd.int .u8) _ 5 ?hg (N := 12) ?hd (xs := ([(d8) % 256, ((b9.length : Int)) % 256] : List Int)) (inner := [.int .u8 ((d8) % 256), .int .u8 (((b9.length : Int)) % 256)]) (ok := fun _ => True) (okp := fun _ => True) ?hr ?hp (fun _ hk => hk) trivial (Below.refl _ _) (Nat.le_refl _) (by simp) ?_; (case hd => rfl); (case hg => rfl); (case hr => first | (go_simp; done) | (go_simp; rfl)); (case hp => exact (Reps.one (show Kd.M (Kd.int .u8) _ _ _ ((d8) % 256) [.int .u8 ((d8) % 256)] from rfl) (Reps.one (show Kd.M (Kd.int .u8) _ _ _ (((b9.length : Int)) % 256) [.int .u8 (((b9.length : Int)) % 256)] from rfl) (Reps.none _ _)))); intro dZ8 w4 ho5 hb hg_ hnew_; clear hg_ hnew_; (first | rw [← bU0.out] at ho5 | (simp only [Int.reduceToNat] at ho5; rw [← bU0.out] at ho5)); have cs8 := aZ (Kd.R_lower ho5 (lZ (by repeat (first | (with_reducible first | exact HB.out | apply lA | apply lN | apply lD | refine lS ?_ aJ5.out) | exact HB.out)))); replace C1 := xbb C1 hb; replace HB := xhl HB hb; clear hb ho5))
  go_loopg [3, 4] k (fun kq v3 v4 w' => ∃ (d6 : List Int) (o9 : Int), v4 = .int .i64 o9 ∧ Aside0 (b3.l0 kq d6 o9 d8 b9 e0 = some r) ∧ Aside0 (kq ≤ k) ∧ Aside0 (Kd.R (Kd.int .u8) 5 w' w.heap.size (fun _ => True) v3 d6) ∧ Aside0 (w'.heap[ah7]? = some (.cells #[.int .i64 d8, (.slice i9 b9.length i5), (.slice i1 e0.length i3)] 44 (0, 0))) ∧ Aside0 (Below w.heap.size w w'))
  case atStart => exact ⟨(cs6), (0), xrs, H', ⟨Nat.le_refl _⟩, ⟨by (with_reducible repeat (first | apply Kd.rA | apply Kd.rN | apply Kd.rD)); exact cs8.out⟩, xk C1, xb HB⟩
  case round =>
   clear H'
   (try clear cc2); (try clear cc3); (try clear cc4); (try clear cc5); (try clear cc6); (try clear cc7)
   obtain ⟨d6, o9, rfl, HA, S8, al9, C1, HB⟩ := hrel
   cases gk with
   | zero => exact absurd HA.out (by simp [b3.l0])
   | succ k1 =>
    have H := HA.out
    clear HA
    simp only [b3.l0] at H
    by_cases c6 : o9 < (b9.length : Int)
    rotate_left
    · rw [if_neg c6] at H
      have Y9 : decide (o9 < (b9.length : Int)) = false := decide_eq_false c6
      clear c6
      by_cases c14 : d6.length + e0.length < 140737488355328
      rotate_left
      · rw [if_neg c14] at H
        exact absurd H (by simp)

      rw [if_pos c14] at H
      have bv5 := aZ c14
      clear c14
      obtain ⟨cc8, aT9⟩ : ∃ y_ : List Int, y_ = (d6 ++ e0) := ⟨_, rfl⟩
      replace H : ((b6.f k1 cc8).bind fun bp6 => (some bp6)) = some r := by first | (rw [aT9]; with_reducible exact H) | (have P7 := (Option.bind_some _ _).symm.trans H; rw [aT9]; with_reducible exact P7) | (have P7 := (Option.bind_some _ _).symm.trans H; with_reducible exact P7) | with_reducible exact H | (rw [aT9]; exact H) | exact H
      have cs9 := aZ aT9
      clear aT9
      replace H := Option.bind_eq_some_iff.mp H
      obtain ⟨bp6, bv6, H⟩ := H
      replace H : (some bp6) = some r := H
      have A15 := aZ bv6
      clear bv6
      obtain rfl := Option.some.inj H
      have ao2 : wr.cell? ⟨ah7, 0, none⟩ = some (.int .i64 d8) := (blk_cell C1.out 0).trans rfl
      have aB7 : wr.cell? ⟨ah7, 1, none⟩ = some (.slice i9 b9.length i5) := (blk_cell C1.out 1).trans rfl
      have aB8 : wr.cell? ⟨ah7, 2, none⟩ = some (.slice i1 e0.length i3) := (blk_cell C1.out 2).trans rfl
      have ao3 := blk_frozen C1.out 0
      have aB9 := blk_frozen C1.out 1
      have aC0 := blk_frozen C1.out 2
      go_wp2_with (first | ((with_reducible refine gate_builtin (b := .append) (xs := #[.tmp 28, .tmp 30]) rfl ?_); at_builtin; refine Kd.R_append_rows (Kd.int .u8) (w0 := w) w.heap.size rfl (.tmp 28) (.tmp 30) 26 5 (.int .u8 0) 1 rfl Try.underlying26 aI5 rfl (by decide) (by omega) u3 d6 e0 _ _ _ (fun _ => True) (fun _ => False) rfl rfl ?aO ?aR (fun _ _ h => h) (fun _ h => h.elim) ?aF ?aB ?aS ?aL ?_; (case aR => exact xcb G3 HB); (case aB => exact (by repeat (first | (with_reducible first | exact HB.out | apply lA | apply lN | apply lD | refine lS ?_ aJ5.out) | exact HB.out))); (case aF => exact (fun _ _ => trivial)); (case aO => exact (by (with_reducible repeat (first | apply Kd.rA | apply Kd.rN | apply Kd.rD)); exact al9.out)); (case aS => exact (lZ (by repeat (first | (with_reducible first | exact HB.out | apply lA | apply lN | apply lD | refine lS ?_ aJ5.out) | exact HB.out)))); (case aL => have := bv5.out; omega); intro dZ9 w17 ho hb hg hat; rw [← cs9.out] at ho; replace C1 := aZ (blk_grown (g := ah7) (o := .cells #[.int .i64 d8, .slice i9 b9.length i5, .slice i1 e0.length i3] 44 (0, 0)) (xkq C1) hg (Kd.R_ne al9.out C1.out (by decide))); replace HB := aZ (hb); have bv7 := aZ (ho); clear al9; clear ho hb hg hat; obtain ⟨dp0, dp1, dp2⟩ := Kd.R_slice bv7.out; subst dp2) | ((with_reducible refine gate_callee (f := 43) rfl ?_); refine goesL_ (some 32) rfl rfl Try.func43 (by kernel_rfl) rfl #[.slice dp0 cc8.length dp1] rfl xmp ?_; (with_reducible refine (b6.calls k1 _ _ cc8 bp6 _ ?side1 ?side2 A15.out).mono ?_); (case side1 => repeat (first | exact (Kd.R_reads' bv7.out).2.2 | (with_reducible refine Kd.C_alloc ?_ _) | (with_reducible refine Kd.C_drewN ?_ _) | (with_reducible refine Kd.C_drew ?_))); (case side2 => exact (Kd.R_reads' bv7.out).2.1); rintro e w' ⟨rfl, ⟨nd, rfl⟩⟩; refine ⟨_, rfl, ?_⟩))
      go_ret
      exact ⟨xre, xq HB⟩
    rw [if_pos c6] at H
    have Y9 : decide (o9 < (b9.length : Int)) = true := decide_eq_true c6
    clear c6
    by_cases c7 : 0 ≤ o9
    rotate_left
    · rw [if_neg c7] at H
      exact absurd H (by simp)
    rw [if_pos c7] at H
    have aS2 : decide (0 ≤ o9) = true := decide_eq_true c7
    clear c7
    replace H := Option.bind_eq_some_iff.mp H
    obtain ⟨aI0, A80, H⟩ := H
    replace H : (if d6.length + aI0.length < 140737488355328 then (b3.l0 k1 (d6 ++ aI0) (wrap64 (o9 + 1)) d8 b9 e0) else (none)) = some r := H
    have A8 := aZ A80
    clear A80
    by_cases c9 : d6.length + aI0.length < 140737488355328
    rotate_left
    · rw [if_neg c9] at H
      exact absurd H (by simp)
    rw [if_pos c9] at H
    have dp3 := aZ c9
    clear c9
    obtain ⟨ct1, aU0⟩ : ∃ y_ : List Int, y_ = (d6 ++ aI0) := ⟨_, rfl⟩
    replace H : (b3.l0 k1 ct1 (wrap64 (o9 + 1)) d8 b9 e0) = some r := by first | (rw [aU0]; with_reducible exact H) | (have P7 := (Option.bind_some _ _).symm.trans H; rw [aU0]; with_reducible exact P7) | (have P7 := (Option.bind_some _ _).symm.trans H; with_reducible exact P7) | with_reducible exact H | (rw [aU0]; exact H) | exact H
    have ct2 := aZ aU0
    clear aU0
    have H' := aZ H
    clear H
    have an8 : wr.cell? ⟨ah7, 0, none⟩ = some (.int .i64 d8) := (blk_cell C1.out 0).trans rfl
    have an9 : wr.cell? ⟨ah7, 1, none⟩ = some (.slice i9 b9.length i5) := (blk_cell C1.out 1).trans rfl
    have aB5 : wr.cell? ⟨ah7, 2, none⟩ = some (.slice i1 e0.length i3) := (blk_cell C1.out 2).trans rfl
    have ao0 := blk_frozen C1.out 0
    have ao1 := blk_frozen C1.out 1
    have aB6 := blk_frozen C1.out 2
    have cc9 : 0 ≤ (o9 : Int) := of_decide_eq_true xas
    have cd0 : o9 < (b9.length : Int) := of_decide_eq_true xas
    obtain ⟨ct3, dp4, bi3⟩ := Kd.at_int C4.out o9 cc9 cd0
    cases dp4
    replace bi3 := xcl HB bi3
    replace cc9 := eq_true cc9
    replace cd0 := eq_true cd0
    go_wp2_with (first | ((with_reducible refine gate_callee (f := 42) rfl ?_); refine goesL_ (some 26) rfl rfl Try.func42 (by kernel_rfl) rfl #[.int .i64 (rd b9 o9)] rfl xmp ?_; (with_reducible refine (d5.calls k1 (rd b9 o9) aI0 _ A8.out).mono ?_); rintro e w11 ⟨d_0, rfl, ho0, hb⟩; refine ⟨_, rfl, ?_⟩; have aU1 := aZ (Kd.R_lower (Kd.R_new' ho0 (Kd.R_lt (by (with_reducible repeat (first | apply Kd.rA | apply Kd.rN | apply Kd.rD)); exact al9.out))) (lZ (by repeat (first | (with_reducible first | exact HB.out | apply lA | apply lN | apply lD | refine lS ?_ aJ5.out) | exact HB.out)))); replace al9 := aZ (Kd.R_elder' (by (with_reducible repeat (first | apply Kd.rA | apply Kd.rN | apply Kd.rD)); exact al9.out) (Kd.R_base ho0) hb); replace C1 := xbb C1 hb; replace HB := xhl HB hb; (try clear hb); (try clear H3); (try clear hk); (try clear hi); (try clear ho0); obtain ⟨dp5, dp6, dp7⟩ := Kd.R_slice aU1.out; subst dp7) | ((with_reducible refine gate_builtin (b := .append) (xs := #[.tmp 20, .tmp 26]) rfl ?_); at_builtin; refine Kd.R_append_rows (Kd.int .u8) (w0 := w) w.heap.size rfl (.tmp 20) (.tmp 26) 26 5 (.int .u8 0) 1 rfl Try.underlying26 aI5 rfl (by decide) (by omega) u3 d6 aI0 _ _ _ (fun k_ => some k_ ≠ (.slice dp5 aI0.length dp6 : Value).ownBlock) (fun _ => False) rfl rfl ?aO ?aR (fun _ _ h => h) (fun _ h => h.elim) ?aF ?aB ?aS ?aL ?_; (case aR => repeat (first | exact (Kd.R_reads' aU1.out).2.2 | (with_reducible refine Kd.C_alloc ?_ _) | (with_reducible refine Kd.C_drewN ?_ _) | (with_reducible refine Kd.C_drew ?_))); (case aB => exact (by repeat (first | (with_reducible first | exact HB.out | apply lA | apply lN | apply lD | refine lS ?_ aJ5.out) | exact HB.out))); (case aF => exact (fun k_ hk => Kd.fresh' (Kd.R_lt (by (with_reducible repeat (first | apply Kd.rA | apply Kd.rN | apply Kd.rD)); exact aU1.out)) k_ hk)); (case aO => exact (by (with_reducible repeat (first | apply Kd.rA | apply Kd.rN | apply Kd.rD)); exact Kd.R_mono al9.out (fun _ hk => hk.2))); (case aS => exact (lZ (by repeat (first | (with_reducible first | exact HB.out | apply lA | apply lN | apply lD | refine lS ?_ aJ5.out) | exact HB.out)))); (case aL => have := dp3.out; omega); intro d_1 w12 ho hb hg hat; rw [← ct2.out] at ho; replace C1 := aZ (blk_grown (g := ah7) (o := .cells #[.int .i64 d8, .slice (some ct3) b9.length i5, .slice i1 e0.length i3] 44 (0, 0)) (xkq C1) hg (Kd.R_ne al9.out C1.out (by decide))); replace aU1 := aZ (Kd.R_after (ok := (fun _ => True)) (by (with_reducible repeat (first | apply Kd.rA | apply Kd.rN | apply Kd.rD)); exact aU1.out) hg hat); replace HB := aZ (hb); have ct4 := aZ (ho); clear al9; clear ho hb hg hat))
    go_roundg k1
    case measure => have := S8.out; omega
    case rel => exact ⟨(ct1), (wrap64 (o9 + 1)), xrs, H', ⟨by have := S8.out; omega⟩, ⟨by (with_reducible repeat (first | apply Kd.rA | apply Kd.rN | apply Kd.rD)); exact Kd.R_mono ct4.out (fun _ hk => trivial)⟩, xk C1, xb HB⟩
def a6.l0 : Nat → Int → List (r9) → Option (Int × Int)
  | 0, _, _ => none
  | k + 1, x3, M5 => if x3 < (M5.length : Int) then (if 0 ≤ x3 then ((a8.f k ((a7 M5 x3).f1.f0) ((a7 M5 x3).f1.f1) ((a7 M5 x3).f1.f2)).bind fun bZ3 => (if bZ3.1 = 0 then ((b3.f k ((a7 M5 x3).f1.f0) ((a7 M5 x3).f1.f1) ((a7 M5 x3).f1.f2)).bind fun ar3 => (if ar3 = ((a7 M5 x3).f0) then (if x3 > 0 then (if 0 ≤ (wrap64 (x3 - 1)) then (if (wrap64 (x3 - 1)) < (M5.length : Int) then (if ((a7 M5 x3).f0) ≤ ((a7 M5 (wrap64 (x3 - 1))).f0) then ((b4.f 5 x3).bind fun ak1 => (some (ak1.1, ak1.2))) else (a6.l0 k (wrap64 (x3 + 1)) M5)) else (none)) else (none)) else (a6.l0 k (wrap64 (x3 + 1)) M5)) else ((b4.f 18 x3).bind fun aA7 => (some (aA7.1, aA7.2))))) else ((b4.f bZ3.1 x3).bind fun aW7 => (some (aW7.1, aW7.2))))) else (none)) else (some (0, 0))
def a6.f (k : Nat) (b1 : List (r9)) : Option (Int × Int) := if (b1.length : Int) > 40 then ((b4.f 2 0).bind fun aW8 => (some (aW8.1, aW8.2))) else (a6.l0 k 0 b1)
theorem a6.mono_l : ∀ k, (∀ y0 y1, LeO (a6.l0 k y0 y1) (a6.l0 (k + 1) y0 y1))
  | 0 => fun _ _ r h => by simp [a6.l0] at h
  | k + 1 => by
    have t6 := a6.mono_l k
    · intro y0 y1
      unfold a6.l0
      repeat' first | (with_reducible first | exact t6 _ _ | exact b3.mono _ _ _ _ | exact a8.mono _ _ _ _ | exact LeO.refl _ | exact LeO.none _ | refine LeO.ite ?_ ?_ | refine LeO.bind ?_ (fun _ => ?_)) | exact t6 _ _ | exact b3.mono _ _ _ _ | exact a8.mono _ _ _ _ | exact LeO.none _ | refine LeO.ite ?_ ?_ | refine LeO.bind ?_ (fun _ => ?_)
theorem a6.mono : ∀ a0 k, LeO (a6.f k a0) (a6.f (k + 1) a0) := by
  intro a0 k
  have t6 := a6.mono_l k
  unfold a6.f
  repeat' first | (with_reducible first | exact t6 _ _ | exact b3.mono _ _ _ _ | exact a8.mono _ _ _ _ | exact LeO.refl _ | exact LeO.none _ | refine LeO.ite ?_ ?_ | refine LeO.bind ?_ (fun _ => ?_)) | exact t6 _ _ | exact b3.mono _ _ _ _ | exact a8.mono _ _ _ _ | exact LeO.none _ | refine LeO.ite ?_ ?_ | refine LeO.bind ?_ (fun _ => ?_)
def a6.T9 : Bool × List (List Nat × List Nat) := (true, [([], []), ([0], [0]), ([], []), ([1, 2], [1, 2]), ([3], [3]), ([4], [4]), ([5], [5]), ([], []), ([7], [7]), ([], []), ([8, 9], [8, 9]), ([10], [10]), ([11], [11]), ([6, 12], [6, 12])])
def a6.B9 : List Nat := [0, 1, 0, 7, 15, 31, 63, 0, 128, 0, 896, 1920, 3968, 8191]
theorem a6.tab9 : rtab .any (opsOf Try.f16 9) = a6.T9 := by kernel_rfl
theorem a6.bits9 : waitsOk a6.T9.2 a6.B9 = true := by kernel_rfl
def a6.T11 : Bool × List (List Nat × List Nat) := (true, [([], []), ([0], [0]), ([1], [1]), ([2], [2]), ([3, 2], [2, 3]), ([2], [2]), ([4, 5, 2], [2, 4, 5]), ([6, 2], [2, 6]), ([7, 2], [2, 7]), ([2], [2]), ([9, 2], [2, 9]), ([2], [2]), ([11, 2], [2, 11]), ([10, 12, 2], [2, 10, 12]), ([13, 2], [2, 13]), ([14, 2], [2, 14]), ([8, 15, 2], [2, 8, 15]), ([2, 16], [2, 16])])
def a6.B11 : List Nat := [0, 1, 3, 7, 15, 7, 63, 127, 255, 7, 519, 7, 2055, 7687, 15879, 32263, 65535, 131071]
theorem a6.tab11 : rtab .any (opsOf Try.f16 11) = a6.T11 := by kernel_rfl
theorem a6.bits11 : waitsOk a6.T11.2 a6.B11 = true := by kernel_rfl
abbrev a6.Z1 : Array Bool := #[I,I,I,I,I,I,I,I,I,I,I,I,I,I]
abbrev a6.Z2 : Array Bool := #[J,I,I,I,I,I,I,I,I,I,I,I,I,I]
abbrev a6.Z3 : Array Bool := #[J,I,J,I,I,I,I,I,I,I,I,I,I,I]
abbrev a6.Z4 : Array Bool := #[J,I,J,I,I,I,I,J,I,I,I,I,I,I]
abbrev a6.Z5 : Array Bool := #[J,I,J,I,I,I,I,J,I,J,I,I,I,I]
abbrev a6.Z6 : Array Bool := #[J,J,J,I,I,I,I,J,I,J,I,I,I,I]
abbrev a6.Z7 : Array Bool := #[J,J,J,J,I,I,I,J,I,J,I,I,I,I]
abbrev a6.Z8 : Array Bool := #[J,J,J,J,J,I,I,J,I,J,I,I,I,I]
abbrev a6.Z9 : Array Bool := #[J,J,J,J,J,J,I,J,I,J,I,I,I,I]
abbrev a6.Z10 : Array Bool := #[J,J,J,J,J,J,I,J,J,J,I,I,I,I]
abbrev a6.Z11 : Array Bool := #[J,J,J,J,J,J,I,J,J,J,J,I,I,I]
abbrev a6.Z12 : Array Bool := #[J,J,J,J,J,J,I,J,J,J,J,J,I,I]
abbrev a6.Z13 : Array Bool := #[J,J,J,J,J,J,I,J,J,J,J,J,J,I]
abbrev a6.Z14 : Array Bool := #[J,J,J,J,J,J,J,J,J,J,J,J,J,I]
abbrev a6.Z15 : Array Bool := #[J,J,J,J,J,J,J,J,J,J,J,J,J,J]
abbrev a6.Z16 : Array Bool := #[I,I,I,I,I,I,I,I,I,I,I,I,I,I,I,I,I,I]
abbrev a6.Z17 : Array Bool := #[J,I,I,I,I,I,I,I,I,I,I,I,I,I,I,I,I,I]
abbrev a6.Z18 : Array Bool := #[J,J,I,I,I,I,I,I,I,I,I,I,I,I,I,I,I,I]
abbrev a6.Z19 : Array Bool := #[J,J,J,I,I,I,I,I,I,I,I,I,I,I,I,I,I,I]
abbrev a6.Z20 : Array Bool := #[J,J,J,J,I,I,I,I,I,I,I,I,I,I,I,I,I,I]
abbrev a6.Z21 : Array Bool := #[J,J,J,J,I,J,I,I,I,I,I,I,I,I,I,I,I,I]
abbrev a6.Z22 : Array Bool := #[J,J,J,J,I,J,I,I,I,J,I,I,I,I,I,I,I,I]
abbrev a6.Z23 : Array Bool := #[J,J,J,J,I,J,I,I,I,J,I,J,I,I,I,I,I,I]
abbrev a6.Z24 : Array Bool := #[J,J,J,J,I,J,I,I,I,J,I,J,J,I,I,I,I,I]
abbrev a6.Z25 : Array Bool := #[J,J,J,J,J,J,I,I,I,J,I,J,J,I,I,I,I,I]
abbrev a6.Z26 : Array Bool := #[J,J,J,J,J,J,J,I,I,J,I,J,J,I,I,I,I,I]
abbrev a6.Z27 : Array Bool := #[J,J,J,J,J,J,J,J,I,J,I,J,J,I,I,I,I,I]
abbrev a6.Z28 : Array Bool := #[J,J,J,J,J,J,J,J,J,J,I,J,J,I,I,I,I,I]
abbrev a6.Z29 : Array Bool := #[J,J,J,J,J,J,J,J,J,J,J,J,J,I,I,I,I,I]
abbrev a6.Z30 : Array Bool := #[J,J,J,J,J,J,J,J,J,J,J,J,J,J,I,I,I,I]
abbrev a6.Z31 : Array Bool := #[J,J,J,J,J,J,J,J,J,J,J,J,J,J,J,I,I,I]
abbrev a6.Z32 : Array Bool := #[J,J,J,J,J,J,J,J,J,J,J,J,J,J,J,J,I,I]
abbrev a6.Z33 : Array Bool := #[J,J,J,J,J,J,J,J,J,J,J,J,J,J,J,J,J,I]
abbrev a6.Z34 : Array Bool := #[J,J,J,J,J,J,J,J,J,J,J,J,J,J,J,J,J,J]
abbrev a6.Z35 : Array Bool := #[J,J,J,J,J,I,I,I,I,I,I,I,I,I,I,I,I,I]
abbrev a6.Z36 : Array Bool := #[J,J,J,J,J,J,I,I,I,I,I,I,I,I,I,I,I,I]
abbrev a6.Z37 : Array Bool := #[J,J,J,J,J,J,J,I,I,I,I,I,I,I,I,I,I,I]
abbrev a6.Z38 : Array Bool := #[J,J,J,J,J,J,J,J,I,I,I,I,I,I,I,I,I,I]
abbrev a6.Z39 : Array Bool := #[J,J,J,J,J,J,J,J,J,I,I,I,I,I,I,I,I,I]
abbrev a6.Z40 : Array Bool := #[J,J,J,J,J,J,J,J,J,J,I,I,I,I,I,I,I,I]
abbrev a6.Z41 : Array Bool := #[J,J,J,J,J,J,J,J,J,J,J,I,I,I,I,I,I,I]
abbrev a6.Z42 : Array Bool := #[J,J,J,J,J,J,J,J,J,J,J,J,I,I,I,I,I,I]
set_option maxHeartbeats 8000000 in
set_option maxRecDepth 100000 in
theorem a6.calls (k : Nat) (k9 : Option Addr) (j9 : Nat) (b1 : List (r9)) (r1 : Int) (r2 : Int) (w : World) (J9 : Kd.C k46 w k9 b1.length b1) (K0 : b1.length ≤ j9) (h : a6.f k b1 = some (r1, r2)) :
  Calls Try.prog 16 #[.agg #[.slice k9 b1.length j9]] w fun e w' => e = .returned (.agg #[.int .i64 r1, .int .i64 r2]) ∧ Below w.heap.size w w' := by
  have aU3 := Try.underlying24
  have aH5 := Try.underlying28
  have aw1 := Try.underlying44
  have m8 := aZ J9
  have V4 := aZ K0
  clear J9 K0
  have HB := aZ (Below.refl w.heap.size w)
  have H : (if (b1.length : Int) > 40 then ((b4.f 2 0).bind fun aW8 => (some (aW8.1, aW8.2))) else (a6.l0 k 0 b1)) = some (r1, r2) := h
  clear h
  by_cases c2 : (b1.length : Int) > 40
  · rw [if_pos c2] at H
    have an7 : decide (40 < (b1.length : Int)) = true := decide_eq_true c2
    have aH7 : decide (40 < b1.length) = true := decide_eq_true (by omega)
    clear c2
    replace H := Option.bind_eq_some_iff.mp H
    obtain ⟨⟨bO1, cg9⟩, A30, H⟩ := H
    replace H : (some (bO1, cg9)) = some (r1, r2) := H
    have A3 := aZ A30
    clear A30
    simp only [Option.some.injEq, Prod.mk.injEq] at H
    obtain ⟨rfl, rfl⟩ := H
    go_enter Try.func16, Try.ntmps16
    go_wp2_with (first | ((with_reducible refine gate_dst (N := 1) rfl ?_); refine box_event ?hg (N := 1) ?hd (cs := #[.slice k9 b1.length j9]) (t := 24) ?hr ?_; (case hd => rfl); (case hg => rfl); (case hr => first | (go_simp; done) | (go_simp; rfl)); intro P4 hg w4 hbox hb; have f6 := aZ (hbox); have cH3 := xgh hg HB; have cH4 := xgh hg HB; replace HB := xhl HB hb; clear hb hbox hg) | ((with_reducible refine gate_dst (N := 2) rfl ?_); refine box_event ?hg (N := 2) ?hd (cs := #[.int .i64 0, .int .i64 0]) (t := 28) ?hr ?_; (case hd => rfl); (case hg => rfl); (case hr => first | (go_simp; done) | (go_simp; rfl)); intro N8 hg w5 hbox hb; have g5 := aZ (hbox); have cH5 := xgh hg HB; have cH6 := xgh hg HB; replace HB := xhl HB hb; have M6 := xnl hg f6; have M7 := xng hg f6; replace f6 := xbb f6 hb; clear hb hbox hg; have ca5 := M6.out; have ca6 := M7.out; have am7 : w5.cell? ⟨P4, 0, none⟩ = some (.slice k9 b1.length j9) := (blk_cell f6.out 0).trans rfl; have am8 := blk_frozen f6.out 0) | ((with_reducible refine gate_callee (f := 18) rfl ?_); refine goesL_ (some 9) rfl rfl Try.func18 (by kernel_rfl) rfl #[.int .i64 2, .int .i64 0] rfl xmp ?_; (with_reducible refine (b4.calls 2 0 bO1 cg9 _ A3.out).mono ?_); rintro e w8 ⟨rfl, hb⟩; refine ⟨_, rfl, ?_⟩; replace f6 := xbb f6 hb; replace g5 := xbb g5 hb; replace HB := xhl HB hb; skip; (try clear hb); (try clear H3); (try clear hk); (try clear hi); have aF6 : w8.cell? ⟨N8, 0, none⟩ = some (.int .i64 0) := (blk_cell g5.out 0).trans rfl; have bu3 : w8.cell? ⟨N8, 1, none⟩ = some (.int .i64 0) := (blk_cell g5.out 1).trans rfl; have aF7 := blk_frozen g5.out 0; have bu4 := blk_frozen g5.out 1))
    refine bodyPost_ret (results_cell_row rfl _ _ N8 28 #[.int .i64 bO1, .int .i64 cg9] (0, 0) _ rfl (by (with_reducible repeat (first | refine bN ?_ _ | refine bD ?_ | refine bA ?_ _)); refine blk_put (cs := #[.int .i64 bO1, .int .i64 0]) ?_ 1 _ rfl; (with_reducible repeat (first | refine bN ?_ _ | refine bD ?_ | refine bA ?_ _)); refine blk_put (cs := #[.int .i64 0, .int .i64 0]) ?_ 0 _ rfl; (with_reducible repeat (first | refine bN ?_ _ | refine bD ?_ | refine bA ?_ _)); exact g5.out) Try.underlying28 rfl (by kernel_rfl)) rfl ?_
    exact ⟨xre, xq HB⟩
  rw [if_neg c2] at H
  have an7 : decide (40 < (b1.length : Int)) = false := decide_eq_false c2
  have aH7 : decide (40 < b1.length) = false := decide_eq_false (by omega)
  clear c2
  have H' := aZ H
  clear H
  go_enter Try.func16, Try.ntmps16
  go_wp2_with (first | ((with_reducible refine gate_dst (N := 1) rfl ?_); refine box_event ?hg (N := 1) ?hd (cs := #[.slice k9 b1.length j9]) (t := 24) ?hr ?_; (case hd => rfl); (case hg => rfl); (case hr => first | (go_simp; done) | (go_simp; rfl)); intro P4 hg w10 hbox hb; have f6 := aZ (hbox); have cH3 := xgh hg HB; have cH4 := xgh hg HB; replace HB := xhl HB hb; clear hb hbox hg) | ((with_reducible refine gate_dst (N := 2) rfl ?_); refine box_event ?hg (N := 2) ?hd (cs := #[.int .i64 0, .int .i64 0]) (t := 28) ?hr ?_; (case hd => rfl); (case hg => rfl); (case hr => first | (go_simp; done) | (go_simp; rfl)); intro N8 hg w11 hbox hb; have g5 := aZ (hbox); have cH5 := xgh hg HB; have cH6 := xgh hg HB; replace HB := xhl HB hb; have M6 := xnl hg f6; have M7 := xng hg f6; replace f6 := xbb f6 hb; clear hb hbox hg; have bQ3 := M6.out; have bQ4 := M7.out; have aL2 : w11.cell? ⟨P4, 0, none⟩ = some (.slice k9 b1.length j9) := (blk_cell f6.out 0).trans rfl; have aL3 := blk_frozen f6.out 0))
  go_loopg [3] k (fun kq v3 w' => ∃ (d6 : Int) (q9 : Int) (m9 : Int), v3 = .int .i64 d6 ∧ Aside0 (a6.l0 kq d6 b1 = some (r1, r2)) ∧ Aside0 (kq ≤ k) ∧ Aside0 (w'.heap[P4]? = some (.cells #[(.slice k9 b1.length j9)] 24 (0, 0))) ∧ Aside0 (w'.heap[N8]? = some (.cells #[.int .i64 q9, .int .i64 m9] 28 (0, 0))) ∧ Aside0 (Below w.heap.size w w'))
  case atStart => exact ⟨(0), (0), (0), xrs, H', ⟨Nat.le_refl _⟩, xk f6, xk g5, xb HB⟩
  case round =>
   clear H'
   (try clear c2); (try clear an7); (try clear aH7); (try clear aL2); (try clear aL3)
   obtain ⟨d6, q9, m9, rfl, HA, S8, f6, g5, HB⟩ := hrel
   cases gk with
   | zero => exact absurd HA.out (by simp [a6.l0])
   | succ k1 =>
    have H := HA.out
    clear HA
    simp only [a6.l0] at H
    by_cases c14 : d6 < (b1.length : Int)
    rotate_left
    · rw [if_neg c14] at H
      have aE9 : decide (d6 < (b1.length : Int)) = false := decide_eq_false c14
      clear c14
      simp only [Option.some.injEq, Prod.mk.injEq] at H
      obtain ⟨rfl, rfl⟩ := H
      have bU4 := M6.out
      have bU5 := M7.out
      have bF6 : wr.cell? ⟨P4, 0, none⟩ = some (.slice k9 b1.length j9) := (blk_cell f6.out 0).trans rfl
      have bF7 := blk_frozen f6.out 0
      have bm2 : wr.cell? ⟨N8, 0, none⟩ = some (.int .i64 q9) := (blk_cell g5.out 0).trans rfl
      have bm3 : wr.cell? ⟨N8, 1, none⟩ = some (.int .i64 m9) := (blk_cell g5.out 1).trans rfl
      have bm4 := blk_frozen g5.out 0
      have bm5 := blk_frozen g5.out 1
      go_wp2
      refine bodyPost_ret (results_cell_row rfl _ _ N8 28 #[.int .i64 0, .int .i64 0] (0, 0) _ rfl (by (with_reducible repeat (first | refine bN ?_ _ | refine bD ?_ | refine bA ?_ _)); refine blk_put (cs := #[.int .i64 0, .int .i64 m9]) ?_ 1 _ rfl; (with_reducible repeat (first | refine bN ?_ _ | refine bD ?_ | refine bA ?_ _)); refine blk_put (cs := #[.int .i64 q9, .int .i64 m9]) ?_ 0 _ rfl; (with_reducible repeat (first | refine bN ?_ _ | refine bD ?_ | refine bA ?_ _)); exact g5.out) Try.underlying28 rfl (by kernel_rfl)) rfl ?_
      exact ⟨xre, xq HB⟩

    rw [if_pos c14] at H
    have aE9 : decide (d6 < (b1.length : Int)) = true := decide_eq_true c14
    clear c14
    by_cases c15 : 0 ≤ d6
    rotate_left
    · rw [if_neg c15] at H
      exact absurd H (by simp)
    rw [if_pos c15] at H
    have dV8 : decide (0 ≤ d6) = true := decide_eq_true c15
    clear c15
    replace H := Option.bind_eq_some_iff.mp H
    obtain ⟨⟨D7, P6⟩, cH7, H⟩ := H
    replace H : (if D7 = 0 then ((b3.f k1 ((a7 b1 d6).f1.f0) ((a7 b1 d6).f1.f1) ((a7 b1 d6).f1.f2)).bind fun ar3 => (if ar3 = ((a7 b1 d6).f0) then (if d6 > 0 then (if 0 ≤ (wrap64 (d6 - 1)) then (if (wrap64 (d6 - 1)) < (b1.length : Int) then (if ((a7 b1 d6).f0) ≤ ((a7 b1 (wrap64 (d6 - 1))).f0) then ((b4.f 5 d6).bind fun ak1 => (some (ak1.1, ak1.2))) else (a6.l0 k1 (wrap64 (d6 + 1)) b1)) else (none)) else (none)) else (a6.l0 k1 (wrap64 (d6 + 1)) b1)) else ((b4.f 18 d6).bind fun aA7 => (some (aA7.1, aA7.2))))) else ((b4.f D7 d6).bind fun aW7 => (some (aW7.1, aW7.2)))) = some (r1, r2) := H
    have A16 := aZ cH7
    clear cH7
    by_cases c17 : D7 = 0
    rotate_left
    · rw [if_neg c17] at H
      have cH8 : (D7 == 0) = false := beq_eq_false_iff_ne.mpr c17
      have cH9 : (D7 != 0) = true := bne_iff_ne.mpr c17
      replace H := Option.bind_eq_some_iff.mp H
      obtain ⟨⟨bO2, ch1⟩, cI0, H⟩ := H
      replace H : (some (bO2, ch1)) = some (r1, r2) := H
      have A74 := aZ cI0
      clear cI0
      simp only [Option.some.injEq, Prod.mk.injEq] at H
      obtain ⟨rfl, rfl⟩ := H
      have ct9 := M6.out
      have cu0 := M7.out
      have bF0 : wr.cell? ⟨P4, 0, none⟩ = some (.slice k9 b1.length j9) := (blk_cell f6.out 0).trans rfl
      have bF1 := blk_frozen f6.out 0
      have af0 : 0 ≤ (d6 : Int) := of_decide_eq_true xas
      have af1 : d6 < (b1.length : Int) := of_decide_eq_true xas
      obtain ⟨f9, af2, af3, af4, af5, aO7, I4, I5, I6, I7, I8, I9, J0, J1⟩ := l8 m8.out d6 af0 af1
      cases aO7
      replace I4 := xcl HB I4
      replace I5 := xcl HB I5
      replace I6 := xcl HB I6
      replace I7 := xcl HB I7
      have W3 := aZ I9
      have W4 := aZ I8
      clear I9 I8
      have W5 := aZ J1
      have W6 := aZ J0
      clear J1 J0
      replace af0 := eq_true af0
      replace af1 := eq_true af1
      go_wp2_with (first | ((with_reducible refine gate_callee (f := 30) rfl ?_); refine goesL_ (some 23) rfl rfl Try.func30 (by kernel_rfl) rfl #[.agg #[.int .i64 ((a7 b1 d6).f1.f0), .slice af2 ((a7 b1 d6).f1.f1).length af3, .slice af4 ((a7 b1 d6).f1.f2).length af5]] rfl xmp ?_; (with_reducible refine (a8.calls k1 ((a7 b1 d6).f1.f0) _ _ ((a7 b1 d6).f1.f1) _ _ ((a7 b1 d6).f1.f2) D7 P6 _ ?side1 ?side2 ?side3 ?side4 A16.out).mono ?_); (case side1 => exact xcb W3 HB); (case side2 => exact W4.out); (case side3 => exact xcb W5 HB); (case side4 => exact W6.out); rintro e w77 ⟨rfl, hb⟩; refine ⟨_, rfl, ?_⟩; replace f6 := xbb f6 hb; replace g5 := xbb g5 hb; replace HB := xhl HB hb; skip; (try clear hb); (try clear H3); (try clear hk); (try clear hi)) | ((with_reducible refine gate_dst (N := 4) rfl ?_); refine box_event ?hg (N := 4) ?hd (cs := #[.int .i64 0, .int .i64 0]) (t := 28) ?hr ?_; (case hd => rfl); (case hg => rfl); (case hr => first | (go_simp; done) | (go_simp; rfl)); intro k7 hg w78 hbox hb; have j7 := aZ (hbox); have bo2 := xgh hg HB; have bo3 := xgh hg HB; replace HB := xhl HB hb; have M8 := xnl hg f6; have M9 := xng hg f6; replace f6 := xbb f6 hb; have N0 := xnl hg g5; have N1 := xng hg g5; replace g5 := xbb g5 hb; clear hb hbox hg; have cu1 := M9.out; have cu2 := M8.out; have cu3 := N1.out; have cu4 := N0.out; have di4 : w78.cell? ⟨k7, 0, none⟩ = some (.int .i64 0) := (blk_cell j7.out 0).trans rfl; have di5 : w78.cell? ⟨k7, 1, none⟩ = some (.int .i64 0) := (blk_cell j7.out 1).trans rfl; have di6 := blk_frozen j7.out 0; have di7 := blk_frozen j7.out 1) | ((with_reducible refine gate_callee (f := 18) rfl ?_); refine goesL_ (some 30) rfl rfl Try.func18 (by kernel_rfl) rfl #[.int .i64 D7, .int .i64 d6] rfl xmp ?_; (with_reducible refine (b4.calls D7 d6 bO2 ch1 _ A74.out).mono ?_); rintro e w82 ⟨rfl, hb⟩; refine ⟨_, rfl, ?_⟩; replace f6 := xbb f6 hb; replace g5 := xbb g5 hb; replace j7 := aZ (blk_below (g := k7) (o := .cells #[.int .i64 D7, .int .i64 P6] 28 (0, 0)) (by (with_reducible repeat (first | refine bN ?_ _ | refine bD ?_ | refine bA ?_ _)); refine blk_put (cs := #[.int .i64 D7, .int .i64 0]) ?_ 1 _ rfl; (with_reducible repeat (first | refine bN ?_ _ | refine bD ?_ | refine bA ?_ _)); refine blk_put (cs := #[.int .i64 0, .int .i64 0]) ?_ 0 _ rfl; (with_reducible repeat (first | refine bN ?_ _ | refine bD ?_ | refine bA ?_ _)); exact j7.out) hb); replace HB := xhl HB hb; (try clear hb); (try clear H3); (try clear hk); (try clear hi); have bF2 : w82.cell? ⟨N8, 0, none⟩ = some (.int .i64 q9) := (blk_cell g5.out 0).trans rfl; have bF3 : w82.cell? ⟨N8, 1, none⟩ = some (.int .i64 m9) := (blk_cell g5.out 1).trans rfl; have bF4 := blk_frozen g5.out 0; have bF5 := blk_frozen g5.out 1))
      refine bodyPost_ret (results_cell_row rfl _ _ N8 28 #[.int .i64 bO2, .int .i64 ch1] (0, 0) _ rfl (by (with_reducible repeat (first | refine bN ?_ _ | refine bD ?_ | refine bA ?_ _)); refine blk_put (cs := #[.int .i64 bO2, .int .i64 m9]) ?_ 1 _ rfl; (with_reducible repeat (first | refine bN ?_ _ | refine bD ?_ | refine bA ?_ _)); refine blk_put (cs := #[.int .i64 q9, .int .i64 m9]) ?_ 0 _ rfl; (with_reducible repeat (first | refine bN ?_ _ | refine bD ?_ | refine bA ?_ _)); exact g5.out) Try.underlying28 rfl (by kernel_rfl)) rfl ?_
      exact ⟨xre, xq HB⟩
    rw [if_pos c17] at H
    have cH8 : (D7 == 0) = true := beq_iff_eq.mpr c17
    have cH9 : (D7 != 0) = false := bne_eq_false_iff_eq.mpr c17
    clear c17
    replace H := Option.bind_eq_some_iff.mp H
    obtain ⟨ar3, bx6, H⟩ := H
    replace H : (if ar3 = ((a7 b1 d6).f0) then (if d6 > 0 then (if 0 ≤ (wrap64 (d6 - 1)) then (if (wrap64 (d6 - 1)) < (b1.length : Int) then (if ((a7 b1 d6).f0) ≤ ((a7 b1 (wrap64 (d6 - 1))).f0) then ((b4.f 5 d6).bind fun ak1 => (some (ak1.1, ak1.2))) else (a6.l0 k1 (wrap64 (d6 + 1)) b1)) else (none)) else (none)) else (a6.l0 k1 (wrap64 (d6 + 1)) b1)) else ((b4.f 18 d6).bind fun aA7 => (some (aA7.1, aA7.2)))) = some (r1, r2) := H
    have A18 := aZ bx6
    clear bx6
    by_cases c19 : ar3 = ((a7 b1 d6).f0)
    rotate_left
    · rw [if_neg c19] at H
      have cI1 : (ar3 == ((a7 b1 d6).f0)) = false := beq_eq_false_iff_ne.mpr c19
      have cI2 : (ar3 != ((a7 b1 d6).f0)) = true := bne_iff_ne.mpr c19
      replace H := Option.bind_eq_some_iff.mp H
      obtain ⟨⟨bO3, ch3⟩, cI3, H⟩ := H
      replace H : (some (bO3, ch3)) = some (r1, r2) := H
      have A61 := aZ cI3
      clear cI3
      simp only [Option.some.injEq, Prod.mk.injEq] at H
      obtain ⟨rfl, rfl⟩ := H
      have dW0 := M6.out
      have dW1 := M7.out
      have di8 : wr.cell? ⟨P4, 0, none⟩ = some (.slice k9 b1.length j9) := (blk_cell f6.out 0).trans rfl
      have di9 := blk_frozen f6.out 0
      have af0 : 0 ≤ (d6 : Int) := of_decide_eq_true xas
      have af1 : d6 < (b1.length : Int) := of_decide_eq_true xas
      obtain ⟨f9, af2, af3, af4, af5, aO7, I4, I5, I6, I7, I8, I9, J0, J1⟩ := l8 m8.out d6 af0 af1
      cases aO7
      replace I4 := xcl HB I4
      replace I5 := xcl HB I5
      replace I6 := xcl HB I6
      replace I7 := xcl HB I7
      have W3 := aZ I9
      have W4 := aZ I8
      clear I9 I8
      have W5 := aZ J1
      have W6 := aZ J0
      clear J1 J0
      replace af0 := eq_true af0
      replace af1 := eq_true af1
      try go_wp2_with (first | ((with_reducible refine gate_callee (f := 30) rfl ?_); refine goesL_ (some 23) rfl rfl Try.func30 (by kernel_rfl) rfl #[.agg #[.int .i64 ((a7 b1 d6).f1.f0), .slice af2 ((a7 b1 d6).f1.f1).length af3, .slice af4 ((a7 b1 d6).f1.f2).length af5]] rfl xmp ?_; (with_reducible refine (a8.calls k1 ((a7 b1 d6).f1.f0) _ _ ((a7 b1 d6).f1.f1) _ _ ((a7 b1 d6).f1.f2) D7 P6 _ ?side1 ?side2 ?side3 ?side4 A16.out).mono ?_); (case side1 => exact xcb W3 HB); (case side2 => exact W4.out); (case side3 => exact xcb W5 HB); (case side4 => exact W6.out); rintro e w64 ⟨rfl, hb⟩; refine ⟨_, rfl, ?_⟩; replace f6 := xbb f6 hb; replace g5 := xbb g5 hb; replace HB := xhl HB hb; skip; (try clear hb); (try clear H3); (try clear hk); (try clear hi)) | ((with_reducible refine gate_dst (N := 4) rfl ?_); refine box_event ?hg (N := 4) ?hd (cs := #[.int .i64 0, .int .i64 0]) (t := 28) ?hr ?_; (case hd => rfl); (case hg => rfl); (case hr => first | (go_simp; done) | (go_simp; rfl)); intro k7 hg w65 hbox hb; have j7 := aZ (hbox); have bo2 := xgh hg HB; have bo3 := xgh hg HB; replace HB := xhl HB hb; have M8 := xnl hg f6; have M9 := xng hg f6; replace f6 := xbb f6 hb; have N0 := xnl hg g5; have N1 := xng hg g5; replace g5 := xbb g5 hb; clear hb hbox hg; have bX6 := M9.out; have bX7 := M8.out; have bX8 := N1.out; have bX9 := N0.out; have aO2 : w65.cell? ⟨k7, 0, none⟩ = some (.int .i64 0) := (blk_cell j7.out 0).trans rfl; have bM6 : w65.cell? ⟨k7, 1, none⟩ = some (.int .i64 0) := (blk_cell j7.out 1).trans rfl; have aO3 := blk_frozen j7.out 0; have bM7 := blk_frozen j7.out 1))
      replace f6 : Aside0 (((w65.setCell ⟨k7, 0, none⟩ (.int .i64 D7)).setCell ⟨k7, 1, none⟩ (.int .i64 P6)).heap[P4]? = some (.cells #[.slice (some f9) b1.length j9] 24 (0, 0))) := xk f6
      replace g5 : Aside0 (((w65.setCell ⟨k7, 0, none⟩ (.int .i64 D7)).setCell ⟨k7, 1, none⟩ (.int .i64 P6)).heap[N8]? = some (.cells #[.int .i64 q9, .int .i64 m9] 28 (0, 0))) := xk g5
      replace j7 : Aside0 (((w65.setCell ⟨k7, 0, none⟩ (.int .i64 D7)).setCell ⟨k7, 1, none⟩ (.int .i64 P6)).heap[k7]? = some (.cells #[.int .i64 D7, .int .i64 P6] 28 (0, 0))) := ⟨by (with_reducible repeat (first | refine bN ?_ _ | refine bD ?_ | refine bA ?_ _)); refine blk_put (cs := #[.int .i64 D7, .int .i64 0]) ?_ 1 _ rfl; (with_reducible repeat (first | refine bN ?_ _ | refine bD ?_ | refine bA ?_ _)); refine blk_put (cs := #[.int .i64 0, .int .i64 0]) ?_ 0 _ rfl; (with_reducible repeat (first | refine bN ?_ _ | refine bD ?_ | refine bA ?_ _)); exact j7.out⟩
      replace HB : Aside0 (Below w.heap.size w ((w65.setCell ⟨k7, 0, none⟩ (.int .i64 D7)).setCell ⟨k7, 1, none⟩ (.int .i64 P6))) := xb HB
      generalize ((w65.setCell ⟨k7, 0, none⟩ (.int .i64 D7)).setCell ⟨k7, 1, none⟩ (.int .i64 P6)) = w69 at f6 g5 j7 HB ⊢
      replace f6 := aZ (bD f6.out)
      replace g5 := aZ (bD g5.out)
      replace j7 := aZ (bD j7.out)
      replace HB := aZ (lD HB.out)
      have an2 : 0 ≤ (d6 : Int) := of_decide_eq_true xas
      have an3 : d6 < (b1.length : Int) := of_decide_eq_true xas
      obtain ⟨aG8, O2, O3, O4, O5, aZ6, v6, v7, q3, q4, Q5, Q6, Q7, Q8⟩ := l8 m8.out d6 an2 an3
      have Q9 := q4
      have R0 := q3
      have R1 := v7
      have R2 := v6
      obtain rfl : f9 = aG8 := (by injection aZ6)
      replace v6 := xcl HB v6
      replace v7 := xcl HB v7
      replace q3 := xcl HB q3
      replace q4 := xcl HB q4
      have R3 := aZ Q6
      have af6 := aZ Q5
      clear Q6 Q5
      have R4 := aZ Q8
      have af7 := aZ Q7
      clear Q8 Q7
      replace an2 := eq_true an2
      replace an3 := eq_true an3
      have an4 : 0 ≤ (d6 : Int) := of_decide_eq_true xas
      have an5 : d6 < (b1.length : Int) := of_decide_eq_true xas
      obtain ⟨aG9, aZ7, aZ8, aZ9, a_0, a_1, x6, z1, q5, q6, R5, R6, R7, R8⟩ := l8 m8.out d6 an4 an5
      have R9 := q6
      have S0 := q5
      have S1 := z1
      have S3 := x6
      obtain rfl : f9 = aG9 := (by injection a_1)
      replace x6 := xcl HB x6
      replace z1 := xcl HB z1
      replace q5 := xcl HB q5
      replace q6 := xcl HB q6
      have af8 := aZ R6
      have aO8 := aZ R5
      clear R6 R5
      have af9 := aZ R8
      have aO9 := aZ R7
      clear R8 R7
      replace an4 := eq_true an4
      replace an5 := eq_true an5
      have ea_ := Option.some.inj (q3.symm.trans q5)
      injection ea_ with ea_ en_ ec_
      subst ea_
      subst ec_
      clear en_
      have ea_ := Option.some.inj (q4.symm.trans q6)
      injection ea_ with ea_ en_ ec_
      subst ea_
      subst ec_
      clear en_
      refine start_ (n := 14) (S := fun w' => w'.cell? ⟨P4, 0, none⟩ = some (.slice (some f9) b1.length j9) ∧ w'.cell? (f9.add ((d6).toNat * 4)) = some (.int .i64 ((a7 b1 d6).f0)) ∧ w'.cell? ⟨(f9.add ((d6).toNat * 4)).block, (f9.add ((d6).toNat * 4)).off + 1, none⟩ = some (.int .i64 ((a7 b1 d6).f1.f0)) ∧ w'.cell? ⟨(f9.add ((d6).toNat * 4)).block, (f9.add ((d6).toNat * 4)).off + 2, none⟩ = some (.slice O2 ((a7 b1 d6).f1.f1).length O3) ∧ w'.cell? ⟨(f9.add ((d6).toNat * 4)).block, (f9.add ((d6).toNat * 4)).off + 3, none⟩ = some (.slice O4 ((a7 b1 d6).f1.f2).length O5) ∧ w'.cell? (f9.add ((d6).toNat * 4)) = some (.int .i64 ((a7 b1 d6).f0)) ∧ w'.cell? ⟨(f9.add ((d6).toNat * 4)).block, (f9.add ((d6).toNat * 4)).off + 1, none⟩ = some (.int .i64 ((a7 b1 d6).f1.f0)) ∧ w'.cell? ⟨(f9.add ((d6).toNat * 4)).block, (f9.add ((d6).toNat * 4)).off + 2, none⟩ = some (.slice O2 ((a7 b1 d6).f1.f1).length O3) ∧ w'.cell? ⟨(f9.add ((d6).toNat * 4)).block, (f9.add ((d6).toNat * 4)).off + 3, none⟩ = some (.slice O4 ((a7 b1 d6).f1.f2).length O5)) (ds := []) Z1 (by kernel_rfl) rfl rfl ⟨(blk_cell f6.out 0).trans rfl, (xcl HB R2), (xcl HB R1), (xcl HB R0), (xcl HB Q9), (xcl HB S3), (xcl HB S1), (xcl HB S0), (xcl HB R9)⟩ (fun hHeld => ?_); refine with_tabW a6.tab9 a6.bits9 (fun HT_ HW_ => ?_)
      generalize w69.drew = w70 at f6 g5 j7 HB R3 R4 af8 af9 v6 v7 q3 q4 x6 z1 q5 q6 hHeld ⊢
      refine pu 0 31 Z2 HT_ rfl rfl (h := ?_)
      refine pu 2 33 Z3 HT_ rfl rfl (h := ?_)
      refine pu 7 38 Z4 HT_ rfl rfl (h := ?_)
      refine pu 9 40 Z5 HT_ rfl rfl (h := ?_)
      refine tk 1 32 Z6 HT_ HW_ rfl rfl hHeld (by rintro w' ⟨s0, s1, s2, s3, s4, s5, s6, s7, s8⟩; go_simp; with_reducible rfl) (h := ?_)
      refine pu 3 34 Z7 HT_ rfl rfl (h := ?_)
      refine pu 4 35 Z8 HT_ rfl rfl (h := ?_)
      refine tk 5 36 Z9 HT_ HW_ rfl rfl hHeld (by rintro w' ⟨s0, s1, s2, s3, s4, s5, s6, s7, s8⟩; go_simp; with_reducible rfl) (h := ?_)
      refine tk 8 39 Z10 HT_ HW_ rfl rfl hHeld (by rintro w' ⟨s0, s1, s2, s3, s4, s5, s6, s7, s8⟩; go_simp; with_reducible rfl) (h := ?_)
      refine pu 10 41 Z11 HT_ rfl rfl (h := ?_)
      refine pu 11 42 Z12 HT_ rfl rfl (h := ?_)
      refine tk 12 43 Z13 HT_ HW_ rfl rfl hHeld (by rintro w' ⟨s0, s1, s2, s3, s4, s5, s6, s7, s8⟩; go_simp; with_reducible rfl) (h := ?_)
      refine one_ (i := 6) (N := some 37) Z14 rfl rfl (one_of HT_.out (by kernel_rfl)) (by decide) (fun K hK => ?_)
      refine goes_ Try.func31 (by kernel_rfl) rfl #[.agg #[.int .i64 ((a7 b1 d6).f1.f0), .slice O2 ((a7 b1 d6).f1.f1).length O3, .slice O4 ((a7 b1 d6).f1.f2).length O5]] (by rfl) rfl rfl xmp ?_
      with_reducible refine (b3.calls k1 ((a7 b1 d6).f1.f0) _ _ ((a7 b1 d6).f1.f1) _ _ ((a7 b1 d6).f1.f2) ar3 _ ?side1 ?side2 ?side3 ?side4 A18.out).mono ?_
      (case side1 => exact xcb R3 HB)
      (case side2 => exact af6.out)
      (case side3 => exact xcb R4 HB)
      (case side4 => exact af7.out)
      rintro e w71 ⟨rfl, hb⟩
      refine ⟨_, rfl, ?_⟩
      replace f6 := xbb f6 hb
      replace g5 := xbb g5 hb
      replace j7 := xbb j7 hb
      replace HB := xhl HB hb
      skip
      (try clear hb)
      (try clear H3)
      (try clear hk)
      (try clear hi)
      refine hK.out _ _ ⟨(blk_cell f6.out 0).trans rfl, (xcl HB R2), (xcl HB R1), (xcl HB R0), (xcl HB Q9), (xcl HB S3), (xcl HB S1), (xcl HB S0), (xcl HB R9)⟩ (fun hHeld => ?_)
      clear hK K
      refine norm_ (a' := ?_) ?_ ?_
      rotate_left
      · show Act.put _ (some 37) _ = _
        simp only [Act.put, List.setIfInBounds_toArray, List.set_cons_zero, List.set_cons_succ, i64_w, i32_w]
        rfl
      refine pu 13 44 Z15 HT_ rfl rfl (h := ?_)
      refine done_ (done_of HT_.out (by kernel_rfl)) ?_
      try go_wp2_with (first | ((with_reducible refine gate_callee (f := 18) rfl ?_); refine goesL_ (some 46) rfl rfl Try.func18 (by kernel_rfl) rfl #[.int .i64 18, .int .i64 d6] rfl xmp ?_; (with_reducible refine (b4.calls 18 d6 bO3 ch3 _ A61.out).mono ?_); rintro e w72 ⟨rfl, hb⟩; refine ⟨_, rfl, ?_⟩; replace f6 := xbb f6 hb; replace g5 := xbb g5 hb; replace j7 := xbb j7 hb; replace HB := xhl HB hb; skip; (try clear hb); (try clear H3); (try clear hk); (try clear hi); have dj0 : w72.cell? ⟨N8, 0, none⟩ = some (.int .i64 q9) := (blk_cell g5.out 0).trans rfl; have dj1 : w72.cell? ⟨N8, 1, none⟩ = some (.int .i64 m9) := (blk_cell g5.out 1).trans rfl; have dj2 := blk_frozen g5.out 0; have dj3 := blk_frozen g5.out 1))
      refine bodyPost_ret (results_cell_row rfl _ _ N8 28 #[.int .i64 bO3, .int .i64 ch3] (0, 0) _ rfl (by (with_reducible repeat (first | refine bN ?_ _ | refine bD ?_ | refine bA ?_ _)); refine blk_put (cs := #[.int .i64 bO3, .int .i64 m9]) ?_ 1 _ rfl; (with_reducible repeat (first | refine bN ?_ _ | refine bD ?_ | refine bA ?_ _)); refine blk_put (cs := #[.int .i64 q9, .int .i64 m9]) ?_ 0 _ rfl; (with_reducible repeat (first | refine bN ?_ _ | refine bD ?_ | refine bA ?_ _)); exact g5.out) Try.underlying28 rfl (by kernel_rfl)) rfl ?_
      exact ⟨xre, xq HB⟩
    rw [if_pos c19] at H
    have cI1 : (ar3 == ((a7 b1 d6).f0)) = true := beq_iff_eq.mpr c19
    have cI2 : (ar3 != ((a7 b1 d6).f0)) = false := bne_eq_false_iff_eq.mpr c19
    clear c19
    by_cases c20 : d6 > 0
    rotate_left
    · rw [if_neg c20] at H
      have cI4 : decide (0 < d6) = false := decide_eq_false c20
      clear c20
      have H' := aZ H
      clear H
      have bv9 := M6.out
      have bw0 := M7.out
      have dj4 : wr.cell? ⟨P4, 0, none⟩ = some (.slice k9 b1.length j9) := (blk_cell f6.out 0).trans rfl
      have dj5 := blk_frozen f6.out 0
      have af0 : 0 ≤ (d6 : Int) := of_decide_eq_true xas
      have af1 : d6 < (b1.length : Int) := of_decide_eq_true xas
      obtain ⟨f9, af2, af3, af4, af5, aO7, I4, I5, I6, I7, I8, I9, J0, J1⟩ := l8 m8.out d6 af0 af1
      cases aO7
      replace I4 := xcl HB I4
      replace I5 := xcl HB I5
      replace I6 := xcl HB I6
      replace I7 := xcl HB I7
      have W3 := aZ I9
      have W4 := aZ I8
      clear I9 I8
      have W5 := aZ J1
      have W6 := aZ J0
      clear J1 J0
      replace af0 := eq_true af0
      replace af1 := eq_true af1
      try go_wp2_with (first | ((with_reducible refine gate_callee (f := 30) rfl ?_); refine goesL_ (some 23) rfl rfl Try.func30 (by kernel_rfl) rfl #[.agg #[.int .i64 ((a7 b1 d6).f1.f0), .slice af2 ((a7 b1 d6).f1.f1).length af3, .slice af4 ((a7 b1 d6).f1.f2).length af5]] rfl xmp ?_; (with_reducible refine (a8.calls k1 ((a7 b1 d6).f1.f0) _ _ ((a7 b1 d6).f1.f1) _ _ ((a7 b1 d6).f1.f2) D7 P6 _ ?side1 ?side2 ?side3 ?side4 A16.out).mono ?_); (case side1 => exact xcb W3 HB); (case side2 => exact W4.out); (case side3 => exact xcb W5 HB); (case side4 => exact W6.out); rintro e w52 ⟨rfl, hb⟩; refine ⟨_, rfl, ?_⟩; replace f6 := xbb f6 hb; replace g5 := xbb g5 hb; replace HB := xhl HB hb; skip; (try clear hb); (try clear H3); (try clear hk); (try clear hi)) | ((with_reducible refine gate_dst (N := 4) rfl ?_); refine box_event ?hg (N := 4) ?hd (cs := #[.int .i64 0, .int .i64 0]) (t := 28) ?hr ?_; (case hd => rfl); (case hg => rfl); (case hr => first | (go_simp; done) | (go_simp; rfl)); intro k7 hg w53 hbox hb; have j7 := aZ (hbox); have bo2 := xgh hg HB; have bo3 := xgh hg HB; replace HB := xhl HB hb; have M8 := xnl hg f6; have M9 := xng hg f6; replace f6 := xbb f6 hb; have N0 := xnl hg g5; have N1 := xng hg g5; replace g5 := xbb g5 hb; clear hb hbox hg; have cq7 := M9.out; have cq8 := M8.out; have cu7 := N1.out; have cu8 := N0.out; have bN5 : w53.cell? ⟨k7, 0, none⟩ = some (.int .i64 0) := (blk_cell j7.out 0).trans rfl; have bN6 : w53.cell? ⟨k7, 1, none⟩ = some (.int .i64 0) := (blk_cell j7.out 1).trans rfl; have bN7 := blk_frozen j7.out 0; have bN8 := blk_frozen j7.out 1))
      replace f6 : Aside0 (((w53.setCell ⟨k7, 0, none⟩ (.int .i64 D7)).setCell ⟨k7, 1, none⟩ (.int .i64 P6)).heap[P4]? = some (.cells #[.slice (some f9) b1.length j9] 24 (0, 0))) := xk f6
      replace g5 : Aside0 (((w53.setCell ⟨k7, 0, none⟩ (.int .i64 D7)).setCell ⟨k7, 1, none⟩ (.int .i64 P6)).heap[N8]? = some (.cells #[.int .i64 q9, .int .i64 m9] 28 (0, 0))) := xk g5
      replace j7 : Aside0 (((w53.setCell ⟨k7, 0, none⟩ (.int .i64 D7)).setCell ⟨k7, 1, none⟩ (.int .i64 P6)).heap[k7]? = some (.cells #[.int .i64 D7, .int .i64 P6] 28 (0, 0))) := ⟨by (with_reducible repeat (first | refine bN ?_ _ | refine bD ?_ | refine bA ?_ _)); refine blk_put (cs := #[.int .i64 D7, .int .i64 0]) ?_ 1 _ rfl; (with_reducible repeat (first | refine bN ?_ _ | refine bD ?_ | refine bA ?_ _)); refine blk_put (cs := #[.int .i64 0, .int .i64 0]) ?_ 0 _ rfl; (with_reducible repeat (first | refine bN ?_ _ | refine bD ?_ | refine bA ?_ _)); exact j7.out⟩
      replace HB : Aside0 (Below w.heap.size w ((w53.setCell ⟨k7, 0, none⟩ (.int .i64 D7)).setCell ⟨k7, 1, none⟩ (.int .i64 P6))) := xb HB
      generalize ((w53.setCell ⟨k7, 0, none⟩ (.int .i64 D7)).setCell ⟨k7, 1, none⟩ (.int .i64 P6)) = w57 at f6 g5 j7 HB ⊢
      replace f6 := aZ (bD f6.out)
      replace g5 := aZ (bD g5.out)
      replace j7 := aZ (bD j7.out)
      replace HB := aZ (lD HB.out)
      have an2 : 0 ≤ (d6 : Int) := of_decide_eq_true xas
      have an3 : d6 < (b1.length : Int) := of_decide_eq_true xas
      obtain ⟨aG8, O2, O3, O4, O5, aZ6, v6, v7, q3, q4, Q5, Q6, Q7, Q8⟩ := l8 m8.out d6 an2 an3
      have Q9 := q4
      have R0 := q3
      have R1 := v7
      have R2 := v6
      obtain rfl : f9 = aG8 := (by injection aZ6)
      replace v6 := xcl HB v6
      replace v7 := xcl HB v7
      replace q3 := xcl HB q3
      replace q4 := xcl HB q4
      have R3 := aZ Q6
      have af6 := aZ Q5
      clear Q6 Q5
      have R4 := aZ Q8
      have af7 := aZ Q7
      clear Q8 Q7
      replace an2 := eq_true an2
      replace an3 := eq_true an3
      have an4 : 0 ≤ (d6 : Int) := of_decide_eq_true xas
      have an5 : d6 < (b1.length : Int) := of_decide_eq_true xas
      obtain ⟨aG9, aZ7, aZ8, aZ9, a_0, a_1, x6, z1, q5, q6, R5, R6, R7, R8⟩ := l8 m8.out d6 an4 an5
      have R9 := q6
      have S0 := q5
      have S1 := z1
      have S3 := x6
      obtain rfl : f9 = aG9 := (by injection a_1)
      replace x6 := xcl HB x6
      replace z1 := xcl HB z1
      replace q5 := xcl HB q5
      replace q6 := xcl HB q6
      have af8 := aZ R6
      have aO8 := aZ R5
      clear R6 R5
      have af9 := aZ R8
      have aO9 := aZ R7
      clear R8 R7
      replace an4 := eq_true an4
      replace an5 := eq_true an5
      have ea_ := Option.some.inj (q3.symm.trans q5)
      injection ea_ with ea_ en_ ec_
      subst ea_
      subst ec_
      clear en_
      have ea_ := Option.some.inj (q4.symm.trans q6)
      injection ea_ with ea_ en_ ec_
      subst ea_
      subst ec_
      clear en_
      refine start_ (n := 14) (S := fun w' => w'.cell? ⟨P4, 0, none⟩ = some (.slice (some f9) b1.length j9) ∧ w'.cell? (f9.add ((d6).toNat * 4)) = some (.int .i64 ((a7 b1 d6).f0)) ∧ w'.cell? ⟨(f9.add ((d6).toNat * 4)).block, (f9.add ((d6).toNat * 4)).off + 1, none⟩ = some (.int .i64 ((a7 b1 d6).f1.f0)) ∧ w'.cell? ⟨(f9.add ((d6).toNat * 4)).block, (f9.add ((d6).toNat * 4)).off + 2, none⟩ = some (.slice O2 ((a7 b1 d6).f1.f1).length O3) ∧ w'.cell? ⟨(f9.add ((d6).toNat * 4)).block, (f9.add ((d6).toNat * 4)).off + 3, none⟩ = some (.slice O4 ((a7 b1 d6).f1.f2).length O5) ∧ w'.cell? (f9.add ((d6).toNat * 4)) = some (.int .i64 ((a7 b1 d6).f0)) ∧ w'.cell? ⟨(f9.add ((d6).toNat * 4)).block, (f9.add ((d6).toNat * 4)).off + 1, none⟩ = some (.int .i64 ((a7 b1 d6).f1.f0)) ∧ w'.cell? ⟨(f9.add ((d6).toNat * 4)).block, (f9.add ((d6).toNat * 4)).off + 2, none⟩ = some (.slice O2 ((a7 b1 d6).f1.f1).length O3) ∧ w'.cell? ⟨(f9.add ((d6).toNat * 4)).block, (f9.add ((d6).toNat * 4)).off + 3, none⟩ = some (.slice O4 ((a7 b1 d6).f1.f2).length O5)) (ds := []) Z1 (by kernel_rfl) rfl rfl ⟨(blk_cell f6.out 0).trans rfl, (xcl HB R2), (xcl HB R1), (xcl HB R0), (xcl HB Q9), (xcl HB S3), (xcl HB S1), (xcl HB S0), (xcl HB R9)⟩ (fun hHeld => ?_); refine with_tabW a6.tab9 a6.bits9 (fun HT_ HW_ => ?_)
      generalize w57.drew = w58 at f6 g5 j7 HB R3 R4 af8 af9 v6 v7 q3 q4 x6 z1 q5 q6 hHeld ⊢
      refine pu 0 31 Z2 HT_ rfl rfl (h := ?_)
      refine pu 2 33 Z3 HT_ rfl rfl (h := ?_)
      refine pu 7 38 Z4 HT_ rfl rfl (h := ?_)
      refine pu 9 40 Z5 HT_ rfl rfl (h := ?_)
      refine tk 1 32 Z6 HT_ HW_ rfl rfl hHeld (by rintro w' ⟨s0, s1, s2, s3, s4, s5, s6, s7, s8⟩; go_simp; with_reducible rfl) (h := ?_)
      refine pu 3 34 Z7 HT_ rfl rfl (h := ?_)
      refine pu 4 35 Z8 HT_ rfl rfl (h := ?_)
      refine tk 5 36 Z9 HT_ HW_ rfl rfl hHeld (by rintro w' ⟨s0, s1, s2, s3, s4, s5, s6, s7, s8⟩; go_simp; with_reducible rfl) (h := ?_)
      refine tk 8 39 Z10 HT_ HW_ rfl rfl hHeld (by rintro w' ⟨s0, s1, s2, s3, s4, s5, s6, s7, s8⟩; go_simp; with_reducible rfl) (h := ?_)
      refine pu 10 41 Z11 HT_ rfl rfl (h := ?_)
      refine pu 11 42 Z12 HT_ rfl rfl (h := ?_)
      refine tk 12 43 Z13 HT_ HW_ rfl rfl hHeld (by rintro w' ⟨s0, s1, s2, s3, s4, s5, s6, s7, s8⟩; go_simp; with_reducible rfl) (h := ?_)
      refine one_ (i := 6) (N := some 37) Z14 rfl rfl (one_of HT_.out (by kernel_rfl)) (by decide) (fun K hK => ?_)
      refine goes_ Try.func31 (by kernel_rfl) rfl #[.agg #[.int .i64 ((a7 b1 d6).f1.f0), .slice O2 ((a7 b1 d6).f1.f1).length O3, .slice O4 ((a7 b1 d6).f1.f2).length O5]] (by rfl) rfl rfl xmp ?_
      with_reducible refine (b3.calls k1 ((a7 b1 d6).f1.f0) _ _ ((a7 b1 d6).f1.f1) _ _ ((a7 b1 d6).f1.f2) ar3 _ ?side1 ?side2 ?side3 ?side4 A18.out).mono ?_
      (case side1 => exact xcb R3 HB)
      (case side2 => exact af6.out)
      (case side3 => exact xcb R4 HB)
      (case side4 => exact af7.out)
      rintro e w59 ⟨rfl, hb⟩
      refine ⟨_, rfl, ?_⟩
      replace f6 := xbb f6 hb
      replace g5 := xbb g5 hb
      replace j7 := xbb j7 hb
      replace HB := xhl HB hb
      skip
      (try clear hb)
      (try clear H3)
      (try clear hk)
      (try clear hi)
      refine hK.out _ _ ⟨(blk_cell f6.out 0).trans rfl, (xcl HB R2), (xcl HB R1), (xcl HB R0), (xcl HB Q9), (xcl HB S3), (xcl HB S1), (xcl HB S0), (xcl HB R9)⟩ (fun hHeld => ?_)
      clear hK K
      refine norm_ (a' := ?_) ?_ ?_
      rotate_left
      · show Act.put _ (some 37) _ = _
        simp only [Act.put, List.setIfInBounds_toArray, List.set_cons_zero, List.set_cons_succ, i64_w, i32_w]
        rfl
      refine pu 13 44 Z15 HT_ rfl rfl (h := ?_)
      refine done_ (done_of HT_.out (by kernel_rfl)) ?_
      try go_wp2
      replace f6 := aZ (bD f6.out)
      replace g5 := aZ (bD g5.out)
      replace j7 := aZ (bD j7.out)
      replace HB := aZ (lD HB.out)
      refine start_ (n := 18) (S := fun w' => True) (ds := []) Z16 (by kernel_rfl) rfl rfl trivial (fun hHeld => ?_); refine with_tabW a6.tab11 a6.bits11 (fun HT_ HW_ => ?_)
      generalize w59.drew = w60 at f6 g5 j7 HB hHeld ⊢
      refine pu 0 47 Z17 HT_ rfl rfl (h := ?_)
      refine pu 1 48 Z18 HT_ rfl rfl (h := ?_)
      refine pu 2 49 Z19 HT_ rfl rfl (h := ?_)
      refine pv 3 50 Z20 HT_ rfl rfl (h := ?_)
      refine pv 4 51 Z35 HT_ rfl rfl (h := ?_)
      refine pv 5 52 Z36 HT_ rfl rfl (h := ?_)
      refine pv 6 53 Z37 HT_ rfl rfl (h := ?_)
      refine pv 7 54 Z38 HT_ rfl rfl (h := ?_)
      refine pv 8 55 Z39 HT_ rfl rfl (h := ?_)
      refine pv 9 56 Z40 HT_ rfl rfl (h := ?_)
      refine pv 10 57 Z41 HT_ rfl rfl (h := ?_)
      refine pv 11 58 Z42 HT_ rfl rfl (h := ?_)
      refine pv 12 59 Z29 HT_ rfl rfl (h := ?_)
      refine pv 13 60 Z30 HT_ rfl rfl (h := ?_)
      refine pv 14 61 Z31 HT_ rfl rfl (h := ?_)
      refine pv 15 62 Z32 HT_ rfl rfl (h := ?_)
      refine pv 16 63 Z33 HT_ rfl rfl (h := ?_)
      refine pu 17 64 Z34 HT_ rfl rfl (h := ?_)
      refine done_ (done_of HT_.out (by kernel_rfl)) ?_
      try go_wp2
      go_roundg k1
      case measure => have := S8.out; omega
      case rel => exact ⟨(wrap64 (d6 + 1)), (q9), (m9), xrs, H', ⟨by have := S8.out; omega⟩, xk f6, xk g5, xb HB⟩
    rw [if_pos c20] at H
    have cI4 : decide (0 < d6) = true := decide_eq_true c20
    clear c20
    obtain ⟨F8, aK4⟩ : ∃ j_ : Int, (wrap64 (d6 - 1)) = j_ := ⟨_, rfl⟩
    replace H : (if 0 ≤ (F8) then (if (F8) < (b1.length : Int) then (if ((a7 b1 d6).f0) ≤ ((a7 b1 (F8)).f0) then ((b4.f 5 d6).bind fun ak1 => (some (ak1.1, ak1.2))) else (a6.l0 k1 (wrap64 (d6 + 1)) b1)) else (none)) else (none)) = some (r1, r2) := by first | (rw [aK4] at H; exact H) | (simp only [aK4] at H ⊢; exact H)
    (try rw [aK4] at A16)
    (try rw [aK4] at A18)
    have dH6 : (IntKind.i64.wrap (d6 - 1)) = F8 := (i64_w _).trans aK4
    by_cases c22 : 0 ≤ (F8)
    rotate_left
    · rw [if_neg c22] at H
      exact absurd H (by simp)
    rw [if_pos c22] at H
    have bQ5 : decide (0 ≤ (F8)) = true := decide_eq_true c22
    clear c22
    by_cases c23 : (F8) < (b1.length : Int)
    rotate_left
    · rw [if_neg c23] at H
      exact absurd H (by simp)
    rw [if_pos c23] at H
    have bd8 : decide ((F8) < (b1.length : Int)) = true := decide_eq_true c23
    clear c23
    by_cases c24 : ((a7 b1 d6).f0) ≤ ((a7 b1 (F8)).f0)
    rotate_left
    · rw [if_neg c24] at H
      have bs1 : decide (((a7 b1 d6).f0) ≤ ((a7 b1 (F8)).f0)) = false := decide_eq_false c24
      clear c24
      have H' := aZ H
      clear H
      have cx9 := M6.out
      have cy0 := M7.out
      have bN3 : wr.cell? ⟨P4, 0, none⟩ = some (.slice k9 b1.length j9) := (blk_cell f6.out 0).trans rfl
      have bN4 := blk_frozen f6.out 0
      have af0 : 0 ≤ (d6 : Int) := of_decide_eq_true xas
      have af1 : d6 < (b1.length : Int) := of_decide_eq_true xas
      obtain ⟨f9, af2, af3, af4, af5, aO7, I4, I5, I6, I7, I8, I9, J0, J1⟩ := l8 m8.out d6 af0 af1
      cases aO7
      replace I4 := xcl HB I4
      replace I5 := xcl HB I5
      replace I6 := xcl HB I6
      replace I7 := xcl HB I7
      have W3 := aZ I9
      have W4 := aZ I8
      clear I9 I8
      have W5 := aZ J1
      have W6 := aZ J0
      clear J1 J0
      replace af0 := eq_true af0
      replace af1 := eq_true af1
      try go_wp2_with (first | ((with_reducible refine gate_callee (f := 30) rfl ?_); refine goesL_ (some 23) rfl rfl Try.func30 (by kernel_rfl) rfl #[.agg #[.int .i64 ((a7 b1 d6).f1.f0), .slice af2 ((a7 b1 d6).f1.f1).length af3, .slice af4 ((a7 b1 d6).f1.f2).length af5]] rfl xmp ?_; (with_reducible refine (a8.calls k1 ((a7 b1 d6).f1.f0) _ _ ((a7 b1 d6).f1.f1) _ _ ((a7 b1 d6).f1.f2) D7 P6 _ ?side1 ?side2 ?side3 ?side4 A16.out).mono ?_); (case side1 => exact xcb W3 HB); (case side2 => exact W4.out); (case side3 => exact xcb W5 HB); (case side4 => exact W6.out); rintro e w41 ⟨rfl, hb⟩; refine ⟨_, rfl, ?_⟩; replace f6 := xbb f6 hb; replace g5 := xbb g5 hb; replace HB := xhl HB hb; skip; (try clear hb); (try clear H3); (try clear hk); (try clear hi)) | ((with_reducible refine gate_dst (N := 4) rfl ?_); refine box_event ?hg (N := 4) ?hd (cs := #[.int .i64 0, .int .i64 0]) (t := 28) ?hr ?_; (case hd => rfl); (case hg => rfl); (case hr => first | (go_simp; done) | (go_simp; rfl)); intro k7 hg w42 hbox hb; have j7 := aZ (hbox); have bo2 := xgh hg HB; have bo3 := xgh hg HB; replace HB := xhl HB hb; have M8 := xnl hg f6; have M9 := xng hg f6; replace f6 := xbb f6 hb; have N0 := xnl hg g5; have N1 := xng hg g5; replace g5 := xbb g5 hb; clear hb hbox hg; have bV2 := M9.out; have bV3 := M8.out; have cr9 := N1.out; have cs1 := N0.out; have bh8 : w42.cell? ⟨k7, 0, none⟩ = some (.int .i64 0) := (blk_cell j7.out 0).trans rfl; have bh9 : w42.cell? ⟨k7, 1, none⟩ = some (.int .i64 0) := (blk_cell j7.out 1).trans rfl; have bi0 := blk_frozen j7.out 0; have bi1 := blk_frozen j7.out 1))
      replace f6 : Aside0 (((w42.setCell ⟨k7, 0, none⟩ (.int .i64 D7)).setCell ⟨k7, 1, none⟩ (.int .i64 P6)).heap[P4]? = some (.cells #[.slice (some f9) b1.length j9] 24 (0, 0))) := xk f6
      replace g5 : Aside0 (((w42.setCell ⟨k7, 0, none⟩ (.int .i64 D7)).setCell ⟨k7, 1, none⟩ (.int .i64 P6)).heap[N8]? = some (.cells #[.int .i64 q9, .int .i64 m9] 28 (0, 0))) := xk g5
      replace j7 : Aside0 (((w42.setCell ⟨k7, 0, none⟩ (.int .i64 D7)).setCell ⟨k7, 1, none⟩ (.int .i64 P6)).heap[k7]? = some (.cells #[.int .i64 D7, .int .i64 P6] 28 (0, 0))) := ⟨by (with_reducible repeat (first | refine bN ?_ _ | refine bD ?_ | refine bA ?_ _)); refine blk_put (cs := #[.int .i64 D7, .int .i64 0]) ?_ 1 _ rfl; (with_reducible repeat (first | refine bN ?_ _ | refine bD ?_ | refine bA ?_ _)); refine blk_put (cs := #[.int .i64 0, .int .i64 0]) ?_ 0 _ rfl; (with_reducible repeat (first | refine bN ?_ _ | refine bD ?_ | refine bA ?_ _)); exact j7.out⟩
      replace HB : Aside0 (Below w.heap.size w ((w42.setCell ⟨k7, 0, none⟩ (.int .i64 D7)).setCell ⟨k7, 1, none⟩ (.int .i64 P6))) := xb HB
      generalize ((w42.setCell ⟨k7, 0, none⟩ (.int .i64 D7)).setCell ⟨k7, 1, none⟩ (.int .i64 P6)) = w46 at f6 g5 j7 HB ⊢
      replace f6 := aZ (bD f6.out)
      replace g5 := aZ (bD g5.out)
      replace j7 := aZ (bD j7.out)
      replace HB := aZ (lD HB.out)
      have an2 : 0 ≤ (d6 : Int) := of_decide_eq_true xas
      have an3 : d6 < (b1.length : Int) := of_decide_eq_true xas
      obtain ⟨aG8, O2, O3, O4, O5, aZ6, v6, v7, q3, q4, Q5, Q6, Q7, Q8⟩ := l8 m8.out d6 an2 an3
      have Q9 := q4
      have R0 := q3
      have R1 := v7
      have R2 := v6
      obtain rfl : f9 = aG8 := (by injection aZ6)
      replace v6 := xcl HB v6
      replace v7 := xcl HB v7
      replace q3 := xcl HB q3
      replace q4 := xcl HB q4
      have R3 := aZ Q6
      have af6 := aZ Q5
      clear Q6 Q5
      have R4 := aZ Q8
      have af7 := aZ Q7
      clear Q8 Q7
      replace an2 := eq_true an2
      replace an3 := eq_true an3
      have an4 : 0 ≤ (d6 : Int) := of_decide_eq_true xas
      have an5 : d6 < (b1.length : Int) := of_decide_eq_true xas
      obtain ⟨aG9, aZ7, aZ8, aZ9, a_0, a_1, x6, z1, q5, q6, R5, R6, R7, R8⟩ := l8 m8.out d6 an4 an5
      have R9 := q6
      have S0 := q5
      have S1 := z1
      have S3 := x6
      obtain rfl : f9 = aG9 := (by injection a_1)
      replace x6 := xcl HB x6
      replace z1 := xcl HB z1
      replace q5 := xcl HB q5
      replace q6 := xcl HB q6
      have af8 := aZ R6
      have aO8 := aZ R5
      clear R6 R5
      have af9 := aZ R8
      have aO9 := aZ R7
      clear R8 R7
      replace an4 := eq_true an4
      replace an5 := eq_true an5
      have ea_ := Option.some.inj (q3.symm.trans q5)
      injection ea_ with ea_ en_ ec_
      subst ea_
      subst ec_
      clear en_
      have ea_ := Option.some.inj (q4.symm.trans q6)
      injection ea_ with ea_ en_ ec_
      subst ea_
      subst ec_
      clear en_
      refine start_ (n := 14) (S := fun w' => w'.cell? ⟨P4, 0, none⟩ = some (.slice (some f9) b1.length j9) ∧ w'.cell? (f9.add ((d6).toNat * 4)) = some (.int .i64 ((a7 b1 d6).f0)) ∧ w'.cell? ⟨(f9.add ((d6).toNat * 4)).block, (f9.add ((d6).toNat * 4)).off + 1, none⟩ = some (.int .i64 ((a7 b1 d6).f1.f0)) ∧ w'.cell? ⟨(f9.add ((d6).toNat * 4)).block, (f9.add ((d6).toNat * 4)).off + 2, none⟩ = some (.slice O2 ((a7 b1 d6).f1.f1).length O3) ∧ w'.cell? ⟨(f9.add ((d6).toNat * 4)).block, (f9.add ((d6).toNat * 4)).off + 3, none⟩ = some (.slice O4 ((a7 b1 d6).f1.f2).length O5) ∧ w'.cell? (f9.add ((d6).toNat * 4)) = some (.int .i64 ((a7 b1 d6).f0)) ∧ w'.cell? ⟨(f9.add ((d6).toNat * 4)).block, (f9.add ((d6).toNat * 4)).off + 1, none⟩ = some (.int .i64 ((a7 b1 d6).f1.f0)) ∧ w'.cell? ⟨(f9.add ((d6).toNat * 4)).block, (f9.add ((d6).toNat * 4)).off + 2, none⟩ = some (.slice O2 ((a7 b1 d6).f1.f1).length O3) ∧ w'.cell? ⟨(f9.add ((d6).toNat * 4)).block, (f9.add ((d6).toNat * 4)).off + 3, none⟩ = some (.slice O4 ((a7 b1 d6).f1.f2).length O5)) (ds := []) Z1 (by kernel_rfl) rfl rfl ⟨(blk_cell f6.out 0).trans rfl, (xcl HB R2), (xcl HB R1), (xcl HB R0), (xcl HB Q9), (xcl HB S3), (xcl HB S1), (xcl HB S0), (xcl HB R9)⟩ (fun hHeld => ?_); refine with_tabW a6.tab9 a6.bits9 (fun HT_ HW_ => ?_)
      generalize w46.drew = w47 at f6 g5 j7 HB R3 R4 af8 af9 v6 v7 q3 q4 x6 z1 q5 q6 hHeld ⊢
      refine pu 0 31 Z2 HT_ rfl rfl (h := ?_)
      refine pu 2 33 Z3 HT_ rfl rfl (h := ?_)
      refine pu 7 38 Z4 HT_ rfl rfl (h := ?_)
      refine pu 9 40 Z5 HT_ rfl rfl (h := ?_)
      refine tk 1 32 Z6 HT_ HW_ rfl rfl hHeld (by rintro w' ⟨s0, s1, s2, s3, s4, s5, s6, s7, s8⟩; go_simp; with_reducible rfl) (h := ?_)
      refine pu 3 34 Z7 HT_ rfl rfl (h := ?_)
      refine pu 4 35 Z8 HT_ rfl rfl (h := ?_)
      refine tk 5 36 Z9 HT_ HW_ rfl rfl hHeld (by rintro w' ⟨s0, s1, s2, s3, s4, s5, s6, s7, s8⟩; go_simp; with_reducible rfl) (h := ?_)
      refine tk 8 39 Z10 HT_ HW_ rfl rfl hHeld (by rintro w' ⟨s0, s1, s2, s3, s4, s5, s6, s7, s8⟩; go_simp; with_reducible rfl) (h := ?_)
      refine pu 10 41 Z11 HT_ rfl rfl (h := ?_)
      refine pu 11 42 Z12 HT_ rfl rfl (h := ?_)
      refine tk 12 43 Z13 HT_ HW_ rfl rfl hHeld (by rintro w' ⟨s0, s1, s2, s3, s4, s5, s6, s7, s8⟩; go_simp; with_reducible rfl) (h := ?_)
      refine one_ (i := 6) (N := some 37) Z14 rfl rfl (one_of HT_.out (by kernel_rfl)) (by decide) (fun K hK => ?_)
      refine goes_ Try.func31 (by kernel_rfl) rfl #[.agg #[.int .i64 ((a7 b1 d6).f1.f0), .slice O2 ((a7 b1 d6).f1.f1).length O3, .slice O4 ((a7 b1 d6).f1.f2).length O5]] (by rfl) rfl rfl xmp ?_
      with_reducible refine (b3.calls k1 ((a7 b1 d6).f1.f0) _ _ ((a7 b1 d6).f1.f1) _ _ ((a7 b1 d6).f1.f2) ar3 _ ?side1 ?side2 ?side3 ?side4 A18.out).mono ?_
      (case side1 => exact xcb R3 HB)
      (case side2 => exact af6.out)
      (case side3 => exact xcb R4 HB)
      (case side4 => exact af7.out)
      rintro e w48 ⟨rfl, hb⟩
      refine ⟨_, rfl, ?_⟩
      replace f6 := xbb f6 hb
      replace g5 := xbb g5 hb
      replace j7 := xbb j7 hb
      replace HB := xhl HB hb
      skip
      (try clear hb)
      (try clear H3)
      (try clear hk)
      (try clear hi)
      refine hK.out _ _ ⟨(blk_cell f6.out 0).trans rfl, (xcl HB R2), (xcl HB R1), (xcl HB R0), (xcl HB Q9), (xcl HB S3), (xcl HB S1), (xcl HB S0), (xcl HB R9)⟩ (fun hHeld => ?_)
      clear hK K
      refine norm_ (a' := ?_) ?_ ?_
      rotate_left
      · show Act.put _ (some 37) _ = _
        simp only [Act.put, List.setIfInBounds_toArray, List.set_cons_zero, List.set_cons_succ, i64_w, i32_w]
        rfl
      refine pu 13 44 Z15 HT_ rfl rfl (h := ?_)
      refine done_ (done_of HT_.out (by kernel_rfl)) ?_
      try go_wp2
      replace f6 := aZ (bD f6.out)
      replace g5 := aZ (bD g5.out)
      replace j7 := aZ (bD j7.out)
      replace HB := aZ (lD HB.out)
      have a_2 : 0 ≤ (d6 : Int) := of_decide_eq_true xas
      have a_3 : d6 < (b1.length : Int) := of_decide_eq_true xas
      obtain ⟨by8, a_4, a_5, a_6, a_7, ch6, W7, W8, W9, X0, ar4, ar5, ar6, ar7⟩ := l8 m8.out d6 a_2 a_3
      have aP0 := X0
      have aP1 := W9
      have aP2 := W8
      have aP3 := W7
      obtain rfl : f9 = by8 := (by injection ch6)
      replace W7 := xcl HB W7
      replace W8 := xcl HB W8
      replace W9 := xcl HB W9
      replace X0 := xcl HB X0
      have aP4 := aZ ar5
      have bO4 := aZ ar4
      clear ar5 ar4
      have aP5 := aZ ar7
      have bO5 := aZ ar6
      clear ar7 ar6
      replace a_2 := eq_true a_2
      replace a_3 := eq_true a_3
      have a_8 : 0 ≤ ((F8) : Int) := of_decide_eq_true xas
      have a_9 : (F8) < (b1.length : Int) := of_decide_eq_true xas
      obtain ⟨by9, ba0, ba1, ba2, ba3, ch7, X1, X2, X3, X4, ar8, ar9, as0, as1⟩ := l8 m8.out (F8) a_8 a_9
      have aP6 := X4
      have aP7 := X3
      have aP8 := X2
      have aP9 := X1
      obtain rfl : f9 = by9 := (by injection ch7)
      replace X1 := xcl HB X1
      replace X2 := xcl HB X2
      replace X3 := xcl HB X3
      replace X4 := xcl HB X4
      have aQ0 := aZ ar9
      have bO6 := aZ ar8
      clear ar9 ar8
      have aQ1 := aZ as1
      have bO7 := aZ as0
      clear as1 as0
      replace a_8 := eq_true a_8
      replace a_9 := eq_true a_9
      refine start_ (n := 18) (S := fun w' => w'.cell? ⟨P4, 0, none⟩ = some (.slice (some f9) b1.length j9) ∧ w'.cell? (f9.add ((d6).toNat * 4)) = some (.int .i64 ((a7 b1 d6).f0)) ∧ w'.cell? ⟨(f9.add ((d6).toNat * 4)).block, (f9.add ((d6).toNat * 4)).off + 1, none⟩ = some (.int .i64 ((a7 b1 d6).f1.f0)) ∧ w'.cell? ⟨(f9.add ((d6).toNat * 4)).block, (f9.add ((d6).toNat * 4)).off + 2, none⟩ = some (.slice a_4 ((a7 b1 d6).f1.f1).length a_5) ∧ w'.cell? ⟨(f9.add ((d6).toNat * 4)).block, (f9.add ((d6).toNat * 4)).off + 3, none⟩ = some (.slice a_6 ((a7 b1 d6).f1.f2).length a_7) ∧ w'.cell? (f9.add (((F8)).toNat * 4)) = some (.int .i64 ((a7 b1 (F8)).f0)) ∧ w'.cell? ⟨(f9.add (((F8)).toNat * 4)).block, (f9.add (((F8)).toNat * 4)).off + 1, none⟩ = some (.int .i64 ((a7 b1 (F8)).f1.f0)) ∧ w'.cell? ⟨(f9.add (((F8)).toNat * 4)).block, (f9.add (((F8)).toNat * 4)).off + 2, none⟩ = some (.slice ba0 ((a7 b1 (F8)).f1.f1).length ba1) ∧ w'.cell? ⟨(f9.add (((F8)).toNat * 4)).block, (f9.add (((F8)).toNat * 4)).off + 3, none⟩ = some (.slice ba2 ((a7 b1 (F8)).f1.f2).length ba3)) (ds := []) Z16 (by kernel_rfl) rfl rfl ⟨(blk_cell f6.out 0).trans rfl, (xcl HB aP3), (xcl HB aP2), (xcl HB aP1), (xcl HB aP0), (xcl HB aP9), (xcl HB aP8), (xcl HB aP7), (xcl HB aP6)⟩ (fun hHeld => ?_); refine with_tabW a6.tab11 a6.bits11 (fun HT_ HW_ => ?_)
      generalize w48.drew = w49 at f6 g5 j7 HB aP4 aP5 aQ0 aQ1 W7 W8 W9 X0 X1 X2 X3 X4 hHeld ⊢
      refine pu 0 47 Z17 HT_ rfl rfl (h := ?_)
      refine pu 1 48 Z18 HT_ rfl rfl (h := ?_)
      refine pu 2 49 Z19 HT_ rfl rfl (h := ?_)
      refine pu 3 50 Z20 HT_ rfl rfl (h := ?_)
      refine pu 5 52 Z21 HT_ rfl rfl (h := ?_)
      refine pu 9 56 Z22 HT_ rfl rfl (h := ?_)
      refine pu 11 58 Z23 HT_ rfl rfl (h := ?_)
      refine pu 12 59 Z24 HT_ rfl rfl (h := ?_)
      refine tk 4 51 Z25 HT_ HW_ rfl rfl hHeld (by rintro w' ⟨s0, s1, s2, s3, s4, s5, s6, s7, s8⟩; go_simp; with_reducible rfl) (h := ?_)
      refine pu 6 53 Z26 HT_ rfl rfl (h := ?_)
      refine pu 7 54 Z27 HT_ rfl rfl (h := ?_)
      refine tk 8 55 Z28 HT_ HW_ rfl rfl hHeld (by rintro w' ⟨s0, s1, s2, s3, s4, s5, s6, s7, s8⟩; go_simp; with_reducible rfl) (h := ?_)
      refine tk 10 57 Z29 HT_ HW_ rfl rfl hHeld (by rintro w' ⟨s0, s1, s2, s3, s4, s5, s6, s7, s8⟩; go_simp; with_reducible rfl) (h := ?_)
      refine pu 13 60 Z30 HT_ rfl rfl (h := ?_)
      refine pu 14 61 Z31 HT_ rfl rfl (h := ?_)
      refine tk 15 62 Z32 HT_ HW_ rfl rfl hHeld (by rintro w' ⟨s0, s1, s2, s3, s4, s5, s6, s7, s8⟩; go_simp; with_reducible rfl) (h := ?_)
      refine pu 16 63 Z33 HT_ rfl rfl (h := ?_)
      refine pu 17 64 Z34 HT_ rfl rfl (h := ?_)
      refine done_ (done_of HT_.out (by kernel_rfl)) ?_
      try go_wp2
      go_roundg k1
      case measure => have := S8.out; omega
      case rel => exact ⟨(wrap64 (d6 + 1)), (q9), (m9), xrs, H', ⟨by have := S8.out; omega⟩, xk f6, xk g5, xb HB⟩
    rw [if_pos c24] at H
    have bs1 : decide (((a7 b1 d6).f0) ≤ ((a7 b1 (F8)).f0)) = true := decide_eq_true c24
    clear c24
    replace H := Option.bind_eq_some_iff.mp H
    obtain ⟨⟨bO8, ch8⟩, bw7, H⟩ := H
    replace H : (some (bO8, ch8)) = some (r1, r2) := H
    have A25 := aZ bw7
    clear bw7
    simp only [Option.some.injEq, Prod.mk.injEq] at H
    obtain ⟨rfl, rfl⟩ := H
    have bx7 := M6.out
    have bx8 := M7.out
    have aE4 : wr.cell? ⟨P4, 0, none⟩ = some (.slice k9 b1.length j9) := (blk_cell f6.out 0).trans rfl
    have aE5 := blk_frozen f6.out 0
    have af0 : 0 ≤ (d6 : Int) := of_decide_eq_true xas
    have af1 : d6 < (b1.length : Int) := of_decide_eq_true xas
    obtain ⟨f9, af2, af3, af4, af5, aO7, I4, I5, I6, I7, I8, I9, J0, J1⟩ := l8 m8.out d6 af0 af1
    cases aO7
    replace I4 := xcl HB I4
    replace I5 := xcl HB I5
    replace I6 := xcl HB I6
    replace I7 := xcl HB I7
    have W3 := aZ I9
    have W4 := aZ I8
    clear I9 I8
    have W5 := aZ J1
    have W6 := aZ J0
    clear J1 J0
    replace af0 := eq_true af0
    replace af1 := eq_true af1
    try go_wp2_with (first | ((with_reducible refine gate_callee (f := 30) rfl ?_); refine goesL_ (some 23) rfl rfl Try.func30 (by kernel_rfl) rfl #[.agg #[.int .i64 ((a7 b1 d6).f1.f0), .slice af2 ((a7 b1 d6).f1.f1).length af3, .slice af4 ((a7 b1 d6).f1.f2).length af5]] rfl xmp ?_; (with_reducible refine (a8.calls k1 ((a7 b1 d6).f1.f0) _ _ ((a7 b1 d6).f1.f1) _ _ ((a7 b1 d6).f1.f2) D7 P6 _ ?side1 ?side2 ?side3 ?side4 A16.out).mono ?_); (case side1 => exact xcb W3 HB); (case side2 => exact W4.out); (case side3 => exact xcb W5 HB); (case side4 => exact W6.out); rintro e w28 ⟨rfl, hb⟩; refine ⟨_, rfl, ?_⟩; replace f6 := xbb f6 hb; replace g5 := xbb g5 hb; replace HB := xhl HB hb; skip; (try clear hb); (try clear H3); (try clear hk); (try clear hi)) | ((with_reducible refine gate_dst (N := 4) rfl ?_); refine box_event ?hg (N := 4) ?hd (cs := #[.int .i64 0, .int .i64 0]) (t := 28) ?hr ?_; (case hd => rfl); (case hg => rfl); (case hr => first | (go_simp; done) | (go_simp; rfl)); intro k7 hg w29 hbox hb; have j7 := aZ (hbox); have bo2 := xgh hg HB; have bo3 := xgh hg HB; replace HB := xhl HB hb; have M8 := xnl hg f6; have M9 := xng hg f6; replace f6 := xbb f6 hb; have N0 := xnl hg g5; have N1 := xng hg g5; replace g5 := xbb g5 hb; clear hb hbox hg; have bv0 := M9.out; have bv1 := M8.out; have bQ8 := N1.out; have bQ9 := N0.out; have aC9 : w29.cell? ⟨k7, 0, none⟩ = some (.int .i64 0) := (blk_cell j7.out 0).trans rfl; have aL6 : w29.cell? ⟨k7, 1, none⟩ = some (.int .i64 0) := (blk_cell j7.out 1).trans rfl; have aD0 := blk_frozen j7.out 0; have aL7 := blk_frozen j7.out 1))
    replace f6 : Aside0 (((w29.setCell ⟨k7, 0, none⟩ (.int .i64 D7)).setCell ⟨k7, 1, none⟩ (.int .i64 P6)).heap[P4]? = some (.cells #[.slice (some f9) b1.length j9] 24 (0, 0))) := xk f6
    replace g5 : Aside0 (((w29.setCell ⟨k7, 0, none⟩ (.int .i64 D7)).setCell ⟨k7, 1, none⟩ (.int .i64 P6)).heap[N8]? = some (.cells #[.int .i64 q9, .int .i64 m9] 28 (0, 0))) := xk g5
    replace j7 : Aside0 (((w29.setCell ⟨k7, 0, none⟩ (.int .i64 D7)).setCell ⟨k7, 1, none⟩ (.int .i64 P6)).heap[k7]? = some (.cells #[.int .i64 D7, .int .i64 P6] 28 (0, 0))) := ⟨by (with_reducible repeat (first | refine bN ?_ _ | refine bD ?_ | refine bA ?_ _)); refine blk_put (cs := #[.int .i64 D7, .int .i64 0]) ?_ 1 _ rfl; (with_reducible repeat (first | refine bN ?_ _ | refine bD ?_ | refine bA ?_ _)); refine blk_put (cs := #[.int .i64 0, .int .i64 0]) ?_ 0 _ rfl; (with_reducible repeat (first | refine bN ?_ _ | refine bD ?_ | refine bA ?_ _)); exact j7.out⟩
    replace HB : Aside0 (Below w.heap.size w ((w29.setCell ⟨k7, 0, none⟩ (.int .i64 D7)).setCell ⟨k7, 1, none⟩ (.int .i64 P6))) := xb HB
    generalize ((w29.setCell ⟨k7, 0, none⟩ (.int .i64 D7)).setCell ⟨k7, 1, none⟩ (.int .i64 P6)) = w33 at f6 g5 j7 HB ⊢
    replace f6 := aZ (bD f6.out)
    replace g5 := aZ (bD g5.out)
    replace j7 := aZ (bD j7.out)
    replace HB := aZ (lD HB.out)
    have an2 : 0 ≤ (d6 : Int) := of_decide_eq_true xas
    have an3 : d6 < (b1.length : Int) := of_decide_eq_true xas
    obtain ⟨aG8, O2, O3, O4, O5, aZ6, v6, v7, q3, q4, Q5, Q6, Q7, Q8⟩ := l8 m8.out d6 an2 an3
    have Q9 := q4
    have R0 := q3
    have R1 := v7
    have R2 := v6
    obtain rfl : f9 = aG8 := (by injection aZ6)
    replace v6 := xcl HB v6
    replace v7 := xcl HB v7
    replace q3 := xcl HB q3
    replace q4 := xcl HB q4
    have R3 := aZ Q6
    have af6 := aZ Q5
    clear Q6 Q5
    have R4 := aZ Q8
    have af7 := aZ Q7
    clear Q8 Q7
    replace an2 := eq_true an2
    replace an3 := eq_true an3
    have an4 : 0 ≤ (d6 : Int) := of_decide_eq_true xas
    have an5 : d6 < (b1.length : Int) := of_decide_eq_true xas
    obtain ⟨aG9, aZ7, aZ8, aZ9, a_0, a_1, x6, z1, q5, q6, R5, R6, R7, R8⟩ := l8 m8.out d6 an4 an5
    have R9 := q6
    have S0 := q5
    have S1 := z1
    have S3 := x6
    obtain rfl : f9 = aG9 := (by injection a_1)
    replace x6 := xcl HB x6
    replace z1 := xcl HB z1
    replace q5 := xcl HB q5
    replace q6 := xcl HB q6
    have af8 := aZ R6
    have aO8 := aZ R5
    clear R6 R5
    have af9 := aZ R8
    have aO9 := aZ R7
    clear R8 R7
    replace an4 := eq_true an4
    replace an5 := eq_true an5
    have ea_ := Option.some.inj (q3.symm.trans q5)
    injection ea_ with ea_ en_ ec_
    subst ea_
    subst ec_
    clear en_
    have ea_ := Option.some.inj (q4.symm.trans q6)
    injection ea_ with ea_ en_ ec_
    subst ea_
    subst ec_
    clear en_
    refine start_ (n := 14) (S := fun w' => w'.cell? ⟨P4, 0, none⟩ = some (.slice (some f9) b1.length j9) ∧ w'.cell? (f9.add ((d6).toNat * 4)) = some (.int .i64 ((a7 b1 d6).f0)) ∧ w'.cell? ⟨(f9.add ((d6).toNat * 4)).block, (f9.add ((d6).toNat * 4)).off + 1, none⟩ = some (.int .i64 ((a7 b1 d6).f1.f0)) ∧ w'.cell? ⟨(f9.add ((d6).toNat * 4)).block, (f9.add ((d6).toNat * 4)).off + 2, none⟩ = some (.slice O2 ((a7 b1 d6).f1.f1).length O3) ∧ w'.cell? ⟨(f9.add ((d6).toNat * 4)).block, (f9.add ((d6).toNat * 4)).off + 3, none⟩ = some (.slice O4 ((a7 b1 d6).f1.f2).length O5) ∧ w'.cell? (f9.add ((d6).toNat * 4)) = some (.int .i64 ((a7 b1 d6).f0)) ∧ w'.cell? ⟨(f9.add ((d6).toNat * 4)).block, (f9.add ((d6).toNat * 4)).off + 1, none⟩ = some (.int .i64 ((a7 b1 d6).f1.f0)) ∧ w'.cell? ⟨(f9.add ((d6).toNat * 4)).block, (f9.add ((d6).toNat * 4)).off + 2, none⟩ = some (.slice O2 ((a7 b1 d6).f1.f1).length O3) ∧ w'.cell? ⟨(f9.add ((d6).toNat * 4)).block, (f9.add ((d6).toNat * 4)).off + 3, none⟩ = some (.slice O4 ((a7 b1 d6).f1.f2).length O5)) (ds := []) Z1 (by kernel_rfl) rfl rfl ⟨(blk_cell f6.out 0).trans rfl, (xcl HB R2), (xcl HB R1), (xcl HB R0), (xcl HB Q9), (xcl HB S3), (xcl HB S1), (xcl HB S0), (xcl HB R9)⟩ (fun hHeld => ?_); refine with_tabW a6.tab9 a6.bits9 (fun HT_ HW_ => ?_)
    generalize w33.drew = w34 at f6 g5 j7 HB R3 R4 af8 af9 v6 v7 q3 q4 x6 z1 q5 q6 hHeld ⊢
    refine pu 0 31 Z2 HT_ rfl rfl (h := ?_)
    refine pu 2 33 Z3 HT_ rfl rfl (h := ?_)
    refine pu 7 38 Z4 HT_ rfl rfl (h := ?_)
    refine pu 9 40 Z5 HT_ rfl rfl (h := ?_)
    refine tk 1 32 Z6 HT_ HW_ rfl rfl hHeld (by rintro w' ⟨s0, s1, s2, s3, s4, s5, s6, s7, s8⟩; go_simp; with_reducible rfl) (h := ?_)
    refine pu 3 34 Z7 HT_ rfl rfl (h := ?_)
    refine pu 4 35 Z8 HT_ rfl rfl (h := ?_)
    refine tk 5 36 Z9 HT_ HW_ rfl rfl hHeld (by rintro w' ⟨s0, s1, s2, s3, s4, s5, s6, s7, s8⟩; go_simp; with_reducible rfl) (h := ?_)
    refine tk 8 39 Z10 HT_ HW_ rfl rfl hHeld (by rintro w' ⟨s0, s1, s2, s3, s4, s5, s6, s7, s8⟩; go_simp; with_reducible rfl) (h := ?_)
    refine pu 10 41 Z11 HT_ rfl rfl (h := ?_)
    refine pu 11 42 Z12 HT_ rfl rfl (h := ?_)
    refine tk 12 43 Z13 HT_ HW_ rfl rfl hHeld (by rintro w' ⟨s0, s1, s2, s3, s4, s5, s6, s7, s8⟩; go_simp; with_reducible rfl) (h := ?_)
    refine one_ (i := 6) (N := some 37) Z14 rfl rfl (one_of HT_.out (by kernel_rfl)) (by decide) (fun K hK => ?_)
    refine goes_ Try.func31 (by kernel_rfl) rfl #[.agg #[.int .i64 ((a7 b1 d6).f1.f0), .slice O2 ((a7 b1 d6).f1.f1).length O3, .slice O4 ((a7 b1 d6).f1.f2).length O5]] (by rfl) rfl rfl xmp ?_
    with_reducible refine (b3.calls k1 ((a7 b1 d6).f1.f0) _ _ ((a7 b1 d6).f1.f1) _ _ ((a7 b1 d6).f1.f2) ar3 _ ?side1 ?side2 ?side3 ?side4 A18.out).mono ?_
    (case side1 => exact xcb R3 HB)
    (case side2 => exact af6.out)
    (case side3 => exact xcb R4 HB)
    (case side4 => exact af7.out)
    rintro e w35 ⟨rfl, hb⟩
    refine ⟨_, rfl, ?_⟩
    replace f6 := xbb f6 hb
    replace g5 := xbb g5 hb
    replace j7 := xbb j7 hb
    replace HB := xhl HB hb
    skip
    (try clear hb)
    (try clear H3)
    (try clear hk)
    (try clear hi)
    refine hK.out _ _ ⟨(blk_cell f6.out 0).trans rfl, (xcl HB R2), (xcl HB R1), (xcl HB R0), (xcl HB Q9), (xcl HB S3), (xcl HB S1), (xcl HB S0), (xcl HB R9)⟩ (fun hHeld => ?_)
    clear hK K
    refine norm_ (a' := ?_) ?_ ?_
    rotate_left
    · show Act.put _ (some 37) _ = _
      simp only [Act.put, List.setIfInBounds_toArray, List.set_cons_zero, List.set_cons_succ, i64_w, i32_w]
      rfl
    refine pu 13 44 Z15 HT_ rfl rfl (h := ?_)
    refine done_ (done_of HT_.out (by kernel_rfl)) ?_
    try go_wp2
    replace f6 := aZ (bD f6.out)
    replace g5 := aZ (bD g5.out)
    replace j7 := aZ (bD j7.out)
    replace HB := aZ (lD HB.out)
    have a_2 : 0 ≤ (d6 : Int) := of_decide_eq_true xas
    have a_3 : d6 < (b1.length : Int) := of_decide_eq_true xas
    obtain ⟨by8, a_4, a_5, a_6, a_7, ch6, W7, W8, W9, X0, ar4, ar5, ar6, ar7⟩ := l8 m8.out d6 a_2 a_3
    have aP0 := X0
    have aP1 := W9
    have aP2 := W8
    have aP3 := W7
    obtain rfl : f9 = by8 := (by injection ch6)
    replace W7 := xcl HB W7
    replace W8 := xcl HB W8
    replace W9 := xcl HB W9
    replace X0 := xcl HB X0
    have aP4 := aZ ar5
    have bO4 := aZ ar4
    clear ar5 ar4
    have aP5 := aZ ar7
    have bO5 := aZ ar6
    clear ar7 ar6
    replace a_2 := eq_true a_2
    replace a_3 := eq_true a_3
    have a_8 : 0 ≤ ((F8) : Int) := of_decide_eq_true xas
    have a_9 : (F8) < (b1.length : Int) := of_decide_eq_true xas
    obtain ⟨by9, ba0, ba1, ba2, ba3, ch7, X1, X2, X3, X4, ar8, ar9, as0, as1⟩ := l8 m8.out (F8) a_8 a_9
    have aP6 := X4
    have aP7 := X3
    have aP8 := X2
    have aP9 := X1
    obtain rfl : f9 = by9 := (by injection ch7)
    replace X1 := xcl HB X1
    replace X2 := xcl HB X2
    replace X3 := xcl HB X3
    replace X4 := xcl HB X4
    have aQ0 := aZ ar9
    have bO6 := aZ ar8
    clear ar9 ar8
    have aQ1 := aZ as1
    have bO7 := aZ as0
    clear as1 as0
    replace a_8 := eq_true a_8
    replace a_9 := eq_true a_9
    refine start_ (n := 18) (S := fun w' => w'.cell? ⟨P4, 0, none⟩ = some (.slice (some f9) b1.length j9) ∧ w'.cell? (f9.add ((d6).toNat * 4)) = some (.int .i64 ((a7 b1 d6).f0)) ∧ w'.cell? ⟨(f9.add ((d6).toNat * 4)).block, (f9.add ((d6).toNat * 4)).off + 1, none⟩ = some (.int .i64 ((a7 b1 d6).f1.f0)) ∧ w'.cell? ⟨(f9.add ((d6).toNat * 4)).block, (f9.add ((d6).toNat * 4)).off + 2, none⟩ = some (.slice a_4 ((a7 b1 d6).f1.f1).length a_5) ∧ w'.cell? ⟨(f9.add ((d6).toNat * 4)).block, (f9.add ((d6).toNat * 4)).off + 3, none⟩ = some (.slice a_6 ((a7 b1 d6).f1.f2).length a_7) ∧ w'.cell? (f9.add (((F8)).toNat * 4)) = some (.int .i64 ((a7 b1 (F8)).f0)) ∧ w'.cell? ⟨(f9.add (((F8)).toNat * 4)).block, (f9.add (((F8)).toNat * 4)).off + 1, none⟩ = some (.int .i64 ((a7 b1 (F8)).f1.f0)) ∧ w'.cell? ⟨(f9.add (((F8)).toNat * 4)).block, (f9.add (((F8)).toNat * 4)).off + 2, none⟩ = some (.slice ba0 ((a7 b1 (F8)).f1.f1).length ba1) ∧ w'.cell? ⟨(f9.add (((F8)).toNat * 4)).block, (f9.add (((F8)).toNat * 4)).off + 3, none⟩ = some (.slice ba2 ((a7 b1 (F8)).f1.f2).length ba3)) (ds := []) Z16 (by kernel_rfl) rfl rfl ⟨(blk_cell f6.out 0).trans rfl, (xcl HB aP3), (xcl HB aP2), (xcl HB aP1), (xcl HB aP0), (xcl HB aP9), (xcl HB aP8), (xcl HB aP7), (xcl HB aP6)⟩ (fun hHeld => ?_); refine with_tabW a6.tab11 a6.bits11 (fun HT_ HW_ => ?_)
    generalize w35.drew = w36 at f6 g5 j7 HB aP4 aP5 aQ0 aQ1 W7 W8 W9 X0 X1 X2 X3 X4 hHeld ⊢
    refine pu 0 47 Z17 HT_ rfl rfl (h := ?_)
    refine pu 1 48 Z18 HT_ rfl rfl (h := ?_)
    refine pu 2 49 Z19 HT_ rfl rfl (h := ?_)
    refine pu 3 50 Z20 HT_ rfl rfl (h := ?_)
    refine pu 5 52 Z21 HT_ rfl rfl (h := ?_)
    refine pu 9 56 Z22 HT_ rfl rfl (h := ?_)
    refine pu 11 58 Z23 HT_ rfl rfl (h := ?_)
    refine pu 12 59 Z24 HT_ rfl rfl (h := ?_)
    refine tk 4 51 Z25 HT_ HW_ rfl rfl hHeld (by rintro w' ⟨s0, s1, s2, s3, s4, s5, s6, s7, s8⟩; go_simp; with_reducible rfl) (h := ?_)
    refine pu 6 53 Z26 HT_ rfl rfl (h := ?_)
    refine pu 7 54 Z27 HT_ rfl rfl (h := ?_)
    refine tk 8 55 Z28 HT_ HW_ rfl rfl hHeld (by rintro w' ⟨s0, s1, s2, s3, s4, s5, s6, s7, s8⟩; go_simp; with_reducible rfl) (h := ?_)
    refine tk 10 57 Z29 HT_ HW_ rfl rfl hHeld (by rintro w' ⟨s0, s1, s2, s3, s4, s5, s6, s7, s8⟩; go_simp; with_reducible rfl) (h := ?_)
    refine pu 13 60 Z30 HT_ rfl rfl (h := ?_)
    refine pu 14 61 Z31 HT_ rfl rfl (h := ?_)
    refine tk 15 62 Z32 HT_ HW_ rfl rfl hHeld (by rintro w' ⟨s0, s1, s2, s3, s4, s5, s6, s7, s8⟩; go_simp; with_reducible rfl) (h := ?_)
    refine pu 16 63 Z33 HT_ rfl rfl (h := ?_)
    refine pu 17 64 Z34 HT_ rfl rfl (h := ?_)
    refine done_ (done_of HT_.out (by kernel_rfl)) ?_
    try go_wp2_with (first | ((with_reducible refine gate_callee (f := 18) rfl ?_); refine goesL_ (some 66) rfl rfl Try.func18 (by kernel_rfl) rfl #[.int .i64 5, .int .i64 d6] rfl xmp ?_; (with_reducible refine (b4.calls 5 d6 bO8 ch8 _ A25.out).mono ?_); rintro e w37 ⟨rfl, hb⟩; refine ⟨_, rfl, ?_⟩; replace f6 := xbb f6 hb; replace g5 := xbb g5 hb; replace j7 := xbb j7 hb; replace HB := xhl HB hb; skip; (try clear hb); (try clear H3); (try clear hk); (try clear hi); have aD1 : w37.cell? ⟨N8, 0, none⟩ = some (.int .i64 q9) := (blk_cell g5.out 0).trans rfl; have aD2 : w37.cell? ⟨N8, 1, none⟩ = some (.int .i64 m9) := (blk_cell g5.out 1).trans rfl; have aD3 := blk_frozen g5.out 0; have aD4 := blk_frozen g5.out 1))
    refine bodyPost_ret (results_cell_row rfl _ _ N8 28 #[.int .i64 bO8, .int .i64 ch8] (0, 0) _ rfl (by (with_reducible repeat (first | refine bN ?_ _ | refine bD ?_ | refine bA ?_ _)); refine blk_put (cs := #[.int .i64 bO8, .int .i64 m9]) ?_ 1 _ rfl; (with_reducible repeat (first | refine bN ?_ _ | refine bD ?_ | refine bA ?_ _)); refine blk_put (cs := #[.int .i64 q9, .int .i64 m9]) ?_ 0 _ rfl; (with_reducible repeat (first | refine bN ?_ _ | refine bD ?_ | refine bA ?_ _)); exact g5.out) Try.underlying28 rfl (by kernel_rfl)) rfl ?_
    exact ⟨by first | rfl | (simp [errW_none, errW_some] <;> rfl) | (simp only [← aK4]; first | rfl | (simp [errW_none, errW_some] <;> rfl)) | (simp [*, errW_none, errW_some] <;> rfl), xq HB⟩
def d7.l0 : Nat → List Int → List Int → Int → Option (Bool)
  | 0, _, _, _ => none
  | k + 1, x0, x1, x5 => if x5 < (x0.length : Int) then (if 0 ≤ x5 then (if x5 < (x1.length : Int) then (if (rd x0 x5) = (rd x1 x5) then (d7.l0 k x0 x1 (wrap64 (x5 + 1))) else (some false)) else (none)) else (none)) else (some true)
def d7.f (k : Nat) (l0 : List Int) (l1 : List Int) : Option (Bool) := if (l0.length : Int) = (l1.length : Int) then (d7.l0 k l0 l1 0) else (some false)
theorem d7.mono_l : ∀ k, (∀ y0 y1 y2, LeO (d7.l0 k y0 y1 y2) (d7.l0 (k + 1) y0 y1 y2))
  | 0 => fun _ _ _ r h => by simp [d7.l0] at h
  | k + 1 => by
    have t6 := d7.mono_l k
    · intro y0 y1 y2
      unfold d7.l0
      repeat' first | (with_reducible first | exact t6 _ _ _ | exact LeO.refl _ | exact LeO.none _ | refine LeO.ite ?_ ?_ | refine LeO.bind ?_ (fun _ => ?_)) | exact t6 _ _ _ | exact LeO.none _ | refine LeO.ite ?_ ?_ | refine LeO.bind ?_ (fun _ => ?_)
theorem d7.mono : ∀ a0 a1 k, LeO (d7.f k a0 a1) (d7.f (k + 1) a0 a1) := by
  intro a0 a1 k
  have t6 := d7.mono_l k
  unfold d7.f
  repeat' first | (with_reducible first | exact t6 _ _ _ | exact LeO.refl _ | exact LeO.none _ | refine LeO.ite ?_ ?_ | refine LeO.bind ?_ (fun _ => ?_)) | exact t6 _ _ _ | exact LeO.none _ | refine LeO.ite ?_ ?_ | refine LeO.bind ?_ (fun _ => ?_)
set_option maxHeartbeats 8000000 in
set_option maxRecDepth 100000 in
theorem d7.calls (k : Nat) (A0 : Option Addr) (c0 : Nat) (l0 : List Int) (A1 : Option Addr) (c1 : Nat) (l1 : List Int) (r : Bool) (w : World) (hr0 : Kd.C (Kd.int .i64) w A0 l0.length l0) (hc0 : l0.length ≤ c0) (hr1 : Kd.C (Kd.int .i64) w A1 l1.length l1) (hc1 : l1.length ≤ c1) (h : d7.f k l0 l1 = some r) :
  Calls Try.prog 45 #[.slice A0 l0.length c0, .slice A1 l1.length c1] w fun e w' => e = .returned (.bool r) ∧ Drawn0 w w' := by
  have HR0 := aZ hr0
  have HC0 := aZ hc0
  clear hr0 hc0
  have HR1 := aZ hr1
  have HC1 := aZ hc1
  clear hr1 hc1
  have H : (if (l0.length : Int) = (l1.length : Int) then (d7.l0 k l0 l1 0) else (some false)) = some r := h
  clear h
  by_cases c3 : (l0.length : Int) = (l1.length : Int)
  rotate_left
  · rw [if_neg c3] at H
    have ae4 : ((l0.length : Int) == (l1.length : Int)) = false := beq_eq_false_iff_ne.mpr c3
    have aA8 : ((l0.length : Int) != (l1.length : Int)) = true := bne_iff_ne.mpr c3
    have aV3 : (l0.length == l1.length) = false := by first | simpa using c3 | (simp at c3 ⊢; omega)
    obtain rfl := Option.some.inj H
    go_enter Try.func45, Try.ntmps45
    go_wp2
    repeat (go_quiet (fail); try go_wp2)
    go_ret
    exact ⟨by first | rfl | (simp; done) | (simp [*]; done), by repeat (first | exact Drawn0.refl _ | apply Drawn0.step)⟩

  rw [if_pos c3] at H
  have ae4 : ((l0.length : Int) == (l1.length : Int)) = true := beq_iff_eq.mpr c3
  have aA8 : ((l0.length : Int) != (l1.length : Int)) = false := bne_eq_false_iff_eq.mpr c3
  have aV3 : (l0.length == l1.length) = true := by first | simpa using c3 | (simp at c3 ⊢; omega)
  clear c3
  have H' := aZ H
  clear H
  go_enter Try.func45, Try.ntmps45
  go_wp2
  repeat (go_quiet (fail); try go_wp2)
  go_loopg [5] k (fun kq v5 w' => ∃ (d9 : Int), v5 = .int .i64 d9 ∧ Aside0 (d7.l0 kq l0 l1 d9 = some r) ∧ Aside0 (kq ≤ k) ∧ Drawn0 w w')
  case atStart => exact ⟨(0), xrs, H', ⟨Nat.le_refl _⟩, by repeat (first | exact Drawn0.refl _ | apply Drawn0.step)⟩
  case round =>
   clear H'
   (try clear c1); (try clear c3); (try clear ae4); (try clear aA8); (try clear aV3)
   obtain ⟨d9, rfl, HA, S8, ⟨m1, rfl⟩⟩ := hrel
   cases gk with
   | zero => exact absurd HA.out (by simp [d7.l0])
   | succ k1 =>
    have H := HA.out
    clear HA
    simp only [d7.l0] at H
    by_cases c4 : d9 < (l0.length : Int)
    rotate_left
    · rw [if_neg c4] at H
      have Y8 : decide (d9 < (l0.length : Int)) = false := decide_eq_false c4
      clear c4
      obtain rfl := Option.some.inj H
      go_wp2
      repeat (go_quiet (fail); try go_wp2)
      go_ret
      exact ⟨by first | rfl | (simp; done) | (simp [*]; done), by repeat (first | exact Drawn0.refl _ | apply Drawn0.step)⟩
    rw [if_pos c4] at H
    have Y8 : decide (d9 < (l0.length : Int)) = true := decide_eq_true c4
    clear c4
    by_cases c5 : 0 ≤ d9
    rotate_left
    · rw [if_neg c5] at H
      exact absurd H (by simp)
    rw [if_pos c5] at H
    have aK8 : decide (0 ≤ d9) = true := decide_eq_true c5
    clear c5
    by_cases c6 : d9 < (l1.length : Int)
    rotate_left
    · rw [if_neg c6] at H
      exact absurd H (by simp)
    rw [if_pos c6] at H
    have Y9 : decide (d9 < (l1.length : Int)) = true := decide_eq_true c6
    clear c6
    by_cases c7 : (rd l0 d9) = (rd l1 d9)
    rotate_left
    · rw [if_neg c7] at H
      have aS2 : ((rd l0 d9) == (rd l1 d9)) = false := beq_eq_false_iff_ne.mpr c7
      have bM8 : ((rd l0 d9) != (rd l1 d9)) = true := bne_iff_ne.mpr c7
      obtain rfl := Option.some.inj H
      have ba4 : 0 ≤ (d9 : Int) := of_decide_eq_true xas
      have ba5 : d9 < (l0.length : Int) := of_decide_eq_true xas
      obtain ⟨cI5, ci1, bP1⟩ := Kd.at_int HR0.out d9 ba4 ba5
      cases ci1
      replace ba4 := eq_true ba4
      replace ba5 := eq_true ba5
      have ba6 : 0 ≤ (d9 : Int) := of_decide_eq_true xas
      have ba7 : d9 < (l1.length : Int) := of_decide_eq_true xas
      obtain ⟨cI6, ci2, bP2⟩ := Kd.at_int HR1.out d9 ba6 ba7
      cases ci2
      replace ba6 := eq_true ba6
      replace ba7 := eq_true ba7
      go_wp2
      repeat (go_quiet (fail); try go_wp2)
      go_ret
      exact ⟨by first | rfl | (simp; done) | (simp [*]; done), by repeat (first | exact Drawn0.refl _ | apply Drawn0.step)⟩
    rw [if_pos c7] at H
    have aS2 : ((rd l0 d9) == (rd l1 d9)) = true := beq_iff_eq.mpr c7
    have bM8 : ((rd l0 d9) != (rd l1 d9)) = false := bne_eq_false_iff_eq.mpr c7
    clear c7
    have H' := aZ H
    clear H
    have ba4 : 0 ≤ (d9 : Int) := of_decide_eq_true xas
    have ba5 : d9 < (l0.length : Int) := of_decide_eq_true xas
    obtain ⟨cI5, ci1, bP1⟩ := Kd.at_int HR0.out d9 ba4 ba5
    cases ci1
    replace ba4 := eq_true ba4
    replace ba5 := eq_true ba5
    have ba6 : 0 ≤ (d9 : Int) := of_decide_eq_true xas
    have ba7 : d9 < (l1.length : Int) := of_decide_eq_true xas
    obtain ⟨cI6, ci2, bP2⟩ := Kd.at_int HR1.out d9 ba6 ba7
    cases ci2
    replace ba6 := eq_true ba6
    replace ba7 := eq_true ba7
    go_wp2
    repeat (go_quiet (fail); try go_wp2)
    go_roundg k1
    case measure => have := S8.out; omega
    case rel => exact ⟨(wrap64 (d9 + 1)), xrs, H', ⟨by have := S8.out; omega⟩, by repeat (first | exact Drawn0.refl _ | apply Drawn0.step)⟩
def f7.f (k : Nat) (d8 : Int) (b9 : List Int) (e0 : List Int) (l7 : Int) (l4 : List Int) (k8 : List Int) : Option (Bool) := if d8 = l7 then ((d7.f k b9 l4).bind fun bq8 => (if bq8 = true then (some ((strOfNums e0).toList == (strOfNums k8).toList)) else (some false))) else (some false)
theorem f7.mono : ∀ a0 a1 a2 a3 a4 a5 k, LeO (f7.f k a0 a1 a2 a3 a4 a5) (f7.f (k + 1) a0 a1 a2 a3 a4 a5) := by
  intro a0 a1 a2 a3 a4 a5 k
  unfold f7.f
  repeat' first | (with_reducible first | exact d7.mono _ _ _ | exact LeO.refl _ | exact LeO.none _ | refine LeO.ite ?_ ?_ | refine LeO.bind ?_ (fun _ => ?_)) | exact d7.mono _ _ _ | exact LeO.none _ | refine LeO.ite ?_ ?_ | refine LeO.bind ?_ (fun _ => ?_)
set_option maxHeartbeats 8000000 in
set_option maxRecDepth 100000 in
theorem f7.calls (k : Nat) (d8 : Int) (i9 : Option Addr) (i5 : Nat) (b9 : List Int) (i1 : Option Addr) (i3 : Nat) (e0 : List Int) (l7 : Int) (K1 : Option Addr) (K2 : Nat) (l4 : List Int) (G9 : Option Addr) (H0 : Nat) (k8 : List Int) (r : Bool) (w : World) (F9 : Kd.C (Kd.int .i64) w i9 b9.length b9) (G0 : b9.length ≤ i5) (D9 : Kd.C (Kd.int .u8) w i1 e0.length e0) (E0 : e0.length ≤ i3) (aA1 : Kd.C (Kd.int .i64) w K1 l4.length l4) (aA2 : l4.length ≤ K2) (aA3 : Kd.C (Kd.int .u8) w G9 k8.length k8) (aA4 : k8.length ≤ H0) (h : f7.f k d8 b9 e0 l7 l4 k8 = some r) :
  Calls Try.prog 24 #[.agg #[.int .i64 d8, .slice i9 b9.length i5, .slice i1 e0.length i3], .agg #[.int .i64 l7, .slice K1 l4.length K2, .slice G9 k8.length H0]] w fun e w' => e = .returned (.bool r) ∧ Below w.heap.size w w' := by
  have aw1 := Try.underlying44
  have C4 := aZ F9
  have J6 := aZ G0
  clear F9 G0
  have G3 := aZ D9
  have N5 := aZ E0
  clear D9 E0
  have am4 := aZ aA1
  have am5 := aZ aA2
  clear aA1 aA2
  have aq5 := aZ aA3
  have aG6 := aZ aA4
  clear aA3 aA4
  have HB := aZ (Below.refl w.heap.size w)
  have H : (if d8 = l7 then ((d7.f k b9 l4).bind fun bq8 => (if bq8 = true then (some ((strOfNums e0).toList == (strOfNums k8).toList)) else (some false))) else (some false)) = some r := h
  clear h
  by_cases c3 : d8 = l7
  rotate_left
  · rw [if_neg c3] at H
    have ae4 : (d8 == l7) = false := beq_eq_false_iff_ne.mpr c3
    have aA8 : (d8 != l7) = true := bne_iff_ne.mpr c3
    obtain rfl := Option.some.inj H
    go_enter Try.func24, Try.ntmps24
    go_wp2_with (first | ((with_reducible refine gate_dst (N := 2) rfl ?_); refine box_event ?hg (N := 2) ?hd (cs := #[.int .i64 d8, .slice i9 b9.length i5, .slice i1 e0.length i3]) (t := 44) ?hr ?_; (case hd => rfl); (case hg => rfl); (case hr => first | (go_simp; done) | (go_simp; rfl)); intro ak2 hg w18 hbox hb; have z6 := aZ (hbox); have bZ5 := xgh hg HB; have bZ6 := xgh hg HB; replace HB := xhl HB hb; clear hb hbox hg) | ((with_reducible refine gate_dst (N := 3) rfl ?_); refine box_event ?hg (N := 3) ?hd (cs := #[.int .i64 l7, .slice K1 l4.length K2, .slice G9 k8.length H0]) (t := 44) ?hr ?_; (case hd => rfl); (case hg => rfl); (case hr => first | (go_simp; done) | (go_simp; rfl)); intro ak3 hg w19 hbox hb; have P5 := aZ (hbox); have bZ7 := xgh hg HB; have bZ8 := xgh hg HB; replace HB := xhl HB hb; have ae0 := xnl hg z6; have ae1 := xng hg z6; replace z6 := xbb z6 hb; clear hb hbox hg; have cH0 := ae0.out; have cH1 := ae1.out; have aC5 : w19.cell? ⟨ak2, 0, none⟩ = some (.int .i64 d8) := (blk_cell z6.out 0).trans rfl; have aC6 : w19.cell? ⟨ak2, 1, none⟩ = some (.slice i9 b9.length i5) := (blk_cell z6.out 1).trans rfl; have bI5 : w19.cell? ⟨ak2, 2, none⟩ = some (.slice i1 e0.length i3) := (blk_cell z6.out 2).trans rfl; have aC7 := blk_frozen z6.out 0; have aC8 := blk_frozen z6.out 1; have bI6 := blk_frozen z6.out 2; have bn8 : w19.cell? ⟨ak3, 0, none⟩ = some (.int .i64 l7) := (blk_cell P5.out 0).trans rfl; have bN9 : w19.cell? ⟨ak3, 1, none⟩ = some (.slice K1 l4.length K2) := (blk_cell P5.out 1).trans rfl; have dj6 : w19.cell? ⟨ak3, 2, none⟩ = some (.slice G9 k8.length H0) := (blk_cell P5.out 2).trans rfl; have bn9 := blk_frozen P5.out 0; have bO0 := blk_frozen P5.out 1; have dj7 := blk_frozen P5.out 2))
    go_ret
    exact ⟨xre, xq HB⟩

  rw [if_pos c3] at H
  have ae4 : (d8 == l7) = true := beq_iff_eq.mpr c3
  have aA8 : (d8 != l7) = false := bne_eq_false_iff_eq.mpr c3
  clear c3
  replace H := Option.bind_eq_some_iff.mp H
  obtain ⟨bq8, A40, H⟩ := H
  replace H : (if bq8 = true then (some ((strOfNums e0).toList == (strOfNums k8).toList)) else (some false)) = some r := H
  have A4 := aZ A40
  clear A40
  by_cases c5 : bq8 = true
  rotate_left
  · replace c5 := Bool.eq_false_iff.mpr c5
    subst c5
    have H1 : (some false) = some r := by rw [if_neg (show ¬ (false = true) by decide)] at H; exact H
    clear H
    have H := H1
    clear H1
    obtain rfl := Option.some.inj H
    go_enter Try.func24, Try.ntmps24
    go_wp2_with (first | ((with_reducible refine gate_dst (N := 2) rfl ?_); refine box_event ?hg (N := 2) ?hd (cs := #[.int .i64 d8, .slice i9 b9.length i5, .slice i1 e0.length i3]) (t := 44) ?hr ?_; (case hd => rfl); (case hg => rfl); (case hr => first | (go_simp; done) | (go_simp; rfl)); intro ak2 hg w13 hbox hb; have z6 := aZ (hbox); have bZ5 := xgh hg HB; have bZ6 := xgh hg HB; replace HB := xhl HB hb; clear hb hbox hg) | ((with_reducible refine gate_dst (N := 3) rfl ?_); refine box_event ?hg (N := 3) ?hd (cs := #[.int .i64 l7, .slice K1 l4.length K2, .slice G9 k8.length H0]) (t := 44) ?hr ?_; (case hd => rfl); (case hg => rfl); (case hr => first | (go_simp; done) | (go_simp; rfl)); intro ak3 hg w14 hbox hb; have P5 := aZ (hbox); have bZ7 := xgh hg HB; have bZ8 := xgh hg HB; replace HB := xhl HB hb; have ae0 := xnl hg z6; have ae1 := xng hg z6; replace z6 := xbb z6 hb; clear hb hbox hg; have bt0 := ae0.out; have bt1 := ae1.out; have ao2 : w14.cell? ⟨ak2, 0, none⟩ = some (.int .i64 d8) := (blk_cell z6.out 0).trans rfl; have aB7 : w14.cell? ⟨ak2, 1, none⟩ = some (.slice i9 b9.length i5) := (blk_cell z6.out 1).trans rfl; have aB8 : w14.cell? ⟨ak2, 2, none⟩ = some (.slice i1 e0.length i3) := (blk_cell z6.out 2).trans rfl; have ao3 := blk_frozen z6.out 0; have aB9 := blk_frozen z6.out 1; have aC0 := blk_frozen z6.out 2; have bB2 : w14.cell? ⟨ak3, 0, none⟩ = some (.int .i64 l7) := (blk_cell P5.out 0).trans rfl; have bB3 : w14.cell? ⟨ak3, 1, none⟩ = some (.slice K1 l4.length K2) := (blk_cell P5.out 1).trans rfl; have dj8 : w14.cell? ⟨ak3, 2, none⟩ = some (.slice G9 k8.length H0) := (blk_cell P5.out 2).trans rfl; have bB4 := blk_frozen P5.out 0; have bB5 := blk_frozen P5.out 1; have dj9 := blk_frozen P5.out 2) | (go_at_call 45; (with_reducible refine (d7.calls k _ _ b9 _ _ l4 false _ ?side1 ?side2 ?side3 ?side4 A4.out).mono ?_); (case side1 => exact xcb C4 HB); (case side2 => exact J6.out); (case side3 => exact xcb am4 HB); (case side4 => exact am5.out); rintro e w' ⟨rfl, ⟨nd, rfl⟩⟩))
    go_ret
    exact ⟨xre, xq HB⟩
  subst c5
  have H1 : (some ((strOfNums e0).toList == (strOfNums k8).toList)) = some r := by rw [if_pos rfl] at H; exact H
  clear H
  have H := H1
  clear H1
  obtain rfl := Option.some.inj H
  go_enter Try.func24, Try.ntmps24
  go_wp2_with (first | ((with_reducible refine gate_dst (N := 2) rfl ?_); refine box_event ?hg (N := 2) ?hd (cs := #[.int .i64 d8, .slice i9 b9.length i5, .slice i1 e0.length i3]) (t := 44) ?hr ?_; (case hd => rfl); (case hg => rfl); (case hr => first | (go_simp; done) | (go_simp; rfl)); intro ak2 hg w6 hbox hb; have z6 := aZ (hbox); have bZ5 := xgh hg HB; have bZ6 := xgh hg HB; replace HB := xhl HB hb; clear hb hbox hg) | ((with_reducible refine gate_dst (N := 3) rfl ?_); refine box_event ?hg (N := 3) ?hd (cs := #[.int .i64 l7, .slice K1 l4.length K2, .slice G9 k8.length H0]) (t := 44) ?hr ?_; (case hd => rfl); (case hg => rfl); (case hr => first | (go_simp; done) | (go_simp; rfl)); intro ak3 hg w7 hbox hb; have P5 := aZ (hbox); have bZ7 := xgh hg HB; have bZ8 := xgh hg HB; replace HB := xhl HB hb; have ae0 := xnl hg z6; have ae1 := xng hg z6; replace z6 := xbb z6 hb; clear hb hbox hg; have cq9 := ae0.out; have cr0 := ae1.out; have aF6 : w7.cell? ⟨ak2, 0, none⟩ = some (.int .i64 d8) := (blk_cell z6.out 0).trans rfl; have bu3 : w7.cell? ⟨ak2, 1, none⟩ = some (.slice i9 b9.length i5) := (blk_cell z6.out 1).trans rfl; have cb3 : w7.cell? ⟨ak2, 2, none⟩ = some (.slice i1 e0.length i3) := (blk_cell z6.out 2).trans rfl; have aF7 := blk_frozen z6.out 0; have bu4 := blk_frozen z6.out 1; have cb4 := blk_frozen z6.out 2; have an8 : w7.cell? ⟨ak3, 0, none⟩ = some (.int .i64 l7) := (blk_cell P5.out 0).trans rfl; have an9 : w7.cell? ⟨ak3, 1, none⟩ = some (.slice K1 l4.length K2) := (blk_cell P5.out 1).trans rfl; have aB5 : w7.cell? ⟨ak3, 2, none⟩ = some (.slice G9 k8.length H0) := (blk_cell P5.out 2).trans rfl; have ao0 := blk_frozen P5.out 0; have ao1 := blk_frozen P5.out 1; have aB6 := blk_frozen P5.out 2) | (go_at_call 45; (with_reducible refine (d7.calls k _ _ b9 _ _ l4 true _ ?side1 ?side2 ?side3 ?side4 A4.out).mono ?_); (case side1 => exact xcb C4 HB); (case side2 => exact J6.out); (case side3 => exact xcb am4 HB); (case side4 => exact am5.out); rintro e w' ⟨rfl, ⟨nd, rfl⟩⟩; have dW3 := Kd.C_string (P := Try.prog) (A := i1) (c := i3) Try.underlying26 Try.underlying5 Try.underlying9 (Kd.C_below G3.out HB.out); have dH7 := fun n_ : Nat => Kd.C_string (P := Try.prog) (A := i1) (c := i3) Try.underlying26 Try.underlying5 Try.underlying9 (Kd.C_drewN (Kd.C_below G3.out HB.out) n_); have dW4 := Kd.C_string (P := Try.prog) (A := G9) (c := H0) Try.underlying26 Try.underlying5 Try.underlying9 (Kd.C_below aq5.out HB.out); have dH8 := fun n_ : Nat => Kd.C_string (P := Try.prog) (A := G9) (c := H0) Try.underlying26 Try.underlying5 Try.underlying9 (Kd.C_drewN (Kd.C_below aq5.out HB.out) n_)))
  go_ret
  exact ⟨xre, xq HB⟩
def b0.l0 : Nat → Int → List (r9) → List (r9) → Option (Bool)
  | 0, _, _, _ => none
  | k + 1, x5, al6, al7 => if x5 < (al6.length : Int) then (if 0 ≤ x5 then (if x5 < (al7.length : Int) then (if ((a7 al6 x5).f0) = ((a7 al7 x5).f0) then ((f7.f k ((a7 al6 x5).f1.f0) ((a7 al6 x5).f1.f1) ((a7 al6 x5).f1.f2) ((a7 al7 x5).f1.f0) ((a7 al7 x5).f1.f1) ((a7 al7 x5).f1.f2)).bind fun bP3 => (if bP3 = true then (b0.l0 k (wrap64 (x5 + 1)) al6 al7) else (some false))) else (some false)) else (none)) else (none)) else (some true)
def b0.f (k : Nat) (b1 : List (r9)) (n0 : List (r9)) : Option (Bool) := if (b1.length : Int) = (n0.length : Int) then (b0.l0 k 0 b1 n0) else (some false)
theorem b0.mono_l : ∀ k, (∀ y0 y1 y2, LeO (b0.l0 k y0 y1 y2) (b0.l0 (k + 1) y0 y1 y2))
  | 0 => fun _ _ _ r h => by simp [b0.l0] at h
  | k + 1 => by
    have t6 := b0.mono_l k
    · intro y0 y1 y2
      unfold b0.l0
      repeat' first | (with_reducible first | exact t6 _ _ _ | exact f7.mono _ _ _ _ _ _ _ | exact LeO.refl _ | exact LeO.none _ | refine LeO.ite ?_ ?_ | refine LeO.bind ?_ (fun _ => ?_)) | exact t6 _ _ _ | exact f7.mono _ _ _ _ _ _ _ | exact LeO.none _ | refine LeO.ite ?_ ?_ | refine LeO.bind ?_ (fun _ => ?_)
theorem b0.mono : ∀ a0 a1 k, LeO (b0.f k a0 a1) (b0.f (k + 1) a0 a1) := by
  intro a0 a1 k
  have t6 := b0.mono_l k
  unfold b0.f
  repeat' first | (with_reducible first | exact t6 _ _ _ | exact f7.mono _ _ _ _ _ _ _ | exact LeO.refl _ | exact LeO.none _ | refine LeO.ite ?_ ?_ | refine LeO.bind ?_ (fun _ => ?_)) | exact t6 _ _ _ | exact f7.mono _ _ _ _ _ _ _ | exact LeO.none _ | refine LeO.ite ?_ ?_ | refine LeO.bind ?_ (fun _ => ?_)
def b0.T6 : Bool × List (List Nat × List Nat) := (true, [([], []), ([0], [0]), ([], []), ([1, 2], [1, 2]), ([3], [3]), ([4], [4]), ([], []), ([6], [6]), ([], []), ([7, 8], [7, 8]), ([9], [9]), ([10], [10]), ([5, 11], [5, 11]), ([12], [12]), ([13], [13]), ([14, 13], [13, 14]), ([13], [13]), ([15, 16, 13], [13, 15, 16]), ([17, 13], [13, 17]), ([18, 13], [13, 18]), ([13], [13]), ([20, 13], [13, 20]), ([13], [13]), ([21, 22, 13], [13, 21, 22]), ([23, 13], [13, 23]), ([24, 13], [13, 24]), ([19, 25, 13, 13], [13, 19, 25]), ([26, 13], [13, 26]), ([13, 27], [13, 27])])
def b0.B6 : List Nat := [0, 1, 0, 7, 15, 31, 0, 64, 0, 448, 960, 1984, 4095, 8191, 16383, 32767, 16383, 131071, 262143, 524287, 16383, 1064959, 16383, 7356415, 15745023, 32522239, 67108863, 134217727, 268435455]
theorem b0.tab6 : rtab .any (opsOf Try.f22 6) = b0.T6 := by kernel_rfl
theorem b0.bits6 : waitsOk b0.T6.2 b0.B6 = true := by kernel_rfl
abbrev b0.Z1 : Array Bool := #[I,I,I,I,I,I,I,I,I,I,I,I,I,I,I,I,I,I,I,I,I,I,I,I,I,I,I,I,I]
abbrev b0.Z2 : Array Bool := #[J,I,I,I,I,I,I,I,I,I,I,I,I,I,I,I,I,I,I,I,I,I,I,I,I,I,I,I,I]
abbrev b0.Z3 : Array Bool := #[J,I,J,I,I,I,I,I,I,I,I,I,I,I,I,I,I,I,I,I,I,I,I,I,I,I,I,I,I]
abbrev b0.Z4 : Array Bool := #[J,I,J,I,I,I,J,I,I,I,I,I,I,I,I,I,I,I,I,I,I,I,I,I,I,I,I,I,I]
abbrev b0.Z5 : Array Bool := #[J,I,J,I,I,I,J,I,J,I,I,I,I,I,I,I,I,I,I,I,I,I,I,I,I,I,I,I,I]
abbrev b0.Z6 : Array Bool := #[J,J,J,I,I,I,J,I,J,I,I,I,I,I,I,I,I,I,I,I,I,I,I,I,I,I,I,I,I]
abbrev b0.Z7 : Array Bool := #[J,J,J,J,I,I,J,I,J,I,I,I,I,I,I,I,I,I,I,I,I,I,I,I,I,I,I,I,I]
abbrev b0.Z8 : Array Bool := #[J,J,J,J,J,I,J,I,J,I,I,I,I,I,I,I,I,I,I,I,I,I,I,I,I,I,I,I,I]
abbrev b0.Z9 : Array Bool := #[J,J,J,J,J,J,J,I,J,I,I,I,I,I,I,I,I,I,I,I,I,I,I,I,I,I,I,I,I]
abbrev b0.Z10 : Array Bool := #[J,J,J,J,J,J,J,J,J,I,I,I,I,I,I,I,I,I,I,I,I,I,I,I,I,I,I,I,I]
abbrev b0.Z11 : Array Bool := #[J,J,J,J,J,J,J,J,J,J,I,I,I,I,I,I,I,I,I,I,I,I,I,I,I,I,I,I,I]
abbrev b0.Z12 : Array Bool := #[J,J,J,J,J,J,J,J,J,J,J,I,I,I,I,I,I,I,I,I,I,I,I,I,I,I,I,I,I]
abbrev b0.Z13 : Array Bool := #[J,J,J,J,J,J,J,J,J,J,J,J,I,I,I,I,I,I,I,I,I,I,I,I,I,I,I,I,I]
abbrev b0.Z14 : Array Bool := #[J,J,J,J,J,J,J,J,J,J,J,J,J,I,I,I,I,I,I,I,I,I,I,I,I,I,I,I,I]
abbrev b0.Z15 : Array Bool := #[J,J,J,J,J,J,J,J,J,J,J,J,J,J,I,I,I,I,I,I,I,I,I,I,I,I,I,I,I]
abbrev b0.Z16 : Array Bool := #[J,J,J,J,J,J,J,J,J,J,J,J,J,J,J,I,I,I,I,I,I,I,I,I,I,I,I,I,I]
abbrev b0.Z17 : Array Bool := #[J,J,J,J,J,J,J,J,J,J,J,J,J,J,J,I,J,I,I,I,I,I,I,I,I,I,I,I,I]
abbrev b0.Z18 : Array Bool := #[J,J,J,J,J,J,J,J,J,J,J,J,J,J,J,I,J,I,I,I,J,I,I,I,I,I,I,I,I]
abbrev b0.Z19 : Array Bool := #[J,J,J,J,J,J,J,J,J,J,J,J,J,J,J,I,J,I,I,I,J,I,J,I,I,I,I,I,I]
abbrev b0.Z20 : Array Bool := #[J,J,J,J,J,J,J,J,J,J,J,J,J,J,J,J,J,I,I,I,J,I,J,I,I,I,I,I,I]
abbrev b0.Z21 : Array Bool := #[J,J,J,J,J,J,J,J,J,J,J,J,J,J,J,J,J,J,I,I,J,I,J,I,I,I,I,I,I]
abbrev b0.Z22 : Array Bool := #[J,J,J,J,J,J,J,J,J,J,J,J,J,J,J,J,J,J,J,I,J,I,J,I,I,I,I,I,I]
abbrev b0.Z23 : Array Bool := #[J,J,J,J,J,J,J,J,J,J,J,J,J,J,J,J,J,J,J,J,J,I,J,I,I,I,I,I,I]
abbrev b0.Z24 : Array Bool := #[J,J,J,J,J,J,J,J,J,J,J,J,J,J,J,J,J,J,J,J,J,J,J,I,I,I,I,I,I]
abbrev b0.Z25 : Array Bool := #[J,J,J,J,J,J,J,J,J,J,J,J,J,J,J,J,J,J,J,J,J,J,J,J,I,I,I,I,I]
abbrev b0.Z26 : Array Bool := #[J,J,J,J,J,J,J,J,J,J,J,J,J,J,J,J,J,J,J,J,J,J,J,J,J,I,I,I,I]
abbrev b0.Z27 : Array Bool := #[J,J,J,J,J,J,J,J,J,J,J,J,J,J,J,J,J,J,J,J,J,J,J,J,J,J,I,I,I]
abbrev b0.Z28 : Array Bool := #[J,J,J,J,J,J,J,J,J,J,J,J,J,J,J,J,J,J,J,J,J,J,J,J,J,J,J,I,I]
abbrev b0.Z29 : Array Bool := #[J,J,J,J,J,J,J,J,J,J,J,J,J,J,J,J,J,J,J,J,J,J,J,J,J,J,J,J,I]
abbrev b0.Z30 : Array Bool := #[J,J,J,J,J,J,J,J,J,J,J,J,J,J,J,J,J,J,J,J,J,J,J,J,J,J,J,J,J]
abbrev b0.Z31 : Array Bool := #[J,J,J,J,J,J,J,J,J,J,J,J,J,J,J,J,I,I,I,I,I,I,I,I,I,I,I,I,I]
abbrev b0.Z32 : Array Bool := #[J,J,J,J,J,J,J,J,J,J,J,J,J,J,J,J,J,I,I,I,I,I,I,I,I,I,I,I,I]
abbrev b0.Z33 : Array Bool := #[J,J,J,J,J,J,J,J,J,J,J,J,J,J,J,J,J,J,I,I,I,I,I,I,I,I,I,I,I]
abbrev b0.Z34 : Array Bool := #[J,J,J,J,J,J,J,J,J,J,J,J,J,J,J,J,J,J,J,I,I,I,I,I,I,I,I,I,I]
abbrev b0.Z35 : Array Bool := #[J,J,J,J,J,J,J,J,J,J,J,J,J,J,J,J,J,J,J,J,I,I,I,I,I,I,I,I,I]
abbrev b0.Z36 : Array Bool := #[J,J,J,J,J,J,J,J,J,J,J,J,J,J,J,J,J,J,J,J,J,I,I,I,I,I,I,I,I]
abbrev b0.Z37 : Array Bool := #[J,J,J,J,J,J,J,J,J,J,J,J,J,J,J,J,J,J,J,J,J,J,I,I,I,I,I,I,I]
set_option maxHeartbeats 8000000 in
set_option maxRecDepth 100000 in
theorem b0.calls (k : Nat) (k9 : Option Addr) (j9 : Nat) (b1 : List (r9)) (ba8 : Option Addr) (aI4 : Nat) (n0 : List (r9)) (r : Bool) (w : World) (J9 : Kd.C k46 w k9 b1.length b1) (K0 : b1.length ≤ j9) (bZ9 : Kd.C k46 w ba8 n0.length n0) (b_0 : n0.length ≤ aI4) (h : b0.f k b1 n0 = some r) :
  Calls Try.prog 22 #[.agg #[.slice k9 b1.length j9], .agg #[.slice ba8 n0.length aI4]] w fun e w' => e = .returned (.bool r) ∧ Below w.heap.size w w' := by
  have aU3 := Try.underlying24
  have aw1 := Try.underlying44
  have m8 := aZ J9
  have V4 := aZ K0
  clear J9 K0
  have aW9 := aZ bZ9
  have dW5 := aZ b_0
  clear bZ9 b_0
  have HB := aZ (Below.refl w.heap.size w)
  have H : (if (b1.length : Int) = (n0.length : Int) then (b0.l0 k 0 b1 n0) else (some false)) = some r := h
  clear h
  by_cases c3 : (b1.length : Int) = (n0.length : Int)
  rotate_left
  · rw [if_neg c3] at H
    have ae4 : ((b1.length : Int) == (n0.length : Int)) = false := beq_eq_false_iff_ne.mpr c3
    have aA8 : ((b1.length : Int) != (n0.length : Int)) = true := bne_iff_ne.mpr c3
    have aV3 : (b1.length == n0.length) = false := by first | simpa using c3 | (simp at c3 ⊢; omega)
    obtain rfl := Option.some.inj H
    go_enter Try.func22, Try.ntmps22
    go_wp2_with (first | ((with_reducible refine gate_dst (N := 2) rfl ?_); refine box_event ?hg (N := 2) ?hd (cs := #[.slice k9 b1.length j9]) (t := 24) ?hr ?_; (case hd => rfl); (case hg => rfl); (case hr => first | (go_simp; done) | (go_simp; rfl)); intro ak4 hg w28 hbox hb; have p5 := aZ (hbox); have cI7 := xgh hg HB; have cI8 := xgh hg HB; replace HB := xhl HB hb; clear hb hbox hg) | ((with_reducible refine gate_dst (N := 3) rfl ?_); refine box_event ?hg (N := 3) ?hd (cs := #[.slice ba8 n0.length aI4]) (t := 24) ?hr ?_; (case hd => rfl); (case hg => rfl); (case hr => first | (go_simp; done) | (go_simp; rfl)); intro aH0 hg w29 hbox hb; have F7 := aZ (hbox); have cI9 := xgh hg HB; have cJ0 := xgh hg HB; replace HB := xhl HB hb; have U8 := xnl hg p5; have U9 := xng hg p5; replace p5 := xbb p5 hb; clear hb hbox hg; have bv0 := U8.out; have bv1 := U9.out; have bh6 : w29.cell? ⟨ak4, 0, none⟩ = some (.slice k9 b1.length j9) := (blk_cell p5.out 0).trans rfl; have bh7 := blk_frozen p5.out 0; have aC9 : w29.cell? ⟨aH0, 0, none⟩ = some (.slice ba8 n0.length aI4) := (blk_cell F7.out 0).trans rfl; have aD0 := blk_frozen F7.out 0))
    go_ret
    exact ⟨xre, xq HB⟩

  rw [if_pos c3] at H
  have ae4 : ((b1.length : Int) == (n0.length : Int)) = true := beq_iff_eq.mpr c3
  have aA8 : ((b1.length : Int) != (n0.length : Int)) = false := bne_eq_false_iff_eq.mpr c3
  have aV3 : (b1.length == n0.length) = true := by first | simpa using c3 | (simp at c3 ⊢; omega)
  clear c3
  have H' := aZ H
  clear H
  go_enter Try.func22, Try.ntmps22
  go_wp2_with (first | ((with_reducible refine gate_dst (N := 2) rfl ?_); refine box_event ?hg (N := 2) ?hd (cs := #[.slice k9 b1.length j9]) (t := 24) ?hr ?_; (case hd => rfl); (case hg => rfl); (case hr => first | (go_simp; done) | (go_simp; rfl)); intro ak4 hg w4 hbox hb; have p5 := aZ (hbox); have cI7 := xgh hg HB; have cI8 := xgh hg HB; replace HB := xhl HB hb; clear hb hbox hg) | ((with_reducible refine gate_dst (N := 3) rfl ?_); refine box_event ?hg (N := 3) ?hd (cs := #[.slice ba8 n0.length aI4]) (t := 24) ?hr ?_; (case hd => rfl); (case hg => rfl); (case hr => first | (go_simp; done) | (go_simp; rfl)); intro aH0 hg w5 hbox hb; have F7 := aZ (hbox); have cI9 := xgh hg HB; have cJ0 := xgh hg HB; replace HB := xhl HB hb; have U8 := xnl hg p5; have U9 := xng hg p5; replace p5 := xbb p5 hb; clear hb hbox hg; have ca5 := U8.out; have ca6 := U9.out; have am7 : w5.cell? ⟨ak4, 0, none⟩ = some (.slice k9 b1.length j9) := (blk_cell p5.out 0).trans rfl; have am8 := blk_frozen p5.out 0; have aL0 : w5.cell? ⟨aH0, 0, none⟩ = some (.slice ba8 n0.length aI4) := (blk_cell F7.out 0).trans rfl; have aL1 := blk_frozen F7.out 0))
  go_loopg [5] k (fun kq v5 w' => ∃ (d9 : Int), v5 = .int .i64 d9 ∧ Aside0 (b0.l0 kq d9 b1 n0 = some r) ∧ Aside0 (kq ≤ k) ∧ Aside0 (w'.heap[ak4]? = some (.cells #[(.slice k9 b1.length j9)] 24 (0, 0))) ∧ Aside0 (w'.heap[aH0]? = some (.cells #[(.slice ba8 n0.length aI4)] 24 (0, 0))) ∧ Aside0 (Below w.heap.size w w'))
  case atStart => exact ⟨(0), xrs, H', ⟨Nat.le_refl _⟩, xk p5, xk F7, xb HB⟩
  case round =>
   clear H'
   (try clear c3); (try clear ae4); (try clear aA8); (try clear aV3); (try clear am7); (try clear aL0); (try clear am8); (try clear aL1)
   obtain ⟨d9, rfl, HA, S8, p5, F7, HB⟩ := hrel
   cases gk with
   | zero => exact absurd HA.out (by simp [b0.l0])
   | succ k1 =>
    have H := HA.out
    clear HA
    simp only [b0.l0] at H
    by_cases c9 : d9 < (b1.length : Int)
    rotate_left
    · rw [if_neg c9] at H
      have bA3 : decide (d9 < (b1.length : Int)) = false := decide_eq_false c9
      clear c9
      obtain rfl := Option.some.inj H
      have bx7 := U8.out
      have bx8 := U9.out
      have aE4 : wr.cell? ⟨ak4, 0, none⟩ = some (.slice k9 b1.length j9) := (blk_cell p5.out 0).trans rfl
      have aE5 := blk_frozen p5.out 0
      go_wp2
      go_ret
      exact ⟨xre, xq HB⟩
    rw [if_pos c9] at H
    have bA3 : decide (d9 < (b1.length : Int)) = true := decide_eq_true c9
    clear c9
    by_cases c10 : 0 ≤ d9
    rotate_left
    · rw [if_neg c10] at H
      exact absurd H (by simp)
    rw [if_pos c10] at H
    have bW3 : decide (0 ≤ d9) = true := decide_eq_true c10
    clear c10
    by_cases c11 : d9 < (n0.length : Int)
    rotate_left
    · rw [if_neg c11] at H
      exact absurd H (by simp)
    rw [if_pos c11] at H
    have aI8 : decide (d9 < (n0.length : Int)) = true := decide_eq_true c11
    clear c11
    by_cases c12 : ((a7 b1 d9).f0) = ((a7 n0 d9).f0)
    rotate_left
    · rw [if_neg c12] at H
      have aU4 : (((a7 b1 d9).f0) == ((a7 n0 d9).f0)) = false := beq_eq_false_iff_ne.mpr c12
      have cJ1 : (((a7 b1 d9).f0) != ((a7 n0 d9).f0)) = true := bne_iff_ne.mpr c12
      obtain rfl := Option.some.inj H
      have bS4 := U8.out
      have bS5 := U9.out
      have dk0 : wr.cell? ⟨ak4, 0, none⟩ = some (.slice k9 b1.length j9) := (blk_cell p5.out 0).trans rfl
      have dk1 := blk_frozen p5.out 0
      try go_wp2
      replace p5 := aZ (bD p5.out)
      replace F7 := aZ (bD F7.out)
      replace HB := aZ (lD HB.out)
      have aH1 : 0 ≤ (d9 : Int) := of_decide_eq_true xas
      have aH2 : d9 < (b1.length : Int) := of_decide_eq_true xas
      obtain ⟨p6, ag0, ag1, ag2, ag3, bz0, J2, J3, E3, E4, aa6, aa7, aa8, aa9⟩ := l8 m8.out d9 aH1 aH2
      have ag4 := E4
      have ag5 := E3
      have ag6 := J3
      have ag7 := J2
      cases bz0
      replace J2 := xcl HB J2
      replace J3 := xcl HB J3
      replace E3 := xcl HB E3
      replace E4 := xcl HB E4
      have as2 := aZ aa7
      have bo4 := aZ aa6
      clear aa7 aa6
      have as3 := aZ aa9
      have bo5 := aZ aa8
      clear aa9 aa8
      replace aH1 := eq_true aH1
      replace aH2 := eq_true aH2
      have aH3 : 0 ≤ (d9 : Int) := of_decide_eq_true xas
      have aH4 : d9 < (n0.length : Int) := of_decide_eq_true xas
      obtain ⟨p7, ag8, ag9, ah0, ah1, bz1, J4, J5, E5, E6, ab0, ab1, ab2, ab3⟩ := l8 aW9.out d9 aH3 aH4
      have ah2 := E6
      have ah3 := E5
      have ah4 := J5
      have ah5 := J4
      cases bz1
      replace J4 := xcl HB J4
      replace J5 := xcl HB J5
      replace E5 := xcl HB E5
      replace E6 := xcl HB E6
      have as4 := aZ ab1
      have bo6 := aZ ab0
      clear ab1 ab0
      have as5 := aZ ab3
      have bo7 := aZ ab2
      clear ab3 ab2
      replace aH3 := eq_true aH3
      replace aH4 := eq_true aH4
      refine start_ (n := 29) (S := fun w' => w'.cell? ⟨ak4, 0, none⟩ = some (.slice (some p6) b1.length j9) ∧ w'.cell? ⟨aH0, 0, none⟩ = some (.slice (some p7) n0.length aI4) ∧ w'.cell? (p6.add ((d9).toNat * 4)) = some (.int .i64 ((a7 b1 d9).f0)) ∧ w'.cell? ⟨(p6.add ((d9).toNat * 4)).block, (p6.add ((d9).toNat * 4)).off + 1, none⟩ = some (.int .i64 ((a7 b1 d9).f1.f0)) ∧ w'.cell? ⟨(p6.add ((d9).toNat * 4)).block, (p6.add ((d9).toNat * 4)).off + 2, none⟩ = some (.slice ag0 ((a7 b1 d9).f1.f1).length ag1) ∧ w'.cell? ⟨(p6.add ((d9).toNat * 4)).block, (p6.add ((d9).toNat * 4)).off + 3, none⟩ = some (.slice ag2 ((a7 b1 d9).f1.f2).length ag3) ∧ w'.cell? (p7.add ((d9).toNat * 4)) = some (.int .i64 ((a7 n0 d9).f0)) ∧ w'.cell? ⟨(p7.add ((d9).toNat * 4)).block, (p7.add ((d9).toNat * 4)).off + 1, none⟩ = some (.int .i64 ((a7 n0 d9).f1.f0)) ∧ w'.cell? ⟨(p7.add ((d9).toNat * 4)).block, (p7.add ((d9).toNat * 4)).off + 2, none⟩ = some (.slice ag8 ((a7 n0 d9).f1.f1).length ag9) ∧ w'.cell? ⟨(p7.add ((d9).toNat * 4)).block, (p7.add ((d9).toNat * 4)).off + 3, none⟩ = some (.slice ah0 ((a7 n0 d9).f1.f2).length ah1)) (ds := []) Z1 (by kernel_rfl) rfl rfl ⟨(blk_cell p5.out 0).trans rfl, (blk_cell F7.out 0).trans rfl, (xcl HB ag7), (xcl HB ag6), (xcl HB ag5), (xcl HB ag4), (xcl HB ah5), (xcl HB ah4), (xcl HB ah3), (xcl HB ah2)⟩ (fun hHeld => ?_); refine with_tabW b0.tab6 b0.bits6 (fun HT_ HW_ => ?_)
      generalize wr.drew = w25 at p5 F7 HB as2 as3 as4 as5 J2 J3 E3 E4 J4 J5 E5 E6 hHeld ⊢
      refine pu 0 20 Z2 HT_ rfl rfl (h := ?_)
      refine pu 2 22 Z3 HT_ rfl rfl (h := ?_)
      refine pu 6 26 Z4 HT_ rfl rfl (h := ?_)
      refine pu 8 28 Z5 HT_ rfl rfl (h := ?_)
      refine tk 1 21 Z6 HT_ HW_ rfl rfl hHeld (by rintro w' ⟨s0, s1, s2, s3, s4, s5, s6, s7, s8, s9⟩; go_simp; with_reducible rfl) (h := ?_)
      refine pu 3 23 Z7 HT_ rfl rfl (h := ?_)
      refine pu 4 24 Z8 HT_ rfl rfl (h := ?_)
      refine tk 5 25 Z9 HT_ HW_ rfl rfl hHeld (by rintro w' ⟨s0, s1, s2, s3, s4, s5, s6, s7, s8, s9⟩; go_simp; with_reducible rfl) (h := ?_)
      refine tk 7 27 Z10 HT_ HW_ rfl rfl hHeld (by rintro w' ⟨s0, s1, s2, s3, s4, s5, s6, s7, s8, s9⟩; go_simp; with_reducible rfl) (h := ?_)
      refine pu 9 29 Z11 HT_ rfl rfl (h := ?_)
      refine pu 10 30 Z12 HT_ rfl rfl (h := ?_)
      refine tk 11 31 Z13 HT_ HW_ rfl rfl hHeld (by rintro w' ⟨s0, s1, s2, s3, s4, s5, s6, s7, s8, s9⟩; go_simp; with_reducible rfl) (h := ?_)
      refine pu 12 32 Z14 HT_ rfl rfl (h := ?_)
      refine pu 13 33 Z15 HT_ rfl rfl (h := ?_)
      refine pv 14 34 Z16 HT_ rfl rfl (h := ?_)
      refine pv 15 35 Z31 HT_ rfl rfl (h := ?_)
      refine pv 16 36 Z32 HT_ rfl rfl (h := ?_)
      refine pv 17 37 Z33 HT_ rfl rfl (h := ?_)
      refine pv 18 38 Z34 HT_ rfl rfl (h := ?_)
      refine pv 19 39 Z35 HT_ rfl rfl (h := ?_)
      refine pv 20 40 Z36 HT_ rfl rfl (h := ?_)
      refine pv 21 41 Z37 HT_ rfl rfl (h := ?_)
      refine pv 22 42 Z24 HT_ rfl rfl (h := ?_)
      refine pv 23 43 Z25 HT_ rfl rfl (h := ?_)
      refine pv 24 44 Z26 HT_ rfl rfl (h := ?_)
      refine pv 25 45 Z27 HT_ rfl rfl (h := ?_)
      refine pv 26 46 Z28 HT_ rfl rfl (h := ?_)
      refine pv 27 47 Z29 HT_ rfl rfl (h := ?_)
      refine pu 28 48 Z30 HT_ rfl rfl (h := ?_)
      refine done_ (done_of HT_.out (by kernel_rfl)) ?_
      try go_wp2
      go_ret
      exact ⟨xre, xq HB⟩
    rw [if_pos c12] at H
    have aU4 : (((a7 b1 d9).f0) == ((a7 n0 d9).f0)) = true := beq_iff_eq.mpr c12
    have cJ1 : (((a7 b1 d9).f0) != ((a7 n0 d9).f0)) = false := bne_eq_false_iff_eq.mpr c12
    clear c12
    replace H := Option.bind_eq_some_iff.mp H
    obtain ⟨bP3, bw6, H⟩ := H
    replace H : (if bP3 = true then (b0.l0 k1 (wrap64 (d9 + 1)) b1 n0) else (some false)) = some r := H
    have A13 := aZ bw6
    clear bw6
    by_cases c14 : bP3 = true
    rotate_left
    · replace c14 := Bool.eq_false_iff.mpr c14
      subst c14
      have H1 : (some false) = some r := by rw [if_neg (show ¬ (false = true) by decide)] at H; exact H
      clear H
      have H := H1
      clear H1
      obtain rfl := Option.some.inj H
      have aS3 := U8.out
      have aS4 := U9.out
      have ao4 : wr.cell? ⟨ak4, 0, none⟩ = some (.slice k9 b1.length j9) := (blk_cell p5.out 0).trans rfl
      have ao5 := blk_frozen p5.out 0
      try go_wp2
      replace p5 := aZ (bD p5.out)
      replace F7 := aZ (bD F7.out)
      replace HB := aZ (lD HB.out)
      have aH1 : 0 ≤ (d9 : Int) := of_decide_eq_true xas
      have aH2 : d9 < (b1.length : Int) := of_decide_eq_true xas
      obtain ⟨p6, ag0, ag1, ag2, ag3, bz0, J2, J3, E3, E4, aa6, aa7, aa8, aa9⟩ := l8 m8.out d9 aH1 aH2
      have ag4 := E4
      have ag5 := E3
      have ag6 := J3
      have ag7 := J2
      cases bz0
      replace J2 := xcl HB J2
      replace J3 := xcl HB J3
      replace E3 := xcl HB E3
      replace E4 := xcl HB E4
      have as2 := aZ aa7
      have bo4 := aZ aa6
      clear aa7 aa6
      have as3 := aZ aa9
      have bo5 := aZ aa8
      clear aa9 aa8
      replace aH1 := eq_true aH1
      replace aH2 := eq_true aH2
      have aH3 : 0 ≤ (d9 : Int) := of_decide_eq_true xas
      have aH4 : d9 < (n0.length : Int) := of_decide_eq_true xas
      obtain ⟨p7, ag8, ag9, ah0, ah1, bz1, J4, J5, E5, E6, ab0, ab1, ab2, ab3⟩ := l8 aW9.out d9 aH3 aH4
      have ah2 := E6
      have ah3 := E5
      have ah4 := J5
      have ah5 := J4
      cases bz1
      replace J4 := xcl HB J4
      replace J5 := xcl HB J5
      replace E5 := xcl HB E5
      replace E6 := xcl HB E6
      have as4 := aZ ab1
      have bo6 := aZ ab0
      clear ab1 ab0
      have as5 := aZ ab3
      have bo7 := aZ ab2
      clear ab3 ab2
      replace aH3 := eq_true aH3
      replace aH4 := eq_true aH4
      have ba9 : 0 ≤ (d9 : Int) := of_decide_eq_true xas
      have bb4 : d9 < (b1.length : Int) := of_decide_eq_true xas
      obtain ⟨bz2, ci3, ci4, ci5, ci6, ci7, X5, X6, S4, S5, as6, as7, as8, as9⟩ := l8 m8.out d9 ba9 bb4
      have at0 := S5
      have at1 := S4
      have at5 := X6
      have at6 := X5
      obtain rfl : p6 = bz2 := (by injection ci7)
      replace X5 := xcl HB X5
      replace X6 := xcl HB X6
      replace S4 := xcl HB S4
      replace S5 := xcl HB S5
      have at7 := aZ as7
      have aQ2 := aZ as6
      clear as7 as6
      have au0 := aZ as9
      have aQ3 := aZ as8
      clear as9 as8
      replace ba9 := eq_true ba9
      replace bb4 := eq_true bb4
      have ea_ := Option.some.inj (E3.symm.trans S4)
      injection ea_ with ea_ en_ ec_
      subst ea_
      subst ec_
      clear en_
      have ea_ := Option.some.inj (E4.symm.trans S5)
      injection ea_ with ea_ en_ ec_
      subst ea_
      subst ec_
      clear en_
      have bb5 : 0 ≤ (d9 : Int) := of_decide_eq_true xas
      have bb6 : d9 < (n0.length : Int) := of_decide_eq_true xas
      obtain ⟨bz3, ci8, ci9, cj0, cj1, cj2, X7, X8, S6, S7, au1, au2, au3, au4⟩ := l8 aW9.out d9 bb5 bb6
      have au5 := S7
      have au6 := S6
      have au7 := X8
      have au8 := X7
      obtain rfl : p7 = bz3 := (by injection cj2)
      replace X7 := xcl HB X7
      replace X8 := xcl HB X8
      replace S6 := xcl HB S6
      replace S7 := xcl HB S7
      have au9 := aZ au2
      have aQ4 := aZ au1
      clear au2 au1
      have av0 := aZ au4
      have aQ5 := aZ au3
      clear au4 au3
      replace bb5 := eq_true bb5
      replace bb6 := eq_true bb6
      have ea_ := Option.some.inj (E5.symm.trans S6)
      injection ea_ with ea_ en_ ec_
      subst ea_
      subst ec_
      clear en_
      have ea_ := Option.some.inj (E6.symm.trans S7)
      injection ea_ with ea_ en_ ec_
      subst ea_
      subst ec_
      clear en_
      refine start_ (n := 29) (S := fun w' => w'.cell? ⟨ak4, 0, none⟩ = some (.slice (some p6) b1.length j9) ∧ w'.cell? ⟨aH0, 0, none⟩ = some (.slice (some p7) n0.length aI4) ∧ w'.cell? (p6.add ((d9).toNat * 4)) = some (.int .i64 ((a7 b1 d9).f0)) ∧ w'.cell? ⟨(p6.add ((d9).toNat * 4)).block, (p6.add ((d9).toNat * 4)).off + 1, none⟩ = some (.int .i64 ((a7 b1 d9).f1.f0)) ∧ w'.cell? ⟨(p6.add ((d9).toNat * 4)).block, (p6.add ((d9).toNat * 4)).off + 2, none⟩ = some (.slice ag0 ((a7 b1 d9).f1.f1).length ag1) ∧ w'.cell? ⟨(p6.add ((d9).toNat * 4)).block, (p6.add ((d9).toNat * 4)).off + 3, none⟩ = some (.slice ag2 ((a7 b1 d9).f1.f2).length ag3) ∧ w'.cell? (p7.add ((d9).toNat * 4)) = some (.int .i64 ((a7 n0 d9).f0)) ∧ w'.cell? ⟨(p7.add ((d9).toNat * 4)).block, (p7.add ((d9).toNat * 4)).off + 1, none⟩ = some (.int .i64 ((a7 n0 d9).f1.f0)) ∧ w'.cell? ⟨(p7.add ((d9).toNat * 4)).block, (p7.add ((d9).toNat * 4)).off + 2, none⟩ = some (.slice ag8 ((a7 n0 d9).f1.f1).length ag9) ∧ w'.cell? ⟨(p7.add ((d9).toNat * 4)).block, (p7.add ((d9).toNat * 4)).off + 3, none⟩ = some (.slice ah0 ((a7 n0 d9).f1.f2).length ah1) ∧ w'.cell? (p6.add ((d9).toNat * 4)) = some (.int .i64 ((a7 b1 d9).f0)) ∧ w'.cell? ⟨(p6.add ((d9).toNat * 4)).block, (p6.add ((d9).toNat * 4)).off + 1, none⟩ = some (.int .i64 ((a7 b1 d9).f1.f0)) ∧ w'.cell? ⟨(p6.add ((d9).toNat * 4)).block, (p6.add ((d9).toNat * 4)).off + 2, none⟩ = some (.slice ag0 ((a7 b1 d9).f1.f1).length ag1) ∧ w'.cell? ⟨(p6.add ((d9).toNat * 4)).block, (p6.add ((d9).toNat * 4)).off + 3, none⟩ = some (.slice ag2 ((a7 b1 d9).f1.f2).length ag3) ∧ w'.cell? (p7.add ((d9).toNat * 4)) = some (.int .i64 ((a7 n0 d9).f0)) ∧ w'.cell? ⟨(p7.add ((d9).toNat * 4)).block, (p7.add ((d9).toNat * 4)).off + 1, none⟩ = some (.int .i64 ((a7 n0 d9).f1.f0)) ∧ w'.cell? ⟨(p7.add ((d9).toNat * 4)).block, (p7.add ((d9).toNat * 4)).off + 2, none⟩ = some (.slice ag8 ((a7 n0 d9).f1.f1).length ag9) ∧ w'.cell? ⟨(p7.add ((d9).toNat * 4)).block, (p7.add ((d9).toNat * 4)).off + 3, none⟩ = some (.slice ah0 ((a7 n0 d9).f1.f2).length ah1)) (ds := []) Z1 (by kernel_rfl) rfl rfl ⟨(blk_cell p5.out 0).trans rfl, (blk_cell F7.out 0).trans rfl, (xcl HB ag7), (xcl HB ag6), (xcl HB ag5), (xcl HB ag4), (xcl HB ah5), (xcl HB ah4), (xcl HB ah3), (xcl HB ah2), (xcl HB at6), (xcl HB at5), (xcl HB at1), (xcl HB at0), (xcl HB au8), (xcl HB au7), (xcl HB au6), (xcl HB au5)⟩ (fun hHeld => ?_); refine with_tabW b0.tab6 b0.bits6 (fun HT_ HW_ => ?_)
      generalize wr.drew = w21 at p5 F7 HB as2 as3 as4 as5 at7 au0 au9 av0 J2 J3 E3 E4 J4 J5 E5 E6 X5 X6 S4 S5 X7 X8 S6 S7 hHeld ⊢
      refine pu 0 20 Z2 HT_ rfl rfl (h := ?_)
      refine pu 2 22 Z3 HT_ rfl rfl (h := ?_)
      refine pu 6 26 Z4 HT_ rfl rfl (h := ?_)
      refine pu 8 28 Z5 HT_ rfl rfl (h := ?_)
      refine tk 1 21 Z6 HT_ HW_ rfl rfl hHeld (by rintro w' ⟨s0, s1, s2, s3, s4, s5, s6, s7, s8, s9, s10, s11, s12, s13, s14, s15, s16, s17⟩; go_simp; with_reducible rfl) (h := ?_)
      refine pu 3 23 Z7 HT_ rfl rfl (h := ?_)
      refine pu 4 24 Z8 HT_ rfl rfl (h := ?_)
      refine tk 5 25 Z9 HT_ HW_ rfl rfl hHeld (by rintro w' ⟨s0, s1, s2, s3, s4, s5, s6, s7, s8, s9, s10, s11, s12, s13, s14, s15, s16, s17⟩; go_simp; with_reducible rfl) (h := ?_)
      refine tk 7 27 Z10 HT_ HW_ rfl rfl hHeld (by rintro w' ⟨s0, s1, s2, s3, s4, s5, s6, s7, s8, s9, s10, s11, s12, s13, s14, s15, s16, s17⟩; go_simp; with_reducible rfl) (h := ?_)
      refine pu 9 29 Z11 HT_ rfl rfl (h := ?_)
      refine pu 10 30 Z12 HT_ rfl rfl (h := ?_)
      refine tk 11 31 Z13 HT_ HW_ rfl rfl hHeld (by rintro w' ⟨s0, s1, s2, s3, s4, s5, s6, s7, s8, s9, s10, s11, s12, s13, s14, s15, s16, s17⟩; go_simp; with_reducible rfl) (h := ?_)
      refine pu 12 32 Z14 HT_ rfl rfl (h := ?_)
      refine pu 13 33 Z15 HT_ rfl rfl (h := ?_)
      refine pu 14 34 Z16 HT_ rfl rfl (h := ?_)
      refine pu 16 36 Z17 HT_ rfl rfl (h := ?_)
      refine pu 20 40 Z18 HT_ rfl rfl (h := ?_)
      refine pu 22 42 Z19 HT_ rfl rfl (h := ?_)
      refine tk 15 35 Z20 HT_ HW_ rfl rfl hHeld (by rintro w' ⟨s0, s1, s2, s3, s4, s5, s6, s7, s8, s9, s10, s11, s12, s13, s14, s15, s16, s17⟩; go_simp; with_reducible rfl) (h := ?_)
      refine pu 17 37 Z21 HT_ rfl rfl (h := ?_)
      refine pu 18 38 Z22 HT_ rfl rfl (h := ?_)
      refine tk 19 39 Z23 HT_ HW_ rfl rfl hHeld (by rintro w' ⟨s0, s1, s2, s3, s4, s5, s6, s7, s8, s9, s10, s11, s12, s13, s14, s15, s16, s17⟩; go_simp; with_reducible rfl) (h := ?_)
      refine tk 21 41 Z24 HT_ HW_ rfl rfl hHeld (by rintro w' ⟨s0, s1, s2, s3, s4, s5, s6, s7, s8, s9, s10, s11, s12, s13, s14, s15, s16, s17⟩; go_simp; with_reducible rfl) (h := ?_)
      refine pu 23 43 Z25 HT_ rfl rfl (h := ?_)
      refine pu 24 44 Z26 HT_ rfl rfl (h := ?_)
      refine tk 25 45 Z27 HT_ HW_ rfl rfl hHeld (by rintro w' ⟨s0, s1, s2, s3, s4, s5, s6, s7, s8, s9, s10, s11, s12, s13, s14, s15, s16, s17⟩; go_simp; with_reducible rfl) (h := ?_)
      refine one_ (i := 26) (N := some 46) Z28 rfl rfl (one_of HT_.out (by kernel_rfl)) (by decide) (fun K hK => ?_)
      refine goes_ Try.func24 (by kernel_rfl) rfl #[.agg #[.int .i64 ((a7 b1 d9).f1.f0), .slice ag0 ((a7 b1 d9).f1.f1).length ag1, .slice ag2 ((a7 b1 d9).f1.f2).length ag3], .agg #[.int .i64 ((a7 n0 d9).f1.f0), .slice ag8 ((a7 n0 d9).f1.f1).length ag9, .slice ah0 ((a7 n0 d9).f1.f2).length ah1]] (by rfl) rfl rfl xmp ?_
      with_reducible refine (f7.calls k1 ((a7 b1 d9).f1.f0) _ _ ((a7 b1 d9).f1.f1) _ _ ((a7 b1 d9).f1.f2) ((a7 n0 d9).f1.f0) _ _ ((a7 n0 d9).f1.f1) _ _ ((a7 n0 d9).f1.f2) false _ ?side1 ?side2 ?side3 ?side4 ?side5 ?side6 ?side7 ?side8 A13.out).mono ?_
      (case side1 => exact xcb at7 HB)
      (case side2 => exact aQ2.out)
      (case side3 => exact xcb au0 HB)
      (case side4 => exact aQ3.out)
      (case side5 => exact xcb au9 HB)
      (case side6 => exact aQ4.out)
      (case side7 => exact xcb av0 HB)
      (case side8 => exact aQ5.out)
      rintro e w22 ⟨rfl, hb⟩
      refine ⟨_, rfl, ?_⟩
      replace p5 := xbb p5 hb
      replace F7 := xbb F7 hb
      replace HB := xhl HB hb
      skip
      (try clear hb)
      (try clear H3)
      (try clear hk)
      (try clear hi)
      refine hK.out _ _ ⟨(blk_cell p5.out 0).trans rfl, (blk_cell F7.out 0).trans rfl, (xcl HB ag7), (xcl HB ag6), (xcl HB ag5), (xcl HB ag4), (xcl HB ah5), (xcl HB ah4), (xcl HB ah3), (xcl HB ah2), (xcl HB at6), (xcl HB at5), (xcl HB at1), (xcl HB at0), (xcl HB au8), (xcl HB au7), (xcl HB au6), (xcl HB au5)⟩ (fun hHeld => ?_)
      clear hK K
      refine norm_ (a' := ?_) ?_ ?_
      rotate_left
      · show Act.put _ (some 46) _ = _
        simp only [Act.put, List.setIfInBounds_toArray, List.set_cons_zero, List.set_cons_succ, i64_w, i32_w]
        rfl
      refine pu 27 47 Z29 HT_ rfl rfl (h := ?_)
      refine pu 28 48 Z30 HT_ rfl rfl (h := ?_)
      refine done_ (done_of HT_.out (by kernel_rfl)) ?_
      try go_wp2
      go_ret
      exact ⟨xre, xq HB⟩
    subst c14
    have H1 : (b0.l0 k1 (wrap64 (d9 + 1)) b1 n0) = some r := by rw [if_pos rfl] at H; exact H
    clear H
    have H := H1
    clear H1
    have H' := aZ H
    clear H
    have bt0 := U8.out
    have bt1 := U9.out
    have ao2 : wr.cell? ⟨ak4, 0, none⟩ = some (.slice k9 b1.length j9) := (blk_cell p5.out 0).trans rfl
    have ao3 := blk_frozen p5.out 0
    try go_wp2
    replace p5 := aZ (bD p5.out)
    replace F7 := aZ (bD F7.out)
    replace HB := aZ (lD HB.out)
    have aH1 : 0 ≤ (d9 : Int) := of_decide_eq_true xas
    have aH2 : d9 < (b1.length : Int) := of_decide_eq_true xas
    obtain ⟨p6, ag0, ag1, ag2, ag3, bz0, J2, J3, E3, E4, aa6, aa7, aa8, aa9⟩ := l8 m8.out d9 aH1 aH2
    have ag4 := E4
    have ag5 := E3
    have ag6 := J3
    have ag7 := J2
    cases bz0
    replace J2 := xcl HB J2
    replace J3 := xcl HB J3
    replace E3 := xcl HB E3
    replace E4 := xcl HB E4
    have as2 := aZ aa7
    have bo4 := aZ aa6
    clear aa7 aa6
    have as3 := aZ aa9
    have bo5 := aZ aa8
    clear aa9 aa8
    replace aH1 := eq_true aH1
    replace aH2 := eq_true aH2
    have aH3 : 0 ≤ (d9 : Int) := of_decide_eq_true xas
    have aH4 : d9 < (n0.length : Int) := of_decide_eq_true xas
    obtain ⟨p7, ag8, ag9, ah0, ah1, bz1, J4, J5, E5, E6, ab0, ab1, ab2, ab3⟩ := l8 aW9.out d9 aH3 aH4
    have ah2 := E6
    have ah3 := E5
    have ah4 := J5
    have ah5 := J4
    cases bz1
    replace J4 := xcl HB J4
    replace J5 := xcl HB J5
    replace E5 := xcl HB E5
    replace E6 := xcl HB E6
    have as4 := aZ ab1
    have bo6 := aZ ab0
    clear ab1 ab0
    have as5 := aZ ab3
    have bo7 := aZ ab2
    clear ab3 ab2
    replace aH3 := eq_true aH3
    replace aH4 := eq_true aH4
    have ba9 : 0 ≤ (d9 : Int) := of_decide_eq_true xas
    have bb4 : d9 < (b1.length : Int) := of_decide_eq_true xas
    obtain ⟨bz2, ci3, ci4, ci5, ci6, ci7, X5, X6, S4, S5, as6, as7, as8, as9⟩ := l8 m8.out d9 ba9 bb4
    have at0 := S5
    have at1 := S4
    have at5 := X6
    have at6 := X5
    obtain rfl : p6 = bz2 := (by injection ci7)
    replace X5 := xcl HB X5
    replace X6 := xcl HB X6
    replace S4 := xcl HB S4
    replace S5 := xcl HB S5
    have at7 := aZ as7
    have aQ2 := aZ as6
    clear as7 as6
    have au0 := aZ as9
    have aQ3 := aZ as8
    clear as9 as8
    replace ba9 := eq_true ba9
    replace bb4 := eq_true bb4
    have ea_ := Option.some.inj (E3.symm.trans S4)
    injection ea_ with ea_ en_ ec_
    subst ea_
    subst ec_
    clear en_
    have ea_ := Option.some.inj (E4.symm.trans S5)
    injection ea_ with ea_ en_ ec_
    subst ea_
    subst ec_
    clear en_
    have bb5 : 0 ≤ (d9 : Int) := of_decide_eq_true xas
    have bb6 : d9 < (n0.length : Int) := of_decide_eq_true xas
    obtain ⟨bz3, ci8, ci9, cj0, cj1, cj2, X7, X8, S6, S7, au1, au2, au3, au4⟩ := l8 aW9.out d9 bb5 bb6
    have au5 := S7
    have au6 := S6
    have au7 := X8
    have au8 := X7
    obtain rfl : p7 = bz3 := (by injection cj2)
    replace X7 := xcl HB X7
    replace X8 := xcl HB X8
    replace S6 := xcl HB S6
    replace S7 := xcl HB S7
    have au9 := aZ au2
    have aQ4 := aZ au1
    clear au2 au1
    have av0 := aZ au4
    have aQ5 := aZ au3
    clear au4 au3
    replace bb5 := eq_true bb5
    replace bb6 := eq_true bb6
    have ea_ := Option.some.inj (E5.symm.trans S6)
    injection ea_ with ea_ en_ ec_
    subst ea_
    subst ec_
    clear en_
    have ea_ := Option.some.inj (E6.symm.trans S7)
    injection ea_ with ea_ en_ ec_
    subst ea_
    subst ec_
    clear en_
    refine start_ (n := 29) (S := fun w' => w'.cell? ⟨ak4, 0, none⟩ = some (.slice (some p6) b1.length j9) ∧ w'.cell? ⟨aH0, 0, none⟩ = some (.slice (some p7) n0.length aI4) ∧ w'.cell? (p6.add ((d9).toNat * 4)) = some (.int .i64 ((a7 b1 d9).f0)) ∧ w'.cell? ⟨(p6.add ((d9).toNat * 4)).block, (p6.add ((d9).toNat * 4)).off + 1, none⟩ = some (.int .i64 ((a7 b1 d9).f1.f0)) ∧ w'.cell? ⟨(p6.add ((d9).toNat * 4)).block, (p6.add ((d9).toNat * 4)).off + 2, none⟩ = some (.slice ag0 ((a7 b1 d9).f1.f1).length ag1) ∧ w'.cell? ⟨(p6.add ((d9).toNat * 4)).block, (p6.add ((d9).toNat * 4)).off + 3, none⟩ = some (.slice ag2 ((a7 b1 d9).f1.f2).length ag3) ∧ w'.cell? (p7.add ((d9).toNat * 4)) = some (.int .i64 ((a7 n0 d9).f0)) ∧ w'.cell? ⟨(p7.add ((d9).toNat * 4)).block, (p7.add ((d9).toNat * 4)).off + 1, none⟩ = some (.int .i64 ((a7 n0 d9).f1.f0)) ∧ w'.cell? ⟨(p7.add ((d9).toNat * 4)).block, (p7.add ((d9).toNat * 4)).off + 2, none⟩ = some (.slice ag8 ((a7 n0 d9).f1.f1).length ag9) ∧ w'.cell? ⟨(p7.add ((d9).toNat * 4)).block, (p7.add ((d9).toNat * 4)).off + 3, none⟩ = some (.slice ah0 ((a7 n0 d9).f1.f2).length ah1) ∧ w'.cell? (p6.add ((d9).toNat * 4)) = some (.int .i64 ((a7 b1 d9).f0)) ∧ w'.cell? ⟨(p6.add ((d9).toNat * 4)).block, (p6.add ((d9).toNat * 4)).off + 1, none⟩ = some (.int .i64 ((a7 b1 d9).f1.f0)) ∧ w'.cell? ⟨(p6.add ((d9).toNat * 4)).block, (p6.add ((d9).toNat * 4)).off + 2, none⟩ = some (.slice ag0 ((a7 b1 d9).f1.f1).length ag1) ∧ w'.cell? ⟨(p6.add ((d9).toNat * 4)).block, (p6.add ((d9).toNat * 4)).off + 3, none⟩ = some (.slice ag2 ((a7 b1 d9).f1.f2).length ag3) ∧ w'.cell? (p7.add ((d9).toNat * 4)) = some (.int .i64 ((a7 n0 d9).f0)) ∧ w'.cell? ⟨(p7.add ((d9).toNat * 4)).block, (p7.add ((d9).toNat * 4)).off + 1, none⟩ = some (.int .i64 ((a7 n0 d9).f1.f0)) ∧ w'.cell? ⟨(p7.add ((d9).toNat * 4)).block, (p7.add ((d9).toNat * 4)).off + 2, none⟩ = some (.slice ag8 ((a7 n0 d9).f1.f1).length ag9) ∧ w'.cell? ⟨(p7.add ((d9).toNat * 4)).block, (p7.add ((d9).toNat * 4)).off + 3, none⟩ = some (.slice ah0 ((a7 n0 d9).f1.f2).length ah1)) (ds := []) Z1 (by kernel_rfl) rfl rfl ⟨(blk_cell p5.out 0).trans rfl, (blk_cell F7.out 0).trans rfl, (xcl HB ag7), (xcl HB ag6), (xcl HB ag5), (xcl HB ag4), (xcl HB ah5), (xcl HB ah4), (xcl HB ah3), (xcl HB ah2), (xcl HB at6), (xcl HB at5), (xcl HB at1), (xcl HB at0), (xcl HB au8), (xcl HB au7), (xcl HB au6), (xcl HB au5)⟩ (fun hHeld => ?_); refine with_tabW b0.tab6 b0.bits6 (fun HT_ HW_ => ?_)
    generalize wr.drew = w17 at p5 F7 HB as2 as3 as4 as5 at7 au0 au9 av0 J2 J3 E3 E4 J4 J5 E5 E6 X5 X6 S4 S5 X7 X8 S6 S7 hHeld ⊢
    refine pu 0 20 Z2 HT_ rfl rfl (h := ?_)
    refine pu 2 22 Z3 HT_ rfl rfl (h := ?_)
    refine pu 6 26 Z4 HT_ rfl rfl (h := ?_)
    refine pu 8 28 Z5 HT_ rfl rfl (h := ?_)
    refine tk 1 21 Z6 HT_ HW_ rfl rfl hHeld (by rintro w' ⟨s0, s1, s2, s3, s4, s5, s6, s7, s8, s9, s10, s11, s12, s13, s14, s15, s16, s17⟩; go_simp; with_reducible rfl) (h := ?_)
    refine pu 3 23 Z7 HT_ rfl rfl (h := ?_)
    refine pu 4 24 Z8 HT_ rfl rfl (h := ?_)
    refine tk 5 25 Z9 HT_ HW_ rfl rfl hHeld (by rintro w' ⟨s0, s1, s2, s3, s4, s5, s6, s7, s8, s9, s10, s11, s12, s13, s14, s15, s16, s17⟩; go_simp; with_reducible rfl) (h := ?_)
    refine tk 7 27 Z10 HT_ HW_ rfl rfl hHeld (by rintro w' ⟨s0, s1, s2, s3, s4, s5, s6, s7, s8, s9, s10, s11, s12, s13, s14, s15, s16, s17⟩; go_simp; with_reducible rfl) (h := ?_)
    refine pu 9 29 Z11 HT_ rfl rfl (h := ?_)
    refine pu 10 30 Z12 HT_ rfl rfl (h := ?_)
    refine tk 11 31 Z13 HT_ HW_ rfl rfl hHeld (by rintro w' ⟨s0, s1, s2, s3, s4, s5, s6, s7, s8, s9, s10, s11, s12, s13, s14, s15, s16, s17⟩; go_simp; with_reducible rfl) (h := ?_)
    refine pu 12 32 Z14 HT_ rfl rfl (h := ?_)
    refine pu 13 33 Z15 HT_ rfl rfl (h := ?_)
    refine pu 14 34 Z16 HT_ rfl rfl (h := ?_)
    refine pu 16 36 Z17 HT_ rfl rfl (h := ?_)
    refine pu 20 40 Z18 HT_ rfl rfl (h := ?_)
    refine pu 22 42 Z19 HT_ rfl rfl (h := ?_)
    refine tk 15 35 Z20 HT_ HW_ rfl rfl hHeld (by rintro w' ⟨s0, s1, s2, s3, s4, s5, s6, s7, s8, s9, s10, s11, s12, s13, s14, s15, s16, s17⟩; go_simp; with_reducible rfl) (h := ?_)
    refine pu 17 37 Z21 HT_ rfl rfl (h := ?_)
    refine pu 18 38 Z22 HT_ rfl rfl (h := ?_)
    refine tk 19 39 Z23 HT_ HW_ rfl rfl hHeld (by rintro w' ⟨s0, s1, s2, s3, s4, s5, s6, s7, s8, s9, s10, s11, s12, s13, s14, s15, s16, s17⟩; go_simp; with_reducible rfl) (h := ?_)
    refine tk 21 41 Z24 HT_ HW_ rfl rfl hHeld (by rintro w' ⟨s0, s1, s2, s3, s4, s5, s6, s7, s8, s9, s10, s11, s12, s13, s14, s15, s16, s17⟩; go_simp; with_reducible rfl) (h := ?_)
    refine pu 23 43 Z25 HT_ rfl rfl (h := ?_)
    refine pu 24 44 Z26 HT_ rfl rfl (h := ?_)
    refine tk 25 45 Z27 HT_ HW_ rfl rfl hHeld (by rintro w' ⟨s0, s1, s2, s3, s4, s5, s6, s7, s8, s9, s10, s11, s12, s13, s14, s15, s16, s17⟩; go_simp; with_reducible rfl) (h := ?_)
    refine one_ (i := 26) (N := some 46) Z28 rfl rfl (one_of HT_.out (by kernel_rfl)) (by decide) (fun K hK => ?_)
    refine goes_ Try.func24 (by kernel_rfl) rfl #[.agg #[.int .i64 ((a7 b1 d9).f1.f0), .slice ag0 ((a7 b1 d9).f1.f1).length ag1, .slice ag2 ((a7 b1 d9).f1.f2).length ag3], .agg #[.int .i64 ((a7 n0 d9).f1.f0), .slice ag8 ((a7 n0 d9).f1.f1).length ag9, .slice ah0 ((a7 n0 d9).f1.f2).length ah1]] (by rfl) rfl rfl xmp ?_
    with_reducible refine (f7.calls k1 ((a7 b1 d9).f1.f0) _ _ ((a7 b1 d9).f1.f1) _ _ ((a7 b1 d9).f1.f2) ((a7 n0 d9).f1.f0) _ _ ((a7 n0 d9).f1.f1) _ _ ((a7 n0 d9).f1.f2) true _ ?side1 ?side2 ?side3 ?side4 ?side5 ?side6 ?side7 ?side8 A13.out).mono ?_
    (case side1 => exact xcb at7 HB)
    (case side2 => exact aQ2.out)
    (case side3 => exact xcb au0 HB)
    (case side4 => exact aQ3.out)
    (case side5 => exact xcb au9 HB)
    (case side6 => exact aQ4.out)
    (case side7 => exact xcb av0 HB)
    (case side8 => exact aQ5.out)
    rintro e w18 ⟨rfl, hb⟩
    refine ⟨_, rfl, ?_⟩
    replace p5 := xbb p5 hb
    replace F7 := xbb F7 hb
    replace HB := xhl HB hb
    skip
    (try clear hb)
    (try clear H3)
    (try clear hk)
    (try clear hi)
    refine hK.out _ _ ⟨(blk_cell p5.out 0).trans rfl, (blk_cell F7.out 0).trans rfl, (xcl HB ag7), (xcl HB ag6), (xcl HB ag5), (xcl HB ag4), (xcl HB ah5), (xcl HB ah4), (xcl HB ah3), (xcl HB ah2), (xcl HB at6), (xcl HB at5), (xcl HB at1), (xcl HB at0), (xcl HB au8), (xcl HB au7), (xcl HB au6), (xcl HB au5)⟩ (fun hHeld => ?_)
    clear hK K
    refine norm_ (a' := ?_) ?_ ?_
    rotate_left
    · show Act.put _ (some 46) _ = _
      simp only [Act.put, List.setIfInBounds_toArray, List.set_cons_zero, List.set_cons_succ, i64_w, i32_w]
      rfl
    refine pu 27 47 Z29 HT_ rfl rfl (h := ?_)
    refine pu 28 48 Z30 HT_ rfl rfl (h := ?_)
    refine done_ (done_of HT_.out (by kernel_rfl)) ?_
    try go_wp2
    go_roundg k1
    case measure => have := S8.out; omega
    case rel => exact ⟨(wrap64 (d9 + 1)), xrs, H', ⟨by have := S8.out; omega⟩, xk p5, xk F7, xb HB⟩
def t7.f (d8 : Int) (bw2 : Int) (e0 : List Int) (aU6 : List Int) (a1 : Int) : Option (Int) := some (wrap64 (d8 - a1))
set_option maxHeartbeats 8000000 in
set_option maxRecDepth 100000 in
theorem t7.calls (d8 : Int) (bw2 : Int) (i1 : Option Addr) (i3 : Nat) (e0 : List Int) (bG8 : Option Addr) (bG9 : Nat) (aU6 : List Int) (a1 : Int) (r : Int) (w : World) (D9 : Kd.C (Kd.int .i64) w i1 e0.length e0) (E0 : e0.length ≤ i3) (bV4 : Kd.C (Kd.int .u8) w bG8 aU6.length aU6) (bV5 : aU6.length ≤ bG9) (h : t7.f d8 bw2 e0 aU6 a1 = some r) :
  Calls Try.prog 58 #[.agg #[.int .i64 d8, .int .i64 bw2, .slice i1 e0.length i3, .slice bG8 aU6.length bG9], .int .i64 a1] w fun e w' => e = .returned (.int .i64 r) ∧ Below w.heap.size w w' := by
  have bE9 := Try.underlying46
  have G3 := aZ D9
  have N5 := aZ E0
  clear D9 E0
  have dN5 := aZ bV4
  have dN6 := aZ bV5
  clear bV4 bV5
  have HB := aZ (Below.refl w.heap.size w)
  have H : (some (wrap64 (d8 - a1))) = some r := h
  clear h
  obtain rfl := Option.some.inj H
  go_enter Try.func58, Try.ntmps58
  go_wp2_with (first | ((with_reducible refine gate_dst (N := 2) rfl ?_); refine box_event ?hg (N := 2) ?hd (cs := #[.int .i64 d8, .int .i64 bw2, .slice i1 e0.length i3, .slice bG8 aU6.length bG9]) (t := 46) ?hr ?_; (case hd => rfl); (case hg => rfl); (case hr => first | (go_simp; done) | (go_simp; rfl)); intro bj2 hg w3 hbox hb; have az9 := aZ (hbox); have dN7 := xgh hg HB; have dN8 := xgh hg HB; replace HB := xhl HB hb; clear hb hbox hg; have bs5 : w3.cell? ⟨bj2, 0, none⟩ = some (.int .i64 d8) := (blk_cell az9.out 0).trans rfl; have bs6 : w3.cell? ⟨bj2, 1, none⟩ = some (.int .i64 bw2) := (blk_cell az9.out 1).trans rfl; have dq3 : w3.cell? ⟨bj2, 2, none⟩ = some (.slice i1 e0.length i3) := (blk_cell az9.out 2).trans rfl; have dq4 : w3.cell? ⟨bj2, 3, none⟩ = some (.slice bG8 aU6.length bG9) := (blk_cell az9.out 3).trans rfl; have bs7 := blk_frozen az9.out 0; have bs8 := blk_frozen az9.out 1; have dq5 := blk_frozen az9.out 2; have dq6 := blk_frozen az9.out 3))
  go_ret
  exact ⟨xre, xq HB⟩
def api_StoredObject_int.l0 : Nat → List (r9) → Int → Int → Int → Int → Option (Int × Bool)
  | 0, _, _, _, _, _ => none
  | k + 1, x0, x1, x8, x9, x10 => if x9 < x10 then (if 0 ≤ (wrap64 ((IntKind.u64.wrap (wrap64 (x9 + x10))) / 2)) then (if (wrap64 ((IntKind.u64.wrap (wrap64 (x9 + x10))) / 2)) < (x0.length : Int) then ((t7.f ((a7 x0 (wrap64 ((IntKind.u64.wrap (wrap64 (x9 + x10))) / 2))).f0) ((a7 x0 (wrap64 ((IntKind.u64.wrap (wrap64 (x9 + x10))) / 2))).f1.f0) ((a7 x0 (wrap64 ((IntKind.u64.wrap (wrap64 (x9 + x10))) / 2))).f1.f1) ((a7 x0 (wrap64 ((IntKind.u64.wrap (wrap64 (x9 + x10))) / 2))).f1.f2) x1).bind fun aI1 => (if aI1 < 0 then (api_StoredObject_int.l0 k x0 x1 x8 (wrap64 ((wrap64 ((IntKind.u64.wrap (wrap64 (x9 + x10))) / 2)) + 1)) x10) else (api_StoredObject_int.l0 k x0 x1 x8 x9 (wrap64 ((IntKind.u64.wrap (wrap64 (x9 + x10))) / 2))))) else (none)) else (none)) else (if x9 < x8 then (if 0 ≤ x9 then (if x9 < (x0.length : Int) then ((t7.f ((a7 x0 x9).f0) ((a7 x0 x9).f1.f0) ((a7 x0 x9).f1.f1) ((a7 x0 x9).f1.f2) x1).bind fun bH0 => (some (x9, (bH0 == 0)))) else (none)) else (none)) else (some (x9, false)))
def api_StoredObject_int.f (k : Nat) (l0 : List (r9)) (a1 : Int) : Option (Int × Bool) := api_StoredObject_int.l0 k l0 a1 (l0.length : Int) 0 (l0.length : Int)
theorem api_StoredObject_int.mono_l : ∀ k, (∀ y0 y1 y2 y3 y4, LeO (api_StoredObject_int.l0 k y0 y1 y2 y3 y4) (api_StoredObject_int.l0 (k + 1) y0 y1 y2 y3 y4))
  | 0 => fun _ _ _ _ _ r h => by simp [api_StoredObject_int.l0] at h
  | k + 1 => by
    have t6 := api_StoredObject_int.mono_l k
    · intro y0 y1 y2 y3 y4
      unfold api_StoredObject_int.l0
      repeat' first | (with_reducible first | exact t6 _ _ _ _ _ | exact LeO.refl _ | exact LeO.none _ | refine LeO.ite ?_ ?_ | refine LeO.bind ?_ (fun _ => ?_)) | exact t6 _ _ _ _ _ | exact LeO.none _ | refine LeO.ite ?_ ?_ | refine LeO.bind ?_ (fun _ => ?_)
theorem api_StoredObject_int.mono : ∀ a0 a1 k, LeO (api_StoredObject_int.f k a0 a1) (api_StoredObject_int.f (k + 1) a0 a1) := by
  intro a0 a1 k
  have t6 := api_StoredObject_int.mono_l k
  unfold api_StoredObject_int.f
  repeat' first | (with_reducible first | exact t6 _ _ _ _ _ | exact LeO.refl _ | exact LeO.none _ | refine LeO.ite ?_ ?_ | refine LeO.bind ?_ (fun _ => ?_)) | exact t6 _ _ _ _ _ | exact LeO.none _ | refine LeO.ite ?_ ?_ | refine LeO.bind ?_ (fun _ => ?_)
set_option maxHeartbeats 8000000 in
set_option maxRecDepth 100000 in
theorem api_StoredObject_int.calls (k : Nat) (A0 : Option Addr) (c0 : Nat) (l0 : List (r9)) (a1 : Int) (r1 : Int) (r2 : Bool) (w : World) (hr0 : Kd.C k46 w A0 l0.length l0) (hc0 : l0.length ≤ c0) (h : api_StoredObject_int.f k l0 a1 = some (r1, r2)) :
  Calls Try.prog 57 #[.slice A0 l0.length c0, .int .i64 a1, .func (.func 58) #[] #[]] w fun e w' => e = .returned (.tuple #[.int .i64 r1, .bool r2]) ∧ Below w.heap.size w w' := by
  have bE9 := Try.underlying46
  have HR0 := aZ hr0
  have HC0 := aZ hc0
  clear hr0 hc0
  have HB := aZ (Below.refl w.heap.size w)
  have H : (api_StoredObject_int.l0 k l0 a1 (l0.length : Int) 0 (l0.length : Int)) = some (r1, r2) := h
  clear h
  have H' := aZ H
  clear H
  go_enter Try.func57, Try.ntmps57
  go_wp2
  go_loopg [9, 10] k (fun kq v9 v10 w' => ∃ (V1 : Int) (g9 : Int), v9 = .int .i64 V1 ∧ v10 = .int .i64 g9 ∧ Aside0 (api_StoredObject_int.l0 kq l0 a1 (l0.length : Int) V1 g9 = some (r1, r2)) ∧ Aside0 (kq ≤ k) ∧ Aside0 (Below w.heap.size w w'))
  case atStart => exact ⟨(0), ((l0.length : Int)), xrs, xrs, H', ⟨Nat.le_refl _⟩, xb HB⟩
  case round =>
   clear H'
   obtain ⟨V1, g9, rfl, rfl, HA, S8, HB⟩ := hrel
   cases gk with
   | zero => exact absurd HA.out (by simp [api_StoredObject_int.l0])
   | succ k1 =>
    have H := HA.out
    clear HA
    simp only [api_StoredObject_int.l0] at H
    by_cases c3 : V1 < g9
    rotate_left
    · rw [if_neg c3] at H
      have ae4 : decide (V1 < g9) = false := decide_eq_false c3
      clear c3
      by_cases c11 : V1 < (l0.length : Int)
      rotate_left
      · rw [if_neg c11] at H
        have aI8 : decide (V1 < (l0.length : Int)) = false := decide_eq_false c11
        clear c11
        simp only [Option.some.injEq, Prod.mk.injEq] at H
        obtain ⟨rfl, rfl⟩ := H
        go_wp2
        go_ret2
        exact ⟨xre, xq HB⟩

      rw [if_pos c11] at H
      have aI8 : decide (V1 < (l0.length : Int)) = true := decide_eq_true c11
      clear c11
      by_cases c12 : 0 ≤ V1
      rotate_left
      · rw [if_neg c12] at H
        exact absurd H (by simp)
      rw [if_pos c12] at H
      have aU4 : decide (0 ≤ V1) = true := decide_eq_true c12
      clear c12
      by_cases c13 : V1 < (l0.length : Int)
      rotate_left
      · rw [if_neg c13] at H
        exact absurd H (by simp)
      rw [if_pos c13] at H
      have bh2 : decide (V1 < (l0.length : Int)) = true := decide_eq_true c13
      clear c13
      replace H := Option.bind_eq_some_iff.mp H
      obtain ⟨bH0, bu5, H⟩ := H
      replace H : (some (V1, (bH0 == 0))) = some (r1, r2) := H
      have A14 := aZ bu5
      clear bu5
      simp only [Option.some.injEq, Prod.mk.injEq] at H
      obtain ⟨rfl, rfl⟩ := H
      have cd7 : 0 ≤ (V1 : Int) := of_decide_eq_true xas
      have cd8 : V1 < (l0.length : Int) := of_decide_eq_true xas
      obtain ⟨dN9, dq8, dq9, dr0, dr1, dr2, bj3, bj4, bj5, bj6, bj7, bj8, bj9, bk0⟩ := l8 HR0.out V1 cd7 cd8
      cases dr2
      replace bj3 := xcl HB bj3
      replace bj4 := xcl HB bj4
      replace bj5 := xcl HB bj5
      replace bj6 := xcl HB bj6
      have bH1 := aZ bj8
      have bH2 := aZ bj7
      clear bj8 bj7
      have bH3 := aZ bk0
      have bH4 := aZ bj9
      clear bk0 bj9
      replace cd7 := eq_true cd7
      replace cd8 := eq_true cd8
      go_wp2_with (first | (go_at_call 58; (with_reducible refine (t7.calls ((a7 l0 V1).f0) ((a7 l0 V1).f1.f0) _ _ ((a7 l0 V1).f1.f1) _ _ ((a7 l0 V1).f1.f2) a1 bH0 _ ?side1 ?side2 ?side3 ?side4 A14.out).mono ?_); (case side1 => exact xcb bH1 HB); (case side2 => exact bH2.out); (case side3 => exact xcb bH3 HB); (case side4 => exact bH4.out); rintro e w15 ⟨rfl, hb⟩; replace HB := xhl HB hb; skip; (try clear hb); (try clear H3); (try clear hk); (try clear hi)))
      go_ret2
      exact ⟨xre, xq HB⟩
    rw [if_pos c3] at H
    have ae4 : decide (V1 < g9) = true := decide_eq_true c3
    clear c3
    obtain ⟨ji4, bw3⟩ : ∃ j_ : Int, (wrap64 ((IntKind.u64.wrap (wrap64 (V1 + g9))) / 2)) = j_ := ⟨_, rfl⟩
    replace H : (if 0 ≤ (ji4) then (if (ji4) < (l0.length : Int) then ((t7.f ((a7 l0 (ji4)).f0) ((a7 l0 (ji4)).f1.f0) ((a7 l0 (ji4)).f1.f1) ((a7 l0 (ji4)).f1.f2) a1).bind fun aI1 => (if aI1 < 0 then (api_StoredObject_int.l0 k1 l0 a1 (l0.length : Int) (wrap64 ((ji4) + 1)) g9) else (api_StoredObject_int.l0 k1 l0 a1 (l0.length : Int) V1 ji4))) else (none)) else (none)) = some (r1, r2) := by first | (rw [bw3] at H; exact H) | (simp only [bw3] at H ⊢; exact H)
    have dO0 : (IntKind.i64.wrap ((IntKind.u64.wrap (wrap64 (V1 + g9))) / 2)) = ji4 := (i64_w _).trans bw3
    by_cases c5 : 0 ≤ (ji4)
    rotate_left
    · rw [if_neg c5] at H
      exact absurd H (by simp)
    rw [if_pos c5] at H
    have aK8 : decide (0 ≤ (ji4)) = true := decide_eq_true c5
    clear c5
    by_cases c6 : (ji4) < (l0.length : Int)
    rotate_left
    · rw [if_neg c6] at H
      exact absurd H (by simp)
    rw [if_pos c6] at H
    have Y9 : decide ((ji4) < (l0.length : Int)) = true := decide_eq_true c6
    clear c6
    replace H := Option.bind_eq_some_iff.mp H
    obtain ⟨aI1, A70, H⟩ := H
    replace H : (if aI1 < 0 then (api_StoredObject_int.l0 k1 l0 a1 (l0.length : Int) (wrap64 ((ji4) + 1)) g9) else (api_StoredObject_int.l0 k1 l0 a1 (l0.length : Int) V1 ji4)) = some (r1, r2) := H
    have A7 := aZ A70
    clear A70
    by_cases c8 : aI1 < 0
    rotate_left
    · rw [if_neg c8] at H
      have bs9 : decide (aI1 < 0) = false := decide_eq_false c8
      clear c8
      have H' := aZ H
      clear H
      have aY1 : 0 ≤ ((ji4) : Int) := of_decide_eq_true xas
      have aY2 : (ji4) < (l0.length : Int) := of_decide_eq_true xas
      obtain ⟨cu9, cd9, ce0, ce1, ce2, ce3, ap7, ap8, ap9, aq0, aq1, aq2, aq3, aq4⟩ := l8 HR0.out (ji4) aY1 aY2
      cases ce3
      replace ap7 := xcl HB ap7
      replace ap8 := xcl HB ap8
      replace ap9 := xcl HB ap9
      replace aq0 := xcl HB aq0
      have aN6 := aZ aq2
      have aN7 := aZ aq1
      clear aq2 aq1
      have aN8 := aZ aq4
      have aN9 := aZ aq3
      clear aq4 aq3
      replace aY1 := eq_true aY1
      replace aY2 := eq_true aY2
      go_wp2_with (first | (go_at_call 58; (with_reducible refine (t7.calls ((a7 l0 (ji4)).f0) ((a7 l0 (ji4)).f1.f0) _ _ ((a7 l0 (ji4)).f1.f1) _ _ ((a7 l0 (ji4)).f1.f2) a1 aI1 _ ?side1 ?side2 ?side3 ?side4 A7.out).mono ?_); (case side1 => exact xcb aN6 HB); (case side2 => exact aN7.out); (case side3 => exact xcb aN8 HB); (case side4 => exact aN9.out); rintro e w10 ⟨rfl, hb⟩; replace HB := xhl HB hb; skip; (try clear hb); (try clear H3); (try clear hk); (try clear hi)))
      go_roundg k1
      case measure => have := S8.out; omega
      case rel => exact ⟨(V1), (ji4), xrs, (by first | rfl | (simp; done) | (simp only [← bw3] <;> (first | rfl | simp)) | (simp [*]; done)), H', ⟨by have := S8.out; omega⟩, xb HB⟩
    rw [if_pos c8] at H
    have bs9 : decide (aI1 < 0) = true := decide_eq_true c8
    clear c8
    have H' := aZ H
    clear H
    have aY1 : 0 ≤ ((ji4) : Int) := of_decide_eq_true xas
    have aY2 : (ji4) < (l0.length : Int) := of_decide_eq_true xas
    obtain ⟨cu9, cd9, ce0, ce1, ce2, ce3, ap7, ap8, ap9, aq0, aq1, aq2, aq3, aq4⟩ := l8 HR0.out (ji4) aY1 aY2
    cases ce3
    replace ap7 := xcl HB ap7
    replace ap8 := xcl HB ap8
    replace ap9 := xcl HB ap9
    replace aq0 := xcl HB aq0
    have aN6 := aZ aq2
    have aN7 := aZ aq1
    clear aq2 aq1
    have aN8 := aZ aq4
    have aN9 := aZ aq3
    clear aq4 aq3
    replace aY1 := eq_true aY1
    replace aY2 := eq_true aY2
    go_wp2_with (first | (go_at_call 58; (with_reducible refine (t7.calls ((a7 l0 (ji4)).f0) ((a7 l0 (ji4)).f1.f0) _ _ ((a7 l0 (ji4)).f1.f1) _ _ ((a7 l0 (ji4)).f1.f2) a1 aI1 _ ?side1 ?side2 ?side3 ?side4 A7.out).mono ?_); (case side1 => exact xcb aN6 HB); (case side2 => exact aN7.out); (case side3 => exact xcb aN8 HB); (case side4 => exact aN9.out); rintro e w9 ⟨rfl, hb⟩; replace HB := xhl HB hb; skip; (try clear hb); (try clear H3); (try clear hk); (try clear hi)))
    go_roundg k1
    case measure => have := S8.out; omega
    case rel => exact ⟨(wrap64 ((ji4) + 1)), (g9), (by first | rfl | (simp; done) | (simp only [← bw3] <;> (first | rfl | simp)) | (simp [*]; done)), xrs, H', ⟨by have := S8.out; omega⟩, xb HB⟩
def objects_find.f (k : Nat) (b1 : List (r9)) (a1 : Int) : Option (Int × Bool) := (api_StoredObject_int.f k b1 a1).bind fun aU7 => (some (aU7.1, aU7.2))
theorem objects_find.mono : ∀ a0 a1 k, LeO (objects_find.f k a0 a1) (objects_find.f (k + 1) a0 a1) := by
  intro a0 a1 k
  unfold objects_find.f
  repeat' first | (with_reducible first | exact api_StoredObject_int.mono _ _ _ | exact LeO.refl _ | exact LeO.none _ | refine LeO.ite ?_ ?_ | refine LeO.bind ?_ (fun _ => ?_)) | exact api_StoredObject_int.mono _ _ _ | exact LeO.none _ | refine LeO.ite ?_ ?_ | refine LeO.bind ?_ (fun _ => ?_)
set_option maxHeartbeats 8000000 in
set_option maxRecDepth 100000 in
theorem objects_find.calls (k : Nat) (k9 : Option Addr) (j9 : Nat) (b1 : List (r9)) (a1 : Int) (r1 : Int) (r2 : Bool) (w : World) (J9 : Kd.C k46 w k9 b1.length b1) (K0 : b1.length ≤ j9) (h : objects_find.f k b1 a1 = some (r1, r2)) :
  Calls Try.prog 48 #[.agg #[.slice k9 b1.length j9], .int .i64 a1] w fun e w' => e = .returned (.tuple #[.int .i64 r1, .bool r2]) ∧ Below w.heap.size w w' := by
  have aU3 := Try.underlying24
  have m8 := aZ J9
  have V4 := aZ K0
  clear J9 K0
  have HB := aZ (Below.refl w.heap.size w)
  have H : ((api_StoredObject_int.f k b1 a1).bind fun aU7 => (some (aU7.1, aU7.2))) = some (r1, r2) := h
  clear h
  replace H := Option.bind_eq_some_iff.mp H
  obtain ⟨⟨cv0, cv1⟩, A30, H⟩ := H
  replace H : (some (cv0, cv1)) = some (r1, r2) := H
  have A3 := aZ A30
  clear A30
  simp only [Option.some.injEq, Prod.mk.injEq] at H
  obtain ⟨rfl, rfl⟩ := H
  go_enter Try.func48, Try.ntmps48
  go_wp2_with (first | ((with_reducible refine gate_dst (N := 2) rfl ?_); refine box_event ?hg (N := 2) ?hd (cs := #[.slice k9 b1.length j9]) (t := 24) ?hr ?_; (case hd => rfl); (case hg => rfl); (case hr => first | (go_simp; done) | (go_simp; rfl)); intro cv2 hg w4 hbox hb; have bk3 := aZ (hbox); have dO1 := xgh hg HB; have dO2 := xgh hg HB; replace HB := xhl HB hb; clear hb hbox hg; have dr3 : w4.cell? ⟨cv2, 0, none⟩ = some (.slice k9 b1.length j9) := (blk_cell bk3.out 0).trans rfl; have dr4 := blk_frozen bk3.out 0) | ((with_reducible refine gate_callee (f := 57) rfl ?_); refine goesL_ (some 9) rfl rfl Try.func57 (by kernel_rfl) rfl #[.slice k9 b1.length j9, .int .i64 a1, .func (.func 58) #[] #[]] rfl xmp ?_; (with_reducible refine (api_StoredObject_int.calls k _ _ b1 a1 cv0 cv1 _ ?side1 ?side2 A3.out).mono ?_); (case side1 => exact xcb m8 HB); (case side2 => exact V4.out); rintro e w6 ⟨rfl, hb⟩; refine ⟨_, rfl, ?_⟩; replace bk3 := xbb bk3 hb; replace HB := xhl HB hb; skip; (try clear hb); (try clear H3); (try clear hk); (try clear hi)))
  go_ret2
  exact ⟨xre, xq HB⟩
def slices_Clone_int_int.f (l0 : List Int) : Option (List Int) := (some (([] : List Int) : List Int)).bind fun aG0 => (if aG0.length + l0.length < 17592186044416 then (some (aG0 ++ l0)) else (none))
set_option maxHeartbeats 8000000 in
set_option maxRecDepth 100000 in
theorem slices_Clone_int_int.calls (A0 : Option Addr) (c0 : Nat) (l0 : List Int) (r : List Int) (w : World) (hr0 : Kd.C (Kd.int .i64) w A0 l0.length l0) (hc0 : l0.length ≤ c0) (h : slices_Clone_int_int.f l0 = some r) :
  Calls Try.prog 63 #[.slice A0 l0.length c0] w fun e w' => ∃ v0_ : Value, e = .returned (v0_) ∧ Kd.R (Kd.int .i64) 3 w' w.heap.size (fun _ => True) v0_ r ∧ Below w.heap.size w w' := by
  by_cases hA_ : A0 = none
  · subst hA_
    have hl_ : l0 = [] := by
     rcases Nat.eq_zero_or_pos l0.length with h0_ | h0_
     · exact List.eq_nil_of_length_eq_zero h0_
     · obtain ⟨_, e_, _⟩ := hr0.2.2 h0_; cases e_
    subst hl_
    have hr_ : r = [] := by
     simp [slices_Clone_int_int.f] at h
     first | exact h | exact h.symm
    subst hr_
    clear h hr0 hc0
    have hq_ := fun (W : World) => Lib.run_eql_slice_nil (P := Try.prog) W 42 3 none 0 c0 0 0 Try.underlying42
    go_enter Try.func63, Try.ntmps63
    go_wp2
    go_ret
    exact ⟨_, rfl, Kd.R_nil _ _ _ _ _, Below.refl _ _⟩
  have hn_ : A0.isNone = false := by cases A0 <;> simp_all
  clear hA_
  have hq_ := fun (W : World) => Lib.run_eql_slice_nil (P := Try.prog) W 42 3 A0 l0.length c0 0 0 Try.underlying42
  have HR0 := aZ hr0
  have HC0 := aZ hc0
  clear hr0 hc0
  have HB := aZ (Below.refl w.heap.size w)
  have H : ((some (([] : List Int) : List Int)).bind fun aG0 => (if aG0.length + l0.length < 17592186044416 then (some (aG0 ++ l0)) else (none))) = some r := h
  clear h
  obtain ⟨aG0, aU8⟩ : ∃ y_ : List Int, y_ = (([] : List Int)) := ⟨_, rfl⟩
  replace H : (if aG0.length + l0.length < 17592186044416 then (some (aG0 ++ l0)) else (none)) = some r := by first | (rw [aU8]; with_reducible exact H) | (have P7 := (Option.bind_some _ _).symm.trans H; rw [aU8]; with_reducible exact P7) | (have P7 := (Option.bind_some _ _).symm.trans H; with_reducible exact P7) | with_reducible exact H | (rw [aU8]; exact H) | exact H
  have bV6 := aZ aU8
  clear aU8
  by_cases c2 : aG0.length + l0.length < 17592186044416
  rotate_left
  · rw [if_neg c2] at H
    exact absurd H (by simp)

  rw [if_pos c2] at H
  have ce5 := aZ c2
  clear c2
  obtain ⟨dr5, aU9⟩ : ∃ y_ : List Int, y_ = (aG0 ++ l0) := ⟨_, rfl⟩
  replace H : (some dr5) = some r := by first | (rw [aU9]; with_reducible exact H) | (have P7 := (Option.bind_some _ _).symm.trans H; rw [aU9]; with_reducible exact P7) | (have P7 := (Option.bind_some _ _).symm.trans H; with_reducible exact P7) | with_reducible exact H | (rw [aU9]; exact H) | exact H
  have cv3 := aZ aU9
  clear aU9
  obtain rfl := Option.some.inj H
  go_enter Try.func63, Try.ntmps63
  go_wp2_with (first | ((with_reducible refine gate_dst (N := 5) rfl ?_); refine Kd.R_lit (Kd.int .i64) _ 3 ?hg (N := 5) ?hd (xs := ([] : List Int)) (inner := []) (ok := fun _ => True) (okp := fun _ => True) ?hr ?hp (fun _ hk => hk) trivial (Below.refl _ _) (Nat.le_refl _) (by simp) ?_; (case hd => rfl); (case hg => rfl); (case hr => first | (go_simp; done) | (go_simp; rfl)); (case hp => exact (Reps.none _ _)); intro dr6 w3 ho4 hb hg_ hnew_; clear hg_ hnew_; (first | rw [← bV6.out] at ho4 | (simp only [Int.reduceToNat] at ho4; rw [← bV6.out] at ho4)); have bV7 := aZ (Kd.R_lower ho4 (lZ (by repeat (first | (with_reducible first | exact HB.out | apply lA | apply lN | apply lD) | exact HB.out)))); replace HB := xhl HB hb; clear hb ho4) | ((with_reducible refine gate_builtin (b := .append) (xs := #[.tmp 5, .tmp 6]) rfl ?_); at_builtin; refine Kd.R_append_rows (Kd.int .i64) (w0 := w) w.heap.size rfl (.tmp 5) (.tmp 6) 42 3 (.int .i64 0) 8 rfl Try.underlying42 info3 rfl (by decide) (by omega) dr6 aG0 l0 _ _ _ (fun _ => True) (fun _ => False) rfl rfl ?aO ?aR (fun _ _ h => h) (fun _ h => h.elim) ?aF ?aB ?aS ?aL ?_; (case aR => exact xcb HR0 HB); (case aB => exact (by repeat (first | (with_reducible first | exact HB.out | apply lA | apply lN | apply lD) | exact HB.out))); (case aF => exact (fun _ _ => trivial)); (case aO => exact (by (with_reducible repeat (first | apply Kd.rA | apply Kd.rN | apply Kd.rD)); exact bV7.out)); (case aS => exact (lZ (by repeat (first | (with_reducible first | exact HB.out | apply lA | apply lN | apply lD) | exact HB.out)))); (case aL => have := ce5.out; omega); intro d_3 w5 ho hb hg hat; rw [← cv3.out] at ho; replace HB := aZ (hb); have cv4 := aZ (ho); clear bV7; clear ho hb hg hat))
  go_ret
  exact ⟨_, xre, by (with_reducible repeat (first | apply Kd.rA | apply Kd.rN | apply Kd.rD)); exact cv4.out, xq HB⟩
def bytes_Clone.f (l0 : List Int) : Option (List Int) := (some (([] : List Int) : List Int)).bind fun aG1 => (if aG1.length + l0.length < 140737488355328 then (some (aG1 ++ l0)) else (none))
set_option maxHeartbeats 8000000 in
set_option maxRecDepth 100000 in
theorem bytes_Clone.calls (A0 : Option Addr) (c0 : Nat) (l0 : List Int) (r : List Int) (w : World) (hr0 : Kd.C (Kd.int .u8) w A0 l0.length l0) (hc0 : l0.length ≤ c0) (h : bytes_Clone.f l0 = some r) :
  Calls Try.prog 64 #[.slice A0 l0.length c0] w fun e w' => ∃ v0_ : Value, e = .returned (v0_) ∧ Kd.R (Kd.int .u8) 5 w' w.heap.size (fun _ => True) v0_ r ∧ Below w.heap.size w w' := by
  by_cases hA_ : A0 = none
  · subst hA_
    have hl_ : l0 = [] := by
     rcases Nat.eq_zero_or_pos l0.length with h0_ | h0_
     · exact List.eq_nil_of_length_eq_zero h0_
     · obtain ⟨_, e_, _⟩ := hr0.2.2 h0_; cases e_
    subst hl_
    have hr_ : r = [] := by
     simp [bytes_Clone.f] at h
     first | exact h | exact h.symm
    subst hr_
    clear h hr0 hc0
    have hq_ := fun (W : World) => Lib.run_eql_slice_nil (P := Try.prog) W 26 5 none 0 c0 0 0 Try.underlying26
    go_enter Try.func64, Try.ntmps64
    go_wp2
    go_ret
    exact ⟨_, rfl, Kd.R_nil _ _ _ _ _, Below.refl _ _⟩
  have hn_ : A0.isNone = false := by cases A0 <;> simp_all
  clear hA_
  have hq_ := fun (W : World) => Lib.run_eql_slice_nil (P := Try.prog) W 26 5 A0 l0.length c0 0 0 Try.underlying26
  have HR0 := aZ hr0
  have HC0 := aZ hc0
  clear hr0 hc0
  have HB := aZ (Below.refl w.heap.size w)
  have H : ((some (([] : List Int) : List Int)).bind fun aG1 => (if aG1.length + l0.length < 140737488355328 then (some (aG1 ++ l0)) else (none))) = some r := h
  clear h
  obtain ⟨aG1, aV0⟩ : ∃ y_ : List Int, y_ = (([] : List Int)) := ⟨_, rfl⟩
  replace H : (if aG1.length + l0.length < 140737488355328 then (some (aG1 ++ l0)) else (none)) = some r := by first | (rw [aV0]; with_reducible exact H) | (have P7 := (Option.bind_some _ _).symm.trans H; rw [aV0]; with_reducible exact P7) | (have P7 := (Option.bind_some _ _).symm.trans H; with_reducible exact P7) | with_reducible exact H | (rw [aV0]; exact H) | exact H
  have bV8 := aZ aV0
  clear aV0
  by_cases c2 : aG1.length + l0.length < 140737488355328
  rotate_left
  · rw [if_neg c2] at H
    exact absurd H (by simp)

  rw [if_pos c2] at H
  have ce5 := aZ c2
  clear c2
  obtain ⟨dr7, aV1⟩ : ∃ y_ : List Int, y_ = (aG1 ++ l0) := ⟨_, rfl⟩
  replace H : (some dr7) = some r := by first | (rw [aV1]; with_reducible exact H) | (have P7 := (Option.bind_some _ _).symm.trans H; rw [aV1]; with_reducible exact P7) | (have P7 := (Option.bind_some _ _).symm.trans H; with_reducible exact P7) | with_reducible exact H | (rw [aV1]; exact H) | exact H
  have cv5 := aZ aV1
  clear aV1
  obtain rfl := Option.some.inj H
  go_enter Try.func64, Try.ntmps64
  go_wp2_with (first | ((with_reducible refine gate_dst (N := 5) rfl ?_); refine Kd.R_lit (Kd.int .u8) _ 5 ?hg (N := 5) ?hd (xs := ([] : List Int)) (inner := []) (ok := fun _ => True) (okp := fun _ => True) ?hr ?hp (fun _ hk => hk) trivial (Below.refl _ _) (Nat.le_refl _) (by simp) ?_; (case hd => rfl); (case hg => rfl); (case hr => first | (go_simp; done) | (go_simp; rfl)); (case hp => exact (Reps.none _ _)); intro dr8 w3 ho4 hb hg_ hnew_; clear hg_ hnew_; (first | rw [← bV8.out] at ho4 | (simp only [Int.reduceToNat] at ho4; rw [← bV8.out] at ho4)); have bV9 := aZ (Kd.R_lower ho4 (lZ (by repeat (first | (with_reducible first | exact HB.out | apply lA | apply lN | apply lD) | exact HB.out)))); replace HB := xhl HB hb; clear hb ho4) | ((with_reducible refine gate_builtin (b := .append) (xs := #[.tmp 5, .tmp 6]) rfl ?_); at_builtin; refine Kd.R_append_rows (Kd.int .u8) (w0 := w) w.heap.size rfl (.tmp 5) (.tmp 6) 26 5 (.int .u8 0) 1 rfl Try.underlying26 aI5 rfl (by decide) (by omega) dr8 aG1 l0 _ _ _ (fun _ => True) (fun _ => False) rfl rfl ?aO ?aR (fun _ _ h => h) (fun _ h => h.elim) ?aF ?aB ?aS ?aL ?_; (case aR => exact xcb HR0 HB); (case aB => exact (by repeat (first | (with_reducible first | exact HB.out | apply lA | apply lN | apply lD) | exact HB.out))); (case aF => exact (fun _ _ => trivial)); (case aO => exact (by (with_reducible repeat (first | apply Kd.rA | apply Kd.rN | apply Kd.rD)); exact bV9.out)); (case aS => exact (lZ (by repeat (first | (with_reducible first | exact HB.out | apply lA | apply lN | apply lD) | exact HB.out)))); (case aL => have := ce5.out; omega); intro d_4 w5 ho hb hg hat; rw [← cv5.out] at ho; replace HB := aZ (hb); have cv6 := aZ (ho); clear bV9; clear ho hb hg hat))
  go_ret
  exact ⟨_, xre, by (with_reducible repeat (first | apply Kd.rA | apply Kd.rN | apply Kd.rD)); exact cv6.out, xq HB⟩
def objects_Clone.f (d8 : Int) (b9 : List Int) (e0 : List Int) : Option (Int × List Int × List Int) := (slices_Clone_int_int.f b9).bind fun aG2 => ((bytes_Clone.f e0).bind fun aG3 => (some (d8, aG2, aG3)))
def objects_Clone.T1 : Bool × List (List Nat × List Nat) := (true, [([], []), ([0], [0]), ([], []), ([2], [2]), ([3], [3]), ([], []), ([5], [5]), ([6, 4], [6]), ([1, 4, 7], [1, 4, 7]), ([8, 7, 0, 1, 2, 3, 4, 5, 6, 7, 8], [8])])
def objects_Clone.B1 : List Nat := [0, 1, 0, 4, 12, 0, 32, 124, 255, 511]
theorem objects_Clone.tab1 : rtab .any (opsOf Try.f51 1) = objects_Clone.T1 := by kernel_rfl
theorem objects_Clone.bits1 : waitsOk objects_Clone.T1.2 objects_Clone.B1 = true := by kernel_rfl
set_option maxHeartbeats 8000000 in
set_option maxRecDepth 100000 in
theorem objects_Clone.calls (d8 : Int) (i9 : Option Addr) (i5 : Nat) (b9 : List Int) (i1 : Option Addr) (i3 : Nat) (e0 : List Int) (r1 : Int) (r2 : List Int) (r3 : List Int) (w : World) (F9 : Kd.C (Kd.int .i64) w i9 b9.length b9) (G0 : b9.length ≤ i5) (D9 : Kd.C (Kd.int .u8) w i1 e0.length e0) (E0 : e0.length ≤ i3) (h : objects_Clone.f d8 b9 e0 = some (r1, r2, r3)) :
  Calls Try.prog 51 #[.agg #[.int .i64 d8, .slice i9 b9.length i5, .slice i1 e0.length i3]] w fun e w' => ∃ v1_ v2_ : Value, e = .returned (.agg #[.int .i64 r1, v1_, v2_]) ∧ Kd.R (Kd.int .i64) 3 w' w.heap.size (fun _ => True) v1_ r2 ∧ Kd.R (Kd.int .u8) 5 w' w.heap.size (fun _ => True) v2_ r3 ∧ Below w.heap.size w w' := by
  have aw1 := Try.underlying44
  have C4 := aZ F9
  have J6 := aZ G0
  clear F9 G0
  have G3 := aZ D9
  have N5 := aZ E0
  clear D9 E0
  have HB := aZ (Below.refl w.heap.size w)
  have H : ((slices_Clone_int_int.f b9).bind fun aG2 => ((bytes_Clone.f e0).bind fun aG3 => (some (d8, aG2, aG3)))) = some (r1, r2, r3) := h
  clear h
  replace H := Option.bind_eq_some_iff.mp H
  obtain ⟨aG2, A20, H⟩ := H
  replace H : ((bytes_Clone.f e0).bind fun aG3 => (some (d8, aG2, aG3))) = some (r1, r2, r3) := H
  have A2 := aZ A20
  clear A20
  replace H := Option.bind_eq_some_iff.mp H
  obtain ⟨aG3, A30, H⟩ := H
  replace H : (some (d8, aG2, aG3)) = some (r1, r2, r3) := H
  have A3 := aZ A30
  clear A30
  simp only [Option.some.injEq, Prod.mk.injEq] at H
  obtain ⟨rfl, rfl, rfl⟩ := H
  go_enter Try.func51, Try.ntmps51
  try go_wp2_with (first | ((with_reducible refine gate_dst (N := 1) rfl ?_); refine box_event ?hg (N := 1) ?hd (cs := #[.int .i64 d8, .slice i9 b9.length i5, .slice i1 e0.length i3]) (t := 44) ?hr ?_; (case hd => rfl); (case hg => rfl); (case hr => first | (go_simp; done) | (go_simp; rfl)); intro bw4 hg w4 hbox hb; have O9 := aZ (hbox); have dO5 := xgh hg HB; have bW0 := xgh hg HB; replace HB := xhl HB hb; clear hb hbox hg) | ((with_reducible refine gate_dst (N := 2) rfl ?_); refine box_event ?hg (N := 2) ?hd (cs := #[.int .i64 0, .slice none 0 0, .slice none 0 0]) (t := 44) ?hr ?_; (case hd => rfl); (case hg => rfl); (case hr => first | (go_simp; done) | (go_simp; rfl)); intro P8 hg w5 hbox hb; have V5 := aZ (hbox); have dO6 := xgh hg HB; have bW1 := xgh hg HB; replace HB := xhl HB hb; have D1 := xnl hg O9; have aw5 := xng hg O9; replace O9 := xbb O9 hb; clear hb hbox hg))
  replace O9 := aZ (bD O9.out)
  replace V5 := aZ (bD V5.out)
  replace HB := aZ (lD HB.out)
  refine start_ (n := 10) (S := fun w' => w'.cell? ⟨bw4, 0, none⟩ = some (.int .i64 d8) ∧ w'.cell? ⟨bw4, 1, none⟩ = some (.slice i9 b9.length i5) ∧ w'.cell? ⟨bw4, 2, none⟩ = some (.slice i1 e0.length i3)) (ds := []) #[false, false, false, false, false, false, false, false, false, false] (by kernel_rfl) rfl rfl ⟨(blk_cell O9.out 0).trans rfl, (blk_cell O9.out 1).trans rfl, (blk_cell O9.out 2).trans rfl⟩ (fun hHeld => ?_); refine with_tabW objects_Clone.tab1 objects_Clone.bits1 (fun HT_ HW_ => ?_)
  generalize w5.drew = w6 at O9 V5 HB hHeld ⊢
  refine pu 0 3 #[true, false, false, false, false, false, false, false, false, false] HT_ rfl rfl (h := ?_)
  refine pu 2 5 #[true, false, true, false, false, false, false, false, false, false] HT_ rfl rfl (h := ?_)
  refine pu 5 8 #[true, false, true, false, false, true, false, false, false, false] HT_ rfl rfl (h := ?_)
  refine tk 1 4 #[true, true, true, false, false, true, false, false, false, false] HT_ HW_ rfl rfl hHeld (by rintro w' ⟨s0, s1, s2⟩; go_simp; with_reducible rfl) (h := ?_)
  refine tk 3 6 #[true, true, true, true, false, true, false, false, false, false] HT_ HW_ rfl rfl hHeld (by rintro w' ⟨s0, s1, s2⟩; go_simp; with_reducible rfl) (h := ?_)
  refine tk 6 9 #[true, true, true, true, false, true, true, false, false, false] HT_ HW_ rfl rfl hHeld (by rintro w' ⟨s0, s1, s2⟩; go_simp; with_reducible rfl) (h := ?_)
  refine one_ (i := 4) (N := some 7) #[true, true, true, true, true, true, true, false, false, false] rfl rfl (one_of HT_.out (by kernel_rfl)) (by decide) (fun K hK => ?_)
  refine goes_ Try.func63 (by kernel_rfl) rfl #[.slice i9 b9.length i5] (by rfl) rfl rfl xmp ?_
  with_reducible refine (slices_Clone_int_int.calls _ _ b9 aG2 _ ?side1 ?side2 A2.out).mono ?_
  (case side1 => exact xcb C4 HB)
  (case side2 => exact J6.out)
  rintro e w7 ⟨d_5, rfl, ho0, hb⟩
  refine ⟨_, rfl, ?_⟩
  have bk4 := aZ (Kd.R_lower ho0 (lZ (by repeat (first | (with_reducible first | exact HB.out | apply lA | apply lN | apply lD | refine lS ?_ bW0.out | refine lS ?_ bW1.out) | exact HB.out))))
  replace O9 := xbb O9 hb
  replace V5 := xbb V5 hb
  replace HB := xhl HB hb
  (try clear hb)
  (try clear H3)
  (try clear hk)
  (try clear hi)
  (try clear ho0)
  refine hK.out _ _ ⟨(blk_cell O9.out 0).trans rfl, (blk_cell O9.out 1).trans rfl, (blk_cell O9.out 2).trans rfl⟩ (fun hHeld => ?_)
  clear hK K
  refine norm_ (a' := ?_) ?_ ?_
  rotate_left
  · show Act.put _ (some 7) _ = _
    simp only [Act.put, List.setIfInBounds_toArray, List.set_cons_zero, List.set_cons_succ, i64_w, i32_w]
    rfl
  refine one_ (i := 7) (N := some 10) #[true, true, true, true, true, true, true, true, false, false] rfl rfl (one_of HT_.out (by kernel_rfl)) (by decide) (fun K hK => ?_)
  refine goes_ Try.func64 (by kernel_rfl) rfl #[.slice i1 e0.length i3] (by rfl) rfl rfl xmp ?_
  with_reducible refine (bytes_Clone.calls _ _ e0 aG3 _ ?side1 ?side2 A3.out).mono ?_
  (case side1 => exact xcb G3 HB)
  (case side2 => exact N5.out)
  rintro e w8 ⟨d_6, rfl, ho0, hb⟩
  refine ⟨_, rfl, ?_⟩
  replace bk4 := xR bk4 hb
  have bW2 := aZ (Kd.R_lower ho0 (lZ (by repeat (first | (with_reducible first | exact HB.out | apply lA | apply lN | apply lD | refine lS ?_ bW0.out | refine lS ?_ bW1.out) | exact HB.out))))
  replace O9 := xbb O9 hb
  replace V5 := xbb V5 hb
  replace HB := xhl HB hb
  (try clear hb)
  (try clear H3)
  (try clear hk)
  (try clear hi)
  (try clear ho0)
  obtain ⟨Ao9, co9, eo9⟩ := Kd.R_slice bW2.out
  (first | subst eo9 | (injection eo9 with f1_ f2_ f3_; have f4_ := f1_.symm; have f5_ := f3_.symm; clear f1_ f2_ f3_; subst f4_; subst f5_))
  obtain ⟨bH5, bH6, cv7⟩ := Kd.R_slice bk4.out
  (first | subst cv7 | (injection cv7 with f1_ f2_ f3_; have f4_ := f1_.symm; have f5_ := f3_.symm; clear f1_ f2_ f3_; subst f4_; subst f5_))
  refine hK.out _ _ ⟨(blk_cell O9.out 0).trans rfl, (blk_cell O9.out 1).trans rfl, (blk_cell O9.out 2).trans rfl⟩ (fun hHeld => ?_)
  clear hK K
  refine norm_ (a' := ?_) ?_ ?_
  rotate_left
  · show Act.put _ (some 10) _ = _
    simp only [Act.put, List.setIfInBounds_toArray, List.set_cons_zero, List.set_cons_succ, i64_w, i32_w]
    rfl
  refine pu 8 11 #[true, true, true, true, true, true, true, true, true, false] HT_ rfl rfl (h := ?_)
  refine one_ (i := 9) (N := none) #[true, true, true, true, true, true, true, true, true, true] rfl rfl (one_of HT_.out (by kernel_rfl)) (by decide) (fun K hK => ?_)
  have d_7 : w8.cell? ⟨P8, 0, none⟩ = some (.int .i64 0) := (blk_cell V5.out 0).trans rfl
  have dO8 := blk_frozen V5.out 0
  have cV6 := D1.out
  have cV7 := aw5.out
  have d_8 : w8.cell? ⟨P8, 1, none⟩ = some (.slice none 0 0) := (blk_cell V5.out 1).trans rfl
  have dO9 := blk_frozen V5.out 1
  have cV8 := D1.out
  have cV9 := aw5.out
  have d_9 : w8.cell? ⟨P8, 2, none⟩ = some (.slice none 0 0) := (blk_cell V5.out 2).trans rfl
  have dP0 := blk_frozen V5.out 2
  have cW0 := D1.out
  have cW1 := aw5.out
  refine skip_ (w1 := ?_) (by rfl) rfl ?_ ?_
  rotate_left
  · go_simp
    rfl
  refine hK.out _ _ ⟨((cell_far (p := ⟨P8, _, none⟩) D1.out _).trans (((cell_far (p := ⟨P8, _, none⟩) D1.out _).trans (((cell_far (p := ⟨P8, _, none⟩) D1.out _).trans (hHeld.1)))))), ((cell_far (p := ⟨P8, _, none⟩) D1.out _).trans (((cell_far (p := ⟨P8, _, none⟩) D1.out _).trans (((cell_far (p := ⟨P8, _, none⟩) D1.out _).trans (hHeld.2.1)))))), ((cell_far (p := ⟨P8, _, none⟩) D1.out _).trans (((cell_far (p := ⟨P8, _, none⟩) D1.out _).trans (((cell_far (p := ⟨P8, _, none⟩) D1.out _).trans (hHeld.2.2))))))⟩ (fun hHeld => ?_)
  clear hK K
  refine done_ (done_of HT_.out (by kernel_rfl)) ?_
  try go_wp2
  refine bodyPost_ret (results_cell_row rfl _ _ P8 44 #[.int .i64 d8, .slice bH5 aG2.length bH6, .slice Ao9 aG3.length co9] (0, 0) _ rfl (by (with_reducible repeat (first | refine bN ?_ _ | refine bD ?_ | refine bA ?_ _)); refine blk_put (cs := #[.int .i64 d8, .slice bH5 aG2.length bH6, .slice none 0 0]) ?_ 2 _ rfl; (with_reducible repeat (first | refine bN ?_ _ | refine bD ?_ | refine bA ?_ _)); refine blk_put (cs := #[.int .i64 d8, .slice none 0 0, .slice none 0 0]) ?_ 1 _ rfl; (with_reducible repeat (first | refine bN ?_ _ | refine bD ?_ | refine bA ?_ _)); refine blk_put (cs := #[.int .i64 0, .slice none 0 0, .slice none 0 0]) ?_ 0 _ rfl; (with_reducible repeat (first | refine bN ?_ _ | refine bD ?_ | refine bA ?_ _)); exact V5.out) Try.underlying44 rfl (by kernel_rfl)) rfl ?_
  exact ⟨_, _, xre, by (with_reducible repeat (first | apply Kd.rA | apply Kd.rN | apply Kd.rD)); exact Kd.R_mono (Kd.R_far (p := ⟨P8, 2, none⟩) (Kd.R_far (p := ⟨P8, 1, none⟩) (Kd.R_far (p := ⟨P8, 0, none⟩) (Kd.R_types bk4.out V5.out (by decide)) (fun _ hk => hk.2) (.int .i64 d8)) (fun _ hk => hk.2) (.slice bH5 aG2.length bH6)) (fun _ hk => hk.2) (.slice Ao9 aG3.length co9)) (fun _ hk => trivial), by (with_reducible repeat (first | apply Kd.rA | apply Kd.rN | apply Kd.rD)); exact Kd.R_mono (Kd.R_far (p := ⟨P8, 2, none⟩) (Kd.R_far (p := ⟨P8, 1, none⟩) (Kd.R_far (p := ⟨P8, 0, none⟩) (Kd.R_types bW2.out V5.out (by decide)) (fun _ hk => hk.2) (.int .i64 d8)) (fun _ hk => hk.2) (.slice bH5 aG2.length bH6)) (fun _ hk => hk.2) (.slice Ao9 aG3.length co9)) (fun _ hk => trivial), xq HB⟩
def e9.l0 : Nat → Int → Int → List (r9) → Option (Int)
  | 0, _, _, _ => none
  | k + 1, x1, x5, aQ6 => if x5 < (aQ6.length : Int) then (if 0 ≤ x5 then (if ((a7 aQ6 x5).f0) = x1 then (some x5) else (e9.l0 k x1 (wrap64 (x5 + 1)) aQ6)) else (none)) else (some (-1))
def e9.f (k : Nat) (b1 : List (r9)) (a1 : Int) : Option (Int) := e9.l0 k a1 0 b1
theorem e9.mono_l : ∀ k, (∀ y0 y1 y2, LeO (e9.l0 k y0 y1 y2) (e9.l0 (k + 1) y0 y1 y2))
  | 0 => fun _ _ _ r h => by simp [e9.l0] at h
  | k + 1 => by
    have t6 := e9.mono_l k
    · intro y0 y1 y2
      unfold e9.l0
      repeat' first | (with_reducible first | exact t6 _ _ _ | exact LeO.refl _ | exact LeO.none _ | refine LeO.ite ?_ ?_ | refine LeO.bind ?_ (fun _ => ?_)) | exact t6 _ _ _ | exact LeO.none _ | refine LeO.ite ?_ ?_ | refine LeO.bind ?_ (fun _ => ?_)
theorem e9.mono : ∀ a0 a1 k, LeO (e9.f k a0 a1) (e9.f (k + 1) a0 a1) := by
  intro a0 a1 k
  have t6 := e9.mono_l k
  unfold e9.f
  repeat' first | (with_reducible first | exact t6 _ _ _ | exact LeO.refl _ | exact LeO.none _ | refine LeO.ite ?_ ?_ | refine LeO.bind ?_ (fun _ => ?_)) | exact t6 _ _ _ | exact LeO.none _ | refine LeO.ite ?_ ?_ | refine LeO.bind ?_ (fun _ => ?_)
set_option maxHeartbeats 8000000 in
set_option maxRecDepth 100000 in
theorem e9.calls (k : Nat) (k9 : Option Addr) (j9 : Nat) (b1 : List (r9)) (a1 : Int) (r : Int) (w : World) (J9 : Kd.C k46 w k9 b1.length b1) (K0 : b1.length ≤ j9) (h : e9.f k b1 a1 = some r) :
  Calls Try.prog 27 #[.agg #[.slice k9 b1.length j9], .int .i64 a1] w fun e w' => e = .returned (.int .i64 r) ∧ Below w.heap.size w w' := by
  have aU3 := Try.underlying24
  have m8 := aZ J9
  have V4 := aZ K0
  clear J9 K0
  have HB := aZ (Below.refl w.heap.size w)
  have H : (e9.l0 k a1 0 b1) = some r := h
  clear h
  have H' := aZ H
  clear H
  go_enter Try.func27, Try.ntmps27
  go_wp2_with (first | ((with_reducible refine gate_dst (N := 2) rfl ?_); refine box_event ?hg (N := 2) ?hd (cs := #[.slice k9 b1.length j9]) (t := 24) ?hr ?_; (case hd => rfl); (case hg => rfl); (case hr => first | (go_simp; done) | (go_simp; rfl)); intro bo8 hg w3 hbox hb; have av1 := aZ (hbox); have dW6 := xgh hg HB; have dW7 := xgh hg HB; replace HB := xhl HB hb; clear hb hbox hg))
  go_loopg [5] k (fun kq v5 w' => ∃ (d9 : Int), v5 = .int .i64 d9 ∧ Aside0 (e9.l0 kq a1 d9 b1 = some r) ∧ Aside0 (kq ≤ k) ∧ Aside0 (w'.heap[bo8]? = some (.cells #[(.slice k9 b1.length j9)] 24 (0, 0))) ∧ Aside0 (Below w.heap.size w w'))
  case atStart => exact ⟨(0), xrs, H', ⟨Nat.le_refl _⟩, xk av1, xb HB⟩
  case round =>
   clear H'
   obtain ⟨d9, rfl, HA, S8, av1, HB⟩ := hrel
   cases gk with
   | zero => exact absurd HA.out (by simp [e9.l0])
   | succ k1 =>
    have H := HA.out
    clear HA
    simp only [e9.l0] at H
    by_cases c4 : d9 < (b1.length : Int)
    rotate_left
    · rw [if_neg c4] at H
      have Y8 : decide (d9 < (b1.length : Int)) = false := decide_eq_false c4
      clear c4
      obtain rfl := Option.some.inj H
      have aF6 : wr.cell? ⟨bo8, 0, none⟩ = some (.slice k9 b1.length j9) := (blk_cell av1.out 0).trans rfl
      have aF7 := blk_frozen av1.out 0
      go_wp2
      go_ret
      exact ⟨xre, xq HB⟩

    rw [if_pos c4] at H
    have Y8 : decide (d9 < (b1.length : Int)) = true := decide_eq_true c4
    clear c4
    by_cases c5 : 0 ≤ d9
    rotate_left
    · rw [if_neg c5] at H
      exact absurd H (by simp)
    rw [if_pos c5] at H
    have aK8 : decide (0 ≤ d9) = true := decide_eq_true c5
    clear c5
    by_cases c6 : ((a7 b1 d9).f0) = a1
    · rw [if_pos c6] at H
      have Y9 : (((a7 b1 d9).f0) == a1) = true := beq_iff_eq.mpr c6
      have aR4 : (((a7 b1 d9).f0) != a1) = false := bne_eq_false_iff_eq.mpr c6
      clear c6
      obtain rfl := Option.some.inj H
      have am7 : wr.cell? ⟨bo8, 0, none⟩ = some (.slice k9 b1.length j9) := (blk_cell av1.out 0).trans rfl
      have am8 := blk_frozen av1.out 0
      have bc8 : 0 ≤ (d9 : Int) := of_decide_eq_true xas
      have bc9 : d9 < (b1.length : Int) := of_decide_eq_true xas
      obtain ⟨cJ2, cj3, cj4, cj5, cj6, cj7, av2, av3, av4, av5, av6, av7, av8, av9⟩ := l8 m8.out d9 bc8 bc9
      cases cj7
      replace av2 := xcl HB av2
      replace av3 := xcl HB av3
      replace av4 := xcl HB av4
      replace av5 := xcl HB av5
      have bP4 := aZ av7
      have bP5 := aZ av6
      clear av7 av6
      have bP6 := aZ av9
      have bP7 := aZ av8
      clear av9 av8
      replace bc8 := eq_true bc8
      replace bc9 := eq_true bc9
      go_wp2
      go_ret
      exact ⟨xre, xq HB⟩
    rw [if_neg c6] at H
    have Y9 : (((a7 b1 d9).f0) == a1) = false := beq_eq_false_iff_ne.mpr c6
    have aR4 : (((a7 b1 d9).f0) != a1) = true := bne_iff_ne.mpr c6
    have H' := aZ H
    clear H
    have aL0 : wr.cell? ⟨bo8, 0, none⟩ = some (.slice k9 b1.length j9) := (blk_cell av1.out 0).trans rfl
    have aL1 := blk_frozen av1.out 0
    have bc8 : 0 ≤ (d9 : Int) := of_decide_eq_true xas
    have bc9 : d9 < (b1.length : Int) := of_decide_eq_true xas
    obtain ⟨cJ2, cj3, cj4, cj5, cj6, cj7, av2, av3, av4, av5, av6, av7, av8, av9⟩ := l8 m8.out d9 bc8 bc9
    cases cj7
    replace av2 := xcl HB av2
    replace av3 := xcl HB av3
    replace av4 := xcl HB av4
    replace av5 := xcl HB av5
    have bP4 := aZ av7
    have bP5 := aZ av6
    clear av7 av6
    have bP6 := aZ av9
    have bP7 := aZ av8
    clear av9 av8
    replace bc8 := eq_true bc8
    replace bc9 := eq_true bc9
    go_wp2
    go_roundg k1
    case measure => have := S8.out; omega
    case rel => exact ⟨(wrap64 (d9 + 1)), xrs, H', ⟨by have := S8.out; omega⟩, xk av1, xb HB⟩

end Go.Proofs.Ytnmkmamobhkcbaa.P
