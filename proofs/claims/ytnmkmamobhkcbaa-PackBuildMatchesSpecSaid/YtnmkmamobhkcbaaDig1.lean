/- Products modulo 2^61 - 1: what math/bits' Mul64 and Div64 come to at the digest's modulus, and digest.mul. -/
import Derived.Test.YtnmkmamobhkcbaaEv
import Derived.Laws.Bits64b
import Derived.Test.YtnmkmamobhkcbaaP2
import Derived.Test.YtnmkmamobhkcbaaP4
import Derived.Test.YtnmkmamobhkcbaaP5
import Derived.Test.YtnmkmamobhkcbaaP6
namespace Go.Proofs.Ytnmkmamobhkcbaa.Dig
open Go.RowKit Go.Proofs.YtnmkmamobhkcbaaW.PrintWords Go.Proofs.YtnmkmamobhkcbaaW.PrintEv Go.Proofs.Ytnmkmamobhkcbaa.P
open Go.Proofs.YtnmkmamobhkcbaaW.PrintMore
set_option linter.unusedVariables false

theorem wu {x : Int} (h : 0 ≤ x ∧ x < 18446744073709551616) : IntKind.u64.wrap x = x := by rw [IntKind.wrap_u64]; omega
theorem and32 {x : Int} (h : 0 ≤ x ∧ x < 18446744073709551616) : Go.bits .and .u64 x 4294967295 = x % 4294967296 := by
  obtain ⟨n, rfl⟩ := Int.eq_ofNat_of_zero_le h.1
  have := bits_and_u64_nat n 4294967295 (by omega) (by omega)
  rw [show ((4294967295 : Nat) : Int) = 4294967295 from rfl] at this
  rw [this, show (4294967295 : Nat) = 2 ^ 32 - 1 from rfl, Nat.and_two_pow_sub_one_eq_mod]
  omega
theorem or8 {a b : Int} (ha : 0 ≤ a ∧ a < 2305843009213693952) (hb : 0 ≤ b ∧ b < 8) : Go.bits .or .u64 (a * 8) b = a * 8 + b := by
  obtain ⟨n, rfl⟩ := Int.eq_ofNat_of_zero_le ha.1
  obtain ⟨m, rfl⟩ := Int.eq_ofNat_of_zero_le hb.1
  have := bits_or_u64_nat (n * 8) m (by omega) (by omega)
  rw [show ((n * 8 : Nat) : Int) = (n : Int) * 8 by omega] at this
  rw [this]
  have h2 := Nat.two_pow_add_eq_or_of_lt (i := 3) (b := m) (by omega) n
  rw [show n * 8 = 2 ^ 3 * n by omega, ← h2]
  omega
theorem mul64_eq {a c : Int} (ha : 0 ≤ a ∧ a < 2305843009213693952) (hc : 0 ≤ c ∧ c < 1048576) : bits_Mul64.f a c = some (a * c / 18446744073709551616, a * c % 18446744073709551616) := by
  obtain ⟨p, hp⟩ : ∃ p, p = a / 4294967296 * c := ⟨_, rfl⟩
  obtain ⟨q, hq⟩ : ∃ q, q = a % 4294967296 * c := ⟨_, rfl⟩
  have hN : a * c = p * 4294967296 + q := by
    have h1 : a = a / 4294967296 * 4294967296 + a % 4294967296 := by omega
    conv => lhs; rw [h1]
    rw [Int.add_mul, hp, hq, Int.mul_right_comm]
  have hp0 : 0 ≤ p := by rw [hp]; exact Int.mul_nonneg (by omega) hc.1
  have hq0 : 0 ≤ q := by rw [hq]; exact Int.mul_nonneg (by omega) hc.1
  have hp1 : p ≤ 536870912 * c := by rw [hp]; exact Int.mul_le_mul_of_nonneg_right (by omega) hc.1
  have hq1 : q ≤ 4294967295 * c := by rw [hq]; exact Int.mul_le_mul_of_nonneg_right (by omega) hc.1
  have hc0 : c / 4294967296 = 0 := by omega
  unfold bits_Mul64.f
  rw [and32 (x := a) (by omega), and32 (x := c) (by omega), hc0, show c % 4294967296 = c by omega, ← hp, ← hq, Int.mul_zero, Int.mul_zero, wu (x := 0) (by omega), wu (x := p) (by omega), wu (x := q) (by omega), wu (x := p + q / 4294967296) (by omega), and32 (x := p + q / 4294967296) (by omega), hN]
  rw [wu (x := 0 + (p + q / 4294967296) / 4294967296) (by omega), wu (x := (p + q / 4294967296) % 4294967296 + 0) (by omega), wu (by omega), IntKind.wrap_u64]
  congr 1
  refine Prod.ext ?_ ?_
  · show _ = (p * 4294967296 + q) / 18446744073709551616
    omega
  · show _ = (p * 4294967296 + q) % 18446744073709551616
    omega

/-! the division: u: the upper part of eight times the number, v: its lowest 32 bits; the divisor is 8 * (2^61 - 1) -/
theorem div_exit {u v q : Int} (hu : 0 ≤ u ∧ u < 4503599627370496) (hv : 0 ≤ v ∧ v < 4294967296) (hq : 0 ≤ q ∧ q ≤ 2097152) (h1 : q * 18446744073709551608 ≤ u * 4294967296 + v) (h2 : u * 4294967296 + v < (q + 1) * 18446744073709551608) :
    shr .u64 (IntKind.u64.wrap ((IntKind.u64.wrap ((IntKind.u64.wrap (u * 4294967296)) + v)) - (IntKind.u64.wrap (q * 18446744073709551608)))) 3 = (u * 4294967296 + v) % 18446744073709551608 / 8 := by
  unfold shr
  simp only [IntKind.wrap_u64]
  show (((u * 4294967296) % 18446744073709551616 + v) % 18446744073709551616 - (q * 18446744073709551608) % 18446744073709551616) % 18446744073709551616 / 8 = _
  omega
theorem div_l1 {u v : Int} (hu : 0 ≤ u ∧ u < 4503599627370496) (hv : 0 ≤ v ∧ v < 4294967296) : ∀ (n : Nat) (q r : Int), q = (n : Int) → q ≤ 2097152 → r = u - q * 4294967295 → 0 ≤ r → r < 4294967296 → (q + 1) * 18446744073709551608 > u * 4294967296 + v →
    ∃ Q, Ev (fun k => bits_Div64.l1 k 18446744073709551608 3 4294967295 4294967288 v 0 r u q) (Q, (u * 4294967296 + v) % 18446744073709551608 / 8) := by
  intro n
  induction n with
  | zero =>
    intro q r hq hq1 hr h0 h1 h2
    have hq : q = 0 := by omega
    subst hq
    refine ⟨IntKind.u64.wrap (IntKind.u64.wrap (0 * 4294967296) + 0), ?_⟩
    refine Ev.step (fun k_ => by rw [bits_Div64.l1]) ?_
    refine ev_neg (by omega) ?_
    rw [show (0 : Int) * 4294967288 = 0 from rfl, wu (x := 0) (by omega), wu (x := 4294967296 * r) (by omega), wu (x := 4294967296 * r + v) (by omega)]
    refine Ev.step (fun k_ => by rw [bits_Div64.j4]) ?_
    refine ev_neg (by simp; omega) (ev_pos (by decide) ?_)
    refine ev_cast (ev_now _) (Prod.ext ?_ ?_)
    · rfl
    · exact div_exit hu hv (by omega) (by omega) (by omega)
  | succ n ih =>
    intro q r hq hq1 hr h0 h1 h2
    by_cases hc : q * 4294967288 > 4294967296 * r + v
    · by_cases hb : r + 4294967295 ≥ 4294967296
      · refine ⟨IntKind.u64.wrap (IntKind.u64.wrap (0 * 4294967296) + IntKind.u64.wrap (q - 1)), ?_⟩
        refine Ev.step (fun k_ => by rw [bits_Div64.l1]) ?_
        refine ev_neg (by omega) ?_
        rw [wu (x := q * 4294967288) (by omega), wu (x := 4294967296 * r) (by omega), wu (x := 4294967296 * r + v) (by omega)]
        refine Ev.step (fun k_ => by rw [bits_Div64.j4]) ?_
        refine ev_pos (by simp; omega) ?_
        rw [wu (x := r + 4294967295) (by omega)]
        refine ev_pos (by omega) (ev_pos (by decide) ?_)
        refine ev_cast (ev_now _) (Prod.ext rfl ?_)
        rw [wu (x := q - 1) (by omega)]
        exact div_exit hu hv (by omega) (by omega) (by omega)
      · obtain ⟨Q, hQ⟩ := ih (q - 1) (r + 4294967295) (by omega) (by omega) (by omega) (by omega) (by omega) (by omega)
        refine ⟨Q, ?_⟩
        refine Ev.step (fun k_ => by rw [bits_Div64.l1]) ?_
        refine ev_neg (by omega) ?_
        rw [wu (x := q * 4294967288) (by omega), wu (x := 4294967296 * r) (by omega), wu (x := 4294967296 * r + v) (by omega)]
        refine Ev.step (fun k_ => by rw [bits_Div64.j4]) ?_
        refine ev_pos (by simp; omega) ?_
        rw [wu (x := r + 4294967295) (by omega), wu (x := q - 1) (by omega)]
        exact ev_neg (by omega) hQ
    · refine ⟨IntKind.u64.wrap (IntKind.u64.wrap (0 * 4294967296) + q), ?_⟩
      refine Ev.step (fun k_ => by rw [bits_Div64.l1]) ?_
      refine ev_neg (by omega) ?_
      rw [wu (x := q * 4294967288) (by omega), wu (x := 4294967296 * r) (by omega), wu (x := 4294967296 * r + v) (by omega)]
      refine Ev.step (fun k_ => by rw [bits_Div64.j4]) ?_
      refine ev_neg (by simp; omega) (ev_pos (by decide) ?_)
      exact ev_cast (ev_now _) (Prod.ext rfl (div_exit hu hv (by omega) (by omega) (by omega)))
theorem div_ev {h l : Int} (hh : 0 < h ∧ h < 131072) (hl : 0 ≤ l ∧ l < 18446744073709551616) : ∃ Q, Ev (fun k => bits_Div64.f k h l 2305843009213693951) (Q, (h * 18446744073709551616 + l) % 2305843009213693951) := by
  obtain ⟨u, hu⟩ : ∃ u, u = (h * 8 + l / 2305843009213693952) * 4294967296 + l * 8 % 18446744073709551616 / 4294967296 := ⟨_, rfl⟩
  obtain ⟨v, hv⟩ : ∃ v, v = l * 8 % 18446744073709551616 % 4294967296 := ⟨_, rfl⟩
  have hN : u * 4294967296 + v = 8 * (h * 18446744073709551616 + l) := by omega
  obtain ⟨Q, hQ⟩ := div_l1 (u := u) (v := v) (by omega) (by omega) (u / 4294967295).toNat (u / 4294967295) (u - u / 4294967295 * 4294967295) (by omega) (by omega) rfl (by omega) (by omega) (by omega)
  have hres : (u * 4294967296 + v) % 18446744073709551608 / 8 = (h * 18446744073709551616 + l) % 2305843009213693951 := by rw [hN]; omega
  rw [hres] at hQ
  refine ⟨Q, ?_⟩
  have s1 : shl .u64 2305843009213693951 3 = 18446744073709551608 := by unfold shl; rw [IntKind.wrap_u64]; rfl
  have s2 : shl .u64 h 3 = h * 8 := by unfold shl; rw [IntKind.wrap_u64]; show h * 8 % 18446744073709551616 = _; omega
  have s3 : shl .u64 l 3 = l * 8 % 18446744073709551616 := by unfold shl; rw [IntKind.wrap_u64]; rfl
  have s4 : shr .u64 l 61 = l / 2305843009213693952 := by unfold shr; rfl
  have h3 : IntKind.u64.wrap 3 = 3 := wu (by omega)
  have h61 : IntKind.u64.wrap (64 - 3) = 61 := wu (by omega)
  have ho := or8 (a := h) (b := l / 2305843009213693952) (by omega) (by omega)
  have a1 : Go.bits .and .u64 18446744073709551608 4294967295 = 4294967288 := by rw [and32 (by omega)]; rfl
  have a2 : Go.bits .and .u64 (l * 8 % 18446744073709551616) 4294967295 = v := by rw [and32 (by omega), hv]
  have t0 : Int.tdiv (h * 8 + l / 2305843009213693952) 4294967295 = 0 := by rw [Int.tdiv_eq_ediv_of_nonneg (by omega)]; omega
  have t1 : Int.tdiv u 4294967295 = u / 4294967295 := Int.tdiv_eq_ediv_of_nonneg (by omega)
  unfold bits_Div64.f
  refine ev_neg (by decide) (ev_neg (by omega) (ev_neg (by omega) (ev_const (show bits_LeadingZeros64.f 2305843009213693951 = some 3 from rfl) ?_)))
  rw [h3, h61, s1, s2, s3, s4, ho, show (18446744073709551608 : Int) / 4294967296 = 4294967295 from rfl, a1, a2, t0, wu (x := 0) (by omega), Int.zero_mul, wu (x := 0) (by omega), wu (x := h * 8 + l / 2305843009213693952 - 0) (by omega)]
  refine ev_pos (by decide) (ev_pos (by decide) (ev_neg (by decide) ?_))
  refine Ev.step (fun k_ => by rw [bits_Div64.l0]) ?_
  rw [show (0 : Int) * 4294967288 = 0 from rfl, wu (x := 0) (by omega), wu (x := 4294967296 * (h * 8 + l / 2305843009213693952 - 0)) (by omega), wu (by omega)]
  refine ev_neg (by decide) ?_
  refine Ev.step (fun k_ => by rw [bits_Div64.j1]) ?_
  refine ev_neg (by simp; omega) ?_
  refine Ev.step (fun k_ => by rw [bits_Div64.j2]) ?_
  have e1 : IntKind.u64.wrap ((IntKind.u64.wrap ((IntKind.u64.wrap ((h * 8 + l / 2305843009213693952) * 4294967296)) + l * 8 % 18446744073709551616 / 4294967296)) - (IntKind.u64.wrap (0 * 18446744073709551608))) = u := by
    rw [Int.zero_mul, wu (x := 0) (by omega), wu (x := (h * 8 + l / 2305843009213693952) * 4294967296) (by omega), wu (x := (h * 8 + l / 2305843009213693952) * 4294967296 + l * 8 % 18446744073709551616 / 4294967296) (by omega), wu (by omega)]
    omega
  rw [e1, t1, wu (x := u / 4294967295) (by omega), wu (x := u / 4294967295 * 4294967295) (by omega), wu (x := u - u / 4294967295 * 4294967295) (by omega)]
  exact ev_neg (by decide) hQ
theorem mul_ev {a c : Int} (ha : 0 ≤ a ∧ a < 2305843009213693951) (hc : 0 ≤ c ∧ c < 1048576) : Ev (fun k => digest_mul.f k a c) (a * c % 2305843009213693951) := by
  have hN0 : 0 ≤ a * c := Int.mul_nonneg ha.1 hc.1
  have hN1 : a * c ≤ 2305843009213693951 * c := Int.mul_le_mul_of_nonneg_right (by omega) hc.1
  obtain ⟨N, hN⟩ : ∃ N, N = a * c := ⟨_, rfl⟩
  unfold digest_mul.f
  rw [mul64_eq (by omega) hc, ← hN]
  rw [← hN] at hN0 hN1
  have ht : Int.tmod (N / 18446744073709551616) 2305843009213693951 = N / 18446744073709551616 := by rw [Int.tmod_eq_emod_of_nonneg (by omega)]; omega
  refine ev_some ?_
  rw [ht]
  by_cases h0 : N / 18446744073709551616 = 0
  · have : bits_Div64.f 0 0 (N % 18446744073709551616) 2305843009213693951 = some (IntKind.u64.wrap (Int.tdiv (N % 18446744073709551616) 2305843009213693951), Int.tmod (N % 18446744073709551616) 2305843009213693951) := by
      unfold bits_Div64.f
      rw [if_neg (by decide), if_neg (by decide), if_pos rfl]
    rw [h0]
    refine ev_bind (a := (IntKind.u64.wrap (Int.tdiv (N % 18446744073709551616) 2305843009213693951), Int.tmod (N % 18446744073709551616) 2305843009213693951)) ?_ ?_
    · unfold bits_Div64.f
      exact ev_neg (by decide) (ev_neg (by decide) (ev_pos rfl (ev_now _)))
    · refine ev_cast (ev_now _) ?_
      show Int.tmod _ _ = _
      rw [Int.tmod_eq_emod_of_nonneg (by omega)]
      omega
  · obtain ⟨Q, hQ⟩ := div_ev (h := N / 18446744073709551616) (l := N % 18446744073709551616) (by omega) (by omega)
    refine ev_bind hQ (ev_cast (ev_now _) ?_)
    show (N / 18446744073709551616 * 18446744073709551616 + N % 18446744073709551616) % 2305843009213693951 = _
    congr 1
    omega
end Go.Proofs.Ytnmkmamobhkcbaa.Dig
