/- The digest of bytes: the program's and the reference's, one value. -/
import Derived.Test.YtnmkmamobhkcbaaDig1
import Derived.Test.YtnmkmamobhkcbaaP18
import Derived.Test.YtnmkmamobhkcbaaP19
import Derived.Test.YtnmkmamobhkcbaaP20
import Derived.Test.YtnmkmamobhkcbaaP7
namespace Go.Proofs.Ytnmkmamobhkcbaa.Dig
open Go.RowKit Go.Proofs.YtnmkmamobhkcbaaW.PrintWords Go.Proofs.YtnmkmamobhkcbaaW.PrintEv Go.Proofs.Ytnmkmamobhkcbaa.P
set_option linter.unusedVariables false

theorem mod_lt (x : Int) : 0 ≤ x % 2305843009213693951 ∧ x % 2305843009213693951 < 2305843009213693951 := ⟨Int.emod_nonneg _ (by decide), Int.emod_lt_of_pos _ (by decide)⟩
theorem tmod_M {x : Int} (h : 0 ≤ x) : Int.tmod x 2305843009213693951 = x % 2305843009213693951 := Int.tmod_eq_emod_of_nonneg h
theorem mod_add_mul (a b c : Int) : (a % 2305843009213693951 + b % 2305843009213693951 * c) % 2305843009213693951 = (a + b * c) % 2305843009213693951 := by
  rw [Int.add_emod, Int.emod_emod, Int.mul_emod (b % 2305843009213693951), Int.emod_emod, ← Int.mul_emod, ← Int.add_emod]
theorem double_eq {n : Int} (h : 0 ≤ n ∧ n < 2305843009213693951) : changeforgeref3_double.f n = some ((2 * n) % 2305843009213693951) := by
  unfold changeforgeref3_double.f
  rw [w64 (x := n + n) (by omega)]
  split
  · rw [w64 (by omega)]; congr 1; omega
  · congr 1; omega
theorem times_l0 : ∀ (m : Nat) (c : Nat) (n o : Int), c < m → c < 2147483648 → 0 ≤ n ∧ n < 2305843009213693951 → 0 ≤ o ∧ o < 2305843009213693951 → Ev (fun k => changeforgeref3_times.l0 k n (c : Int) o) ((o + n * c) % 2305843009213693951) := by
  intro m
  induction m with
  | zero => intro c n o h; omega
  | succ m ih =>
    intro c n o hc hc2 hn ho
    have hd := mod_lt (2 * n)
    have he : Int.tdiv (c : Int) 2 = ((c / 2 : Nat) : Int) := by rw [Int.tdiv_eq_ediv_of_nonneg (by omega)]; omega
    refine Ev.step (fun k_ => by rw [changeforgeref3_times.l0]) ?_
    refine ev_cases (fun h1 => ?_) (fun h1 => ?_)
    · rw [double_eq hn, he, w64 (x := ((c / 2 : Nat) : Int)) (by omega), w64 (x := o + n) (by omega), tmod_M (by omega), Int.tmod_eq_emod_of_nonneg (by omega)]
      refine ev_cases (fun h2 => ev_some ?_) (fun h2 => ev_some ?_)
      · refine ev_cast (ih (c / 2) _ _ (by omega) (by omega) hd (mod_lt _)) ?_
        rw [mod_add_mul]
        congr 1
        have hcc : (c : Int) = 2 * ((c / 2 : Nat) : Int) + 1 := by omega
        generalize ((c / 2 : Nat) : Int) = q at hcc
        rw [hcc, Int.mul_add, Int.mul_one, Int.mul_comm 2 n, Int.mul_assoc]
        omega
      · refine ev_cast (ih (c / 2) _ o (by omega) (by omega) hd ho) ?_
        have ho' : o = o % 2305843009213693951 := by rw [Int.emod_eq_of_lt ho.1 ho.2]
        rw [ho', mod_add_mul, ← ho']
        congr 1
        have hcc : (c : Int) = 2 * ((c / 2 : Nat) : Int) := by omega
        generalize ((c / 2 : Nat) : Int) = q at hcc
        rw [hcc, Int.mul_comm 2 n, Int.mul_assoc]
    · have : (c : Int) = 0 := by omega
      rw [this, Int.mul_zero, Int.add_zero, Int.emod_eq_of_lt ho.1 ho.2]
      exact ev_now _
theorem times_ev {n : Int} {c : Nat} (h : 0 ≤ n ∧ n < 2305843009213693951) (hc : c < 2147483648) : Ev (fun k => changeforgeref3_times.f k n (c : Int)) (n * c % 2305843009213693951) := by
  unfold changeforgeref3_times.f
  exact ev_cast (times_l0 (c + 1) c n 0 (by omega) hc h (by decide)) (by rw [Int.zero_add])

/-- The digest of bytes, from h on. -/
def dgf (h : Int) (bs : List Int) : Int := bs.foldl (fun h b => (h * 257 % 2305843009213693951 + b + 1) % 2305843009213693951) h
def Bytes (l : List Int) : Prop := ∀ b ∈ l, 0 ≤ b ∧ b ≤ 255
theorem dgf_lt {bs : List Int} : ∀ {h : Int}, 0 ≤ h ∧ h < 2305843009213693951 → 0 ≤ dgf h bs ∧ dgf h bs < 2305843009213693951 := by
  induction bs with
  | nil => intro h hh; exact hh
  | cons b bs ih => intro h hh; exact ih (mod_lt _)
theorem of_l0 {l : List Int} (hl : (l.length : Int) ≤ 1000000) (hb : Bytes l) : ∀ (m i : Nat) (h : Int), i + m = l.length → 0 ≤ h ∧ h < 2305843009213693951 → Ev (fun k => digest_Of.l0 k h l (l.length : Int) (i : Int)) (dgf h (l.drop i), 0, 0) := by
  intro m
  induction m with
  | zero =>
    intro i h hi hh
    refine Ev.step (fun k_ => by rw [digest_Of.l0]) ?_
    refine ev_neg (by omega) ?_
    rw [List.drop_eq_nil_of_le (by omega), w64 (by omega)]
    exact ev_now _
  | succ m ih =>
    intro i h hi hh
    have hx := hb _ (rd_mem (xs := l) (i := (i : Int)) (by omega) (by omega))
    have hm := mod_lt (h * 257)
    refine Ev.step (fun k_ => by rw [digest_Of.l0]) ?_
    refine ev_pos (by omega) (ev_pos (by omega) (ev_pos (by omega) (ev_bind (mul_ev hh (by decide)) ?_)))
    have e1 : IntKind.u64.wrap (rd l (i : Int)) = rd l (i : Int) := wu (by omega)
    have e2 : IntKind.u64.wrap (h * 257 % 2305843009213693951 + rd l (i : Int)) = h * 257 % 2305843009213693951 + rd l (i : Int) := wu (by omega)
    have e3 : IntKind.u64.wrap (h * 257 % 2305843009213693951 + rd l (i : Int) + 1) = h * 257 % 2305843009213693951 + rd l (i : Int) + 1 := wu (by omega)
    rw [e1, e2, e3, tmod_M (by omega), w64 (x := (i : Int) + 1) (by omega), drop_cons_rd (xs := l) (i := i) (by omega)]
    exact ih (i + 1) _ (by omega) (mod_lt _)
def ofR (l : List Int) : Int × Int × Int := if (l.length : Int) > 4096 then (0, 2, 0) else (dgf 1 l, 0, 0)
theorem of_ev {l : List Int} (hb : Bytes l) : Ev (fun k => digest_Of.f k l) (ofR l) := by
  unfold digest_Of.f ofR
  refine ev_ite (fun h => ev_now _) (fun h => ?_)
  have := of_l0 (l := l) (by omega) hb l.length 0 1 (by omega) (by decide)
  rw [List.drop_zero] at this
  exact this
theorem dof_l0 {l : List Int} (hl : (l.length : Int) ≤ 1000000) (hb : Bytes l) : ∀ (m i : Nat) (h : Int), i + m = l.length → 0 ≤ h ∧ h < 2305843009213693951 → Ev (fun k => changeforgeref3_DigestOf.l0 k l h (i : Int)) (dgf h (l.drop i)) := by
  intro m
  induction m with
  | zero =>
    intro i h hi hh
    refine Ev.step (fun k_ => by rw [changeforgeref3_DigestOf.l0]) ?_
    refine ev_neg (by omega) ?_
    rw [List.drop_eq_nil_of_le (by omega)]
    exact ev_now _
  | succ m ih =>
    intro i h hi hh
    have hx := hb _ (rd_mem (xs := l) (i := (i : Int)) (by omega) (by omega))
    have hm := mod_lt (h * 257)
    have ht := times_ev (n := h) (c := 257) hh (by decide)
    refine Ev.step (fun k_ => by rw [changeforgeref3_DigestOf.l0]) ?_
    refine ev_pos (by omega) (ev_bind ht (ev_pos (by omega) ?_))
    rw [show ((257 : Nat) : Int) = 257 from rfl, w64 (x := rd l (i : Int)) (by omega), w64 (x := h * 257 % 2305843009213693951 + rd l (i : Int)) (by omega), w64 (x := h * 257 % 2305843009213693951 + rd l (i : Int) + 1) (by omega), tmod_M (by omega), w64 (x := (i : Int) + 1) (by omega), drop_cons_rd (xs := l) (i := i) (by omega)]
    exact ih (i + 1) _ (by omega) (mod_lt _)
theorem dof_ev {l : List Int} (hl : (l.length : Int) ≤ 1000000) (hb : Bytes l) : Ev (fun k => changeforgeref3_DigestOf.f k l) (dgf 1 l) := by
  have := dof_l0 hl hb l.length 0 1 (by omega) (by decide)
  rw [List.drop_zero] at this
  exact this
end Go.Proofs.Ytnmkmamobhkcbaa.Dig
