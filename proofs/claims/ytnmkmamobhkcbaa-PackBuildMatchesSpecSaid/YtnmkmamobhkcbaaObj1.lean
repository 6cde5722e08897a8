/- Numbers as eight bytes, and the fault of an object: the program's and the reference's. -/
import Derived.Test.YtnmkmamobhkcbaaDig2
import Derived.Test.YtnmkmamobhkcbaaP15
import Derived.Test.YtnmkmamobhkcbaaP16
import Derived.Test.YtnmkmamobhkcbaaP17
import Derived.Test.YtnmkmamobhkcbaaP8
namespace Go.Proofs.Ytnmkmamobhkcbaa.Obj
open Go.RowKit Go.Proofs.YtnmkmamobhkcbaaW.PrintWords Go.Proofs.YtnmkmamobhkcbaaW.PrintEv Go.Proofs.Ytnmkmamobhkcbaa.P Go.Proofs.Ytnmkmamobhkcbaa.Dig
open Go.Proofs.YtnmkmamobhkcbaaW.PrintMore
set_option linter.unusedVariables false

abbrev O := S44
abbrev SO := S46
theorem In_eq (a b c : Int) : changeforgeref3_In.f a b c = some (decide (b ≤ a ∧ a ≤ c)) := by
  unfold changeforgeref3_In.f
  split
  · congr 1; simp; omega
  · congr 1; simp; omega
theorem Fault_eq (a b : Int) : changeforgeref3_Fault.f a b = some (a, b) := rfl

/-- A number as eight bytes. -/
def wide (n : Int) : List Int := [n / 72057594037927936 % 256, n / 281474976710656 % 256, n / 1099511627776 % 256, n / 4294967296 % 256, n / 16777216 % 256, n / 65536 % 256, n / 256 % 256, n % 256]
theorem wide_len (n : Int) : (wide n).length = 8 := rfl
theorem wide_bytes (n : Int) : Bytes (wide n) := by
  intro b hb
  unfold wide at hb
  simp only [List.mem_cons, List.not_mem_nil, or_false] at hb
  rcases hb with rfl | rfl | rfl | rfl | rfl | rfl | rfl | rfl <;> omega
theorem shr_eq (x : Int) (p : Nat) (q : Int) (hq : q = 2 ^ p) (hp : p < 64) : shr .i64 x (p : Int) = x / q := by
  unfold shr
  rw [hq, show min ((p : Int)).toNat IntKind.i64.bits = p by simp [IntKind.bits]; omega]
theorem s56 (x : Int) : shr .i64 x 56 = x / 72057594037927936 := shr_eq x 56 _ (by decide) (by decide)
theorem s48 (x : Int) : shr .i64 x 48 = x / 281474976710656 := shr_eq x 48 _ (by decide) (by decide)
theorem s40 (x : Int) : shr .i64 x 40 = x / 1099511627776 := shr_eq x 40 _ (by decide) (by decide)
theorem s32 (x : Int) : shr .i64 x 32 = x / 4294967296 := shr_eq x 32 _ (by decide) (by decide)
theorem s24 (x : Int) : shr .i64 x 24 = x / 16777216 := shr_eq x 24 _ (by decide) (by decide)
theorem s16 (x : Int) : shr .i64 x 16 = x / 65536 := shr_eq x 16 _ (by decide) (by decide)
theorem s8 (x : Int) : shr .i64 x 8 = x / 256 := shr_eq x 8 _ (by decide) (by decide)
theorem s0 (x : Int) : shr .i64 x 0 = x := (shr_eq x 0 1 (by decide) (by decide)).trans (by omega)
theorem wide_ev {n : Int} (h : 0 ≤ n ∧ n < 9223372036854775808) : Ev (fun k => changeforgeref3_Wide.f k n) (wide n) := by
  unfold changeforgeref3_Wide.f
  refine ev_pos (by decide) ?_
  have step : ∀ {x i : Int} {o : List Int} {r : List Int}, 0 ≤ x ∧ x < 9223372036854775808 → 0 ≤ i → i < 8 → o.length = 8 → Ev (fun k => changeforgeref3_Wide.l0 k (x / 256) (o.set i.toNat (x % 256)) (i - 1)) r → Ev (fun k => changeforgeref3_Wide.l0 k x o i) r := by
    intro x i o r hx h0 h1 hl hr
    refine Ev.step (fun k_ => by rw [changeforgeref3_Wide.l0]) ?_
    refine ev_pos (by omega) (ev_pos (by omega) (ev_pos (by omega) ?_))
    rw [Int.tdiv_eq_ediv_of_nonneg hx.1, Int.tmod_eq_emod_of_nonneg hx.1, w64 (x := x / 256) (by omega), w64 (x := i - 1) (by omega), show x % 256 % 256 = x % 256 by omega]
    exact hr
  refine step (by omega) (by decide) (by decide) (by simp) (step (by omega) (by decide) (by decide) (by simp) (step (by omega) (by decide) (by decide) (by simp) (step (by omega) (by decide) (by decide) (by simp) (step (by omega) (by decide) (by decide) (by simp) (step (by omega) (by decide) (by decide) (by simp) (step (by omega) (by decide) (by decide) (by simp) (step (by omega) (by decide) (by decide) (by simp) ?_)))))))
  refine Ev.step (fun k_ => by rw [changeforgeref3_Wide.l0]) ?_
  refine ev_neg (by decide) (ev_cast (ev_now _) ?_)
  have e2 : n / 256 / 256 = n / 65536 := by omega
  have e3 : n / 65536 / 256 = n / 16777216 := by omega
  have e4 : n / 16777216 / 256 = n / 4294967296 := by omega
  have e5 : n / 4294967296 / 256 = n / 1099511627776 := by omega
  have e6 : n / 1099511627776 / 256 = n / 281474976710656 := by omega
  have e7 : n / 281474976710656 / 256 = n / 72057594037927936 := by omega
  rw [e2, e3, e4, e5, e6, e7]
  rfl

/-- The links' fault, from place i on. -/
def lflt : List Int → Int → Int × Int
  | [], _ => (0, 0)
  | x :: r, i => if x < 0 ∨ x ≥ 2305843009213693951 then (3, i) else lflt r (i + 1)
/-- The fault of an object. -/
def oflt (kd : Int) (ls ds : List Int) : Int × Int :=
  if kd < 1 ∨ kd > 3 then (4, 0) else if (ls.length : Int) > 30 then (2, 0) else if (ds.length : Int) > 1000 then (10, 0) else if kd = 1 ∧ (ls.length : Int) > 0 then (5, 0) else lflt ls 0
theorem lflt_zero : ∀ {ls : List Int} {i : Int}, (lflt ls i).1 = 0 → lflt ls i = (0, 0) ∧ ∀ x ∈ ls, 0 ≤ x ∧ x < 2305843009213693951
  | [], i, _ => ⟨rfl, fun x h => by cases h⟩
  | y :: r, i, h => by
    unfold lflt at h ⊢
    by_cases c : y < 0 ∨ y ≥ 2305843009213693951
    · rw [if_pos c] at h; exact absurd h (show ¬ (3 : Int) = 0 by decide)
    · rw [if_neg c] at h ⊢
      obtain ⟨h1, h2⟩ := lflt_zero h
      refine ⟨h1, fun x hx => ?_⟩
      rcases List.mem_cons.1 hx with rfl | hx
      · omega
      · exact h2 x hx
/-- An object without fault. -/
structure Good (kd : Int) (ls ds : List Int) : Prop where
  kind : 1 ≤ kd ∧ kd ≤ 3
  nl : (ls.length : Int) ≤ 30
  nd : (ds.length : Int) ≤ 1000
  blob : kd = 1 → ls = []
  link : ∀ x ∈ ls, 0 ≤ x ∧ x < 2305843009213693951
theorem oflt_zero {kd : Int} {ls ds : List Int} (h : (oflt kd ls ds).1 = 0) : oflt kd ls ds = (0, 0) ∧ Good kd ls ds := by
  unfold oflt at h ⊢
  by_cases c1 : kd < 1 ∨ kd > 3
  · rw [if_pos c1] at h; exact absurd h (by decide)
  rw [if_neg c1] at h ⊢
  by_cases c2 : (ls.length : Int) > 30
  · rw [if_pos c2] at h; exact absurd h (by decide)
  rw [if_neg c2] at h ⊢
  by_cases c3 : (ds.length : Int) > 1000
  · rw [if_pos c3] at h; exact absurd h (by decide)
  rw [if_neg c3] at h ⊢
  by_cases c4 : kd = 1 ∧ (ls.length : Int) > 0
  · rw [if_pos c4] at h; exact absurd h (by decide)
  rw [if_neg c4] at h ⊢
  obtain ⟨h1, h2⟩ := lflt_zero h
  exact ⟨h1, by omega, by omega, by omega, fun e => List.eq_nil_of_length_eq_zero (by omega), h2⟩
theorem check_l0 {ls : List Int} (hl : (ls.length : Int) ≤ 1000) : ∀ (m i : Nat), i + m = ls.length → Ev (fun k => objects_check.l0 k ls (ls.length : Int) (i : Int)) (lflt (ls.drop i) (i : Int)) := by
  intro m
  induction m with
  | zero =>
    intro i hi
    refine Ev.step (fun k_ => by rw [objects_check.l0]) ?_
    rw [List.drop_eq_nil_of_le (by omega)]
    exact ev_neg (by omega) (ev_now _)
  | succ m ih =>
    intro i hi
    have next := ih (i + 1) (by omega)
    rw [show ((i + 1 : Nat) : Int) = (i : Int) + 1 by omega] at next
    refine Ev.step (fun k_ => by rw [objects_check.l0]) ?_
    rw [w64 (x := (i : Int) + 1) (by omega), drop_cons_rd (by omega)]
    show Ev _ (if rd ls (i : Int) < 0 ∨ rd ls (i : Int) ≥ 2305843009213693951 then (3, (i : Int)) else lflt (ls.drop (i + 1)) ((i : Int) + 1))
    refine ev_pos (by omega) (ev_pos (by omega) (ev_pos (by omega) (ev_cases (fun c => ?_) (fun c => ev_cases (fun c2 => ?_) (fun c2 => ?_)))))
    · rw [if_pos (.inl c)]; exact ev_now _
    · rw [if_pos (.inr c2)]; exact ev_now _
    · rw [if_neg (by omega)]; exact next
theorem check_ev {kd : Int} {ls ds : List Int} : Ev (fun k => objects_check.f k kd ls ds) (oflt kd ls ds) := by
  have hj : ∀ b : Bool, b = decide (kd < 1 ∨ kd > 3) → Ev (fun k => objects_check.j0 k b kd ls ds) (oflt kd ls ds) := by
    intro b hb
    unfold oflt
    refine Ev.step (fun k_ => by rw [objects_check.j0]) ?_
    by_cases c1 : kd < 1 ∨ kd > 3
    · rw [if_pos c1, hb, decide_eq_true c1]
      exact ev_pos rfl (ev_now _)
    · rw [if_neg c1, hb, decide_eq_false c1]
      refine ev_neg (by decide) (ev_ite (fun _ => ev_now _) (fun c2 => ev_ite (fun _ => ev_now _) (fun c3 => ?_)))
      have hl := check_l0 (ls := ls) (by omega) ls.length 0 (by omega)
      rw [List.drop_zero] at hl
      have hj1 : Ev (fun k => objects_check.j1 k kd ls ds) (lflt ls 0) := by
        refine Ev.step (fun k_ => by rw [objects_check.j1]) ?_
        exact hl
      refine ev_cases (fun c4 => ev_cases (fun c5 => ?_) (fun c5 => ?_)) (fun c4 => ?_)
      · rw [if_pos ⟨c4, c5⟩]; exact ev_now _
      · rw [if_neg (by omega)]; exact hj1
      · rw [if_neg (by omega)]; exact hj1
  unfold objects_check.f
  refine ev_cases (fun c => hj true (by rw [decide_eq_true (.inl c)])) (fun c => hj _ ?_)
  by_cases c2 : kd > 3
  · rw [decide_eq_true c2, decide_eq_true (.inr c2)]
  · rw [decide_eq_false c2, decide_eq_false (by omega)]
theorem ofault_l0 {kd : Int} {ls ds : List Int} (hl : (ls.length : Int) ≤ 1000) : ∀ (m i : Nat), i + m = ls.length → Ev (fun k => changeforgeref3_ObjectFault.l0 k (i : Int) kd ls ds) (lflt (ls.drop i) (i : Int)) := by
  intro m
  induction m with
  | zero =>
    intro i hi
    refine Ev.step (fun k_ => by rw [changeforgeref3_ObjectFault.l0]) ?_
    rw [List.drop_eq_nil_of_le (by omega)]
    exact ev_neg (by omega) (ev_now _)
  | succ m ih =>
    intro i hi
    have next := ih (i + 1) (by omega)
    rw [show ((i + 1 : Nat) : Int) = (i : Int) + 1 by omega] at next
    refine Ev.step (fun k_ => by rw [changeforgeref3_ObjectFault.l0]) ?_
    rw [w64 (x := (i : Int) + 1) (by omega), drop_cons_rd (by omega), In_eq]
    show Ev _ (if rd ls (i : Int) < 0 ∨ rd ls (i : Int) ≥ 2305843009213693951 then (3, (i : Int)) else lflt (ls.drop (i + 1)) ((i : Int) + 1))
    refine ev_pos (by omega) (ev_pos (by omega) (ev_some (ev_cases (fun c => ?_) (fun c => ?_))))
    · have c := of_decide_eq_true c
      rw [if_neg (by omega)]; exact next
    · have c : ¬ (0 ≤ rd ls (i : Int) ∧ rd ls (i : Int) ≤ 2305843009213693950) := fun h => c (decide_eq_true h)
      rw [if_pos (by omega)]
      exact ev_now _
theorem ofault_ev {kd : Int} {ls ds : List Int} : Ev (fun k => changeforgeref3_ObjectFault.f k kd ls ds) (oflt kd ls ds) := by
  unfold changeforgeref3_ObjectFault.f oflt
  rw [In_eq]
  refine ev_some (ev_cases (fun c => ?_) (fun c => ?_))
  · have c := of_decide_eq_true c
    rw [if_neg (by omega)]
    refine ev_ite (fun _ => ev_now _) (fun c2 => ev_ite (fun _ => ev_now _) (fun c3 => ?_))
    have hl := ofault_l0 (kd := kd) (ls := ls) (ds := ds) (by omega) ls.length 0 (by omega)
    rw [List.drop_zero] at hl
    refine ev_cases (fun c4 => ?_) (fun c4 => ?_)
    · refine Ev.step (fun k_ => by rw [changeforgeref3_ObjectFault.j0]) ?_
      by_cases c5 : (ls.length : Int) = 0
      · rw [if_neg (by omega)]
        refine ev_neg ?_ hl
        rw [c5]; decide
      · rw [if_pos (by omega)]
        exact ev_pos (by simp only [bne_iff_ne, ne_eq]; exact c5) (ev_now _)
    · refine Ev.step (fun k_ => by rw [changeforgeref3_ObjectFault.j0]) ?_
      rw [if_neg (by omega)]
      exact ev_neg (by decide) hl
  · have c : ¬ (1 ≤ kd ∧ kd ≤ 3) := fun h => c (decide_eq_true h)
    rw [if_pos (by omega)]
    exact ev_now _
end Go.Proofs.Ytnmkmamobhkcbaa.Obj
