/- The digest of an object: the program's and the reference's, one value. -/
import Derived.Test.YtnmkmamobhkcbaaObj1
import Derived.Test.YtnmkmamobhkcbaaP21
import Derived.Test.YtnmkmamobhkcbaaP9
namespace Go.Proofs.Ytnmkmamobhkcbaa.Obj
open Go.RowKit Go.Proofs.YtnmkmamobhkcbaaW.PrintWords Go.Proofs.YtnmkmamobhkcbaaW.PrintEv Go.Proofs.Ytnmkmamobhkcbaa.P Go.Proofs.Ytnmkmamobhkcbaa.Dig
open Go.Proofs.YtnmkmamobhkcbaaW.PrintMore
set_option linter.unusedVariables false

/-- Numbers, eight bytes each. -/
def wides (ls : List Int) : List Int := ls.flatMap wide
theorem wides_len (ls : List Int) : (wides ls).length = 8 * ls.length := by
  induction ls with
  | nil => rfl
  | cons x r ih =>
    show (wide x ++ wides r).length = _
    rw [List.length_append, ih, wide_len, List.length_cons]
    omega
theorem Bytes.append {a b : List Int} (h : Bytes a) (k : Bytes b) : Bytes (a ++ b) := fun x hx => (List.mem_append.1 hx).elim (h x) (k x)
theorem wides_bytes (ls : List Int) : Bytes (wides ls) := by
  intro b hb
  obtain ⟨x, _, h⟩ := List.mem_flatMap.1 hb
  exact wide_bytes x b h
/-- The bytes of an object that its digest is taken of. -/
def obytes (kd : Int) (ls ds : List Int) : List Int := [kd % 256, (ls.length : Int) % 256] ++ wides ls ++ ds
theorem obytes_len (kd : Int) (ls ds : List Int) : (obytes kd ls ds).length = 2 + 8 * ls.length + ds.length := by
  unfold obytes
  simp [wides_len]
  omega
theorem obytes_bytes {kd : Int} {ls ds : List Int} (h : Bytes ds) : Bytes (obytes kd ls ds) := by
  refine Bytes.append (Bytes.append (fun b hb => ?_) (wides_bytes ls)) h
  simp only [List.mem_cons, List.not_mem_nil, or_false] at hb
  rcases hb with rfl | rfl <;> omega
/-- The digest of an object. -/
def odg (kd : Int) (ls ds : List Int) : Int := dgf 1 (obytes kd ls ds)
theorem odg_lt (kd : Int) (ls ds : List Int) : 0 ≤ odg kd ls ds ∧ odg kd ls ds < 2305843009213693951 := dgf_lt (by decide)
section
variable {kd : Int} {ls ds : List Int} {R : Int × Int × Int}
theorem dig_l1 {o : List Int} {x n i : Int} (ho : (o.length : Int) ≤ 100000)
    (h : Ev (fun k => objects_Digest.l0 k (o ++ wide x) ls n (wrap64 (i + 1)) kd ls ds) R) : Ev (fun k => objects_Digest.l1 k o x 56 ls n i kd ls ds) R := by
  have step : ∀ {p : Int} {o' : List Int}, 0 ≤ p ∧ p ≤ 56 → (o'.length : Int) ≤ 200000 → Ev (fun k => objects_Digest.l1 k (o' ++ [shr .i64 x p % 256]) x (p - 8) ls n i kd ls ds) R → Ev (fun k => objects_Digest.l1 k o' x p ls n i kd ls ds) R := by
    intro p o' hp hl hr
    refine Ev.step (fun k_ => by rw [objects_Digest.l1]) ?_
    refine ev_pos (by omega) (ev_pos (by omega) (ev_pos (by omega) ?_))
    rw [w64 (x := p - 8) (by omega)]
    exact hr
  refine step (by decide) (by omega) (step (by decide) (by simp; omega) (step (by decide) (by simp; omega) (step (by decide) (by simp; omega) (step (by decide) (by simp; omega) (step (by decide) (by simp; omega) (step (by decide) (by simp; omega) (step (by decide) (by simp; omega) ?_)))))))
  refine Ev.step (fun k_ => by rw [objects_Digest.l1]) ?_
  refine ev_neg (by decide) ?_
  have e : o ++ wide x = o ++ [shr .i64 x 56 % 256] ++ [shr .i64 x (56 - 8) % 256] ++ [shr .i64 x (56 - 8 - 8) % 256] ++ [shr .i64 x (56 - 8 - 8 - 8) % 256] ++ [shr .i64 x (56 - 8 - 8 - 8 - 8) % 256] ++ [shr .i64 x (56 - 8 - 8 - 8 - 8 - 8) % 256] ++ [shr .i64 x (56 - 8 - 8 - 8 - 8 - 8 - 8) % 256] ++ [shr .i64 x (56 - 8 - 8 - 8 - 8 - 8 - 8 - 8) % 256] := by
    rw [show (56 - 8 : Int) = 48 from rfl, show (48 - 8 : Int) = 40 from rfl, show (40 - 8 : Int) = 32 from rfl, show (32 - 8 : Int) = 24 from rfl, show (24 - 8 : Int) = 16 from rfl, show (16 - 8 : Int) = 8 from rfl, show (8 - 8 : Int) = 0 from rfl, s56, s48, s40, s32, s24, s16, s8, s0]
    simp [wide]
  rw [← e]
  exact h
theorem dig_l0 (hl : (ls.length : Int) ≤ 30) (hd : (ds.length : Int) ≤ 1000) (hb : Bytes ds) : ∀ (m i : Nat) (o : List Int), i + m = ls.length → o.length = 2 + 8 * i → o ++ wides (ls.drop i) ++ ds = obytes kd ls ds → Ev (fun k => objects_Digest.l0 k o ls (ls.length : Int) (i : Int) kd ls ds) (odg kd ls ds, 0, 0) := by
  intro m
  induction m with
  | zero =>
    intro i o hi ho he
    refine Ev.step (fun k_ => by rw [objects_Digest.l0]) ?_
    rw [List.drop_eq_nil_of_le (by omega)] at he
    have he : o ++ ds = obytes kd ls ds := by rw [← he]; simp [wides]
    refine ev_neg (by omega) (ev_pos (by omega) ?_)
    rw [he]
    have hr : ofR (obytes kd ls ds) = (odg kd ls ds, 0, 0) := by
      unfold ofR
      rw [if_neg (by rw [obytes_len]; omega)]
      rfl
    have := of_ev (l := obytes kd ls ds) (obytes_bytes hb)
    rw [hr] at this
    exact ev_bind this (ev_now _)
  | succ m ih =>
    intro i o hi ho he
    have next := ih (i + 1) (o ++ wide (rd ls (i : Int))) (by omega) (by rw [List.length_append, wide_len]; omega) (by
      rw [← he, drop_cons_rd (i := i) (by omega)]
      simp [wides])
    rw [show ((i + 1 : Nat) : Int) = (i : Int) + 1 by omega] at next
    refine Ev.step (fun k_ => by rw [objects_Digest.l0]) ?_
    refine ev_pos (by omega) (ev_pos (by omega) (ev_pos (by omega) (dig_l1 (by omega) ?_)))
    rw [w64 (by omega)]
    exact next
/-- What objects.Digest comes to. -/
def odR (kd : Int) (ls ds : List Int) : Int × Int × Int := if (oflt kd ls ds).1 ≠ 0 then (0, oflt kd ls ds) else (odg kd ls ds, 0, 0)
theorem odigest_ev (hb : Bytes ds) : Ev (fun k => objects_Digest.f k kd ls ds) (odR kd ls ds) := by
  unfold objects_Digest.f odR
  refine ev_bind check_ev ?_
  by_cases c : (oflt kd ls ds).1 ≠ 0
  · rw [if_pos c]
    refine ev_pos ?_ (ev_now _)
    have : ((oflt kd ls ds).1 == 0) = false := beq_eq_false_iff_ne.2 c
    rw [this]; rfl
  · obtain ⟨e, g⟩ := oflt_zero (Decidable.not_not.1 c)
    rw [if_neg c, e]
    refine ev_neg (by decide) ?_
    exact dig_l0 g.nl g.nd hb ls.length 0 _ (by omega) rfl (by rw [List.drop_zero]; rfl)
theorem rod_l0 (g : Good kd ls ds) (hb : Bytes ds) : ∀ (m i : Nat) (o : List Int), i + m = ls.length → o.length = 2 + 8 * i → o ++ wides (ls.drop i) ++ ds = obytes kd ls ds → Ev (fun k => changeforgeref3_ObjectDigest.l0 k o (i : Int) kd ls ds) (odg kd ls ds) := by
  have g1 := g.nl
  have g2 := g.nd
  intro m
  induction m with
  | zero =>
    intro i o hi ho he
    refine Ev.step (fun k_ => by rw [changeforgeref3_ObjectDigest.l0]) ?_
    rw [List.drop_eq_nil_of_le (by omega)] at he
    have he : o ++ ds = obytes kd ls ds := by rw [← he]; simp [wides]
    refine ev_neg (by omega) (ev_pos (by omega) ?_)
    rw [he]
    exact ev_bind (dof_ev (by rw [obytes_len]; omega) (obytes_bytes hb)) (ev_now _)
  | succ m ih =>
    intro i o hi ho he
    have hx := g.link _ (rd_mem (xs := ls) (i := (i : Int)) (by omega) (by omega))
    have next := ih (i + 1) (o ++ wide (rd ls (i : Int))) (by omega) (by rw [List.length_append, wide_len]; omega) (by
      rw [← he, drop_cons_rd (i := i) (by omega)]
      simp [wides])
    rw [show ((i + 1 : Nat) : Int) = (i : Int) + 1 by omega] at next
    refine Ev.step (fun k_ => by rw [changeforgeref3_ObjectDigest.l0]) ?_
    refine ev_pos (by omega) (ev_pos (by omega) (ev_bind (wide_ev (by omega)) (ev_pos (by rw [wide_len]; omega) ?_)))
    rw [w64 (by omega)]
    exact next
theorem rodigest_ev (g : Good kd ls ds) (hb : Bytes ds) : Ev (fun k => changeforgeref3_ObjectDigest.f k kd ls ds) (odg kd ls ds) := by
  unfold changeforgeref3_ObjectDigest.f
  exact rod_l0 g hb ls.length 0 _ (by omega) rfl (by rw [List.drop_zero]; rfl)
end
end Go.Proofs.Ytnmkmamobhkcbaa.Obj
