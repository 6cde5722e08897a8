/- Texts of the proofs of 10 statements: what the printed functions come to, plain laws, rows (no condition beyond the statements' own). -/
import Derived.Test.YtnmkmamobhkcbaaGP24
import Derived.Test.YtnmkmamobhkcbaaGP10
import Derived.Test.YtnmkmamobhkcbaaGP18
/- The digest of an object: the program's and the reference's, one value. -/
namespace Go.Proofs.Ytnmkmamobhkcbaa.Obj
open Go.RowKit Go.Proofs.YtnmkmamobhkcbaaW.PrintWords Go.Proofs.YtnmkmamobhkcbaaW.PrintEv Go.Proofs.Ytnmkmamobhkcbaa.P Go.Proofs.Ytnmkmamobhkcbaa.Dig
open Go.Proofs.YtnmkmamobhkcbaaW.PrintMore
set_option linter.unusedVariables false

/-- Numbers, eight bytes each. -/
def wides (ls : List Int) : List Int := ls.flatMap wide
theorem wides_len (ls : List Int) : (wides ls).length = 8 * ls.length := by
  induction ls with
  | nil => rfl
  | cons x r ih =>
    show (wide x ++ wides r).length = _
    rw [List.length_append, ih, wide_len, List.length_cons]
    omega
theorem Bytes.append {a b : List Int} (h : Bytes a) (k : Bytes b) : Bytes (a ++ b) := fun x hx => (List.mem_append.1 hx).elim (h x) (k x)
theorem wides_bytes (ls : List Int) : Bytes (wides ls) := by
  intro b hb
  obtain ⟨x, _, h⟩ := List.mem_flatMap.1 hb
  exact wide_bytes x b h
/-- The bytes of an object that its digest is taken of. -/
def obytes (kd : Int) (ls ds : List Int) : List Int := [kd % 256, (ls.length : Int) % 256] ++ wides ls ++ ds
theorem obytes_len (kd : Int) (ls ds : List Int) : (obytes kd ls ds).length = 2 + 8 * ls.length + ds.length := by
  unfold obytes
  simp [wides_len]
  omega
theorem obytes_bytes {kd : Int} {ls ds : List Int} (h : Bytes ds) : Bytes (obytes kd ls ds) := by
  refine Bytes.append (Bytes.append (fun b hb => ?_) (wides_bytes ls)) h
  simp only [List.mem_cons, List.not_mem_nil, or_false] at hb
  rcases hb with rfl | rfl <;> omega
/-- The digest of an object. -/
def odg (kd : Int) (ls ds : List Int) : Int := dgf 1 (obytes kd ls ds)
theorem odg_lt (kd : Int) (ls ds : List Int) : 0 ≤ odg kd ls ds ∧ odg kd ls ds < 2305843009213693951 := dgf_lt (by decide)
section
variable {kd : Int} {ls ds : List Int} {R : Int × Int × Int}
theorem fHe {o : List Int} {x n i : Int} (ho : (o.length : Int) ≤ 100000)
    (h : Ev (fun k => objects_Digest.l0 k (o ++ wide x) ls n (wrap64 (i + 1)) kd ls ds) R) : Ev (fun k => objects_Digest.l1 k o x 56 ls n i kd ls ds) R := by
  have step : ∀ {p : Int} {o' : List Int}, 0 ≤ p ∧ p ≤ 56 → (o'.length : Int) ≤ 200000 → Ev (fun k => objects_Digest.l1 k (o' ++ [shr .i64 x p % 256]) x (p - 8) ls n i kd ls ds) R → Ev (fun k => objects_Digest.l1 k o' x p ls n i kd ls ds) R := by
    intro p o' hp hl hr
    refine Ev.step (fun k_ => by rw [objects_Digest.l1]) ?_
    refine ev_pos (by omega) (ev_pos (by omega) (ev_pos (by omega) ?_))
    rw [w64 (x := p - 8) (by omega)]
    exact hr
  refine step (by decide) (by omega) (step (by decide) (by simp; omega) (step (by decide) (by simp; omega) (step (by decide) (by simp; omega) (step (by decide) (by simp; omega) (step (by decide) (by simp; omega) (step (by decide) (by simp; omega) (step (by decide) (by simp; omega) ?_)))))))
  refine Ev.step (fun k_ => by rw [objects_Digest.l1]) ?_
  refine ev_neg (by decide) ?_
  have e : o ++ wide x = o ++ [shr .i64 x 56 % 256] ++ [shr .i64 x (56 - 8) % 256] ++ [shr .i64 x (56 - 8 - 8) % 256] ++ [shr .i64 x (56 - 8 - 8 - 8) % 256] ++ [shr .i64 x (56 - 8 - 8 - 8 - 8) % 256] ++ [shr .i64 x (56 - 8 - 8 - 8 - 8 - 8) % 256] ++ [shr .i64 x (56 - 8 - 8 - 8 - 8 - 8 - 8) % 256] ++ [shr .i64 x (56 - 8 - 8 - 8 - 8 - 8 - 8 - 8) % 256] := by
    rw [show (56 - 8 : Int) = 48 from rfl, show (48 - 8 : Int) = 40 from rfl, show (40 - 8 : Int) = 32 from rfl, show (32 - 8 : Int) = 24 from rfl, show (24 - 8 : Int) = 16 from rfl, show (16 - 8 : Int) = 8 from rfl, show (8 - 8 : Int) = 0 from rfl, s56, s48, s40, s32, s24, s16, s8, s0]
    simp [wide]
  rw [← e]
  exact h
theorem fHf (hl : (ls.length : Int) ≤ 30) (hd : (ds.length : Int) ≤ 1000) (hb : Bytes ds) : ∀ (m i : Nat) (o : List Int), i + m = ls.length → o.length = 2 + 8 * i → o ++ wides (ls.drop i) ++ ds = obytes kd ls ds → Ev (fun k => objects_Digest.l0 k o ls (ls.length : Int) (i : Int) kd ls ds) (odg kd ls ds, 0, 0) := by
  intro m
  induction m with
  | zero =>
    intro i o hi ho he
    refine Ev.step (fun k_ => by rw [objects_Digest.l0]) ?_
    rw [List.drop_eq_nil_of_le (by omega)] at he
    have he : o ++ ds = obytes kd ls ds := by rw [← he]; simp [wides]
    refine ev_neg (by omega) (ev_pos (by omega) ?_)
    rw [he]
    have hr : ofR (obytes kd ls ds) = (odg kd ls ds, 0, 0) := by
      unfold ofR
      rw [if_neg (by rw [obytes_len]; omega)]
      rfl
    have := of_ev (l := obytes kd ls ds) (obytes_bytes hb)
    rw [hr] at this
    exact ev_bind this (ev_now _)
  | succ m ih =>
    intro i o hi ho he
    have next := ih (i + 1) (o ++ wide (rd ls (i : Int))) (by omega) (by rw [List.length_append, wide_len]; omega) (by
      rw [← he, drop_cons_rd (i := i) (by omega)]
      simp [wides])
    rw [show ((i + 1 : Nat) : Int) = (i : Int) + 1 by omega] at next
    refine Ev.step (fun k_ => by rw [objects_Digest.l0]) ?_
    refine ev_pos (by omega) (ev_pos (by omega) (ev_pos (by omega) (fHe (by omega) ?_)))
    rw [w64 (by omega)]
    exact next
/-- What objects.Digest comes to. -/
def odR (kd : Int) (ls ds : List Int) : Int × Int × Int := if (oflt kd ls ds).1 ≠ 0 then (0, oflt kd ls ds) else (odg kd ls ds, 0, 0)
theorem odigest_ev (hb : Bytes ds) : Ev (fun k => objects_Digest.f k kd ls ds) (odR kd ls ds) := by
  unfold objects_Digest.f odR
  refine ev_bind check_ev ?_
  by_cases c : (oflt kd ls ds).1 ≠ 0
  · rw [if_pos c]
    refine ev_pos ?_ (ev_now _)
    have : ((oflt kd ls ds).1 == 0) = false := beq_eq_false_iff_ne.2 c
    rw [this]; rfl
  · obtain ⟨e, g⟩ := oflt_zero (Decidable.not_not.1 c)
    rw [if_neg c, e]
    refine ev_neg (by decide) ?_
    exact fHf g.nl g.nd hb ls.length 0 _ (by omega) rfl (by rw [List.drop_zero]; rfl)
theorem fHg (g : Good kd ls ds) (hb : Bytes ds) : ∀ (m i : Nat) (o : List Int), i + m = ls.length → o.length = 2 + 8 * i → o ++ wides (ls.drop i) ++ ds = obytes kd ls ds → Ev (fun k => aV.l0 k o (i : Int) kd ls ds) (odg kd ls ds) := by
  have g1 := g.nl
  have g2 := g.nd
  intro m
  induction m with
  | zero =>
    intro i o hi ho he
    refine Ev.step (fun k_ => by rw [aV.l0]) ?_
    rw [List.drop_eq_nil_of_le (by omega)] at he
    have he : o ++ ds = obytes kd ls ds := by rw [← he]; simp [wides]
    refine ev_neg (by omega) (ev_pos (by omega) ?_)
    rw [he]
    exact ev_bind (dof_ev (by rw [obytes_len]; omega) (obytes_bytes hb)) (ev_now _)
  | succ m ih =>
    intro i o hi ho he
    have hx := g.link _ (rd_mem (xs := ls) (i := (i : Int)) (by omega) (by omega))
    have next := ih (i + 1) (o ++ wide (rd ls (i : Int))) (by omega) (by rw [List.length_append, wide_len]; omega) (by
      rw [← he, drop_cons_rd (i := i) (by omega)]
      simp [wides])
    rw [show ((i + 1 : Nat) : Int) = (i : Int) + 1 by omega] at next
    refine Ev.step (fun k_ => by rw [aV.l0]) ?_
    refine ev_pos (by omega) (ev_pos (by omega) (ev_bind (wide_ev (by omega)) (ev_pos (by rw [wide_len]; omega) ?_)))
    rw [w64 (by omega)]
    exact next
theorem rodigest_ev (g : Good kd ls ds) (hb : Bytes ds) : Ev (fun k => aV.f k kd ls ds) (odg kd ls ds) := by
  unfold aV.f
  exact fHg g hb ls.length 0 _ (by omega) rfl (by rw [List.drop_zero]; rfl)
end
end Go.Proofs.Ytnmkmamobhkcbaa.Obj

/- The fault of a store: objects.Validate and the reference's StoreFault, one value. -/
namespace Go.Proofs.Ytnmkmamobhkcbaa.Obj
open Go.RowKit Go.Proofs.YtnmkmamobhkcbaaW.PrintWords Go.Proofs.YtnmkmamobhkcbaaW.PrintEv Go.Proofs.Ytnmkmamobhkcbaa.P Go.Proofs.Ytnmkmamobhkcbaa.Dig
set_option linter.unusedVariables false

abbrev at_ (l : List SO) (i : Int) : SO := aA l i
def of1 (o : SO) : Int × Int := oflt o.f1.f0 o.f1.f1 o.f1.f2
def od1 (o : SO) : Int := odg o.f1.f0 o.f1.f1 o.f1.f2
abbrev bS0 (o : SO) : Prop := Good o.f1.f0 o.f1.f1 o.f1.f2
def sfl (l : List SO) : Nat → Int → Int × Int
  | 0, _ => (0, 0)
  | n + 1, i => if (of1 (at_ l i)).1 ≠ 0 then ((of1 (at_ l i)).1, i) else if od1 (at_ l i) ≠ (at_ l i).f0 then (18, i) else if i > 0 ∧ (at_ l (i - 1)).f0 ≥ (at_ l i).f0 then (5, i) else sfl l n (i + 1)
/-- The fault of a store. -/
def sf (l : List SO) : Int × Int := if (l.length : Int) > 40 then (2, 0) else sfl l l.length 0
/-- A store without fault. -/
structure Store (l : List SO) : Prop where
  len : (l.length : Int) ≤ 40
  good : ∀ i : Int, 0 ≤ i → i < l.length → bS0 (at_ l i) ∧ od1 (at_ l i) = (at_ l i).f0
  asc : ∀ i : Int, 0 < i → i < l.length → (at_ l (i - 1)).f0 < (at_ l i).f0
theorem sfl_zero {l : List SO} : ∀ {n : Nat} {k : Int}, (sfl l n k).1 = 0 → sfl l n k = (0, 0) ∧ ∀ i, k ≤ i → i < k + n → bS0 (at_ l i) ∧ od1 (at_ l i) = (at_ l i).f0 ∧ (0 < i → (at_ l (i - 1)).f0 < (at_ l i).f0)
  | 0, k, _ => ⟨rfl, fun i h1 h2 => by omega⟩
  | n + 1, k, h => by
    unfold sfl at h ⊢
    by_cases c1 : (of1 (at_ l k)).1 ≠ 0
    · rw [if_pos c1] at h; exact absurd h c1
    rw [if_neg c1] at h ⊢
    by_cases c2 : od1 (at_ l k) ≠ (at_ l k).f0
    · rw [if_pos c2] at h; exact absurd h (show ¬ (18 : Int) = 0 by decide)
    rw [if_neg c2] at h ⊢
    by_cases c3 : k > 0 ∧ (at_ l (k - 1)).f0 ≥ (at_ l k).f0
    · rw [if_pos c3] at h; exact absurd h (show ¬ (5 : Int) = 0 by decide)
    rw [if_neg c3] at h ⊢
    obtain ⟨h1, h2⟩ := sfl_zero h
    refine ⟨h1, fun i hi hi' => ?_⟩
    by_cases e : i = k
    · subst e
      exact ⟨(oflt_zero (Decidable.not_not.1 c1)).2, Decidable.not_not.1 c2, fun h0 => by omega⟩
    · exact h2 i (by omega) (by omega)
theorem sf_zero {l : List SO} (h : (sf l).1 = 0) : sf l = (0, 0) ∧ Store l := by
  unfold sf at h ⊢
  by_cases c : (l.length : Int) > 40
  · rw [if_pos c] at h; exact absurd h (by decide)
  · rw [if_neg c] at h ⊢
    obtain ⟨h1, h2⟩ := sfl_zero h
    exact ⟨h1, by omega, fun i h0 hi => ⟨(h2 i h0 (by omega)).1, (h2 i h0 (by omega)).2.1⟩, fun i h0 hi => (h2 i (by omega) (by omega)).2.2 h0⟩
theorem at_mem {l : List SO} {i : Int} (h0 : 0 ≤ i) (h : i < l.length) : at_ l i ∈ l := by
  obtain ⟨n, rfl⟩ := Int.eq_ofNat_of_zero_le h0
  show rdOf _ l (n : Int) ∈ l
  rw [rdOf_nat _ l (by omega)]
  exact List.getElem_mem _
theorem ok_bytes {o : SO} (h : fB.ok o) : Bytes o.f1.f2 := by
  intro b hb
  have := h.2.2.2.2 b hb
  simp [Lit.wf, IntKind.min, IntKind.max, IntKind.bits, IntKind.signed] at this
  omega
theorem eSw {o : SO} (c : (of1 o).1 ≠ 0) : (odR o.f1.f0 o.f1.f1 o.f1.f2) = (0, of1 o) := by
  unfold odR
  exact if_pos c
theorem fHc {o : SO} (c : ¬ (of1 o).1 ≠ 0) : (odR o.f1.f0 o.f1.f1 o.f1.f2) = (od1 o, 0, 0) := by
  unfold odR
  exact if_neg c
section
variable {l : List SO}
theorem fHd (hp : ∀ x ∈ l, fB.ok x) (hl : (l.length : Int) ≤ 40) : ∀ (m i : Nat), i + m = l.length → Ev (fun k => objects_Validate.l0 k l (l.length : Int) (i : Int) l) (sfl l m (i : Int)) := by
  intro m
  induction m with
  | zero =>
    intro i hi
    refine Ev.step (fun k_ => by rw [objects_Validate.l0]) ?_
    exact ev_neg (by omega) (ev_now _)
  | succ m ih =>
    intro i hi
    have next := ih (i + 1) (by omega)
    rw [show ((i + 1 : Nat) : Int) = (i : Int) + 1 by omega] at next
    have hd := odigest_ev (kd := (at_ l (i : Int)).f1.f0) (ls := (at_ l (i : Int)).f1.f1) (ok_bytes (hp _ (at_mem (i := (i : Int)) (by omega) (by omega))))
    refine Ev.step (fun k_ => by rw [objects_Validate.l0]) ?_
    refine ev_pos (by omega) (ev_pos (by omega) (ev_pos (by omega) (ev_bind hd ?_)))
    unfold sfl
    by_cases c1 : (of1 (at_ l (i : Int))).1 ≠ 0
    · rw [eSw c1, if_pos c1]
      refine ev_pos ?_ (ev_now _)
      have : ((of1 (at_ l (i : Int))).1 == 0) = false := beq_eq_false_iff_ne.2 c1
      simp [this]
    · rw [fHc c1, if_neg c1]
      refine ev_neg (by simp) ?_
      by_cases c2 : od1 (at_ l (i : Int)) ≠ (at_ l (i : Int)).f0
      · rw [if_pos c2]
        exact ev_neg c2 (ev_now _)
      · have c2 := Decidable.not_not.1 c2
        rw [if_neg (not_not_intro c2)]
        refine ev_pos c2 ?_
        rw [w64 (x := (i : Int) - 1) (by omega), w64 (x := (i : Int) + 1) (by omega)]
        refine ev_cases (fun c3 => ev_pos (by omega) (ev_pos (by omega) (ev_cases (fun c4 => ?_) (fun c4 => ?_)))) (fun c3 => ?_)
        · have c4 : (at_ l ((i : Int) - 1)).f0 ≥ od1 (at_ l (i : Int)) := c4
          rw [if_pos ⟨c3, c2 ▸ c4⟩]; exact ev_now _
        · have c4 : ¬ (at_ l ((i : Int) - 1)).f0 ≥ od1 (at_ l (i : Int)) := c4
          rw [if_neg (fun h => c4 (c2 ▸ h.2))]; exact next
        · rw [if_neg (fun h => c3 h.1)]; exact next
theorem val_ev (hp : ∀ x ∈ l, fB.ok x) : Ev (fun k => objects_Validate.f k l) (sf l) := by
  unfold objects_Validate.f sf
  exact ev_ite (fun _ => ev_now _) (fun h => fHd hp (by omega) l.length 0 (by omega))
theorem eSx (hp : ∀ x ∈ l, fB.ok x) (hl : (l.length : Int) ≤ 40) : ∀ (m i : Nat), i + m = l.length → Ev (fun k => aH.l0 k (i : Int) l) (sfl l m (i : Int)) := by
  intro m
  induction m with
  | zero =>
    intro i hi
    refine Ev.step (fun k_ => by rw [aH.l0]) ?_
    exact ev_neg (by omega) (ev_now _)
  | succ m ih =>
    intro i hi
    have next := ih (i + 1) (by omega)
    rw [show ((i + 1 : Nat) : Int) = (i : Int) + 1 by omega] at next
    have hb := ok_bytes (hp _ (at_mem (i := (i : Int)) (by omega) (by omega)))
    have hd := ofault_ev (kd := (at_ l (i : Int)).f1.f0) (ls := (at_ l (i : Int)).f1.f1) (ds := (at_ l (i : Int)).f1.f2)
    refine Ev.step (fun k_ => by rw [aH.l0]) ?_
    refine ev_pos (by omega) (ev_pos (by omega) (ev_bind hd ?_))
    unfold sfl
    by_cases c1 : (of1 (at_ l (i : Int))).1 ≠ 0
    · rw [if_pos c1]
      exact ev_neg c1 (ev_now _)
    · rw [if_neg c1]
      have hg := (oflt_zero (Decidable.not_not.1 c1)).2
      refine ev_pos (Decidable.not_not.1 c1) (ev_bind (rodigest_ev hg hb) ?_)
      by_cases c2 : od1 (at_ l (i : Int)) ≠ (at_ l (i : Int)).f0
      · rw [if_pos c2]
        exact ev_neg c2 (ev_now _)
      · have c2 := Decidable.not_not.1 c2
        rw [if_neg (not_not_intro c2)]
        refine ev_pos c2 ?_
        rw [w64 (x := (i : Int) - 1) (by omega), w64 (x := (i : Int) + 1) (by omega)]
        refine ev_cases (fun c3 => ev_pos (by omega) (ev_pos (by omega) (ev_cases (fun c4 => ?_) (fun c4 => ?_)))) (fun c3 => ?_)
        · rw [if_pos ⟨c3, c4⟩]; exact ev_now _
        · rw [if_neg (fun h => c4 h.2)]; exact next
        · rw [if_neg (fun h => c3 h.1)]; exact next
theorem sflt_ev (hp : ∀ x ∈ l, fB.ok x) : Ev (fun k => aH.f k l) (sf l) := by
  unfold aH.f sf
  exact ev_ite (fun _ => ev_now _) (fun h => eSx hp (by omega) l.length 0 (by omega))
end
end Go.Proofs.Ytnmkmamobhkcbaa.Obj
