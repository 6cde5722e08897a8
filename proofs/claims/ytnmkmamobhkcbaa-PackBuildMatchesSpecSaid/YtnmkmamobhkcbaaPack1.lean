/- The bytes of a pack: pack.Build and the reference's PackBytes, one list. -/
import Derived.Test.YtnmkmamobhkcbaaObj3
import Derived.Test.YtnmkmamobhkcbaaP11
import Derived.Test.YtnmkmamobhkcbaaP12
import Derived.Test.YtnmkmamobhkcbaaP13
import Derived.Test.YtnmkmamobhkcbaaP23
namespace Go.Proofs.Ytnmkmamobhkcbaa.Obj
open Go.RowKit Go.Proofs.YtnmkmamobhkcbaaW.PrintWords Go.Proofs.YtnmkmamobhkcbaaW.PrintEv Go.Proofs.Ytnmkmamobhkcbaa.P Go.Proofs.Ytnmkmamobhkcbaa.Dig
open Go.Proofs.YtnmkmamobhkcbaaW.PrintMore
set_option linter.unusedVariables false

/-- The bytes of an object in a pack. -/
def pke (ls ds : List Int) (kd : Int) : List Int := [kd % 256, (ls.length : Int) % 256, (ds.length : Int) / 256 % 256, (ds.length : Int) % 256] ++ wides ls ++ ds
def pk1 (o : SO) : List Int := pke o.f1.f1 o.f1.f2 o.f1.f0
/-- The bytes of a pack without its digest. -/
def pkl (l : List SO) : List Int := [80, 75, (l.length : Int) % 256] ++ l.flatMap pk1
def pkb (l : List SO) : List Int := pkl l ++ wide (dgf 1 (pkl l))
theorem pke_len (ls ds : List Int) (kd : Int) : (pke ls ds kd).length = 4 + 8 * ls.length + ds.length := by
  unfold pke
  simp [wides_len]
  omega
theorem pk1_len {o : SO} (g : Good1 o) : ((pk1 o).length : Int) ≤ 1244 := by
  have := pke_len o.f1.f1 o.f1.f2 o.f1.f0
  have h1 := g.nl
  have h2 := g.nd
  show ((pke _ _ _).length : Int) ≤ _
  omega
theorem pk1_bytes {o : SO} (h : Bytes o.f1.f2) : Bytes (pk1 o) := by
  refine Bytes.append (Bytes.append (fun b hb => ?_) (wides_bytes _)) h
  simp only [List.mem_cons, List.not_mem_nil, or_false] at hb
  rcases hb with rfl | rfl | rfl | rfl <;> omega
theorem number_ev {l : List Int} {n : Int} (hl : (l.length : Int) ≤ 100000) : Ev (fun k => pack_number.f k l n) (l ++ wide n) := by
  have step : ∀ {p : Int} {o : List Int} {r : List Int}, 0 ≤ p ∧ p ≤ 56 → (o.length : Int) ≤ 200000 → Ev (fun k => pack_number.l0 k (o ++ [shr .i64 n p % 256]) n (p - 8)) r → Ev (fun k => pack_number.l0 k o n p) r := by
    intro p o r hp hl hr
    refine Ev.step (fun k_ => by rw [pack_number.l0]) ?_
    refine ev_pos (by omega) (ev_pos (by omega) (ev_pos (by omega) ?_))
    rw [w64 (x := p - 8) (by omega)]
    exact hr
  unfold pack_number.f
  refine step (by decide) (by omega) (step (by decide) (by simp; omega) (step (by decide) (by simp; omega) (step (by decide) (by simp; omega) (step (by decide) (by simp; omega) (step (by decide) (by simp; omega) (step (by decide) (by simp; omega) (step (by decide) (by simp; omega) ?_)))))))
  refine Ev.step (fun k_ => by rw [pack_number.l0]) ?_
  refine ev_neg (by decide) (ev_cast (ev_now _) ?_)
  rw [show (56 - 8 : Int) = 48 from rfl, show (48 - 8 : Int) = 40 from rfl, show (40 - 8 : Int) = 32 from rfl, show (32 - 8 : Int) = 24 from rfl, show (24 - 8 : Int) = 16 from rfl, show (16 - 8 : Int) = 8 from rfl, show (8 - 8 : Int) = 0 from rfl, s56, s48, s40, s32, s24, s16, s8, s0]
  simp [wide]
theorem entry_l0 {ls ds : List Int} {kd : Int} (hl : (ls.length : Int) ≤ 30) (hd : (ds.length : Int) ≤ 1000) : ∀ (m i : Nat) (o : List Int), i + m = ls.length → (o.length : Int) ≤ 60000 + 8 * i → Ev (fun k => pack_entry.l0 k o ls (ls.length : Int) (i : Int) kd ls ds) (o ++ wides (ls.drop i) ++ ds) := by
  intro m
  induction m with
  | zero =>
    intro i o hi ho
    refine Ev.step (fun k_ => by rw [pack_entry.l0]) ?_
    rw [List.drop_eq_nil_of_le (by omega)]
    refine ev_neg (by omega) (ev_pos (by omega) (ev_cast (ev_now _) ?_))
    simp [wides]
  | succ m ih =>
    intro i o hi ho
    have next := ih (i + 1) (o ++ wide (rd ls (i : Int))) (by omega) (by rw [List.length_append, wide_len]; omega)
    rw [show ((i + 1 : Nat) : Int) = (i : Int) + 1 by omega] at next
    refine Ev.step (fun k_ => by rw [pack_entry.l0]) ?_
    refine ev_pos (by omega) (ev_pos (by omega) (ev_pos (by omega) (ev_bind (number_ev (by omega)) ?_)))
    rw [w64 (x := (i : Int) + 1) (by omega)]
    refine ev_cast next ?_
    rw [drop_cons_rd (xs := ls) (i := i) (by omega)]
    simp [wides]
theorem entry_ev {o : SO} {b : List Int} (g : Good1 o) (hb : (b.length : Int) ≤ 50000) : Ev (fun k => pack_entry.f k b o.f1.f0 o.f1.f1 o.f1.f2) (b ++ pk1 o) := by
  have h1 := g.nl
  have h2 := g.nd
  unfold pack_entry.f
  refine ev_some (ev_pos (by simp; omega) ?_)
  refine ev_cast (entry_l0 h1 h2 o.f1.f1.length 0 _ (by omega) (by simp; omega)) ?_
  rw [List.drop_zero]
  show _ = b ++ pke _ _ _
  unfold pke
  simp
section
variable {l : List SO}
theorem drop_at {i : Nat} (h : i < l.length) : l.drop i = at_ l (i : Int) :: l.drop (i + 1) := by
  show _ = rdOf _ l (i : Int) :: _
  rw [rdOf_nat _ l h]
  exact List.drop_eq_getElem_cons h
theorem flat_len (hs : ∀ i : Int, 0 ≤ i → i < l.length → Good1 (at_ l i)) : ∀ (m i : Nat), i + m = l.length → (((l.drop i).flatMap pk1).length : Int) ≤ 1244 * m := by
  intro m
  induction m with
  | zero => intro i hi; rw [List.drop_eq_nil_of_le (by omega)]; simp
  | succ m ih =>
    intro i hi
    have h1 := ih (i + 1) (by omega)
    have h2 := pk1_len (hs (i : Int) (by omega) (by omega))
    rw [drop_at (i := i) (by omega), List.flatMap_cons, List.length_append]
    omega
theorem pkl_len (hs : Store l) : ((pkl l).length : Int) ≤ 49763 := by
  have h := flat_len (l := l) (fun i h0 h1 => (hs.good i h0 h1).1) l.length 0 (by omega)
  have hl := hs.len
  rw [List.drop_zero] at h
  show ((([80, 75, (l.length : Int) % 256] : List Int) ++ l.flatMap pk1).length : Int) ≤ _
  rw [List.length_append]
  simp only [List.length_cons, List.length_nil]
  omega
theorem flat_bytes {l : List SO} (hp : ∀ x ∈ l, S46.ok x) : Bytes (l.flatMap pk1) := by
  intro b hb
  obtain ⟨x, hx, h⟩ := List.mem_flatMap.1 hb
  exact pk1_bytes (ok_bytes (hp x hx)) b h
theorem pkl_bytes (hp : ∀ x ∈ l, S46.ok x) : Bytes (pkl l) := by
  refine Bytes.append (fun b hb => ?_) (flat_bytes hp)
  simp only [List.mem_cons, List.not_mem_nil, or_false] at hb
  rcases hb with rfl | rfl | rfl <;> omega
/-- What pack.Build comes to. -/
def pbR (l : List SO) : List Int × Int × Int := if (sf l).1 ≠ 0 then ([], sf l) else if ((pkl l).length : Int) > 4088 then ([], 10, -1) else (pkb l, 0, 0)
theorem build_l0 (hp : ∀ x ∈ l, S46.ok x) (hs : Store l) : ∀ (m i : Nat) (b : List Int), i + m = l.length → (b.length : Int) ≤ 3 + 1244 * i → b ++ (l.drop i).flatMap pk1 = pkl l → Ev (fun k => pack_Build.l0 k b l (l.length : Int) (i : Int)) (if ((pkl l).length : Int) > 4088 then ([], 10, -1) else (pkb l, 0, 0)) := by
  have hl := hs.len
  intro m
  induction m with
  | zero =>
    intro i b hi hb he
    refine Ev.step (fun k_ => by rw [pack_Build.l0]) ?_
    rw [List.drop_eq_nil_of_le (by omega)] at he
    have he : b = pkl l := by rw [← he]; simp
    rw [he]
    refine ev_neg (by omega) (ev_ite (fun _ => ev_now _) (fun hc => ?_))
    have := of_ev (l := pkl l) (pkl_bytes hp)
    have hr : ofR (pkl l) = (dgf 1 (pkl l), 0, 0) := by unfold ofR; rw [if_neg (by omega)]
    rw [hr] at this
    exact ev_bind this (ev_bind (number_ev (by omega)) (ev_now _))
  | succ m ih =>
    intro i b hi hb he
    have hg := (hs.good (i : Int) (by omega) (by omega)).1
    have hk := pk1_len hg
    have next := ih (i + 1) (b ++ pk1 (at_ l (i : Int))) (by omega) (by rw [List.length_append]; omega) (by
      rw [← he, drop_at (i := i) (by omega), List.flatMap_cons, List.append_assoc])
    rw [show ((i + 1 : Nat) : Int) = (i : Int) + 1 by omega] at next
    refine Ev.step (fun k_ => by rw [pack_Build.l0]) ?_
    refine ev_pos (by omega) (ev_pos (by omega) (ev_pos (by omega) (ev_bind (entry_ev hg (by omega)) ?_)))
    rw [w64 (x := (i : Int) + 1) (by omega)]
    exact next
theorem build_ev (hp : ∀ x ∈ l, S46.ok x) : Ev (fun k => pack_Build.f k l) (pbR l) := by
  unfold pack_Build.f pbR
  refine ev_bind (val_ev hp) ?_
  by_cases c : (sf l).1 ≠ 0
  · rw [if_pos c]
    refine ev_pos ?_ (ev_now _)
    have : ((sf l).1 == 0) = false := beq_eq_false_iff_ne.2 c
    simp [this]
  · obtain ⟨e, hs⟩ := sf_zero (Decidable.not_not.1 c)
    rw [if_neg c, e]
    refine ev_neg (by decide) ?_
    exact build_l0 hp hs l.length 0 _ (by omega) (by simp) (by rw [List.drop_zero]; rfl)

/-! the reference's -/
theorem bytesOf_append (a b : ByteArray) : bytesOf (a ++ b) = bytesOf a ++ bytesOf b := by simp [bytesOf]
theorem bytesOf_str {y : List Int} (h : Bytes y) : bytesOf (strOfNums y) = y := by
  unfold bytesOf strOfNums
  simp only [List.map_map]
  conv => rhs; rw [← List.map_id y]
  apply List.map_congr_left
  intro x hx
  have := h x hx
  simp [UInt8.toNat_ofNat']
  omega
theorem size_of {s : ByteArray} {y : List Int} (h : bytesOf s = y) : s.size = y.length := by rw [← h, bytesOf_length]
theorem fin_ev {s : ByteArray} {y : List Int} (h : bytesOf s = y) (hb : Bytes y) (hl : (y.length : Int) ≤ 60000) : Ev (fun k => pp_fin.f k s) (y ++ wide (dgf 1 y)) := by
  have hs := size_of h
  unfold pp_fin.f
  rw [h]
  refine ev_pos (by omega) (ev_bind (dof_ev (by omega) hb) (ev_bind (wide_ev ?_) (ev_pos ?_ (ev_now _))))
  · have := dgf_lt (h := 1) (bs := y) (by decide)
    omega
  · rw [wide_len]; omega
theorem pb_l1 (hs : Store l) {o : SO} (g : Good1 o) {i : Nat} {R : List Int} {y : List Int} (hy : (y.length : Int) ≤ 50000) (hby : Bytes o.f1.f2)
    (hR : ∀ t : ByteArray, bytesOf t = y ++ wides o.f1.f1 ++ o.f1.f2 → Ev (fun k => changeforgeref3_PackBytes.l0 k t (wrap64 ((i : Int) + 1)) l) R) :
    ∀ (m q : Nat) (t : ByteArray), q + m = o.f1.f1.length → bytesOf t = y ++ wides (o.f1.f1.take q) → Ev (fun k => changeforgeref3_PackBytes.l1 k t (i : Int) (q : Int) l o.f1.f0 o.f1.f1 o.f1.f2) R := by
  have h1 := g.nl
  have h2 := g.nd
  intro m
  induction m with
  | zero =>
    intro q t hq ht
    rw [List.take_of_length_le (by omega)] at ht
    have hsz := size_of ht
    rw [List.length_append, wides_len] at hsz
    refine Ev.step (fun k_ => by rw [changeforgeref3_PackBytes.l1]) ?_
    refine ev_neg (by omega) (ev_pos (by rw [strOfNums_size]; omega) ?_)
    exact hR _ (by rw [bytesOf_append, ht, bytesOf_str hby])
  | succ m ih =>
    intro q t hq ht
    have hsz := size_of ht
    rw [List.length_append, wides_len, List.length_take] at hsz
    have hx := g.link _ (rd_mem (xs := o.f1.f1) (i := (q : Int)) (by omega) (by omega))
    have next := ih (q + 1) (t ++ strOfNums (wide (rd o.f1.f1 (q : Int)))) (by omega) (by
      rw [bytesOf_append, ht, bytesOf_str (wide_bytes _), List.append_assoc]
      congr 1
      rw [List.take_succ_eq_append_getElem (by omega), ← rd_nat o.f1.f1 (i := q) (by omega)]
      simp [wides])
    rw [show ((q + 1 : Nat) : Int) = (q : Int) + 1 by omega] at next
    refine Ev.step (fun k_ => by rw [changeforgeref3_PackBytes.l1]) ?_
    refine ev_pos (by omega) (ev_pos (by omega) (ev_bind (wide_ev (by omega)) (ev_pos (by rw [strOfNums_size, wide_len]; omega) ?_)))
    rw [w64 (x := (q : Int) + 1) (by omega)]
    exact next
theorem pb_l0 (hp : ∀ x ∈ l, S46.ok x) (hs : Store l) : ∀ (m i : Nat) (t : ByteArray), i + m = l.length → ((bytesOf t).length : Int) ≤ 3 + 1244 * i → bytesOf t ++ (l.drop i).flatMap pk1 = pkl l → Ev (fun k => changeforgeref3_PackBytes.l0 k t (i : Int) l) (pkb l) := by
  have hl := hs.len
  have hL := pkl_len hs
  intro m
  induction m with
  | zero =>
    intro i t hi hb he
    refine Ev.step (fun k_ => by rw [changeforgeref3_PackBytes.l0]) ?_
    rw [List.drop_eq_nil_of_le (by omega)] at he
    have he : bytesOf t = pkl l := by rw [← he]; simp
    exact ev_neg (by omega) (ev_bind (fin_ev he (pkl_bytes hp) (by omega)) (ev_now _))
  | succ m ih =>
    intro i t hi hb he
    have hg := (hs.good (i : Int) (by omega) (by omega)).1
    have hk := pk1_len hg
    have h1 := hg.nl
    have h2 := hg.nd
    have hby := ok_bytes (hp _ (at_mem (i := (i : Int)) (by omega) (by omega)))
    have hsz := bytesOf_length t
    obtain ⟨y, hy⟩ : ∃ y, y = ([(at_ l (i : Int)).f1.f0 % 256, ((at_ l (i : Int)).f1.f1.length : Int) % 256, ((at_ l (i : Int)).f1.f2.length : Int) / 256 % 256, ((at_ l (i : Int)).f1.f2.length : Int) % 256] : List Int) := ⟨_, rfl⟩
    have hyb : Bytes y := by
      intro b hb
      rw [hy] at hb
      simp only [List.mem_cons, List.not_mem_nil, or_false] at hb
      rcases hb with rfl | rfl | rfl | rfl <;> omega
    have hyl : y.length = 4 := by rw [hy]; rfl
    refine Ev.step (fun k_ => by rw [changeforgeref3_PackBytes.l0]) ?_
    rw [w64 (x := ((at_ l (i : Int)).f1.f2.length : Int) / 256) (by omega), ← hy]
    refine ev_pos (by omega) (ev_pos (by omega) (ev_some (ev_pos (by rw [strOfNums_size, hyl]; omega) ?_)))
    refine pb_l1 hs hg (y := bytesOf t ++ y) (by rw [List.length_append, hyl]; omega) hby (fun t' ht' => ?_) (at_ l (i : Int)).f1.f1.length 0 _ (by omega) (by rw [bytesOf_append, bytesOf_str hyb]; simp [wides])
    rw [w64 (x := (i : Int) + 1) (by omega)]
    have e : bytesOf t' = bytesOf t ++ pk1 (at_ l (i : Int)) := by
      rw [ht', hy]
      show _ = bytesOf t ++ pke _ _ _
      unfold pke
      simp
    have next := ih (i + 1) t' (by omega) (by rw [e, List.length_append]; omega) (by
      rw [← he, drop_at (i := i) (by omega), List.flatMap_cons, e, List.append_assoc])
    rw [show ((i + 1 : Nat) : Int) = (i : Int) + 1 by omega] at next
    exact next
theorem packbytes_ev (hp : ∀ x ∈ l, S46.ok x) (hs : Store l) : Ev (fun k => changeforgeref3_PackBytes.f k l) (pkb l) := by
  have hb : Bytes [(l.length : Int) % 256] := by
    intro b hb
    simp only [List.mem_cons, List.not_mem_nil, or_false] at hb
    subst hb
    omega
  have e : bytesOf ((⟨#[80, 75]⟩ : ByteArray) ++ strOfNums [(l.length : Int) % 256]) = [80, 75, (l.length : Int) % 256] := by
    rw [bytesOf_append, bytesOf_str hb]
    rfl
  unfold changeforgeref3_PackBytes.f
  refine ev_some (ev_pos (by rw [strOfNums_size]; simp) ?_)
  exact pb_l0 hp hs l.length 0 _ (by omega) (by rw [e]; simp) (by rw [e, List.drop_zero]; rfl)
end
end Go.Proofs.Ytnmkmamobhkcbaa.Obj
