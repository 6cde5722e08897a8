/- The digests of a history: history.Digests and the reference's CommitDigests, one list. -/
import Derived.Test.YtojhnjgnpjoacaaDig2
import Derived.Test.YtojhnjgnpjoacaaHist2
import Derived.Test.YtojhnjgnpjoacaaP40
import Derived.Test.YtojhnjgnpjoacaaP41
import Derived.Test.YtojhnjgnpjoacaaP46
namespace Go.Proofs.Ytojhnjgnpjoacaa.Dig
open Go.RowKit Go.Proofs.YtojhnjgnpjoacaaW.PrintWords Go.Proofs.YtojhnjgnpjoacaaW.PrintEv Go.Proofs.Ytojhnjgnpjoacaa.P Go.Proofs.Ytojhnjgnpjoacaa.Hist
set_option linter.unusedVariables false

theorem pair_ev {a b : Int} (ha : 0 ≤ a ∧ a < 2305843009213693951) (hb : 0 ≤ b ∧ b < 2305843009213693951) : Ev (fun k => digest_Pair.f k a b) (dpair a b, 0, 0) := by
  have m1 := mod_lt (a * 1000003)
  have m2 := mod_lt (b * 31)
  unfold digest_Pair.f
  refine ev_pos (by omega) (ev_bind (mul_ev ha (by decide)) (ev_bind (mul_ev hb (by decide)) ?_))
  have e1 : IntKind.u64.wrap (a * 1000003 % 2305843009213693951 + b * 31 % 2305843009213693951) = a * 1000003 % 2305843009213693951 + b * 31 % 2305843009213693951 := wu (by omega)
  have e2 : IntKind.u64.wrap (a * 1000003 % 2305843009213693951 + b * 31 % 2305843009213693951 + 7) = a * 1000003 % 2305843009213693951 + b * 31 % 2305843009213693951 + 7 := wu (by omega)
  have m3 := mod_lt (a * 1000003 % 2305843009213693951 + b * 31 % 2305843009213693951 + 7)
  rw [e1, e2, tmod_M (by omega), w64 (by omega)]
  exact ev_now _
theorem bytesOf_ok (s : ByteArray) : Bytes (bytesOf s) := by
  intro b hb
  unfold bytesOf at hb
  obtain ⟨x, _, rfl⟩ := List.mem_map.1 hb
  have := x.toNat_lt
  omega
theorem bytesOf_len (s : ByteArray) : (bytesOf s).length = s.size := by simp [bytesOf]
theorem conv_eq {s : ByteArray} (h : (s.size : Int) ≤ 80) : pp_bytes.f s = some (bytesOf s) := by
  unfold pp_bytes.f
  rw [if_pos (by omega)]

def hd1 (c : C) : Int := dpair (dpair (dpair (dgf 1 (bytesOf c.f4)) c.f1) c.f2) c.f3
def fdp (o : List Int) (h : Int) (ps : List Int) : Int := ps.foldl (fun h p => dpair h (rd o p)) h
def cds (l : List C) : Nat → List Int
  | 0 => []
  | n + 1 => cds l n ++ [fdp (cds l n) (hd1 (rd_T49 l (n : Int))) (rd_T49 l (n : Int)).f0]
theorem cds_length (l : List C) : ∀ n, (cds l n).length = n
  | 0 => rfl
  | n + 1 => by simp [cds, cds_length l n]
theorem fdp_congr {o o' : List Int} : ∀ {ps : List Int} {h : Int}, (∀ p ∈ ps, rd o p = rd o' p) → fdp o h ps = fdp o' h ps
  | [], h, _ => rfl
  | p :: ps, h, hp => by
    show fdp o (dpair h (rd o p)) ps = fdp o' (dpair h (rd o' p)) ps
    rw [hp p (List.mem_cons_self ..)]
    exact fdp_congr (fun x hx => hp x (List.mem_cons_of_mem _ hx))
theorem fdp_lt {o ps : List Int} {h : Int} (hh : 0 ≤ h ∧ h < 2305843009213693951) : 0 ≤ fdp o h ps ∧ fdp o h ps < 2305843009213693951 := by
  induction ps generalizing h with
  | nil => exact hh
  | cons p ps ih => exact ih (dpair_lt _ _)
theorem hd1_lt (c : C) : 0 ≤ hd1 c ∧ hd1 c < 2305843009213693951 := dpair_lt _ _
theorem cds_lt (l : List C) : ∀ n : Nat, ∀ x : Int, 0 ≤ x → x < n → 0 ≤ rd (cds l n) x ∧ rd (cds l n) x < 2305843009213693951 := by
  intro n
  induction n with
  | zero => intro x h0 h; omega
  | succ n ih =>
    intro x h0 h
    by_cases e : x = n
    · subst e
      have := rd_append_last (xs := cds l n) (y := fdp (cds l n) (hd1 (rd_T49 l (n : Int))) (rd_T49 l (n : Int)).f0)
      rw [cds_length] at this
      show 0 ≤ rd (cds l n ++ [_]) (n : Int) ∧ rd (cds l n ++ [_]) (n : Int) < 2305843009213693951
      rw [this]
      exact fdp_lt (hd1_lt _)
    · show 0 ≤ rd (cds l n ++ [_]) x ∧ rd (cds l n ++ [_]) x < 2305843009213693951
      rw [rd_append_left h0 (by rw [cds_length]; omega)]
      exact ih x h0 (by omega)
section
variable {l : List C} {R : List Int × Int × Int}
theorem good_at (hv : Valid l) {i : Int} (h0 : 0 ≤ i) (hi : i < l.length) : (0 ≤ (rd_T49 l i).f1 ∧ (rd_T49 l i).f1 < 2305843009213693951) ∧ (0 ≤ (rd_T49 l i).f2 ∧ (rd_T49 l i).f2 < 2305843009213693951) ∧ (0 ≤ (rd_T49 l i).f3 ∧ (rd_T49 l i).f3 < 2305843009213693951) ∧ ((rd_T49 l i).f4.size : Int) ≤ 80 := by
  have := hv.good i h0 hi
  unfold bad at this
  omega
theorem par_at (hv : Valid l) {i p : Int} (h0 : 0 ≤ i) (hi : i < l.length) (hp : p ∈ (rd_T49 l i).f0) : 0 ≤ p ∧ p < i := Par.lt hv ⟨h0, hi, hp⟩
theorem dig_l2 (hv : Valid l) {i : Nat} (hi : i < l.length) {o ps : List Int} (hol : o.length = l.length) (ho : ∀ x : Int, 0 ≤ x → x < i → 0 ≤ rd o x ∧ rd o x < 2305843009213693951) (hps : ps = (rd_T49 l (i : Int)).f0) {h0 : Int}
    (hR : Ev (fun k => history_Digests.l0 k (o.set (i : Int).toNat (fdp o h0 ps)) l (l.length : Int) ((i : Int) + 1)) R) :
    ∀ (m q : Nat) (h : Int), q + m = ps.length → 0 ≤ h ∧ h < 2305843009213693951 → fdp o h (ps.drop q) = fdp o h0 ps → Ev (fun k => history_Digests.l2 k o (i : Int) h l (l.length : Int) (i : Int) ps (ps.length : Int) (q : Int)) R := by
  have hv60 := hv.len
  have hplen := hv.plen i (by omega) (by omega)
  rw [← hps] at hplen
  intro m
  induction m with
  | zero =>
    intro q h hq hh hf
    refine Ev.step (fun k_ => by rw [history_Digests.l2]) ?_
    rw [List.drop_eq_nil_of_le (by omega)] at hf
    have hf : h = fdp o h0 ps := hf
    refine ev_neg (by omega) (ev_pos (by omega) (ev_pos (by omega) ?_))
    rw [w64 (by omega), hf]
    exact hR
  | succ m ih =>
    intro q h hq hh hf
    have hpm : rd ps (q : Int) ∈ (rd_T49 l (i : Int)).f0 := by rw [← hps]; exact rd_mem (by omega) (by omega)
    have hp := par_at hv (by omega) (by omega) hpm
    rw [drop_cons_rd (by omega)] at hf
    refine Ev.step (fun k_ => by rw [history_Digests.l2]) ?_
    refine ev_pos (by omega) (ev_pos (by omega) (ev_pos (by omega) (ev_pos hp.1 (ev_pos (by omega) (ev_bind (pair_ev hh (ho _ hp.1 hp.2)) ?_)))))
    rw [w64 (by omega)]
    exact ih (q + 1) _ (by omega) (dpair_lt _ _) hf
theorem dig_l0 (hv : Valid l) : ∀ (m i : Nat) (o : List Int), i + m = l.length → o.length = l.length → (∀ x : Int, 0 ≤ x → x < i → rd o x = rd (cds l i) x) → Ev (fun k => history_Digests.l0 k o l (l.length : Int) (i : Int)) (cds l l.length, 0, 0) := by
  have hv60 := hv.len
  intro m
  induction m with
  | zero =>
    intro i o hi hol ho
    refine Ev.step (fun k_ => by rw [history_Digests.l0]) ?_
    refine ev_neg (by omega) ?_
    have e : o = cds l l.length := ext_rd (by rw [hol, cds_length]) (fun x h0 h1 => by rw [ho x h0 (by omega), show i = l.length by omega])
    rw [e]; exact ev_now _
  | succ m ih =>
    intro i o hi hol ho
    obtain ⟨g1, g2, g3, g4⟩ := good_at hv (i := i) (by omega) (by omega)
    have hb := bytesOf_ok (rd_T49 l (i : Int)).f4
    have hbl := bytesOf_len (rd_T49 l (i : Int)).f4
    have hofR : ofR (bytesOf (rd_T49 l (i : Int)).f4) = (dgf 1 (bytesOf (rd_T49 l (i : Int)).f4), 0, 0) := by unfold ofR; rw [if_neg (by omega)]
    have hd0 := dgf_lt (bs := bytesOf (rd_T49 l (i : Int)).f4) (h := 1) (by decide)
    have hob : ∀ x : Int, 0 ≤ x → x < i → 0 ≤ rd o x ∧ rd o x < 2305843009213693951 := fun x h0 h1 => by rw [ho x h0 h1]; exact cds_lt l i x h0 h1
    have hfd : fdp o (hd1 (rd_T49 l (i : Int))) (rd_T49 l (i : Int)).f0 = fdp (cds l i) (hd1 (rd_T49 l (i : Int))) (rd_T49 l (i : Int)).f0 := fdp_congr (fun p hp => by
      have := par_at hv (i := i) (by omega) (by omega) hp
      exact ho p this.1 this.2)
    have next := ih (i + 1) (o.set (i : Int).toNat (fdp o (hd1 (rd_T49 l (i : Int))) (rd_T49 l (i : Int)).f0)) (by omega) (by rw [List.length_set]; exact hol) (fun x h0 h1 => by
      show _ = rd (cds l i ++ [_]) x
      rw [rd_set o _ (by omega) (by omega) h0]
      by_cases e : x = i
      · subst e
        have := rd_append_last (xs := cds l i) (y := fdp (cds l i) (hd1 (rd_T49 l (i : Int))) (rd_T49 l (i : Int)).f0)
        rw [cds_length] at this
        rw [if_pos rfl, this, hfd]
      · rw [if_neg e, rd_append_left h0 (by rw [cds_length]; omega), ho x h0 (by omega)])
    rw [show ((i + 1 : Nat) : Int) = (i : Int) + 1 by omega] at next
    refine Ev.step (fun k_ => by rw [history_Digests.l0]) ?_
    refine ev_pos (by omega) (ev_pos (by omega) (ev_pos (by omega) (ev_const (conv_eq g4) (ev_bind (of_ev hb) (ev_some ?_)))))
    rw [hofR]
    refine Ev.step (fun k_ => by rw [history_Digests.l1]) ?_
    refine ev_pos (by simp) (ev_pos (by omega) (ev_pos (by simp) (ev_bind (pair_ev hd0 g1) ?_)))
    rw [w64 (by omega)]
    refine Ev.step (fun k_ => by rw [history_Digests.l1]) ?_
    refine ev_pos (by simp) (ev_pos (by omega) (ev_pos (by simp) (ev_bind (pair_ev (dpair_lt _ _) g2) ?_)))
    rw [w64 (by omega)]
    refine Ev.step (fun k_ => by rw [history_Digests.l1]) ?_
    refine ev_pos (by simp) (ev_pos (by omega) (ev_pos (by simp) (ev_bind (pair_ev (dpair_lt _ _) g3) ?_)))
    rw [w64 (by omega)]
    refine Ev.step (fun k_ => by rw [history_Digests.l1]) ?_
    refine ev_neg (by simp) ?_
    exact dig_l2 hv (by omega) hol hob rfl (h0 := hd1 (rd_T49 l (i : Int))) next (rd_T49 l (i : Int)).f0.length 0 _ (by omega) (hd1_lt _) rfl
def digsR (l : List C) : List Int × Int × Int := if (vf l).1 ≠ 0 then ([], vf l) else (cds l l.length, 0, 0)
theorem digs_ev (hp : ∀ x ∈ l, S49.ok x) : Ev (fun k => history_Digests.f k l) (digsR l) := by
  unfold history_Digests.f digsR
  refine ev_bind (validate_ev hp) ?_
  by_cases h : (vf l).1 ≠ 0
  · rw [if_pos h]
    refine ev_pos (flt_yes h) ?_
    exact ev_now _
  · obtain ⟨e, hv⟩ := vf_zero (Decidable.not_not.1 h)
    have hv60 := hv.len
    rw [if_neg h, e]
    refine ev_neg (by decide) (ev_pos (by omega) (ev_pos (by omega) ?_))
    exact dig_l0 hv l.length 0 _ (by omega) (by simp) (fun x h0 h1 => by omega)
theorem cdg_l1 (hv : Valid l) {i : Nat} (hi : i < l.length) {o ps : List Int} {au ti tr : Int} {ms : ByteArray} {R : List Int} (hol : o.length = i) (ho : ∀ x : Int, 0 ≤ x → x < i → 0 ≤ rd o x ∧ rd o x < 2305843009213693951) (hps : ps = (rd_T49 l (i : Int)).f0) {h0 : Int}
    (hR : Ev (fun k => changeforgeref3_CommitDigests.l0 k l (o ++ [fdp o h0 ps]) ((i : Int) + 1)) R) :
    ∀ (m q : Nat) (h : Int), q + m = ps.length → 0 ≤ h ∧ h < 2305843009213693951 → fdp o h (ps.drop q) = fdp o h0 ps → Ev (fun k => changeforgeref3_CommitDigests.l1 k l o (i : Int) h (q : Int) ps au ti tr ms) R := by
  have hv60 := hv.len
  have hplen := hv.plen i (by omega) (by omega)
  rw [← hps] at hplen
  intro m
  induction m with
  | zero =>
    intro q h hq hh hf
    refine Ev.step (fun k_ => by rw [changeforgeref3_CommitDigests.l1]) ?_
    rw [List.drop_eq_nil_of_le (by omega)] at hf
    have hf : h = fdp o h0 ps := hf
    refine ev_neg (by omega) (ev_pos (by omega) ?_)
    rw [w64 (by omega), hf]
    exact hR
  | succ m ih =>
    intro q h hq hh hf
    have hpm : rd ps (q : Int) ∈ (rd_T49 l (i : Int)).f0 := by rw [← hps]; exact rd_mem (by omega) (by omega)
    have hp := par_at hv (by omega) (by omega) hpm
    rw [drop_cons_rd (by omega)] at hf
    refine Ev.step (fun k_ => by rw [changeforgeref3_CommitDigests.l1]) ?_
    refine ev_pos (by omega) (ev_pos (by omega) (ev_pos hp.1 (ev_pos (by omega) (ev_bind (dpair_ev hh (ho _ hp.1 hp.2)) ?_))))
    rw [w64 (by omega)]
    exact ih (q + 1) _ (by omega) (dpair_lt _ _) hf
theorem cdg_l0 (hv : Valid l) : ∀ (m i : Nat), i + m = l.length → Ev (fun k => changeforgeref3_CommitDigests.l0 k l (cds l i) (i : Int)) (cds l l.length) := by
  have hv60 := hv.len
  intro m
  induction m with
  | zero =>
    intro i hi
    refine Ev.step (fun k_ => by rw [changeforgeref3_CommitDigests.l0]) ?_
    refine ev_neg (by omega) ?_
    rw [show i = l.length by omega]
    exact ev_now _
  | succ m ih =>
    intro i hi
    obtain ⟨g1, g2, g3, g4⟩ := good_at hv (i := i) (by omega) (by omega)
    have hb := bytesOf_ok (rd_T49 l (i : Int)).f4
    have hbl := bytesOf_len (rd_T49 l (i : Int)).f4
    have hd0 := dgf_lt (bs := bytesOf (rd_T49 l (i : Int)).f4) (h := 1) (by decide)
    have next := ih (i + 1) (by omega)
    rw [show ((i + 1 : Nat) : Int) = (i : Int) + 1 by omega] at next
    refine Ev.step (fun k_ => by rw [changeforgeref3_CommitDigests.l0]) ?_
    refine ev_pos (by omega) (ev_pos (by omega) (ev_const (conv_eq g4) (ev_bind (dof_ev (by omega) hb) (ev_bind (dpair_ev hd0 g1) (ev_bind (dpair_ev (dpair_lt _ _) g2) (ev_bind (dpair_ev (dpair_lt _ _) g3) ?_))))))
    exact cdg_l1 hv (by omega) (cds_length l i) (cds_lt l i) rfl (h0 := hd1 (rd_T49 l (i : Int))) next (rd_T49 l (i : Int)).f0.length 0 _ (by omega) (hd1_lt _) rfl
theorem cdigs_ev (hv : Valid l) : Ev (fun k => changeforgeref3_CommitDigests.f k l) (cds l l.length) := cdg_l0 hv l.length 0 (by omega)
end
end Go.Proofs.Ytojhnjgnpjoacaa.Dig
