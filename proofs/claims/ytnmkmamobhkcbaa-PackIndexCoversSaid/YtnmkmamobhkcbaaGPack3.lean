/- Texts of the proofs of 3 statements: what the printed functions come to, plain laws, rows (no condition beyond the statements' own). -/
import Derived.Test.YtnmkmamobhkcbaaGP31
import Derived.Laws.Bits64b
import Derived.Test.YtnmkmamobhkcbaaGP25
import Derived.Test.YtnmkmamobhkcbaaGP30
/- A pack read: what the program's reader and pack.read come to. -/
namespace Go.Proofs.Ytnmkmamobhkcbaa.Obj
open Go.RowKit Go.Proofs.YtnmkmamobhkcbaaW.PrintWords Go.Proofs.YtnmkmamobhkcbaaW.PrintEv Go.Proofs.Ytnmkmamobhkcbaa.P Go.Proofs.Ytnmkmamobhkcbaa.Dig
open Go.Proofs.YtnmkmamobhkcbaaW.PrintMore
set_option linter.unusedVariables false
abbrev PE := S48
theorem or_byte (x c : Int) (hc : 0 ≤ c ∧ c ≤ 255) : Go.bits .or .i64 (wrap64 (x * 256)) (wrap64 c) = wrap64 (x * 256 + c) := by
  obtain ⟨m, rfl⟩ := Int.eq_ofNat_of_zero_le hc.1
  obtain ⟨n, hn⟩ : ∃ n : Nat, (n : Int) = (x * 256) % 18446744073709551616 := Int.eq_ofNat_of_zero_le (by omega) |>.imp fun _ h => h.symm
  obtain ⟨q, hq⟩ : ∃ q, n = q * 256 := ⟨n / 256, by omega⟩
  have h1 : (BitVec.ofInt 64 (wrap64 (x * 256))).toNat = n := by
    rw [BitVec.toNat_ofInt]
    unfold wrap64
    omega
  have h2 : (BitVec.ofInt 64 (wrap64 (m : Int))).toNat = m := by
    rw [BitVec.toNat_ofInt]
    unfold wrap64
    omega
  show IntKind.i64.wrap ((BitVec.ofInt 64 (wrap64 (x * 256)) ||| BitVec.ofInt 64 (wrap64 (m : Int))).toNat : Int) = _
  have h3 := Nat.two_pow_add_eq_or_of_lt (i := 8) (b := m) (by omega) q
  rw [BitVec.toNat_or, h1, h2, hq, show q * 256 = 2 ^ 8 * q by omega, ← h3, IntKind.wrap_i64]
  unfold wrap64
  omega
/-- The bytes from a place on. -/
def sl (b : List Int) (a n : Nat) : List Int := (b.drop a).take n
def bigv (xs : List Int) : Int := xs.foldl (fun v c => wrap64 (v * 256 + c)) 0
theorem wrap_lt (x : Int) : -9223372036854775808 ≤ wrap64 x ∧ wrap64 x ≤ 9223372036854775807 := by unfold wrap64; omega
section
variable {b : List Int} {a n : Nat}
theorem sl_len (h : a + n ≤ b.length) : (sl b a n).length = n := by unfold sl; rw [List.length_take, List.length_drop]; omega
theorem sl_bytes (hb : Bytes b) : Bytes (sl b a n) := fun x hx => hb x (List.mem_of_mem_drop (List.mem_of_mem_take hx))
theorem sl_zero : sl b a 0 = [] := by unfold sl; rw [List.take_zero]
theorem sl_cons (h : a < b.length) : sl b a (n + 1) = rd b (a : Int) :: sl b (a + 1) n := by
  unfold sl
  rw [drop_cons_rd h, List.take_succ_cons]
theorem bigv_one (hb : Bytes b) (h : a + 1 ≤ b.length) : bigv (sl b a 1) = rd b (a : Int) := by
  have := hb _ (rd_mem (xs := b) (i := (a : Int)) (by omega) (by omega))
  rw [sl_cons (by omega), sl_zero]
  show wrap64 (0 * 256 + rd b (a : Int)) = _
  rw [w64 (by omega)]
  omega
theorem bigv_two (hb : Bytes b) (h : a + 2 ≤ b.length) : bigv (sl b a 2) = 256 * rd b (a : Int) + rd b ((a + 1 : Nat) : Int) := by
  have h1 := hb _ (rd_mem (xs := b) (i := (a : Int)) (by omega) (by omega))
  have h2 := hb _ (rd_mem (xs := b) (i := ((a + 1 : Nat) : Int)) (by omega) (by omega))
  rw [sl_cons (by omega), sl_cons (by omega), sl_zero]
  show wrap64 (wrap64 (0 * 256 + rd b (a : Int)) * 256 + rd b ((a + 1 : Nat) : Int)) = _
  rw [w64 (x := 0 * 256 + rd b (a : Int)) (by omega), w64 (by omega)]
  omega
theorem take_ok (hb : b.length ≤ 100000) (h : a + n ≤ b.length) : pack_reader_take.f b (a : Int) true (n : Int) = some (sl b a n, ((a + n : Nat) : Int), true) := by
  have e1 : wrap64 ((b.length : Int) - (a : Int)) = (b.length : Int) - a := w64 (by omega)
  have e2 : wrap64 ((a : Int) + (n : Int)) = ((a + n : Nat) : Int) := by rw [w64 (by omega)]; omega
  have e3 : wrap64 (((a + n : Nat) : Int) - (n : Int)) = (a : Int) := by rw [w64 (by omega)]; omega
  unfold pack_reader_take.f
  rw [if_pos hb, if_pos rfl, e1, if_neg (by omega), e2, e3, if_pos (by omega), if_pos (by omega), if_pos (by omega)]
  have : ((b.take ((a + n : Nat) : Int).toNat).drop (a : Int).toNat) = sl b a n := by
    unfold sl
    rw [List.drop_take]
    congr 1
    omega
  rw [this]
theorem take_short (hb : b.length ≤ 100000) (h0 : a ≤ b.length) (h : b.length < a + n) : pack_reader_take.f b (a : Int) true (n : Int) = some ([], (a : Int), false) := by
  have e1 : wrap64 ((b.length : Int) - (a : Int)) = (b.length : Int) - a := w64 (by omega)
  unfold pack_reader_take.f
  rw [if_pos hb, if_pos rfl, e1, if_pos (by omega)]
theorem take_bad (hb : b.length ≤ 100000) (p q : Int) : pack_reader_take.f b p false q = some ([], p, false) := by
  unfold pack_reader_take.f
  rw [if_pos hb, if_neg Bool.false_ne_true]
theorem dNu {xs : List Int} (hx : Bytes xs) (hl : xs.length ≤ 100000) : ∀ (m i : Nat) (v : Int), i + m = xs.length → Ev (fun k => pack_reader_big.l0 k v xs (xs.length : Int) (i : Int)) ((xs.drop i).foldl (fun v c => wrap64 (v * 256 + c)) v) := by
  intro m
  induction m with
  | zero =>
    intro i v hi
    refine Ev.step (fun k_ => by rw [pack_reader_big.l0]) ?_
    rw [List.drop_eq_nil_of_le (by omega)]
    exact ev_neg (by omega) (ev_now _)
  | succ m ih =>
    intro i v hi
    have next := ih (i + 1) (wrap64 (v * 256 + rd xs (i : Int))) (by omega)
    rw [show ((i + 1 : Nat) : Int) = (i : Int) + 1 by omega] at next
    refine Ev.step (fun k_ => by rw [pack_reader_big.l0]) ?_
    rw [w64 (x := (i : Int) + 1) (by omega), or_byte v (rd xs (i : Int)) (hx _ (rd_mem (by omega) (by omega))), drop_cons_rd (xs := xs) (i := i) (by omega), List.foldl_cons]
    exact ev_pos (by omega) (ev_pos (by omega) (ev_pos (by omega) next))
theorem big_ev {p q r2 : Int} {ok r3 : Bool} {xs : List Int} (ht : pack_reader_take.f b p ok q = some (xs, r2, r3)) (hx : Bytes xs) (hl : xs.length ≤ 100000) : Ev (fun k => pack_reader_big.f k b p ok q) (bigv xs, r2, r3) := by
  unfold pack_reader_big.f
  refine ev_const ht (ev_bind (dNu hx hl xs.length 0 0 (by omega)) ?_)
  exact ev_now _
/-- A number read: there, or not. -/
theorem big_any (hB : Bytes b) (hb : b.length ≤ 100000) (h0 : a ≤ b.length) (ok : Bool) : ∃ (v : Int) (a' : Nat) (ok' : Bool), Ev (fun k => pack_reader_big.f k b (a : Int) ok (n : Int)) (v, (a' : Int), ok') ∧ a' ≤ b.length ∧
    (ok' = true → ok = true ∧ a' = a + n ∧ a + n ≤ b.length ∧ v = bigv (sl b a n)) ∧ (ok' = false → v = 0 ∧ (ok = true → b.length < a + n)) := by
  cases ok with
  | false => exact ⟨0, a, false, big_ev (take_bad hb _ _) (by intro x hx; cases hx) (by simp), h0, (fun h => by cases h), fun _ => ⟨rfl, fun h => by cases h⟩⟩
  | true =>
    by_cases h : a + n ≤ b.length
    · exact ⟨_, a + n, true, big_ev (take_ok hb h) (sl_bytes hB) (by rw [sl_len h]; omega), h, (fun _ => ⟨rfl, rfl, h, rfl⟩), fun h => by cases h⟩
    · exact ⟨0, a, false, big_ev (take_short hb h0 (by omega)) (by intro x hx; cases hx) (by simp), h0, (fun h => by cases h), fun _ => ⟨rfl, fun _ => by omega⟩⟩
end
/-- The links from a place on. -/
def lks (b : List Int) : Nat → Nat → List Int
  | _, 0 => []
  | a, m + 1 => bigv (sl b a 8) :: lks b (a + 8) m
theorem lks_len (b : List Int) : ∀ (m a : Nat), (lks b a m).length = m
  | 0, _ => rfl
  | m + 1, a => by show (lks b (a + 8) m).length + 1 = _; rw [lks_len b m]
theorem foldl_wrap : ∀ (xs : List Int) (v : Int), -9223372036854775808 ≤ v ∧ v ≤ 9223372036854775807 → -9223372036854775808 ≤ xs.foldl (fun v c => wrap64 (v * 256 + c)) v ∧ xs.foldl (fun v c => wrap64 (v * 256 + c)) v ≤ 9223372036854775807
  | [], v, h => h
  | x :: xs, v, h => foldl_wrap xs _ (wrap_lt _)
theorem dXt (b : List Int) : ∀ (m a : Nat), ∀ x ∈ lks b a m, -9223372036854775808 ≤ x ∧ x ≤ 9223372036854775807
  | 0, _, x, hx => by cases hx
  | m + 1, a, x, hx => by
    rcases List.mem_cons.1 hx with h | h
    · rw [h]; exact foldl_wrap _ 0 (by decide)
    · exact dXt b m _ x h
/-- What is answered where the bytes are no pack. -/
def Syn : List SO × List PE × Int × Int := ([], [], 1, 0)
section
variable {b x5 : List Int} {e : List PE} {s : List SO} {off N i kd : Int} {R : List SO × List PE × Int × Int}
theorem dOe (hb : b.length ≤ 100000) {at_ size nl : Int} (hn : nl ≤ 1000) : ∀ (m : Nat) (j : Int) (L : List Int), 0 ≤ j → nl - j ≤ m → (L.length : Int) ≤ 100000 + j → Ev (fun k => pack_read.l1 k x5 e off size N i nl j s b at_ false kd L) Syn := by
  intro m
  induction m with
  | zero =>
    intro j L h0 hj hL
    refine Ev.step (fun k_ => by rw [pack_read.l1]) ?_
    exact ev_neg (by omega) (ev_const (take_bad hb _ _) (ev_bind (odigest_ev (by intro x hx; cases hx)) (ev_neg Bool.false_ne_true (ev_now _))))
  | succ m ih =>
    intro j L h0 hj hL
    by_cases c : j < nl
    · have next := ih (j + 1) (L ++ [0]) (by omega) (by omega) (by rw [List.length_append]; simp; omega)
      refine Ev.step (fun k_ => by rw [pack_read.l1]) ?_
      rw [w64 (x := j + 1) (by omega)]
      refine ev_pos c (ev_bind (big_ev (take_bad hb _ _) (by intro x hx; cases hx) (by simp)) (ev_pos (by omega) ?_))
      exact next
    · exact ih j L h0 (by omega) hL
theorem gQ3 (hB : Bytes b) (hb : b.length ≤ 100000) {size : Int} {nl : Nat} (hn : nl ≤ 255) : ∀ (m j a : Nat) (L : List Int), j + m = nl → a ≤ b.length → L.length = j →
    (a + 8 * m ≤ b.length → Ev (fun k => pack_read.l1 k x5 e off size N i (nl : Int) (nl : Int) s b ((a + 8 * m : Nat) : Int) true kd (L ++ lks b a m)) R) → (¬ a + 8 * m ≤ b.length → R = Syn) →
    Ev (fun k => pack_read.l1 k x5 e off size N i (nl : Int) (j : Int) s b (a : Int) true kd L) R := by
  intro m
  induction m with
  | zero =>
    intro j a L hj ha hL h1 h2
    have h1 := h1 (by omega)
    obtain rfl : j = nl := by omega
    rw [show a + 8 * 0 = a by omega, show lks b a 0 = [] from rfl, List.append_nil] at h1
    exact h1
  | succ m ih =>
    intro j a L hj ha hL h1 h2
    by_cases c : a + 8 ≤ b.length
    · have next := ih (j + 1) (a + 8) (L ++ [bigv (sl b a 8)]) (by omega) c (by rw [List.length_append]; simp; omega) (fun h => by
        have := h1 (by omega)
        rw [show a + 8 * (m + 1) = a + 8 + 8 * m by omega, show lks b a (m + 1) = bigv (sl b a 8) :: lks b (a + 8) m from rfl] at this
        rw [List.append_assoc]
        exact this) (fun h => h2 (by omega))
      rw [show ((j + 1 : Nat) : Int) = (j : Int) + 1 by omega] at next
      have hbig := big_ev (take_ok (n := 8) hb c) (sl_bytes hB) (by rw [sl_len c]; omega)
      refine Ev.step (fun k_ => by rw [pack_read.l1]) ?_
      rw [w64 (x := (j : Int) + 1) (by omega)]
      exact ev_pos (by omega) (ev_bind hbig (ev_pos (by omega) next))
    · rw [h2 (by omega)]
      have hbig := big_ev (take_short (n := 8) hb ha (by omega)) (by intro x hx; cases hx) (by simp)
      refine Ev.step (fun k_ => by rw [pack_read.l1]) ?_
      rw [w64 (x := (j : Int) + 1) (by omega)]
      exact ev_pos (by omega) (ev_bind hbig (ev_pos (by omega) (dOe hb (by omega) 1000 _ _ (by omega) (by omega) (by rw [List.length_append]; simp; omega))))
theorem fTk (hB : Bytes b) (hb : b.length ≤ 100000) {nl : Nat} {a sz : Nat} {L : List Int} (ha : a ≤ b.length)
    (h1 : a + sz ≤ b.length → (oflt kd L (sl b a sz)).1 = 0 → Ev (fun k => pack_read.l0 k x5 (e ++ [(⟨odg kd L (sl b a sz), off, wrap64 (((a + sz : Nat) : Int) - off)⟩ : PE)]) N ((i + 1) % 256) (s ++ [(⟨odg kd L (sl b a sz), ⟨kd, L, sl b a sz⟩⟩ : SO)]) b ((a + sz : Nat) : Int) true) R)
    (h2 : ¬ (a + sz ≤ b.length ∧ (oflt kd L (sl b a sz)).1 = 0) → R = Syn) (hs : s.length ≤ 100000) (he : e.length ≤ 100000) :
    Ev (fun k => pack_read.l1 k x5 e off (sz : Int) N i (nl : Int) (nl : Int) s b (a : Int) true kd L) R := by
  refine Ev.step (fun k_ => by rw [pack_read.l1]) ?_
  refine ev_neg (by omega) ?_
  by_cases c : a + sz ≤ b.length
  · have hd := odigest_ev (kd := kd) (ls := L) (sl_bytes (a := a) (n := sz) hB)
    refine ev_const (take_ok hb c) (ev_bind hd (ev_pos rfl ?_))
    unfold odR
    by_cases c2 : (oflt kd L (sl b a sz)).1 ≠ 0
    · rw [if_pos c2, h2 (fun h => c2 h.2)]
      refine ev_pos ?_ (ev_now _)
      have : ((oflt kd L (sl b a sz)).1 == 0) = false := beq_eq_false_iff_ne.2 c2
      simp [this]
    · rw [if_neg c2]
      exact ev_neg (by simp) (ev_pos (by omega) (ev_pos (by omega) (h1 c (Decidable.not_not.1 c2))))
  · rw [h2 (fun h => c h.1)]
    exact ev_const (take_short hb ha (by omega)) (ev_bind (odigest_ev (by intro x hx; cases hx)) (ev_neg Bool.false_ne_true (ev_now _)))
end
def nlv (b : List Int) (a : Nat) : Nat := (rd b ((a + 1 : Nat) : Int)).toNat
def szv (b : List Int) (a : Nat) : Nat := (256 * rd b ((a + 2 : Nat) : Int) + rd b ((a + 3 : Nat) : Int)).toNat
/-- The object at a place. -/
def obj_ (b : List Int) (a : Nat) : O := ⟨rd b (a : Int), lks b (a + 4) (nlv b a), sl b (a + 4 + 8 * nlv b a) (szv b a)⟩
def sto (o : O) : SO := ⟨odg o.f0 o.f1 o.f2, o⟩
/-- Objects read from a place on. -/
def prs (b : List Int) : Nat → Nat → Option (List SO × List PE × Nat)
  | 0, a => some ([], [], a)
  | n + 1, a => if a + 4 + 8 * nlv b a + szv b a ≤ b.length ∧ a + 4 ≤ b.length ∧ (oflt (obj_ b a).f0 (obj_ b a).f1 (obj_ b a).f2).1 = 0 then
      match prs b n (a + 4 + 8 * nlv b a + szv b a) with
      | none => none
      | some (s, e, z) => some (sto (obj_ b a) :: s, (⟨(sto (obj_ b a)).f0, (a : Int), ((4 + 8 * nlv b a + szv b a : Nat) : Int)⟩ : PE) :: e, z)
    else none
def fin (len : Nat) (s : List SO) (e : List PE) : Option (List SO × List PE × Nat) → List SO × List PE × Int × Int
  | none => Syn
  | some (s', e', z) => if z = len then (if (sf (s ++ s')).1 = 0 then (s ++ s', e ++ e', 0, 0) else Syn) else Syn
theorem obj_ok {b : List Int} (hB : Bytes b) (hb : b.length ≤ 100000) {a : Nat} (h4 : a + 4 ≤ b.length) : fB.ok (sto (obj_ b a)) := by
  have hd := odg_lt (obj_ b a).f0 (obj_ b a).f1 (obj_ b a).f2
  have h0 := hB _ (rd_mem (xs := b) (i := (a : Int)) (by omega) (by omega))
  have h1 := hB _ (rd_mem (xs := b) (i := ((a + 1 : Nat) : Int)) (by omega) (by omega))
  have hn : nlv b a ≤ 255 := by unfold nlv; omega
  refine ⟨?_, ?_, ⟨?_, fun x hx => ?_⟩, ?_, fun x hx => ?_⟩
  · show (Lit.int .i64 (odg (obj_ b a).f0 (obj_ b a).f1 (obj_ b a).f2)).wf = true
    simp [Lit.wf, IntKind.min, IntKind.max, IntKind.bits, IntKind.signed]
    omega
  · show (Lit.int .i64 (rd b (a : Int))).wf = true
    simp [Lit.wf, IntKind.min, IntKind.max, IntKind.bits, IntKind.signed]
    omega
  · show (lks b (a + 4) (nlv b a)).length * 8 ≤ _
    rw [lks_len]; omega
  · have := dXt b _ _ x hx
    simp [Lit.wf, IntKind.min, IntKind.max, IntKind.bits, IntKind.signed]
    omega
  · show (sl b (a + 4 + 8 * nlv b a) (szv b a)).length * 1 ≤ _
    unfold sl
    rw [List.length_take, List.length_drop]
    omega
  · have := (sl_bytes hB : Bytes (sl b (a + 4 + 8 * nlv b a) (szv b a))) x hx
    simp [Lit.wf, IntKind.min, IntKind.max, IntKind.bits, IntKind.signed]
    omega
section
variable {b : List Int}
theorem fTl (hb : b.length ≤ 100000) {x5 : List Int} {e : List PE} {s : List SO} {N i at_ : Int} (hB : Bytes b) (h0 : 0 ≤ at_) (h1 : at_ ≤ b.length) : Ev (fun k => pack_read.l0 k x5 e N i s b at_ false) Syn := by
  refine Ev.step (fun k_ => by rw [pack_read.l0]) ?_
  refine ev_cases (fun c => ?_) (fun c => ev_neg Bool.false_ne_true (ev_now _))
  have hz : ∀ q : Int, Ev (fun k => pack_reader_big.f k b at_ false q) (0, at_, false) := fun q => big_ev (take_bad hb _ _) (by intro x hx; cases hx) (by simp)
  exact ev_bind (hz _) (ev_bind (hz _) (ev_bind (hz _) (dOe hb (by omega) 0 0 _ (by omega) (by omega) (by simp))))
theorem eZa (hB : Bytes b) (hb : b.length ≤ 100000) {N : Nat} (hN : N ≤ 255) : ∀ (n i a : Nat) (s : List SO) (e : List PE), i + n = N → a ≤ b.length → s.length = i → e.length = i → (∀ x ∈ s, fB.ok x) →
    Ev (fun k => pack_read.l0 k b e (N : Int) (i : Int) s b (a : Int) true) (fin b.length s e (prs b n a)) := by
  intro n
  induction n with
  | zero =>
    intro i a s e hi ha hs he hok
    refine Ev.step (fun k_ => by rw [pack_read.l0]) ?_
    refine ev_neg (by omega) (ev_pos rfl ?_)
    show Ev _ (if a = b.length then (if (sf (s ++ [])).1 = 0 then (s ++ [], e ++ [], 0, 0) else Syn) else Syn)
    rw [List.append_nil, List.append_nil]
    by_cases c : a = b.length
    · rw [if_pos c]
      refine ev_pos (by omega) (ev_bind (val_ev hok) ?_)
      by_cases c2 : (sf s).1 = 0
      · obtain ⟨e2, _⟩ := sf_zero c2
        rw [if_pos c2, e2]
        exact ev_neg (by decide) (ev_now _)
      · rw [if_neg c2]
        refine ev_pos ?_ (ev_now _)
        have : ((sf s).1 == 0) = false := beq_eq_false_iff_ne.2 c2
        simp [this]
    · rw [if_neg c]
      exact ev_neg (by omega) (ev_now _)
  | succ n ih =>
    intro i a s e hi ha hs he hok
    obtain ⟨v1, a1, k1, hv1, hl1, ht1, hf1⟩ := big_any (n := 1) hB hb ha true
    obtain ⟨v2, a2, k2, hv2, hl2, ht2, hf2⟩ := big_any (n := 1) hB hb hl1 k1
    obtain ⟨v3, a3, k3, hv3, hl3, ht3, hf3⟩ := big_any (n := 2) hB hb hl2 k2
    have iL7 : v2 ≤ 255 := by
      cases k2 with
      | true =>
        obtain ⟨_, _, h, e2⟩ := ht2 rfl
        rw [e2, bigv_one hB h]
        exact (hB _ (rd_mem (by omega) (by omega))).2
      | false => have := (hf2 rfl).1; omega
    refine Ev.step (fun k_ => by rw [pack_read.l0]) ?_
    refine ev_pos (by omega) (ev_bind hv1 (ev_bind hv2 (ev_bind hv3 ?_)))
    cases k3 with
    | false =>
      have hno : ¬ a + 4 ≤ b.length := fun h4 => by
        have h3 := (hf3 rfl).2
        cases k2 with
        | false =>
          have h2 := (hf2 rfl).2
          cases k1 with
          | false => have h1 := (hf1 rfl).2 rfl; omega
          | true => have := (ht1 rfl).2.1; have := h2 rfl; omega
        | true =>
          have := (ht2 rfl).2.1
          have := (ht1 (ht2 rfl).1).2.1
          have := h3 rfl
          omega
      have e0 : prs b (n + 1) a = none := if_neg (fun h => hno h.2.1)
      rw [e0]
      exact dOe hb (by omega) 1000 0 _ (by omega) (by omega) (by simp)
    | true =>
      obtain ⟨r3, q3, g3, w3⟩ := ht3 rfl
      obtain ⟨r2, q2, g2, w2⟩ := ht2 r3
      obtain ⟨_, q1, g1, w1⟩ := ht1 r2
      have h4 : a + 4 ≤ b.length := by omega
      subst q1
      subst q2
      subst q3
      have e1 : v1 = rd b (a : Int) := by rw [w1, bigv_one hB g1]
      have e2 : v2 = ((nlv b a : Nat) : Int) := by
        have := hB _ (rd_mem (xs := b) (i := ((a + 1 : Nat) : Int)) (by omega) (by omega))
        rw [w2, bigv_one hB g2]
        unfold nlv
        omega
      have e3 : v3 = ((szv b a : Nat) : Int) := by
        have h5 := hB _ (rd_mem (xs := b) (i := ((a + 2 : Nat) : Int)) (by omega) (by omega))
        have h6 := hB _ (rd_mem (xs := b) (i := ((a + 3 : Nat) : Int)) (by omega) (by omega))
        rw [w3, bigv_two hB g3]
        unfold szv
        show 256 * rd b ((a + 2 : Nat) : Int) + rd b ((a + 3 : Nat) : Int) = _
        omega
      rw [e1, e2, e3]
      have hnl : nlv b a ≤ 255 := by omega
      refine gQ3 hB hb hnl (nlv b a) 0 (a + 1 + 1 + 2) [] (by omega) (by omega) rfl (fun hl => ?_) (fun hl => ?_)
      · rw [List.nil_append, show a + 1 + 1 + 2 = a + 4 by omega] at *
        refine fTk hB hb (nl := nlv b a) (a := a + 4 + 8 * nlv b a) (sz := szv b a) hl (fun h5 h6 => ?_) (fun h5 => ?_) (by omega) (by omega)
        · have hp : prs b (n + 1) a = match prs b n (a + 4 + 8 * nlv b a + szv b a) with
              | none => none
              | some (s, e, z) => some (sto (obj_ b a) :: s, (⟨(sto (obj_ b a)).f0, (a : Int), ((4 + 8 * nlv b a + szv b a : Nat) : Int)⟩ : PE) :: e, z) := if_pos ⟨h5, h4, h6⟩
          have next := ih (i + 1) (a + 4 + 8 * nlv b a + szv b a) (s ++ [sto (obj_ b a)]) (e ++ [(⟨(sto (obj_ b a)).f0, (a : Int), ((4 + 8 * nlv b a + szv b a : Nat) : Int)⟩ : PE)]) (by omega) h5 (by rw [List.length_append]; simp; omega) (by rw [List.length_append]; simp; omega) (fun x hx => by
            rcases List.mem_append.1 hx with h | h
            · exact hok x h
            · rw [List.mem_singleton.1 h]; exact obj_ok hB hb h4)
          have e5 : wrap64 (((a + 4 + 8 * nlv b a + szv b a : Nat) : Int) - (a : Int)) = ((4 + 8 * nlv b a + szv b a : Nat) : Int) := by rw [w64 (by omega)]; omega
          have e6 : ((i : Int) + 1) % 256 = ((i + 1 : Nat) : Int) := by omega
          rw [e5, e6]
          refine ev_cast next ?_
          rw [hp]
          cases prs b n (a + 4 + 8 * nlv b a + szv b a) with
          | none => rfl
          | some t =>
            obtain ⟨s', e', z⟩ := t
            show (if z = b.length then (if (sf (s ++ [sto (obj_ b a)] ++ s')).1 = 0 then (s ++ [sto (obj_ b a)] ++ s', _ ++ e', 0, 0) else Syn) else Syn) = (if z = b.length then (if (sf (s ++ sto (obj_ b a) :: s')).1 = 0 then (s ++ sto (obj_ b a) :: s', e ++ _ :: e', 0, 0) else Syn) else Syn)
            rw [List.append_assoc, List.append_assoc]
            rfl
        · have e0 : prs b (n + 1) a = none := if_neg (fun h => h5 ⟨h.1, h.2.2⟩)
          rw [e0]
          rfl
      · have e0 : prs b (n + 1) a = none := if_neg (fun h => hl (by omega))
        rw [e0]
        rfl
end
section
variable {c : List Int}
/-- What pack.read comes to. -/
def rdR (c : List Int) : List SO × List PE × Int × Int :=
  if (c.length : Int) > 4096 then ([], [], 2, 0) else if (c.length : Int) < 11 then ([], [], 18, 0) else if wide (dgf 1 (c.take (c.length - 8))) ≠ c.drop (c.length - 8) then ([], [], 18, 0)
  else if rd (c.take (c.length - 8)) 0 = 80 ∧ rd (c.take (c.length - 8)) 1 = 75 then fin (c.length - 8) [] [] (prs (c.take (c.length - 8)) (rd (c.take (c.length - 8)) 2).toNat 3) else Syn
theorem read_ev (hc : Bytes c) (hl : (c.length : Int) ≤ 140737488351232) : Ev (fun k => pack_read.f k c) (rdR c) := by
  unfold rdR
  by_cases h2 : (c.length : Int) > 4096
  · rw [if_pos h2]
    unfold pack_read.f
    exact ev_pos h2 (ev_now _)
  rw [if_neg h2]
  by_cases h1 : (c.length : Int) < 11
  · rw [if_pos h1]
    unfold pack_read.f
    exact ev_neg h2 (ev_pos h1 (ev_now _))
  rw [if_neg h1]
  by_cases hne : wide (dgf 1 (c.take (c.length - 8))) ≠ c.drop (c.length - 8)
  · rw [if_pos hne]
    exact read_corrupt hc (by omega) (by omega) hne
  rw [if_neg hne]
  have e : (wrap64 ((c.length : Int) - 8)).toNat = c.length - 8 := by rw [w64 (by omega)]; omega
  have hB : Bytes (c.take (c.length - 8)) := fun b hb => hc b (List.mem_of_mem_take hb)
  have hBl : (c.take (c.length - 8)).length = c.length - 8 := by rw [List.length_take]; omega
  have hof := of_ev hB
  have hr : ofR (c.take (c.length - 8)) = (dgf 1 (c.take (c.length - 8)), 0, 0) := by
    unfold ofR
    rw [if_neg (by omega)]
  rw [hr] at hof
  have h0 := hB _ (rd_mem (xs := c.take (c.length - 8)) (i := 2) (by omega) (by omega))
  unfold pack_read.f
  rw [e]
  refine ev_neg (by omega) (ev_neg (by omega) (ev_pos (by rw [w64 (by omega)]; omega) (ev_pos (by rw [w64 (by omega)]; omega) ?_)))
  refine ev_bind hof (ev_bind (number_ev (l := []) (by simp)) (ev_bind (equalb_ev (by simp [wide_len])) (ev_pos (decide_eq_true (Decidable.not_not.1 hne)) (ev_pos (by omega) (ev_pos (by omega) (ev_some (ev_some (ev_pos (by omega) ?_))))))))
  by_cases hpk : rd (c.take (c.length - 8)) 0 = 80 ∧ rd (c.take (c.length - 8)) 1 = 75
  · rw [if_pos hpk]
    have e1 : ((rd (c.take (c.length - 8)) 0 == 80) && (rd (c.take (c.length - 8)) 1 == 75)) = true := by rw [hpk.1, hpk.2]; rfl
    rw [e1]
    have := eZa hB (by omega) (N := (rd (c.take (c.length - 8)) 2).toNat) (by omega) (rd (c.take (c.length - 8)) 2).toNat 0 3 [] [] (by omega) (by omega) rfl rfl (fun x hx => by cases hx)
    rw [hBl, show (((rd (c.take (c.length - 8)) 2).toNat : Nat) : Int) = rd (c.take (c.length - 8)) 2 by omega] at this
    exact this
  · rw [if_neg hpk]
    have e1 : ((rd (c.take (c.length - 8)) 0 == 80) && (rd (c.take (c.length - 8)) 1 == 75)) = false := by
      rw [Bool.and_eq_false_iff]
      by_cases h : rd (c.take (c.length - 8)) 0 = 80
      · exact .inr (beq_eq_false_iff_ne.2 (fun h' => hpk ⟨h, h'⟩))
      · exact .inl (beq_eq_false_iff_ne.2 h)
    rw [e1]
    exact fTl (b := c.take (c.length - 8)) (at_ := 3) (by omega) hB (by omega) (by omega)
end
end Go.Proofs.Ytnmkmamobhkcbaa.Obj

/- A pack that was built, read: the store comes back. -/
namespace Go.Proofs.Ytnmkmamobhkcbaa.Obj
open Go.RowKit Go.Proofs.YtnmkmamobhkcbaaW.PrintWords Go.Proofs.YtnmkmamobhkcbaaW.PrintEv Go.Proofs.Ytnmkmamobhkcbaa.P Go.Proofs.Ytnmkmamobhkcbaa.Dig
set_option linter.unusedVariables false
theorem good_flt {kd : Int} {ls ds : List Int} (g : Good kd ls ds) : oflt kd ls ds = (0, 0) := by
  have lk : ∀ (ls : List Int) (q : Int), (∀ x ∈ ls, 0 ≤ x ∧ x < 2305843009213693951) → lflt ls q = (0, 0) := by
    intro ls
    induction ls with
    | nil => intro q _; rfl
    | cons y ls ih =>
      intro q hq
      have := hq y List.mem_cons_self
      unfold lflt
      rw [if_neg (by omega)]
      exact ih _ (fun x hx => hq x (List.mem_cons_of_mem _ hx))
  have g1 := g.kind
  have g2 := g.nl
  have g3 := g.nd
  unfold oflt
  rw [if_neg (by omega), if_neg (by omega), if_neg (by omega), if_neg (fun h => by have := g.blob h.1; rw [this] at h; simp at h)]
  exact lk _ 0 g.link
theorem store_flt {l : List SO} (hs : Store l) : sf l = (0, 0) := by
  have key : ∀ (m : Nat) (i : Int), 0 ≤ i → i + m = l.length → sfl l m i = (0, 0) := by
    intro m
    induction m with
    | zero => intro i _ _; rfl
    | succ m ih =>
      intro i h0 hi
      obtain ⟨g, e⟩ := hs.good i h0 (by omega)
      have hof : of1 (at_ l i) = (0, 0) := good_flt g
      unfold sfl
      rw [hof, if_neg (by simp), if_neg (not_not_intro e), if_neg (fun h => by have := hs.asc i h.1 (by omega); omega)]
      exact ih (i + 1) (by omega) (by omega)
  have hl := hs.len
  unfold sf
  rw [if_neg (by omega)]
  exact key l.length 0 (by omega) (by omega)
theorem rd_from {b : List Int} {a k : Nat} : rd b ((a + k : Nat) : Int) = rd (b.drop a) (k : Int) := by
  rw [rd_getD, rd_getD, List.getD_eq_getElem?_getD, List.getD_eq_getElem?_getD, List.getElem?_drop]
  rfl
theorem sl_from {b : List Int} {a k n : Nat} : sl b (a + k) n = ((b.drop a).drop k).take n := by
  unfold sl
  rw [List.drop_drop]
theorem bigv_wide {n : Int} (h : 0 ≤ n ∧ n < 2305843009213693951) : bigv (wide n) = n := by
  have key : ∀ {v c : Int}, 0 ≤ v ∧ v < 9007199254740992 → 0 ≤ c ∧ c ≤ 255 → wrap64 (v * 256 + c) = v * 256 + c := fun h1 h2 => w64 (by omega)
  unfold bigv wide
  simp only [List.foldl_cons, List.foldl_nil]
  rw [key (v := 0) (by omega) (by omega)]
  rw [show 0 * 256 + n / 72057594037927936 % 256 = n / 72057594037927936 by omega]
  rw [key (v := n / 72057594037927936) (by omega) (by omega)]
  rw [show n / 72057594037927936 * 256 + n / 281474976710656 % 256 = n / 281474976710656 by omega]
  rw [key (v := n / 281474976710656) (by omega) (by omega)]
  rw [show n / 281474976710656 * 256 + n / 1099511627776 % 256 = n / 1099511627776 by omega]
  rw [key (v := n / 1099511627776) (by omega) (by omega)]
  rw [show n / 1099511627776 * 256 + n / 4294967296 % 256 = n / 4294967296 by omega]
  rw [key (v := n / 4294967296) (by omega) (by omega)]
  rw [show n / 4294967296 * 256 + n / 16777216 % 256 = n / 16777216 by omega]
  rw [key (v := n / 16777216) (by omega) (by omega)]
  rw [show n / 16777216 * 256 + n / 65536 % 256 = n / 65536 by omega]
  rw [key (v := n / 65536) (by omega) (by omega)]
  rw [show n / 65536 * 256 + n / 256 % 256 = n / 256 by omega]
  rw [key (v := n / 256) (by omega) (by omega)]
  omega
theorem lks_wides {b : List Int} : ∀ (ls rest : List Int) (a : Nat), (∀ x ∈ ls, 0 ≤ x ∧ x < 2305843009213693951) → b.drop a = wides ls ++ rest → lks b a ls.length = ls
  | [], _, _, _, _ => rfl
  | x :: ls, rest, a, h, e => by
    have e1 : b.drop a = wide x ++ (wides ls ++ rest) := by rw [e]; simp [wides]
    have e2 : sl b a 8 = wide x := by
      unfold sl
      rw [e1, List.take_left' (wide_len x)]
    have e3 : b.drop (a + 8) = wides ls ++ rest := by rw [← List.drop_drop, e1, List.drop_left' (wide_len x)]
    show bigv (sl b a 8) :: lks b (a + 8) ls.length = x :: ls
    rw [e2, bigv_wide (h x List.mem_cons_self), lks_wides ls rest (a + 8) (fun y hy => h y (List.mem_cons_of_mem _ hy)) e3]
/-- The entries of a pack. -/
def ents : List SO → Nat → List PE
  | [], _ => []
  | x :: l, a => (⟨x.f0, (a : Int), ((pk1 x).length : Int)⟩ : PE) :: ents l (a + (pk1 x).length)
theorem prs_pk {b : List Int} : ∀ (l : List SO) (a : Nat), b.drop a = l.flatMap pk1 → a ≤ b.length → (∀ x ∈ l, bS0 x ∧ od1 x = x.f0) → prs b l.length a = some (l, ents l a, b.length)
  | [], a, e, ha, _ => by
    have : b.length - a = 0 := by rw [← List.length_drop, e]; rfl
    show some ([], [], a) = _
    rw [show a = b.length by omega]
    rfl
  | x :: l, a, e, ha, hg => by
    obtain ⟨g, hd⟩ := hg x List.mem_cons_self
    have g1 := g.kind
    have g2 := g.nl
    have g3 := g.nd
    have e1 : b.drop a = pk1 x ++ l.flatMap pk1 := by rw [e]; rfl
    have hk : (pk1 x).length = 4 + 8 * x.f1.f1.length + x.f1.f2.length := pke_len _ _ _
    have hbl : (pk1 x).length + (l.flatMap pk1).length = b.length - a := by rw [← List.length_append, ← e1, List.length_drop]
    have ep : b.drop a = x.f1.f0 % 256 :: (x.f1.f1.length : Int) % 256 :: (x.f1.f2.length : Int) / 256 % 256 :: (x.f1.f2.length : Int) % 256 :: (wides x.f1.f1 ++ (x.f1.f2 ++ l.flatMap pk1)) := by
      rw [e1]
      show pke _ _ _ ++ _ = _
      unfold pke
      simp
    have r0 : rd b (a : Int) = x.f1.f0 := by
      have := rd_from (b := b) (a := a) (k := 0)
      rw [ep] at this
      rw [show ((a + 0 : Nat) : Int) = (a : Int) by omega] at this
      rw [this]
      show x.f1.f0 % 256 = x.f1.f0
      omega
    have r1 : nlv b a = x.f1.f1.length := by
      unfold nlv
      rw [rd_from, ep]
      show ((x.f1.f1.length : Int) % 256).toNat = _
      omega
    have r2 : szv b a = x.f1.f2.length := by
      unfold szv
      rw [rd_from, rd_from, ep]
      show (256 * ((x.f1.f2.length : Int) / 256 % 256) + (x.f1.f2.length : Int) % 256).toNat = _
      omega
    have d4 : b.drop (a + 4) = wides x.f1.f1 ++ (x.f1.f2 ++ l.flatMap pk1) := by
      rw [← List.drop_drop, ep]
      rfl
    have r3 : lks b (a + 4) (nlv b a) = x.f1.f1 := by rw [r1]; exact lks_wides _ _ _ g.link d4
    have r4 : sl b (a + 4 + 8 * nlv b a) (szv b a) = x.f1.f2 := by
      rw [r1, r2, sl_from, d4, ← wides_len, List.drop_left, List.take_left]
    have ro : obj_ b a = x.f1 := by
      unfold obj_
      rw [r0, r3, r4]
    have ez : a + 4 + 8 * nlv b a + szv b a = a + (pk1 x).length := by rw [r1, r2, hk]; omega
    have en : b.drop (a + (pk1 x).length) = l.flatMap pk1 := by rw [← List.drop_drop, e1, List.drop_left]
    have hrec := prs_pk l (a + (pk1 x).length) en (by omega) (fun y hy => hg y (List.mem_cons_of_mem _ hy))
    have hst : sto (obj_ b a) = x := by
      rw [ro]
      show (⟨od1 x, x.f1⟩ : SO) = x
      rw [hd]
    have hp : prs b (l.length + 1) a = match prs b l.length (a + 4 + 8 * nlv b a + szv b a) with
        | none => none
        | some (s, e, z) => some (sto (obj_ b a) :: s, (⟨(sto (obj_ b a)).f0, (a : Int), ((4 + 8 * nlv b a + szv b a : Nat) : Int)⟩ : PE) :: e, z) := if_pos ⟨by omega, by omega, by rw [ro, good_flt g]⟩
    show prs b (l.length + 1) a = _
    rw [hp, ez, hrec, hst]
    show some (x :: l, (⟨x.f0, (a : Int), ((4 + 8 * nlv b a + szv b a : Nat) : Int)⟩ : PE) :: ents l (a + (pk1 x).length), b.length) = some (x :: l, (⟨x.f0, (a : Int), ((pk1 x).length : Int)⟩ : PE) :: ents l (a + (pk1 x).length), b.length)
    rw [show 4 + 8 * nlv b a + szv b a = (pk1 x).length by omega]
section
variable {l : List SO}
/-- A pack that was built is read. -/
theorem read_pk (hp : ∀ x ∈ l, fB.ok x) (hs : Store l) (hL : ((pkl l).length : Int) ≤ 4088) : Ev (fun k => pack_read.f k (pkb l)) (l, ents l 3, 0, 0) := by
  have hl := hs.len
  have hbl : (pkb l).length = (pkl l).length + 8 := by unfold pkb; rw [List.length_append, wide_len]
  have h3 : 3 ≤ (pkl l).length := by
    show 3 ≤ ((([80, 75, (l.length : Int) % 256] : List Int) ++ l.flatMap pk1).length)
    rw [List.length_append]
    simp only [List.length_cons, List.length_nil]
    omega
  have hb : Bytes (pkb l) := Bytes.append (pkl_bytes hp) (wide_bytes _)
  refine ev_cast (read_ev hb (by omega)) ?_
  have ht : (pkb l).take ((pkb l).length - 8) = pkl l := by
    rw [show (pkb l).length - 8 = (pkl l).length by omega]
    unfold pkb
    rw [List.take_left]
  have hd : (pkb l).drop ((pkb l).length - 8) = wide (dgf 1 (pkl l)) := by
    rw [show (pkb l).length - 8 = (pkl l).length by omega]
    unfold pkb
    rw [List.drop_left]
  unfold rdR
  rw [if_neg (by omega), if_neg (by omega), ht, hd, if_neg (fun h => h rfl), if_pos ⟨rfl, rfl⟩, show (pkb l).length - 8 = (pkl l).length by omega]
  have r2 : (rd (pkl l) 2).toNat = l.length := by
    show ((l.length : Int) % 256).toNat = _
    omega
  have hprs := prs_pk (b := pkl l) l 3 rfl h3 (fun x hx => by
    obtain ⟨n, hn, rfl⟩ := List.mem_iff_getElem.1 hx
    have := hs.good (n : Int) (by omega) (by omega)
    have e : at_ l (n : Int) = l[n] := rdOf_nat _ l hn
    rwa [e] at this)
  rw [r2, hprs]
  show (if (pkl l).length = (pkl l).length then (if (sf ([] ++ l)).1 = 0 then ([] ++ l, [] ++ ents l 3, (0 : Int), (0 : Int)) else Syn) else Syn) = _
  rw [if_pos rfl, List.nil_append, store_flt hs, if_pos rfl, List.nil_append]
end
end Go.Proofs.Ytnmkmamobhkcbaa.Obj
