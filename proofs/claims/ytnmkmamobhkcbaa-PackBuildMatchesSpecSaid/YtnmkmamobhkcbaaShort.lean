/- Short names for words that the printed texts use often. -/
import Derived.Test.YtnmkmamobhkcbaaWWords
import Derived.Test.YtnmkmamobhkcbaaWTab
import Derived.Test.YtnmkmamobhkcbaaWRepsOne
import Derived.Test.YtnmkmamobhkcbaaWMore
import Derived.Lib.SlBytesConst
import Derived.Lib.SliceRun
namespace Go.Proofs.YtnmkmamobhkcbaaW.PrintWords
open Go.RowKit
theorem bA {w : World} {g : Nat} {o : Obj} (h : w.heap[g]? = some o) (o' : Obj) : (w.alloc o').heap[g]? = some o := blk_alloc h o'
theorem bD {w : World} {g : Nat} {o : Obj} (h : w.heap[g]? = some o) : w.drew.heap[g]? = some o := h
theorem bN {w : World} {g : Nat} {o : Obj} (h : w.heap[g]? = some o) (n : Nat) : (w.drewN n).heap[g]? = some o := h
theorem lA {w W : World} (h : Below w.heap.size w W) (o : Obj) : Below w.heap.size w (W.alloc o) := below_alloc h o
theorem lN {B : Nat} {w W : World} (h : Below B w W) (n : Nat) : Below B w (W.drewN n) := pw_below_drewN h n
theorem lD {base : Nat} {w W : World} (h : Below base w W) : Below base w W.drew := below_drew1 h
theorem aZ {p : Prop} (h : p) : Aside0 p := ⟨h⟩
theorem lS {w W : World} {g j : Nat} {v : Value} (h : Below w.heap.size w W) (hg : w.heap.size ≤ g) : Below w.heap.size w (W.setCell ⟨g, j, none⟩ v) := below_set h hg
theorem lT {w W w2 : World} (h : Below w.heap.size w W) (k : Below W.heap.size W w2) : Below w.heap.size w w2 := below_step h k
theorem lZ {w W : World} (h : Below w.heap.size w W) : w.heap.size ≤ W.heap.size := below_size h
namespace Kd
variable {α : Type} {d : Kd α} {e : Nat} {w : World} {base : Nat} {ok : Nat → Prop} {v : Value} {xs : List α}
theorem rA (h : d.R e w base ok v xs) (o : Obj) : d.R e (w.alloc o) base ok v xs := R_alloc h o
theorem rD (h : d.R e w base ok v xs) : d.R e w.drew base ok v xs := R_drew h
theorem rN (h : d.R e w base ok v xs) (m : Nat) : d.R e (w.drewN m) base ok v xs := R_drewN h m
end Kd
section
variable {P : Program} {ops : Array Oper} {Q : Exit → Act → World → Prop} {rest : List Oper} {o : Oper} {a : Act}
/-- A literal of rows whose elements are only read. -/
theorem Kd.lit_read {α : Type} (d : Kd α) {W : World} (e : Nat) (hgd : o.guard = none) {N : Tmp} (_hd : o.dst = some N) {xs ys : List α} {inner : List Value} (hy : ys = xs)
    (hrun : (execOp a.eval o).run P W = .ok (.value (.slice (some ⟨W.heap.size, 0, none⟩) xs.length xs.length)) (W.alloc (.cells inner.toArray e)))
    (hrep : Reps (d.K W) d.sz xs inner) (hm : xs.length ≤ 9223372036854775807)
    (h : ∀ A1 w1, d.C w1 A1 ys.length ys → Below W.heap.size W w1 → wpList P ops Q rest (a.put o.dst (.slice A1 ys.length ys.length)) w1) : wpList P ops Q (o :: rest) a W := by
  subst hy
  have hb : Below W.heap.size W (W.alloc (.cells inner.toArray e)) := below_alloc (Below.refl _ _) _
  refine event_run hgd hrun (h _ _ ?_ hb)
  have h2 := World.ownsRow_lit (base := W.heap.size) (e := e) (size := d.sz) W inner.toArray ys.length (Nat.le_refl _) (by simpa [maxLen] using hm) (by simpa using hrep.1)
  obtain ⟨A, c, he, hr⟩ := own_reads_row (R := d.K (W.alloc (.cells inner.toArray e))) h2 (by simpa using hrep.imp_ (fun p c hp => d.K_below hb hp)) rfl
  injection he with ha _ hc
  subst ha
  exact hr
/-- Whole numbers, each in a cell of its own. -/
theorem Kd.reps_int (k : IntKind) (w : World) (xs : List Int) : Reps (Kd.K (Kd.int k) w) 1 xs (xs.map (Value.int k)) := by
  induction xs with
  | nil => exact Reps.none _ _
  | cons x xs ih => exact Reps.one (show Kd.K (Kd.int k) w x [.int k x] from rfl) ih
/-- '[]byte("..")' of a constant that is only read: the literal, and its conversion to its own type. -/
theorem Kd.lit_const {α : Type} (d : Kd α) {W : World} (e t : Nat) {o2 : Oper} (hgd : o.guard = none) {N : Tmp} (_hd : o.dst = some N) (hgd2 : o2.guard = none) {xs ys : List α} {inner : List Value} (hy : ys = xs) (ht : P.underlying t = some (.slice e)) (he : P.underlying e = some (.int .u8))
    (hrun : (execOp a.eval o).run P W = .ok (.value (.slice (some ⟨W.heap.size, 0, none⟩) xs.length xs.length)) (W.alloc (.cells inner.toArray e)))
    (hrun2 : ∀ (w1 w2 : World) (v : Value), (convert t t v).run P w1 = .ok v w2 → v = .slice (some ⟨W.heap.size, 0, none⟩) xs.length xs.length → (execOp (a.put o.dst v).eval o2).run P w1 = .ok (.value v) w2)
    (hrep : Reps (d.K W) d.sz xs inner) (hm : xs.length ≤ 9223372036854775807)
    (h : ∀ A1 w1, d.C w1 A1 ys.length ys → Below W.heap.size W w1 → wpList P ops Q rest ((a.put o.dst (.slice A1 ys.length ys.length)).put o2.dst (.slice A1 ys.length ys.length)) w1) : wpList P ops Q (o :: o2 :: rest) a W := by
  subst hy
  have hb : Below W.heap.size W (W.alloc (.cells inner.toArray e)) := below_alloc (Below.refl _ _) _
  have hb2 : Below W.heap.size W (W.alloc (.cells inner.toArray e (inner.toArray.size, inner.toArray.size + 1))) := below_alloc (Below.refl _ _) _
  refine event_run hgd hrun (event_run hgd2 (hrun2 _ _ _ (Lib.run_convert_bytes_const W t e inner.toArray ys.length ys.length ht he) rfl) (h _ _ ?_ hb2))
  have h2 := World.ownsRow_lit (base := W.heap.size) (e := e) (size := d.sz) W inner.toArray ys.length (Nat.le_refl _) (by simpa [maxLen] using hm) (by simpa using hrep.1)
  obtain ⟨A, c, hv, hr⟩ := own_reads_row (R := d.K (W.alloc (.cells inner.toArray e (inner.toArray.size, inner.toArray.size + 1)))) h2 (by simpa using hrep.imp_ (fun p c hp => d.K_below hb2 hp)) rfl
  injection hv with ha _ hc
  subst ha
  have hc' : ∀ p : Addr, (W.alloc (.cells inner.toArray e (inner.toArray.size, inner.toArray.size + 1))).cell? p = (W.alloc (.cells inner.toArray e)).cell? p := by
    intro p
    simp only [World.cell?, World.alloc, Array.getElem?_push]
    by_cases hp : p.block = W.heap.size <;> simp [hp]
  refine ⟨hr.1, hr.2.1, fun hn => ?_⟩
  obtain ⟨ad, ea, hx⟩ := hr.2.2 hn
  refine ⟨ad, ea, fun q p hq => ?_⟩
  obtain ⟨c1, h1, h3, h4⟩ := hx q p hq
  exact ⟨c1, h1, h3, fun i u hu => (hc' _).trans (h4 i u hu)⟩
end
namespace Kd
section
variable {P : Program} {ops : Array Oper} {o : Oper} {a : Act} {Q : Exit → Act → World → Prop} {Kc : Act → World → Prop} {α : Type}
/-- 'R_append_rows_step', and what lay in the row lies where it lay. -/
theorem R_append_rows_keep (d : Kd α) {Rr : α → List Value → Prop} {w0 W : World} (base : Nat) (hw : Region.wanted o (yielded ops a.tmps) = true) (s x : Operand) (t e : TypeId) (z : Value) (bytes : Nat)
    (ho : o.op = .call { callee := .builtin .append, args := #[s, x], argTypes := #[t, t] })
    (ht : P.underlying t = some (.slice e)) (hinfo : (P.info? e).map (fun i => (i.zero, i.size, i.bytes)) = some (some z, d.sz, bytes)) (hz : z.cells.size = d.sz) (hs0 : 0 < d.sz) (hb0 : 0 < bytes)
    (v : Value) (xs ys : List α) (A : Option Addr) (m c : Nat) (ok okp : Nat → Prop) (hs : a.eval s = v) (hx : a.eval x = .slice A m c)
    (HO : d.R e W base ok v xs) (HR : ReadsRow Rr d.sz W A m ys) (hKM : ∀ x cs, Rr x cs → d.M W base okp x cs) (hokp : ∀ k, okp k → ok k ∧ some k ≠ v.ownBlock) (hfresh : ∀ k, W.heap.size ≤ k → ok k)
    (HB : Below base w0 W) (hbase : base ≤ W.heap.size) (hl : (xs.length + m) * bytes ≤ 140737488355328)
    (h : ∀ v1 w1, d.R e w1 base ok v1 (xs ++ ys) → Below base w0 w1 → W.grownBy w1 v.ownBlock → (v1.ownBlock = v.ownBlock ∨ ∃ b, v1.ownBlock = some b ∧ W.heap.size ≤ b) → (∀ (ad_ : Addr) (n_ c_ : Nat), v = .slice (some ad_) n_ c_ → ∀ j, j < xs.length * d.sz → ∀ u, W.cell? (ad_.add j) = some u → w1.cell? (ad_.add j) = some u) → Kc (a.put o.dst v1) w1) :
    if Region.wanted o (yielded ops a.tmps) = true then Oper.wp P o a W Kc Q else Kc (a.put o.dst undef) W := by
  obtain ⟨i0, hi, hzz⟩ := Option.map_eq_some_iff.1 hinfo
  simp only [Prod.mk.injEq] at hzz
  obtain ⟨hz0, hz1, hz2⟩ := hzz
  have hm : ys.length = m := HR.1
  have hlen : xs.length + m ≤ 140737488355328 := Nat.le_trans (Nat.le_mul_of_pos_right _ hb0) hl
  obtain ⟨hok, inner, hown, hr⟩ := HO
  have hrun : ∃ v1 w1, (Builtin.append_ #[t, t] o.type #[v, .slice A m c]).run P W = .ok v1 w1 ∧ d.R e w1 base ok v1 (xs ++ ys) ∧ W.grownBy w1 v.ownBlock ∧ (v1.ownBlock = v.ownBlock ∨ ∃ b, v1.ownBlock = some b ∧ W.heap.size ≤ b) ∧ (∀ (ad_ : Addr) (n_ c_ : Nat), v = .slice (some ad_) n_ c_ → ∀ j, j < xs.length * d.sz → ∀ u, W.cell? (ad_.add j) = some u → w1.cell? (ad_.add j) = some u) := by
    rcases A with _ | ad
    · have h0 : m = 0 := by
        rcases Nat.eq_zero_or_pos m with h0 | h0
        · exact h0
        · obtain ⟨ad, h, _⟩ := HR.2.2 h0
          cases h
      subst h0
      obtain rfl : ys = [] := List.eq_nil_of_length_eq_zero hm
      refine ⟨v, W, ?_, by rw [List.append_nil]; exact ⟨hok, inner, hown, hr⟩, World.grownBy.refl W _, .inl rfl, fun _ _ _ _ _ _ _ h => h⟩
      rcases hown.2 with ⟨rfl, hn⟩ | ⟨g, cap, cur, rfl, _, _, hnc, _⟩
      · simp [Builtin.append_, run_underlying ht, sizeOf, typeInfo, hi, Builtin.lenOf, Builtin.firstCells]
      · simp [Builtin.append_, run_underlying ht, sizeOf, typeInfo, hi, Builtin.lenOf, Builtin.firstCells, hnc, storeCells]
    · obtain ⟨news, hnr, hnc⟩ := ReadsRow.inner_ HR
      have hnM : Reps (d.M W base okp) d.sz ys news := hnr.imp_ (fun p c hp => hKM p c hp)
      have hone : ∀ u ∈ news, u.oneCell' = true := by
        intro u hu
        obtain ⟨q, hq, rfl⟩ := List.mem_iff_getElem.1 hu
        have hql : q / d.sz < ys.length := by
          rw [Nat.div_lt_iff_lt_mul hs0]
          rw [← hnM.1]
          exact hq
        have hc := hnM.2 (q / d.sz) _ (List.getElem?_eq_getElem hql)
        refine d.K_one (d.K_of_M hc) _ ?_
        rw [List.mem_iff_getElem?]
        refine ⟨q % d.sz, ?_⟩
        rw [List.getElem?_take, if_pos (Nat.mod_lt _ hs0), List.getElem?_drop, Nat.mul_comm, Nat.div_add_mod, List.getElem?_eq_getElem hq]
      obtain ⟨v1, w1, hrun, h2, hg, _, hat⟩ := run_append_own_at (P := P) W base t o.type e i0 z d.sz bytes ht hi hz0 hz1 hz2 hz hs0 v xs.length inner hown ad m c news (by rw [hnM.1, hm]) hnc hone (by simp only [maxLen]; omega) hl hbase
      have keep : (∀ (ad_ : Addr) (n_ c_ : Nat), v = .slice (some ad_) n_ c_ → ∀ j, j < xs.length * d.sz → ∀ u, W.cell? (ad_.add j) = some u → w1.cell? (ad_.add j) = some u) := by
        rintro ad' n' c' rfl j hj u hu
        rcases hown.2 with ⟨e0, _⟩ | ⟨g, cap, cur, e0, hbg, hgg, hnc', hcm, hcs, htk⟩
        · cases e0
        · injection e0 with e1 e2 e3
          injection e1 with e1
          subst e1; subst e2; subst e3
          rw [add_plain] at hu ⊢
          by_cases hroom : xs.length + m ≤ c'
          · have hfit : xs.length * i0.size + news.length ≤ cur.size := by rw [hz1, hnM.1, hm, hcs, ← Nat.add_mul]; exact Nat.mul_le_mul_right _ hroom
            have hr2 := run_append_room (P := P) W t o.type e i0 ht hi g xs.length c' cur hgg ad m c news (by rw [hnM.1, hm, hz1]) hnc hone hroom hfit
            rw [hrun] at hr2
            injection hr2 with _ hw1
            rw [hw1, cell_setRow_same _ _ _ _ _ _ _ hgg]
            have hcu : W.cell? ⟨g, j, none⟩ = cur[j]? := by simp [World.cell?, hgg]
            rw [hcu] at hu
            rw [← hu, hz1]
            have hjs : j < cur.size := (Array.getElem?_eq_some_iff.1 hu).1
            simp [List.getElem?_append, hj, hjs, show xs.length * d.sz ≤ cur.size by rw [hcs]; exact Nat.mul_le_mul_right _ hnc', Nat.min_eq_left]
          · have holds : ∀ j u, inner[j]? = some u → W.cell? ((⟨g, 0, none⟩ : Addr).add j) = some u := hown.cells (g := g) rfl
            have hr2 := run_append_grow (P := P) W t o.type e i0 z ht hi hz0 ⟨g, 0, none⟩ xs.length c' inner (by rw [hz1]; exact hown.1) holds ad m c news (by rw [hnM.1, hm, hz1]) hnc (by omega) (by omega) (growslice_fits (by omega) (by rw [hz2]; exact hl))
            rw [hrun] at hr2
            injection hr2 with _ hw1
            rw [hw1]
            exact (World.cell?_alloc_lt _ _ _ (World.block_lt_of_cell? _ _ hu)).trans hu
      have hat' : v1.ownBlock = v.ownBlock ∨ ∃ b, v1.ownBlock = some b ∧ W.heap.size ≤ b := by
        rcases hat with hat | hat
        · exact .inl hat
        · exact .inr ⟨_, hat, Nat.le_refl _⟩
      have hne : ∀ k, some k ≠ v.ownBlock → k < W.heap.size → some k ≠ v1.ownBlock := by
        intro k hk hlt
        rcases hat' with hat | ⟨b, hb, hle⟩
        · rw [hat]; exact hk
        · rw [hb]
          intro he
          injection he with he
          omega
      have step : ∀ {q : α} {c : List Value} {o : Nat → Prop}, d.M W base o q c → (∀ k, o k → ok k ∧ some k ≠ v.ownBlock) → d.M w1 base (fun k => ok k ∧ some k ≠ v1.ownBlock) q c := by
        intro q c o hq ho
        have h1 := d.M_move (w1 := w1) (fun k hk => hg.block k hk.2.2.1 (ho k hk.1).2) (d.M_bound hq)
        exact d.M_mono (fun k hk => ⟨(ho k hk.1).1, hne k (ho k hk.1).2 hk.2.2.1⟩) h1
      refine ⟨v1, w1, hrun, ⟨fun k hk => ?_, inner ++ news, by rw [List.length_append, hm]; exact h2, reps_append (hr.imp_ (fun _ _ hq => step hq (fun _ hk => hk))) (hnM.imp_ (fun _ _ hq => step hq hokp))⟩, hg, hat', keep⟩
      rcases hat' with hat | ⟨b, hb, hle⟩
      · exact hok k (hat ▸ hk)
      · rw [hb] at hk
        injection hk with hk
        exact hfresh k (by omega)
  obtain ⟨v1, w1, hr1, h1, hg, hat, hkp⟩ := hrun
  rw [if_pos hw]
  unfold Oper.wp execOp
  simp only [ho, resolve, invoke, builtin, Sem.run_bind, Sem.run_pure, Result.andThen_ok, List.map_toArray, List.map_cons, List.map_nil, hs, hx, hr1]
  exact h v1 w1 h1 (HB.grown hg hbase (own_base hown)) hg hat hkp
end
end Kd
namespace Kd
section
variable {α : Type} {d : Kd α} {e base n c : Nat} {ok : Nat → Prop} {W : World} {v : Value} {xs : List α}
/-- Where a row that is only read lies, is one of its blocks. -/
theorem V_ok (h : V d e W base ok v xs) (hs : 0 < d.sz) (hn : 0 < xs.length) {k : Nat} (hv : v.ownBlock = some k) : ok k := by
  obtain ⟨A, c', rfl, hl, hf⟩ := h
  cases A with
  | none => simp [Value.ownBlock] at hv
  | some ad =>
    obtain rfl : ad.block = k := by simpa [Value.ownBlock] using hv
    by_cases hk : ok ad.block
    · exact hk
    · have hC : d.C { W with heap := W.heap.modify ad.block fun _ => .cells #[] 0 } (some ad) xs.length xs := hf _ (fun k ho hlt => by
        have hne : ad.block ≠ k := fun e => hk (e ▸ ho)
        simp [Array.getElem?_modify, hne])
      obtain ⟨ad', e1, hx⟩ := hC.2.2 hn
      injection e1 with e1
      subst e1
      obtain ⟨c1, h1, h2⟩ := hx 0 xs[0] (List.getElem?_eq_getElem hn)
      have hlen := d.K_len h2.1
      have h3 := h2.2 0 (c1[0]'(by omega)) (List.getElem?_eq_getElem (by omega))
      have hb : (ad.add (0 * d.sz + 0)).block = ad.block := add_block _ _
      unfold World.cell? at h3
      rw [hb] at h3
      cases hz : W.heap[ad.block]? <;> simp [Array.getElem?_modify, hz] at h3
theorem V_string {P : Program} {src dst t : TypeId} {ys : List Int} (hs : P.underlying src = some (.slice t)) (he : P.underlying t = some (.int .u8)) (hd : P.underlying dst = some .string) (h : V (int .u8) e W base ok v ys) : (convert src dst v).run P W = .ok (.string (strOfNums ys)) W := by
  obtain ⟨A, c, rfl⟩ := V_slice h
  exact C_string hs he hd (V_reads' h).2.2
theorem V_away (h : V d e W base ok v xs) {g : Nat} (hok : ∀ k, ok k → k ≠ g) (hn : 0 < xs.length) (hs : 0 < d.sz := by decide) : some g ≠ v.ownBlock := fun he => hok g (V_ok h hs hn he.symm) rfl
end
end Kd
open Go.Proofs.YtnmkmamobhkcbaaW.PrintLast
section
variable {P : Program} {ops : Array Oper} {Q : Exit → Act → World → Prop} {S : World → Prop} {ds : List Nat}
/-- 'pure_' with what is alike at each use: the operation's place, what it writes, the marks behind it. -/
theorem pu (i : Nat) (N : Tmp) (l' : Array Bool) {T : Bool × List (List Nat × List Nat)} (hT : Aside0 (rtab .any ops = T)) {oi : Oper} {v : Value} {fuel : Nat} {l : Array Bool} {a a' : Act} {w : World} (hi : ops[i]? = some oi) (hN : oi.dst = some N)
    (hg : Region.wanted oi (yielded ops a.tmps) = true := by rfl) (hy : ∀ w', (execOp a.eval oi).run P w' = .ok (.value v) w' := by intro w'; go_simp; with_reducible rfl) (ha : a.put (some N) v = a' := by simp only [Act.put, List.setIfInBounds_toArray, List.set_cons_zero, List.set_cons_succ, i64_w, i32_w]; rfl) (hc : anyT T l.toList l'.toList i = true := by kernel_rfl)
    (hQ : ∀ c a w, Q (.panic c) (a.put oi.dst v) w → Q (.panic c) a w := by exact fun _ _ _ h => h)
    (h : wpAnyLast P .any ops Q S ds fuel l' a' w) : wpAnyLast P .any ops Q S ds (fuel + 1) l a w := by
  refine pure_ l' hi hN (any_of hT.out hc) hQ (Or.inl ⟨hg, hy⟩) ha h
/-- An operation that is not wanted. -/
theorem pv (i : Nat) (N : Tmp) (l' : Array Bool) {T : Bool × List (List Nat × List Nat)} (hT : Aside0 (rtab .any ops = T)) {oi : Oper} {fuel : Nat} {l : Array Bool} {a a' : Act} {w : World} (hi : ops[i]? = some oi) (hN : oi.dst = some N)
    (hg : Region.wanted oi (yielded ops a.tmps) = false := by rfl) (ha : a.put (some N) undef = a' := by simp only [Act.put, List.setIfInBounds_toArray, List.set_cons_zero, List.set_cons_succ, i64_w, i32_w]; rfl) (hc : anyT T l.toList l'.toList i = true := by kernel_rfl)
    (hQ : ∀ c a w, Q (.panic c) (a.put oi.dst undef) w → Q (.panic c) a w := by exact fun _ _ _ h => h)
    (h : wpAnyLast P .any ops Q S ds fuel l' a' w) : wpAnyLast P .any ops Q S ds (fuel + 1) l a w := by
  refine pure_ l' hi hN (any_of hT.out hc) hQ (Or.inr ⟨hg, rfl⟩) ha h
/-- 'take_', likewise: what the operation reads is held. -/
theorem tk (i : Nat) (N : Tmp) (l' : Array Bool) {T : Bool × List (List Nat × List Nat)} {B : List Nat} (hT : Aside0 (rtab .any ops = T)) (hB : Aside0 (waitsOk T.2 B = true)) {oi : Oper} {v : Value} {fuel : Nat} {l : Array Bool} {a a' : Act} {w : World} (hi : ops[i]? = some oi) (hN : oi.dst = some N) (hS : S w)
    (hy : ∀ w', S w' → (execOp a.eval oi).run P w' = .ok (.value v) w') (hg : Region.wanted oi (yielded ops a.tmps) = true := by rfl) (ha : a.put (some N) v = a' := by simp only [Act.put, List.setIfInBounds_toArray, List.set_cons_zero, List.set_cons_succ, i64_w, i32_w]; rfl) (hc : takeW T B ds l.toList l'.toList i = true := by kernel_rfl)
    (hQ : ∀ c a w, Q (.panic c) (a.put oi.dst v) w → Q (.panic c) a w := by exact fun _ _ _ h => h)
    (h : wpAnyLast P .any ops Q S ds fuel l' a' w) : wpAnyLast P .any ops Q S ds (fuel + 1) l a w := by
  refine take_ l' hi hN (take_ofW hT.out hB.out hc) hQ (Or.inl ⟨hg, hy⟩) hS ha h
end
end Go.Proofs.YtnmkmamobhkcbaaW.PrintWords
