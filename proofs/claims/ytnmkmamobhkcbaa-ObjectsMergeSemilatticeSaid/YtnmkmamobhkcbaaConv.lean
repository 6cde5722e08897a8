/- A conversion of a string to bytes, told as a call. -/
import Derived.Test.YtnmkmamobhkcbaaShort
namespace Go.Proofs.YtnmkmamobhkcbaaW.PrintWords
open Go.RowKit
def pp_bytes.f (s : ByteArray) : Option (List Int) := if s.size ≤ 140737488351232 then some (bytesOf s) else none
/-- What a conversion of a string to bytes comes to, as a call is told. -/
def Conv (s : ByteArray) (e : Nat) (w : World) (R : Ending → World → Prop) : Prop := R (.returned (.slice (some ⟨w.heap.size, 0, none⟩) s.size (grownCap w s.size 0 e))) (Lib.bytesWorld w e s)
theorem Conv.mono {s : ByteArray} {e : Nat} {w : World} {R R' : Ending → World → Prop} (h : Conv s e w R) (hi : ∀ e_ w', R e_ w' → R' e_ w') : Conv s e w R' := hi _ _ h
theorem pp_bytes.calls {e : Nat} (s : ByteArray) (r : List Int) (w : World) (h : pp_bytes.f s = some r) : Conv s e w fun e_ w' => ∃ v0_ : Value, e_ = .returned v0_ ∧ Kd.V (Kd.int .u8) e w' w.heap.size (fun k_ => w.heap.size ≤ k_) v0_ r ∧ Below w.heap.size w w' := by
  unfold pp_bytes.f at h
  split at h
  next hs =>
    obtain rfl := Option.some.inj h
    have hr := bytes_reads w e s (by omega)
    have hl : (bytesOf s).length = s.size := hr.1
    refine ⟨_, rfl, ⟨some ⟨w.heap.size, 0, none⟩, grownCap w s.size 0 e, by rw [hl], by rw [hl]; exact grownCap_ge w s.size 0 e, ?_⟩, bytes_below (Below.refl _ w) (Nat.le_refl _) e s⟩
    rw [hl]
    intro W' hW
    have hC : Kd.C (Kd.int .u8) (Lib.bytesWorld w e s) (some ⟨w.heap.size, 0, none⟩) s.size (bytesOf s) := Kd.C_of_reads (d := (0 : Int)) (h1 := fun _ => rfl) hr
    have hb : W'.heap[w.heap.size]? = (Lib.bytesWorld w e s).heap[w.heap.size]? := hW _ (Nat.le_refl _) (by rw [Lib.bytesWorld_size]; omega)
    refine ⟨hC.1, hC.2.1, fun hn => ?_⟩
    obtain ⟨ad, ea, hx⟩ := hC.2.2 hn
    injection ea with ea
    subst ea
    refine ⟨_, rfl, fun j p hj => ?_⟩
    obtain ⟨c, h1, h2, h3⟩ := hx j p hj
    refine ⟨c, h1, h2, fun i u hu => ?_⟩
    rw [← h3 i u hu]
    exact World.cell?_of_block (by rw [add_block]; exact hb)
  next => cases h
section
variable {P : Program} {ops : Array Oper} {Q : Exit → Act → World → Prop} {rest : List Oper} {oi : Oper} {a : Act} {s : ByteArray} {u : TypeDesc} {Kc : Act → World → Prop} {w : World}
theorem convL_ (src dst e : TypeId) (hs : P.underlying src = some u) (hd : P.underlying dst = some (.slice e)) (he : P.underlying e = some (.int .u8)) (N : Option Tmp) (hN : oi.dst = N) (hg : oi.guard = none)
    (hcv : (execOp a.eval oi).run P w = ((convert src dst (.string s)).run P w).andThen fun v w' => .ok (.value v) w') (h : Conv s e w fun e_ w' => ∃ v, e_ = .returned v ∧ wpList P ops Q rest (a.put N v) w') : wpList P ops Q (oi :: rest) a w := by
  obtain ⟨v, e1, hw⟩ := h
  injection e1 with e1
  subst e1; subst hN
  exact Kd.event_run hg (by rw [hcv, print_bytes src dst e hs hd he s w]; rfl) hw
theorem conv_ (src dst e : TypeId) (hs : P.underlying src = some u) (hd : P.underlying dst = some (.slice e)) (he : P.underlying e = some (.int .u8)) (hw : Region.wanted oi (yielded ops a.tmps) = true) {N : Option Tmp} (hN : oi.dst = N)
    (hcv : (execOp a.eval oi).run P w = ((convert src dst (.string s)).run P w).andThen fun v w' => .ok (.value v) w') (h : Conv s e w fun e_ w' => ∃ v, e_ = .returned v ∧ Kc (a.put N v) w') : if Region.wanted oi (yielded ops a.tmps) = true then Oper.wp P oi a w Kc Q else Kc (a.put N undef) w := by
  obtain ⟨v, e1, hk⟩ := h
  injection e1 with e1
  subst e1; subst hN
  exact event_step hw (by rw [hcv, print_bytes src dst e hs hd he s w]; rfl) hk
end
end Go.Proofs.YtnmkmamobhkcbaaW.PrintWords
