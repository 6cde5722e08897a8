/- Texts of the proofs of ObjectsPutMatchesSpec: what the printed functions come to, plain laws, rows (no condition beyond the statements' own). -/
import Derived.Test.YtnmkmamobhkcbaaGObj4
import Derived.Test.YtnmkmamobhkcbaaGP64
import Derived.Test.YtnmkmamobhkcbaaGP62
import Derived.Test.YtnmkmamobhkcbaaGP65
import Derived.Test.YtnmkmamobhkcbaaRows
import Derived.Test.YtnmkmamobhkcbaaGP24
import Derived.WalkKit
import Derived.ProofKit
import Derived.OpenShut
import Derived.ShutString
import Derived.ChangeOld
import Derived.Below
import Derived.SizedLaws
import Derived.Carry
/- The reference's PutObject: what it comes to. -/
namespace Go.Proofs.Ytnmkmamobhkcbaa.Obj
open Go.RowKit Go.Proofs.YtnmkmamobhkcbaaW.PrintWords Go.Proofs.YtnmkmamobhkcbaaW.PrintEv Go.Proofs.Ytnmkmamobhkcbaa.P Go.Proofs.Ytnmkmamobhkcbaa.Dig
open Go.Proofs.YtnmkmamobhkcbaaW.PrintMore
set_option linter.unusedVariables false

section
variable {l : List SO} {o : O}
/-! the reference's -/
theorem rput_true {kd : Int} {ls ds : List Int} {d : Int} (hl : (l.length : Int) ≤ 40) : ∀ (m q : Nat) (out : List SO), q + m = l.length → (out.length : Int) ≤ q + 2 → Ev (fun k => aQ.l0 k d true (q : Int) l kd ls ds out) (out ++ l.drop q, d, 0) := by
  intro m
  induction m with
  | zero =>
    intro q out hq ho
    refine Ev.step (fun k_ => by rw [aQ.l0]) ?_
    rw [List.drop_eq_nil_of_le (by omega), List.append_nil]
    exact ev_neg (by omega) (ev_pos rfl (ev_now _))
  | succ m ih =>
    intro q out hq ho
    have next := ih (q + 1) (out ++ [at_ l (q : Int)]) (by omega) (by rw [List.length_append]; simp; omega)
    rw [show ((q + 1 : Nat) : Int) = (q : Int) + 1 by omega] at next
    refine Ev.step (fun k_ => by rw [aQ.l0]) ?_
    rw [w64 (x := (q : Int) + 1) (by omega)]
    refine ev_pos (by omega) (ev_pos rfl (ev_pos (by omega) (ev_pos (by omega) (ev_cast next ?_))))
    have hdr : l.drop q = at_ l (q : Int) :: l.drop (q + 1) := by
      show _ = rdOf _ l (q : Int) :: _
      rw [rdOf_nat _ l (by omega)]
      exact List.drop_eq_getElem_cons (by omega)
    rw [hdr, List.append_assoc]
    rfl
theorem rput_false (hs : Store l) {d : Int} (hd : 0 ≤ d ∧ d < 2305843009213693951) {i : Nat} (hf : Found l d i false) {o : O} : ∀ (m q : Nat), q + m = l.length → q ≤ i → Ev (fun k => aQ.l0 k d false (q : Int) l o.f0 o.f1 o.f2 (l.take q)) (l.take i ++ [mk1 d o] ++ l.drop i, d, 0) := by
  have hl := hs.len
  have hle := hf.le
  intro m
  induction m with
  | zero =>
    intro q hq hqi
    have e : i = l.length := by omega
    refine Ev.step (fun k_ => by rw [aQ.l0]) ?_
    rw [List.take_of_length_le (show l.length ≤ q by omega), e, List.take_length, List.drop_length, List.append_nil]
    exact ev_neg (by omega) (ev_neg (by decide) (ev_pos (by omega) (ev_now _)))
  | succ m ih =>
    intro q hq hqi
    have hlt : (l.take q).length = q := by rw [List.length_take]; omega
    refine Ev.step (fun k_ => by rw [aQ.l0]) ?_
    rw [w64 (x := (q : Int) + 1) (by omega)]
    refine ev_pos (by omega) (ev_neg (by decide) (ev_pos (by omega) ?_))
    by_cases c : q < i
    · have hlow := hf.low hd.1 hd.2 (q : Int) (by omega) (by omega)
      have next := ih (q + 1) (by omega) (by omega)
      rw [show ((q + 1 : Nat) : Int) = (q : Int) + 1 by omega, take_at (by omega)] at next
      refine ev_neg (show ¬ (at_ l (q : Int)).f0 > d by omega) (ev_pos (by omega) ?_)
      exact next
    · have e : q = i := by omega
      subst e
      have hhi := hf.high hd.1 hd.2 (q : Int) (by omega) (by omega)
      have hno := hf.no rfl (q : Int) (by omega) (by omega)
      have next := rput_true (l := l) (kd := o.f0) (ls := o.f1) (ds := o.f2) (d := d) hl m (q + 1) (l.take q ++ [mk1 d o] ++ [at_ l (q : Int)]) (by omega) (by simp only [List.length_append, hlt, List.length_cons, List.length_nil]; omega)
      rw [show ((q + 1 : Nat) : Int) = (q : Int) + 1 by omega] at next
      refine ev_pos (show (at_ l (q : Int)).f0 > d by omega) (ev_pos (by omega) (ev_some (ev_pos (by simp only [List.length_append, hlt, List.length_cons, List.length_nil]; omega) (ev_cast next ?_))))
      have hdr : l.drop q = at_ l (q : Int) :: l.drop (q + 1) := by
        show _ = rdOf _ l (q : Int) :: _
        rw [rdOf_nat _ l (by omega)]
        exact List.drop_eq_getElem_cons (by omega)
      rw [hdr]
      simp
theorem rput_ev (hs : Store l) (hb : Bytes o.f2) (g : Good o.f0 o.f1 o.f2) {i : Nat} {b : Bool} (hf : Found l (odo o) i b) : Ev (fun k => aQ.f k l o.f0 o.f1 o.f2) ((putF l o i b).1, (putF l o i b).2.1, (putF l o i b).2.2.1) := by
  have hl := hs.len
  unfold aQ.f
  refine ev_bind (rodigest_ev g hb) ?_
  cases b with
  | true =>
    have hy := (hf.yes rfl).1
    have ha : Ev (fun k => bH.f k l (odo o)) ((i : Nat) : Int) := at_ev hs hf
    refine ev_bind ha ?_
    rw [putF_true]
    refine ev_pos (by omega) (ev_pos (by omega) (ev_pos (by omega) (ev_bind (robjects_ev (by
      have := (hs.good (i : Int) (by omega) (by omega)).1.nl
      show ((at_ l (i : Int)).f1.f1.length : Int) ≤ _
      omega)) ?_)))
    cases hsm : sameO (at_ l (i : Int)).f1 o with
    | true => exact ev_pos hsm (ev_now _)
    | false =>
      have hsm : same (aA l (i : Int)).f1.f0 (aA l (i : Int)).f1.f1 (aA l (i : Int)).f1.f2 o.f0 o.f1 o.f2 = false := hsm
      refine ev_neg ?_ (ev_now _)
      show ¬ same _ _ _ _ _ _ = true
      rw [hsm]; exact Bool.false_ne_true
  | false =>
    have ha : Ev (fun k => bH.f k l (odo o)) (-1) := at_ev hs hf
    refine ev_bind ha ?_
    rw [putF_false]
    refine ev_neg (by omega) ?_
    by_cases c : (l.length : Int) = 40
    · rw [if_pos c]
      exact ev_pos (by omega) (ev_now _)
    · rw [if_neg c]
      exact ev_neg (by omega) (rput_false hs (odg_lt _ _ _) hf l.length 0 (by omega) (by omega))
end
end Go.Proofs.Ytnmkmamobhkcbaa.Obj

/- The pure statement of ObjectsPutMatchesSpec. -/
namespace Go.Proofs.Ytnmkmamobhkcbaa.Pure
open Go.RowKit Go.Proofs.YtnmkmamobhkcbaaW.PrintWords Go.Proofs.YtnmkmamobhkcbaaW.PrintEv Go.Proofs.Ytnmkmamobhkcbaa.P Go.Proofs.Ytnmkmamobhkcbaa.Dig Go.Proofs.Ytnmkmamobhkcbaa.Obj
set_option linter.unusedVariables false
theorem putF_links {l : List SO} {o : O} {i : Nat} {b : Bool} (hs : Store l) (g : Obj.Good o.f0 o.f1 o.f2) : (((putF l o i b).1.length : Int) ≤ 41) ∧ ∀ x ∈ (putF l o i b).1, (x.f1.f1.length : Int) ≤ 30 := by
  have hl := hs.len
  have g1 := g.nl
  have hm : ∀ x ∈ l, (x.f1.f1.length : Int) ≤ 30 := fun x hx => by
    obtain ⟨n, hn, rfl⟩ := List.mem_iff_getElem.1 hx
    have := (hs.good (n : Int) (by omega) (by omega)).1.nl
    have e : at_ l (n : Int) = l[n] := rdOf_nat _ l hn
    rwa [e] at this
  unfold putF
  split
  · split
    · exact ⟨by show (l.length : Int) ≤ 41; omega, hm⟩
    · exact ⟨by show (([] : List SO).length : Int) ≤ 41; simp, fun x hx => by cases hx⟩
  · split
    · exact ⟨by show (([] : List SO).length : Int) ≤ 41; simp, fun x hx => by cases hx⟩
    · refine ⟨by show ((l.take i ++ [mk1 (odo o) o] ++ l.drop i).length : Int) ≤ 41; simp only [List.length_append, List.length_take, List.length_drop, List.length_cons, List.length_nil]; omega, fun x hx => ?_⟩
      have hx : x ∈ l.take i ++ [mk1 (odo o) o] ++ l.drop i := hx
      rcases List.mem_append.1 hx with hx | hx
      · rcases List.mem_append.1 hx with hx | hx
        · exact hm x (List.mem_of_mem_take hx)
        · obtain rfl := List.mem_singleton.1 hx
          exact g1
      · exact hm x (List.mem_of_mem_drop hx)
theorem ObjectsPutMatchesSpec : changeforgelaw3_ObjectsPutMatchesSpec.Pure := by
  intro s o hs ho
  refine ev_ex ?_
  have hp := hs.2
  obtain ⟨l⟩ := s
  have hp : ∀ x ∈ l, fB.ok x := hp
  have hb : Bytes o.f2 := by
    intro b hb
    have := ho.2.2.2 b hb
    simp [Lit.wf, IntKind.min, IntKind.max, IntKind.bits, IntKind.signed] at this
    omega
  have nil_same : Ev (fun k => aI.f k ([] : List SO) []) true := stores_ev (by simp) (fun x hx => by cases hx)
  show Ev (fun k => changeforgelaw3_ObjectsPutMatchesSpec.f k l o.f0 o.f1 o.f2) true
  unfold changeforgelaw3_ObjectsPutMatchesSpec.f
  refine ev_bind oexample_ev (ev_pos rfl (ev_bind (sflt_ev hp) (ev_bind (val_ev hp) (ev_neg (by simp) ?_))))
  rcases put_ev (o := o) hp hb with ⟨h, he⟩ | ⟨e, hv, h2, he⟩ | ⟨e, hv, e2, g, i, b, hf, he⟩
  · refine ev_bind he (ev_neg h ?_)
    refine Ev.step (fun k_ => by rw [changeforgelaw3_ObjectsPutMatchesSpec.j0]) ?_
    refine ev_neg (by decide) ?_
    refine Ev.step (fun k_ => by rw [changeforgelaw3_ObjectsPutMatchesSpec.j1]) ?_
    exact ev_neg h (ev_pos (by simp) (ev_pos rfl (ev_bind nil_same (ev_now _))))
  · rw [e]
    refine ev_bind he (ev_pos rfl (ev_bind ofault_ev ?_))
    refine Ev.step (fun k_ => by rw [changeforgelaw3_ObjectsPutMatchesSpec.j0]) ?_
    refine ev_pos (bne_iff_ne.2 h2) (ev_bind ofault_ev (ev_some ?_))
    refine Ev.step (fun k_ => by rw [changeforgelaw3_ObjectsPutMatchesSpec.j1]) ?_
    exact ev_neg h2 (ev_pos (by simp) (ev_pos rfl (ev_bind nil_same (ev_now _))))
  · rw [e]
    have hof := ofault_ev (kd := o.f0) (ls := o.f1) (ds := o.f2)
    rw [show oflt o.f0 o.f1 o.f2 = (0, 0) from e2] at hof
    have hr := rput_ev hv hb g hf
    obtain ⟨hl, hk⟩ := putF_links (i := i) (b := b) hv g
    have hst := stores_ev (l := (putF l o i b).1) (by omega) (fun x hx => by have := hk x hx; omega)
    refine ev_bind he (ev_pos rfl (ev_bind hof ?_))
    refine Ev.step (fun k_ => by rw [changeforgelaw3_ObjectsPutMatchesSpec.j0]) ?_
    refine ev_neg (by decide) ?_
    refine Ev.step (fun k_ => by rw [changeforgelaw3_ObjectsPutMatchesSpec.j1]) ?_
    refine ev_pos rfl (ev_bind hr ?_)
    have hcode : ((putF l o i b).2.2.1 = 0 ∧ (putF l o i b).2.2.2 = 0) ∨ ((putF l o i b).2.2.1 ≠ 0 ∧ (putF l o i b).2.2.2 = -1) := by
      unfold putF
      split
      · split
        · exact .inl ⟨rfl, rfl⟩
        · exact .inr ⟨show ¬ (19 : Int) = 0 by decide, rfl⟩
      · split
        · exact .inr ⟨show ¬ (14 : Int) = 0 by decide, rfl⟩
        · exact .inl ⟨rfl, rfl⟩
    rcases hcode with ⟨c1, c2⟩ | ⟨c1, c2⟩
    · exact ev_pos c1 (ev_pos (by rw [c1, c2]; rfl) (ev_pos rfl (ev_bind hst (ev_now _))))
    · exact ev_neg c1 (ev_some (ev_pos (by rw [c2]; simp) (ev_pos rfl (ev_bind hst (ev_now _)))))
end Go.Proofs.Ytnmkmamobhkcbaa.Pure

/- The statement ObjectsPutMatchesSpec holds: for every input the law returns true and its arguments read as before. The row, out of the pure statement (PureObjectsPutMatchesSpec) and the printed contract. -/
namespace Go.Proofs.Ytnmkmamobhkcbaa.objectsPutMatchesSpec
open Go.ChangeShapes Go.WideShapes Go.ChangeAt Go.RowKit
open Go.ChangeMaps (open_string shut_string)
open Go.Proofs.YtnmkmamobhkcbaaW.PrintWords Go.Proofs.YtnmkmamobhkcbaaW.PrintOpen Go.Proofs.Ytnmkmamobhkcbaa.P
set_option linter.unusedVariables false
theorem own : ownKnob Try.prog.godebug = none := by kernel_rfl
theorem laidOut : laidOutB Try.prog = true := by kernel_rfl
set_option maxRecDepth 100000 in
theorem lifted (os : Os) (started : os.Started) (H : Type) (enc : TypeId × Value → H) :
    ReturnsInHanded {} Try.checked os 9 .any (Rows.objectsPutMatchesSpecSpec.pre6 enc Try.prog Try.f9 Rows.objectsPutMatchesSpecRow.domain false) (Rows.objectsPutMatchesSpecSpec.post enc Try.prog Try.f9 false true false false) := by
  refine returnsInHanded_of_change_sized (C := Try.checked) own started (by kernel_rfl) Try.func9
    (ChangeSpec.witness6 (enc := enc) (C := Try.checked) false ⟨#[], #[.agg #[.slice none 0 0], .agg #[.int .i64 0, .slice none 0 0, .slice none 0 0]], []⟩ 8 (by kernel_rfl) (by kernel_rfl) (by kernel_rfl) (by kernel_rfl)) ?_
  intro W base args ds gs before aDj hW hcnd aQc _
  have hsz : (DataW.weightsEach Try.prog (Try.f9.params.toList ++ Rows.objectsPutMatchesSpecSpec.plain.varTypes Try.prog) (ds ++ gs)).all (· ≤ reachBytes) = true := aQc
  have hval : ∀ (j : Nat) t v, Try.f9.params[j]? = some t → args[j]? = some v → Value.okWide Try.prog W .any base t v := aDj
  have hW' := hW
  obtain ⟨p, q, hA0, hV, rfl, hfz, hnd⟩ := hW
  have hA : DataW.TrodAll enc Try.prog W 0 (fun _ => true) true Try.f9.params.toList args.toList ds p := hA0
  rw [Try.params9] at hA hval hsz
  obtain ⟨v0, vs0, d0, ds0, p0, q0, hargs, rfl, rfl, h0, r0⟩ := trodAll_cons hA
  obtain ⟨v1, vs1, d1, ds1, p1, q1, rfl, rfl, rfl, h1, r1⟩ := trodAll_cons r0
  obtain ⟨rfl, rfl, rfl⟩ := trodAll_nil r1
  obtain rfl : args = #[v0, v1] := by cases args; simp_all
  obtain ⟨rfl, rfl⟩ := trodVars_none hV
  obtain ⟨cs0, rfl, _⟩ := okWide_struct Try.underlying24 (hval 0 24 v0 rfl rfl)
  have k0 := h0
  have lt0 : ∀ x ∈ p0, x.block < W.heap.size := by obtain ⟨m, hm⟩ := k0; exact DataW.trod_lt m _ _ _ hm
  obtain ⟨x0, hk0, y0⟩ := open_arg_struct aEm h0 (fits_arg hsz (j := 0) rfl rfl)
  obtain ⟨bUg, bUh, z0, nA, mZ⟩ := aDk hk0
  have z0_ := Array.toList_inj.1 (z0.trans (show _ = Array.toList #[.slice bUg x0.f0.length bUh] from rfl))
  subst z0_
  obtain ⟨cs1, rfl, _⟩ := okWide_struct Try.underlying44 (hval 1 44 v1 rfl rfl)
  have k1 := h1
  have lt1 : ∀ x ∈ p1, x.block < W.heap.size := by obtain ⟨m, hm⟩ := k1; exact DataW.trod_lt m _ _ _ hm
  obtain ⟨x1, hk1, y1⟩ := open_arg_struct bD8 h1 (fits_arg hsz (j := 1) rfl rfl)
  obtain ⟨fIq, fIr, fIs, fIt, z1, aNq, aNp, aNs, aNr⟩ := aQd hk1
  have z1_ := Array.toList_inj.1 (z1.trans (show _ = Array.toList #[.int .i64 x1.f0, .slice fIq x1.f1.length fIr, .slice fIs x1.f2.length fIt] from rfl))
  subst z1_
  clear hA0 aDj aQc hsz
  obtain ⟨k, hp⟩ := Pure.ObjectsPutMatchesSpec x0 x1 y0 y1
  refine (P.changeforgelaw3_ObjectsPutMatchesSpec.calls k _ _ x0.f0 x1.f0 _ _ x1.f1 _ _ x1.f2 true W mZ nA aNp aNq aNr aNs hp).mono fun e W' ⟨he, bel⟩ => ?_
  subst he
  exact ⟨_, rfl, _, _, _, [], _, [], hW', trodAll_mk1 (shut_bool Try.underlying4 _), (trodAll_cons_mk (Below.trod laidOut (by kernel_rfl) (of_decide_eq_true (by kernel_rfl)) k0 bel lt0) (trodAll_cons_mk (Below.trod laidOut (by kernel_rfl) (of_decide_eq_true (by kernel_rfl)) k1 bel lt1) trodAll_mk0)), rfl, bel.frame _, fun h => by cases h⟩
theorem over : Rows.objectsPutMatchesSpecRow.holds Try.pinned (OpenSpec.ofChange Rows.objectsPutMatchesSpecSpec) :=
  OpenClaim.holds_of_wide 9 Try.f9 rfl rfl rfl rfl rfl rfl rfl ⟨rfl, rfl, rfl, rfl, rfl⟩ rfl rfl rfl rfl rfl (by kernel_rfl) Try.func9 (by kernel_rfl)
    (of_decide_eq_true (by kernel_rfl)) (by unfold Func.isWrapper; first | (rw [if_pos (by decide +kernel)]; kernel_rfl) | (rw [if_neg (by decide +kernel)]; exact ⟨rfl, rfl⟩))
    (fun os started H enc _ => lifted os started H enc)
theorem proved : Rows.ObjectsPutMatchesSpecSaid := over
#print axioms proved
end Go.Proofs.Ytnmkmamobhkcbaa.objectsPutMatchesSpec
namespace Go.Proofs.Ytnmkmamobhkcbaa
/-- The row, under a short name, for the claim. -/
theorem objectsPutMatchesSpec_holds : Rows.ObjectsPutMatchesSpecSaid := objectsPutMatchesSpec.proved
end Go.Proofs.Ytnmkmamobhkcbaa
