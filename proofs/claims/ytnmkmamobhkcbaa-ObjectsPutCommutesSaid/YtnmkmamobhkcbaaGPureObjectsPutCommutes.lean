/- Texts of the proofs of ObjectsPutCommutes: what the printed functions come to, plain laws, rows (no condition beyond the statements' own). -/
import Derived.Test.YtnmkmamobhkcbaaGP62
import Derived.Test.YtnmkmamobhkcbaaGObj6
import Derived.Test.YtnmkmamobhkcbaaGP66
import Derived.Test.YtnmkmamobhkcbaaRows
import Derived.Test.YtnmkmamobhkcbaaGP24
import Derived.WalkKit
import Derived.ProofKit
import Derived.OpenShut
import Derived.ShutString
import Derived.ChangeOld
import Derived.Below
import Derived.SizedLaws
import Derived.Carry
/- The pure statement of ObjectsPutCommutes. -/
namespace Go.Proofs.Ytnmkmamobhkcbaa.Pure
open Go.RowKit Go.Proofs.YtnmkmamobhkcbaaW.PrintWords Go.Proofs.YtnmkmamobhkcbaaW.PrintEv Go.Proofs.Ytnmkmamobhkcbaa.P Go.Proofs.Ytnmkmamobhkcbaa.Dig Go.Proofs.Ytnmkmamobhkcbaa.Obj
set_option linter.unusedVariables false
theorem ObjectsPutCommutes : changeforgelaw3_ObjectsPutCommutes.Pure := by
  intro s o p hs ho hp
  refine ev_ex ?_
  have ol := hs.2
  obtain ⟨l⟩ := s
  have ol : ∀ x ∈ l, fB.ok x := ol
  show Ev (fun k => changeforgelaw3_ObjectsPutCommutes.f k l o.f0 o.f1 o.f2 p.f0 p.f1 p.f2) true
  unfold changeforgelaw3_ObjectsPutCommutes.f
  refine ev_bind oexample_ev (ev_pos rfl ?_)
  refine Ev.step (fun k_ => by rw [changeforgelaw3_ObjectsPutCommutes.j0]) ?_
  rcases put_sum (l := l) (o := o) ol ho with ⟨c, q, hc, he, hn⟩ | ⟨a, sl, go, ca, pa, he⟩
  · obtain ⟨R, hR⟩ : ∃ R, Ev (fun k => objects_Put.f k [] p.f0 p.f1 p.f2) R := by
      rcases put_sum (l := []) (o := p) (by intro x hx; cases hx) hp with ⟨c', q', _, h, _⟩ | ⟨r, _, _, _, _, h⟩
      · exact ⟨_, h⟩
      · exact ⟨_, h⟩
    refine ev_bind he (ev_bind hR (ev_neg hc ?_))
    refine Ev.step (fun k_ => by rw [changeforgelaw3_ObjectsPutCommutes.j1]) ?_
    exact ev_pos rfl (ev_neg hc (ev_now _))
  · have oa := puts_ok ol ho pa
    rcases put_sum (l := a) (o := p) oa hp with ⟨c, q, hc, he2, hn⟩ | ⟨b, sa, gp, cp, pb, he2⟩
    · refine ev_bind he (ev_bind he2 (ev_pos rfl ?_))
      refine Ev.step (fun k_ => by rw [changeforgelaw3_ObjectsPutCommutes.j1]) ?_
      exact ev_pos (bne_iff_ne.2 hc) (ev_pos rfl (ev_now _))
    · obtain ⟨c1, c2⟩ := can_swap ca pa cp
      rcases put_sum (l := l) (o := p) ol hp with ⟨c, q, hc, he3, hn⟩ | ⟨cc, _, _, _, pc, he3⟩
      · exact absurd ⟨sl, gp, c1⟩ hn
      · have oc := puts_ok ol hp pc
        rcases put_sum (l := cc) (o := o) oc ho with ⟨c, q, hc, he4, hn⟩ | ⟨d, _, _, _, pd, he4⟩
        · exact absurd ⟨pc.store, go, c2 cc pc⟩ hn
        · have e : b = d := puts_eq pb pd (fun y => by
            rw [pa.mem, pc.mem]
            constructor <;> rintro ((h | h) | h) <;> simp [h])
          subst e
          have hlen := pb.store.len
          have hst := stores_ev (l := b) (by omega) (fun x hx => by have := (good_mem pb.store hx).1.nl; omega)
          refine ev_bind he (ev_bind he2 (ev_pos rfl ?_))
          refine Ev.step (fun k_ => by rw [changeforgelaw3_ObjectsPutCommutes.j1]) ?_
          exact ev_neg (by simp) (ev_bind he3 (ev_bind he4 (ev_pos rfl (ev_pos rfl (ev_pos rfl (ev_pos rfl (ev_bind hst (ev_now _))))))))
end Go.Proofs.Ytnmkmamobhkcbaa.Pure

/- The statement ObjectsPutCommutes holds: for every input the law returns true and its arguments read as before. The row, out of the pure statement (PureObjectsPutCommutes) and the printed contract. -/
namespace Go.Proofs.Ytnmkmamobhkcbaa.objectsPutCommutes
open Go.ChangeShapes Go.WideShapes Go.ChangeAt Go.RowKit
open Go.ChangeMaps (open_string shut_string)
open Go.Proofs.YtnmkmamobhkcbaaW.PrintWords Go.Proofs.YtnmkmamobhkcbaaW.PrintOpen Go.Proofs.Ytnmkmamobhkcbaa.P
set_option linter.unusedVariables false
theorem own : ownKnob Try.prog.godebug = none := by kernel_rfl
theorem laidOut : laidOutB Try.prog = true := by kernel_rfl
set_option maxRecDepth 100000 in
theorem lifted (os : Os) (started : os.Started) (H : Type) (enc : TypeId × Value → H) :
    ReturnsInHanded {} Try.checked os 10 .any (Rows.objectsPutCommutesSpec.pre6 enc Try.prog Try.f10 Rows.objectsPutCommutesRow.domain false) (Rows.objectsPutCommutesSpec.post enc Try.prog Try.f10 false true false false) := by
  refine returnsInHanded_of_change_sized (C := Try.checked) own started (by kernel_rfl) Try.func10
    (ChangeSpec.witness6 (enc := enc) (C := Try.checked) false ⟨#[], #[.agg #[.slice none 0 0], .agg #[.int .i64 0, .slice none 0 0, .slice none 0 0], .agg #[.int .i64 0, .slice none 0 0, .slice none 0 0]], []⟩ 8 (by kernel_rfl) (by kernel_rfl) (by kernel_rfl) (by kernel_rfl)) ?_
  intro W base args ds gs before aDj hW hcnd aQc _
  have hsz : (DataW.weightsEach Try.prog (Try.f10.params.toList ++ Rows.objectsPutCommutesSpec.plain.varTypes Try.prog) (ds ++ gs)).all (· ≤ reachBytes) = true := aQc
  have hval : ∀ (j : Nat) t v, Try.f10.params[j]? = some t → args[j]? = some v → Value.okWide Try.prog W .any base t v := aDj
  have hW' := hW
  obtain ⟨p, q, hA0, hV, rfl, hfz, hnd⟩ := hW
  have hA : DataW.TrodAll enc Try.prog W 0 (fun _ => true) true Try.f10.params.toList args.toList ds p := hA0
  rw [Try.params10] at hA hval hsz
  obtain ⟨v0, vs0, d0, ds0, p0, q0, hargs, rfl, rfl, h0, r0⟩ := trodAll_cons hA
  obtain ⟨v1, vs1, d1, ds1, p1, q1, rfl, rfl, rfl, h1, r1⟩ := trodAll_cons r0
  obtain ⟨v2, vs2, d2, ds2, p2, q2, rfl, rfl, rfl, h2, r2⟩ := trodAll_cons r1
  obtain ⟨rfl, rfl, rfl⟩ := trodAll_nil r2
  obtain rfl : args = #[v0, v1, v2] := by cases args; simp_all
  obtain ⟨rfl, rfl⟩ := trodVars_none hV
  obtain ⟨cs0, rfl, _⟩ := okWide_struct Try.underlying24 (hval 0 24 v0 rfl rfl)
  have k0 := h0
  have lt0 : ∀ x ∈ p0, x.block < W.heap.size := by obtain ⟨m, hm⟩ := k0; exact DataW.trod_lt m _ _ _ hm
  obtain ⟨x0, hk0, y0⟩ := open_arg_struct aEm h0 (fits_arg hsz (j := 0) rfl rfl)
  obtain ⟨bUg, bUh, z0, nA, mZ⟩ := aDk hk0
  have z0_ := Array.toList_inj.1 (z0.trans (show _ = Array.toList #[.slice bUg x0.f0.length bUh] from rfl))
  subst z0_
  obtain ⟨cs1, rfl, _⟩ := okWide_struct Try.underlying44 (hval 1 44 v1 rfl rfl)
  have k1 := h1
  have lt1 : ∀ x ∈ p1, x.block < W.heap.size := by obtain ⟨m, hm⟩ := k1; exact DataW.trod_lt m _ _ _ hm
  obtain ⟨x1, hk1, y1⟩ := open_arg_struct bD8 h1 (fits_arg hsz (j := 1) rfl rfl)
  obtain ⟨fIq, fIr, fIs, fIt, z1, aNq, aNp, aNs, aNr⟩ := aQd hk1
  have z1_ := Array.toList_inj.1 (z1.trans (show _ = Array.toList #[.int .i64 x1.f0, .slice fIq x1.f1.length fIr, .slice fIs x1.f2.length fIt] from rfl))
  subst z1_
  obtain ⟨cs2, rfl, _⟩ := okWide_struct Try.underlying44 (hval 2 44 v2 rfl rfl)
  have k2 := h2
  have lt2 : ∀ x ∈ p2, x.block < W.heap.size := by obtain ⟨m, hm⟩ := k2; exact DataW.trod_lt m _ _ _ hm
  obtain ⟨x2, hk2, y2⟩ := open_arg_struct bD8 h2 (fits_arg hsz (j := 2) rfl rfl)
  obtain ⟨hLp, hLq, hLr, hLs, z2, dUm, dUn, dUo, dUp⟩ := aQd hk2
  have z2_ := Array.toList_inj.1 (z2.trans (show _ = Array.toList #[.int .i64 x2.f0, .slice hLp x2.f1.length hLq, .slice hLr x2.f2.length hLs] from rfl))
  subst z2_
  clear hA0 aDj aQc hsz
  obtain ⟨k, hp⟩ := Pure.ObjectsPutCommutes x0 x1 x2 y0 y1 y2
  refine (P.changeforgelaw3_ObjectsPutCommutes.calls k _ _ x0.f0 x1.f0 _ _ x1.f1 _ _ x1.f2 x2.f0 _ _ x2.f1 _ _ x2.f2 true W mZ nA aNp aNq aNr aNs dUn dUm dUp dUo hp).mono fun e W' ⟨he, bel⟩ => ?_
  subst he
  exact ⟨_, rfl, _, _, _, [], _, [], hW', trodAll_mk1 (shut_bool Try.underlying4 _), (trodAll_cons_mk (Below.trod laidOut (by kernel_rfl) (of_decide_eq_true (by kernel_rfl)) k0 bel lt0) (trodAll_cons_mk (Below.trod laidOut (by kernel_rfl) (of_decide_eq_true (by kernel_rfl)) k1 bel lt1) (trodAll_cons_mk (Below.trod laidOut (by kernel_rfl) (of_decide_eq_true (by kernel_rfl)) k2 bel lt2) trodAll_mk0))), rfl, bel.frame _, fun h => by cases h⟩
theorem over : Rows.objectsPutCommutesRow.holds Try.pinned (OpenSpec.ofChange Rows.objectsPutCommutesSpec) :=
  OpenClaim.holds_of_wide 10 Try.f10 rfl rfl rfl rfl rfl rfl rfl ⟨rfl, rfl, rfl, rfl, rfl⟩ rfl rfl rfl rfl rfl (by kernel_rfl) Try.func10 (by kernel_rfl)
    (of_decide_eq_true (by kernel_rfl)) (by unfold Func.isWrapper; first | (rw [if_pos (by decide +kernel)]; kernel_rfl) | (rw [if_neg (by decide +kernel)]; exact ⟨rfl, rfl⟩))
    (fun os started H enc _ => lifted os started H enc)
theorem proved : Rows.ObjectsPutCommutesSaid := over
#print axioms proved
end Go.Proofs.Ytnmkmamobhkcbaa.objectsPutCommutes
namespace Go.Proofs.Ytnmkmamobhkcbaa
/-- The row, under a short name, for the claim. -/
theorem objectsPutCommutes_holds : Rows.ObjectsPutCommutesSaid := objectsPutCommutes.proved
end Go.Proofs.Ytnmkmamobhkcbaa
