/- Texts of the proofs of PackIndexCovers: what the printed functions come to, plain laws, rows (no condition beyond the statements' own). -/
import Derived.Test.YtnmkmamobhkcbaaGPack3
import Derived.Test.YtnmkmamobhkcbaaGP33
import Derived.Test.YtnmkmamobhkcbaaGP34
import Derived.Test.YtnmkmamobhkcbaaRows
import Derived.Test.YtnmkmamobhkcbaaGP24
import Derived.WalkKit
import Derived.ProofKit
import Derived.OpenShut
import Derived.ShutString
import Derived.ChangeOld
import Derived.Below
import Derived.SizedLaws
import Derived.Carry
/- The pure statement of PackIndexCovers. -/
namespace Go.Proofs.Ytnmkmamobhkcbaa.Pure
open Go.RowKit Go.Proofs.YtnmkmamobhkcbaaW.PrintWords Go.Proofs.YtnmkmamobhkcbaaW.PrintEv Go.Proofs.Ytnmkmamobhkcbaa.P Go.Proofs.Ytnmkmamobhkcbaa.Dig Go.Proofs.Ytnmkmamobhkcbaa.Obj
set_option linter.unusedVariables false
theorem ents_len : ∀ (l : List SO) (a : Nat), (ents l a).length = l.length
  | [], _ => rfl
  | x :: l, a => by show (ents l _).length + 1 = l.length + 1; rw [ents_len l]
theorem covers {B : List Int} {l0 : List SO} (hs : Store l0) : ∀ (l : List SO) (i a : Nat), l0.drop i = l → a + (l.flatMap pk1).length + 8 = B.length → B.length ≤ 10000 → ∀ E : List PE, E.length = l0.length → E.drop i = ents l a →
    Ev (fun k => changeforgelaw3_PackIndexCovers.l0 k B E (a : Int) (i : Int) l0) true
  | [], i, a, h, hB, hB2, E, hE, hd => by
    have : l0.length - i = 0 := by rw [← List.length_drop, h]; rfl
    refine Ev.step (fun k_ => by rw [changeforgelaw3_PackIndexCovers.l0]) ?_
    refine ev_neg (by omega) (ev_cast (ev_now _) ?_)
    rw [w64 (by omega)]
    have : a + 8 = B.length := by simpa using hB
    exact beq_iff_eq.2 (by omega)
  | x :: l, i, a, h, hB, hB2, E, hE, hd => by
    have hl := hs.len
    have hi : i < l0.length := by
      have : (l0.drop i).length = l.length + 1 := by rw [h]; rfl
      rw [List.length_drop] at this
      omega
    have hx : at_ l0 (i : Int) = x := by
      have := drop_at hi
      rw [h] at this
      exact (List.cons.inj this).1.symm
    have ht : l0.drop (i + 1) = l := by
      have := drop_at hi
      rw [h] at this
      exact (List.cons.inj this).2.symm
    have hdE : E.drop i = mD E (i : Int) :: E.drop (i + 1) := by
      show _ = rdOf _ E (i : Int) :: _
      rw [rdOf_nat _ E (show i < E.length by omega)]
      exact List.drop_eq_getElem_cons (by omega)
    rw [hdE] at hd
    obtain ⟨he, hr⟩ := List.cons.inj hd
    have g := (hs.good (i : Int) (by omega) (by omega)).1
    rw [hx] at g
    have g2 := g.nl
    have g3 := g.nd
    have hk : (pk1 x).length = 4 + 8 * x.f1.f1.length + x.f1.f2.length := pke_len _ _ _
    have hfl : ((x :: l).flatMap pk1).length = (pk1 x).length + (l.flatMap pk1).length := by rw [List.flatMap_cons, List.length_append]
    have next := covers hs l (i + 1) (a + (pk1 x).length) ht (by omega) hB2 E hE hr
    rw [show ((i + 1 : Nat) : Int) = (i : Int) + 1 by omega, show ((a + (pk1 x).length : Nat) : Int) = (a : Int) + ((pk1 x).length : Int) by omega] at next
    refine Ev.step (fun k_ => by rw [changeforgelaw3_PackIndexCovers.l0]) ?_
    rw [he, show aA l0 (i : Int) = x from hx, w64 (x := (i : Int) + 1) (by omega), w64 (x := 8 * (x.f1.f1.length : Int)) (by omega), w64 (x := 4 + 8 * (x.f1.f1.length : Int)) (by omega), w64 (x := 4 + 8 * (x.f1.f1.length : Int) + (x.f1.f2.length : Int)) (by omega)]
    show Ev (fun k => if (i : Int) < (E.length : Int) then (if 0 ≤ (i : Int) then (if (i : Int) < (l0.length : Int) then (if x.f0 = x.f0 then (if (a : Int) = (a : Int) then (if ((pk1 x).length : Int) = 4 + 8 * (x.f1.f1.length : Int) + (x.f1.f2.length : Int) then changeforgelaw3_PackIndexCovers.l0 k B E (wrap64 ((a : Int) + ((pk1 x).length : Int))) ((i : Int) + 1) l0 else some false) else some false) else some false) else none) else none) else _) true
    rw [w64 (x := (a : Int) + ((pk1 x).length : Int)) (by omega)]
    exact ev_pos (by omega) (ev_pos (by omega) (ev_pos (by omega) (ev_pos rfl (ev_pos rfl (ev_pos (by omega) next)))))
theorem PackIndexCovers : changeforgelaw3_PackIndexCovers.Pure := by
  intro s hs
  refine ev_ex ?_
  have hp := hs.2
  obtain ⟨l⟩ := s
  have hp : ∀ x ∈ l, fB.ok x := hp
  show Ev (fun k => changeforgelaw3_PackIndexCovers.f k l) true
  unfold changeforgelaw3_PackIndexCovers.f
  refine ev_bind pexample_ev (ev_pos rfl (ev_bind (build_ev hp) ?_))
  unfold pbR
  by_cases h : (sf l).1 ≠ 0
  · rw [if_pos h]
    exact ev_neg h (ev_now _)
  obtain ⟨e, hv⟩ := sf_zero (Decidable.not_not.1 h)
  rw [if_neg h]
  by_cases c : ((pkl l).length : Int) > 4088
  · rw [if_pos c]
    exact ev_neg (by decide) (ev_now _)
  rw [if_neg c]
  have hl := hv.len
  have hr := read_pk hp hv (by omega)
  have hI : Ev (fun k => pack_Index.f k (pkb l)) (ents l 3, 0, 0) := by
    unfold pack_Index.f
    exact ev_bind hr (ev_now _)
  have hbl : (pkb l).length = (pkl l).length + 8 := by unfold pkb; rw [List.length_append, wide_len]
  have hpl : (pkl l).length = 3 + (l.flatMap pk1).length := by
    show ((([80, 75, (l.length : Int) % 256] : List Int) ++ l.flatMap pk1).length) = _
    rw [List.length_append]
    rfl
  have hne : (((ents l 3).length : Int) != (l.length : Int)) = false := by rw [ents_len]; simp
  refine ev_pos rfl (ev_bind hI (ev_pos rfl ?_))
  show Ev (fun k => changeforgelaw3_PackIndexCovers.j0 k (pkb l) (ents l 3) (((ents l 3).length : Int) != (l.length : Int)) l) true
  rw [hne]
  refine Ev.step (fun k_ => by rw [changeforgelaw3_PackIndexCovers.j0]) ?_
  exact ev_neg Bool.false_ne_true (covers hv l 0 3 rfl (by omega) (by omega) (ents l 3) (ents_len _ _) rfl)
end Go.Proofs.Ytnmkmamobhkcbaa.Pure

/- The statement PackIndexCovers holds: for every input the law returns true and its arguments read as before. The row, out of the pure statement (PurePackIndexCovers) and the printed contract. -/
namespace Go.Proofs.Ytnmkmamobhkcbaa.packIndexCovers
open Go.ChangeShapes Go.WideShapes Go.ChangeAt Go.RowKit
open Go.ChangeMaps (open_string shut_string)
open Go.Proofs.YtnmkmamobhkcbaaW.PrintWords Go.Proofs.YtnmkmamobhkcbaaW.PrintOpen Go.Proofs.Ytnmkmamobhkcbaa.P
set_option linter.unusedVariables false
theorem own : ownKnob Try.prog.godebug = none := by kernel_rfl
theorem laidOut : laidOutB Try.prog = true := by kernel_rfl
set_option maxRecDepth 100000 in
theorem lifted (os : Os) (started : os.Started) (H : Type) (enc : TypeId × Value → H) :
    ReturnsInHanded {} Try.checked os 5 .any (Rows.packIndexCoversSpec.pre6 enc Try.prog Try.f5 Rows.packIndexCoversRow.domain false) (Rows.packIndexCoversSpec.post enc Try.prog Try.f5 false true false false) := by
  refine returnsInHanded_of_change_sized (C := Try.checked) own started (by kernel_rfl) Try.func5
    (ChangeSpec.witness6 (enc := enc) (C := Try.checked) false ⟨#[], #[.agg #[.slice none 0 0]], []⟩ 8 (by kernel_rfl) (by kernel_rfl) (by kernel_rfl) (by kernel_rfl)) ?_
  intro W base args ds gs before aDj hW hcnd aQc _
  have hsz : (DataW.weightsEach Try.prog (Try.f5.params.toList ++ Rows.packIndexCoversSpec.plain.varTypes Try.prog) (ds ++ gs)).all (· ≤ reachBytes) = true := aQc
  have hval : ∀ (j : Nat) t v, Try.f5.params[j]? = some t → args[j]? = some v → Value.okWide Try.prog W .any base t v := aDj
  have hW' := hW
  obtain ⟨p, q, hA0, hV, rfl, hfz, hnd⟩ := hW
  have hA : DataW.TrodAll enc Try.prog W 0 (fun _ => true) true Try.f5.params.toList args.toList ds p := hA0
  rw [Try.params5] at hA hval hsz
  obtain ⟨v0, vs0, d0, ds0, p0, q0, hargs, rfl, rfl, h0, r0⟩ := trodAll_cons hA
  obtain ⟨rfl, rfl, rfl⟩ := trodAll_nil r0
  obtain rfl : args = #[v0] := by cases args; simp_all
  obtain ⟨rfl, rfl⟩ := trodVars_none hV
  obtain ⟨cs0, rfl, _⟩ := okWide_struct Try.underlying24 (hval 0 24 v0 rfl rfl)
  have k0 := h0
  have lt0 : ∀ x ∈ p0, x.block < W.heap.size := by obtain ⟨m, hm⟩ := k0; exact DataW.trod_lt m _ _ _ hm
  obtain ⟨x0, hk0, y0⟩ := open_arg_struct aEm h0 (fits_arg hsz (j := 0) rfl rfl)
  obtain ⟨bUg, bUh, z0, nA, mZ⟩ := aDk hk0
  have z0_ := Array.toList_inj.1 (z0.trans (show _ = Array.toList #[.slice bUg x0.f0.length bUh] from rfl))
  subst z0_
  clear hA0 aDj aQc hsz
  obtain ⟨k, hp⟩ := Pure.PackIndexCovers x0 y0
  refine (P.changeforgelaw3_PackIndexCovers.calls k _ _ x0.f0 true W mZ nA hp).mono fun e W' ⟨he, bel⟩ => ?_
  subst he
  exact ⟨_, rfl, _, _, _, [], _, [], hW', trodAll_mk1 (shut_bool Try.underlying4 _), (trodAll_cons_mk (Below.trod laidOut (by kernel_rfl) (of_decide_eq_true (by kernel_rfl)) k0 bel lt0) trodAll_mk0), rfl, bel.frame _, fun h => by cases h⟩
theorem over : Rows.packIndexCoversRow.holds Try.pinned (OpenSpec.ofChange Rows.packIndexCoversSpec) :=
  OpenClaim.holds_of_wide 5 Try.f5 rfl rfl rfl rfl rfl rfl rfl ⟨rfl, rfl, rfl, rfl, rfl⟩ rfl rfl rfl rfl rfl (by kernel_rfl) Try.func5 (by kernel_rfl)
    (of_decide_eq_true (by kernel_rfl)) (by unfold Func.isWrapper; first | (rw [if_pos (by decide +kernel)]; kernel_rfl) | (rw [if_neg (by decide +kernel)]; exact ⟨rfl, rfl⟩))
    (fun os started H enc _ => lifted os started H enc)
theorem proved : Rows.PackIndexCoversSaid := over
#print axioms proved
end Go.Proofs.Ytnmkmamobhkcbaa.packIndexCovers
namespace Go.Proofs.Ytnmkmamobhkcbaa
/-- The row, under a short name, for the claim. -/
theorem packIndexCovers_holds : Rows.PackIndexCoversSaid := packIndexCovers.proved
end Go.Proofs.Ytnmkmamobhkcbaa
