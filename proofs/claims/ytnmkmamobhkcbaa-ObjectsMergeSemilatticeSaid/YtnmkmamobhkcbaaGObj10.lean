/- Texts of the proofs of ObjectsMergeSemilattice: what the printed functions come to, plain laws, rows (no condition beyond the statements' own). -/
import Derived.Test.YtnmkmamobhkcbaaGObj8
import Derived.Test.YtnmkmamobhkcbaaGP62
import Derived.Test.YtnmkmamobhkcbaaGP71
import Derived.Test.YtnmkmamobhkcbaaRows
import Derived.Test.YtnmkmamobhkcbaaGP24
import Derived.WalkKit
import Derived.ProofKit
import Derived.OpenShut
import Derived.ShutString
import Derived.ChangeOld
import Derived.Below
import Derived.SizedLaws
import Derived.Carry
/- Stores merged, as sets. -/
namespace Go.Proofs.Ytnmkmamobhkcbaa.Obj
open Go.RowKit Go.Proofs.YtnmkmamobhkcbaaW.PrintWords Go.Proofs.YtnmkmamobhkcbaaW.PrintEv Go.Proofs.Ytnmkmamobhkcbaa.P Go.Proofs.Ytnmkmamobhkcbaa.Dig
set_option linter.unusedVariables false
section
variable {a b c r : List SO}
theorem sorted_sub : ∀ {a b : List SO}, a.Pairwise (fun x y => x.f0 < y.f0) → b.Pairwise (fun x y => x.f0 < y.f0) → (∀ x ∈ a, x ∈ b) → a.length ≤ b.length
  | [], b, _, _, _ => Nat.zero_le _
  | x :: a, [], _, _, h => by have := h x List.mem_cons_self; cases this
  | x :: a, y :: b, ha, hb, h => by
    obtain ⟨ha1, ha2⟩ := List.pairwise_cons.1 ha
    obtain ⟨hb1, iV⟩ := List.pairwise_cons.1 hb
    have hxy : y.f0 ≤ x.f0 := by
      rcases List.mem_cons.1 (h x List.mem_cons_self) with e | e
      · rw [e]; exact Int.le_refl _
      · have := hb1 x e; omega
    have := sorted_sub ha2 iV (fun z hz => by
      rcases List.mem_cons.1 (h z (List.mem_cons_of_mem _ hz)) with e | e
      · have := ha1 z hz
        rw [e] at this
        omega
      · exact e)
    show a.length + 1 ≤ b.length + 1
    omega
theorem noconf_iff : NoConf a b ↔ ∀ x ∈ a, ∀ y ∈ b, x.f0 = y.f0 → x = y := by
  constructor
  · intro h x hx y hy e
    obtain ⟨j, j0, j1, rfl⟩ := mem_at hy
    exact Classical.byContradiction (fun hn => h j j0 j1 ⟨x, hx, e, hn⟩)
  · intro h j j0 j1 ⟨x, hx, e, hn⟩
    exact hn (h x hx _ (at_mem j0 j1) e)
theorem un_store (sa : Store a) (sb : Store b) (hu : Un a b r) (hl : (r.length : Int) ≤ 40) : Store r :=
  store_of hl (fun x hx => ((hu.mem x).1 hx).elim (good_mem sa) (good_mem sb)) hu.pw
theorem un_ok (oa : ∀ x ∈ a, fB.ok x) (ob : ∀ x ∈ b, fB.ok x) (hu : Un a b r) : ∀ x ∈ r, fB.ok x :=
  fun x hx => ((hu.mem x).1 hx).elim (oa x) (ob x)
/-- Merge: refused, or accepted. -/
theorem merge_sum (oa : ∀ x ∈ a, fB.ok x) (ob : ∀ x ∈ b, fB.ok x) :
    (∃ c q, c ≠ 0 ∧ Ev (fun k => objects_Merge.f k a b) ([], c, q) ∧ ¬ (Store a ∧ Store b ∧ NoConf a b ∧ ∃ r, Un a b r ∧ (r.length : Int) ≤ 40)) ∨
    (∃ r, Store a ∧ Store b ∧ NoConf a b ∧ Un a b r ∧ Store r ∧ (∀ x ∈ r, fB.ok x) ∧ Ev (fun k => objects_Merge.f k a b) (r, 0, 0)) := by
  rcases merge_ev oa ob with ⟨h, he⟩ | ⟨e, sa, h, he⟩ | ⟨e, sa, e2, sb, R, hR, he⟩
  · exact .inl ⟨(sf a).1, (sf a).2, h, he, fun hh => h (by rw [store_sf oa hh.1])⟩
  · exact .inl ⟨(sf b).1, (sf b).2, h, he, fun hh => h (by rw [store_sf ob hh.2.1])⟩
  · rcases hR with ⟨q, hq, rfl⟩ | ⟨hc, r, hr, rfl⟩
    · exact .inl ⟨19, q, by decide, he, fun hh => confl_no hq hh.2.2.1⟩
    · by_cases c : (r.length : Int) > 40
      · rw [if_pos c] at he
        exact .inl ⟨14, -1, by decide, he, fun ⟨_, _, _, r', hr', hl⟩ => by
          have := un_eq hr hr' (fun x => Iff.rfl)
          subst this
          omega⟩
      · rw [if_neg c] at he
        exact .inr ⟨r, sa, sb, hc, hr, un_store sa sb hr (by omega), un_ok oa ob hr, he⟩
theorem un_ex (sa : Store a) (sb : Store b) (oa : ∀ x ∈ a, fB.ok x) (ob : ∀ x ∈ b, fB.ok x) (hc : NoConf a b) : ∃ r, Un a b r := by
  rcases dHt sa sb oa ob with ⟨q, hq, _⟩ | ⟨_, r, hr, _⟩
  · exact (confl_no hq hc).elim
  · exact ⟨r, hr⟩
theorem st_same (hs : Store r) : Ev (fun k => aI.f k r r) true := by
  have := hs.len
  exact stores_ev (by omega) (fun x hx => by have := (good_mem hs hx).1.nl; omega)
end
end Go.Proofs.Ytnmkmamobhkcbaa.Obj

/- The pure statement of ObjectsMergeSemilattice. -/
namespace Go.Proofs.Ytnmkmamobhkcbaa.Pure
open Go.RowKit Go.Proofs.YtnmkmamobhkcbaaW.PrintWords Go.Proofs.YtnmkmamobhkcbaaW.PrintEv Go.Proofs.Ytnmkmamobhkcbaa.P Go.Proofs.Ytnmkmamobhkcbaa.Dig Go.Proofs.Ytnmkmamobhkcbaa.Obj
set_option linter.unusedVariables false
theorem ObjectsMergeSemilattice : changeforgelaw3_ObjectsMergeSemilattice.Pure := by
  intro s t u hs ht hu
  refine ev_ex ?_
  have oa := hs.2
  have ob := ht.2
  have oc := hu.2
  obtain ⟨a⟩ := s
  obtain ⟨b⟩ := t
  obtain ⟨c⟩ := u
  have oa : ∀ x ∈ a, fB.ok x := oa
  have ob : ∀ x ∈ b, fB.ok x := ob
  have oc : ∀ x ∈ c, fB.ok x := oc
  show Ev (fun k => changeforgelaw3_ObjectsMergeSemilattice.f k a b c) true
  unfold changeforgelaw3_ObjectsMergeSemilattice.f
  refine ev_bind oexample_ev (ev_pos rfl ?_)
  rcases merge_sum oa ob with ⟨e, q, hc, he, hn⟩ | ⟨ab, sa, sb, nab, uab, sab, oab, he⟩
  · obtain ⟨R, hR⟩ : ∃ R, Ev (fun k => objects_Merge.f k [] c) R := by
      rcases merge_sum (a := []) (b := c) (by intro x hx; cases hx) oc with ⟨c', q', _, h, _⟩ | ⟨r, _, _, _, _, _, _, h⟩
      · exact ⟨_, h⟩
      · exact ⟨_, h⟩
    refine ev_bind he (ev_bind hR (ev_neg hc ?_))
    refine Ev.step (fun k_ => by rw [changeforgelaw3_ObjectsMergeSemilattice.j0]) ?_
    exact ev_pos rfl (ev_neg hc (ev_now _))
  · rcases merge_sum oab oc with ⟨e, q, hc, he2, hn⟩ | ⟨abc, _, sc, nabc, uabc, sabc, oabc, he2⟩
    · refine ev_bind he (ev_bind he2 (ev_pos rfl ?_))
      refine Ev.step (fun k_ => by rw [changeforgelaw3_ObjectsMergeSemilattice.j0]) ?_
      exact ev_pos (bne_iff_ne.2 hc) (ev_pos rfl (ev_now _))
    · have habc := sabc.len
      have hab := sab.len
      have ha := sa.len
      have n1 := noconf_iff.1 nab
      have n2 := noconf_iff.1 nabc
      have naa : NoConf a a := noconf_iff.2 (fun x hx y hy e => dig_inj sa hx hy e)
      have nba : NoConf b a := noconf_iff.2 (fun x hx y hy e => (n1 y hy x hx e.symm).symm)
      have nbc : NoConf b c := noconf_iff.2 (fun x hx y hy e => n2 x ((uab.mem x).2 (.inr hx)) y hy e)
      have uaa : Un a a a := ⟨pw_of sa, fun x => (or_self_iff).symm⟩
      have uba : Un b a ab := ⟨uab.pw, fun x => by rw [uab.mem, or_comm]⟩
      obtain ⟨bc, ubc⟩ := un_ex sb sc ob oc nbc
      have hbc : (bc.length : Int) ≤ 40 := by
        have := sorted_sub ubc.pw uabc.pw (fun x hx => by
          rw [uabc.mem, uab.mem]
          rcases (ubc.mem x).1 hx with h | h
          · exact .inl (.inr h)
          · exact .inr h)
        omega
      have sbc := un_store sb sc ubc hbc
      have obc := un_ok ob oc ubc
      have nabc' : NoConf a bc := noconf_iff.2 (fun x hx y hy e => by
        rcases (ubc.mem y).1 hy with h | h
        · exact n1 x hx y h e
        · exact n2 x ((uab.mem x).2 (.inl hx)) y h e)
      have uabc' : Un a bc abc := ⟨uabc.pw, fun x => by rw [uabc.mem, uab.mem, ubc.mem, or_assoc]⟩
      have eaa : Ev (fun k => objects_Merge.f k a a) (a, 0, 0) := by
        rcases merge_sum oa oa with ⟨_, _, _, _, hn⟩ | ⟨r, _, _, _, ur, _, _, h⟩
        · exact absurd ⟨sa, sa, naa, a, uaa, ha⟩ hn
        · rwa [un_eq ur uaa (fun x => Iff.rfl)] at h
      have eba : Ev (fun k => objects_Merge.f k b a) (ab, 0, 0) := by
        rcases merge_sum ob oa with ⟨_, _, _, _, hn⟩ | ⟨r, _, _, _, ur, _, _, h⟩
        · exact absurd ⟨sb, sa, nba, ab, uba, hab⟩ hn
        · rwa [un_eq ur uba (fun x => Iff.rfl)] at h
      have ebc : Ev (fun k => objects_Merge.f k b c) (bc, 0, 0) := by
        rcases merge_sum ob oc with ⟨_, _, _, _, hn⟩ | ⟨r, _, _, _, ur, _, _, h⟩
        · exact absurd ⟨sb, sc, nbc, bc, ubc, hbc⟩ hn
        · rwa [un_eq ur ubc (fun x => Iff.rfl)] at h
      have eabc : Ev (fun k => objects_Merge.f k a bc) (abc, 0, 0) := by
        rcases merge_sum oa obc with ⟨_, _, _, _, hn⟩ | ⟨r, _, _, _, ur, _, _, h⟩
        · exact absurd ⟨sa, sbc, nabc', abc, uabc', habc⟩ hn
        · rwa [un_eq ur uabc' (fun x => Iff.rfl)] at h
      refine ev_bind he (ev_bind he2 (ev_pos rfl ?_))
      refine Ev.step (fun k_ => by rw [changeforgelaw3_ObjectsMergeSemilattice.j0]) ?_
      refine ev_neg (by simp) ?_
      refine ev_bind eaa (ev_bind eba (ev_bind ebc (ev_bind eabc (ev_pos rfl (ev_pos rfl (ev_pos rfl ?_))))))
      refine Ev.step (fun k_ => by rw [changeforgelaw3_ObjectsMergeSemilattice.j1]) ?_
      exact ev_neg (by simp) (ev_bind (st_same sa) (ev_pos rfl (ev_bind (st_same sab) (ev_pos rfl (ev_bind (st_same sabc) (ev_now _))))))
end Go.Proofs.Ytnmkmamobhkcbaa.Pure

/- The statement ObjectsMergeSemilattice holds: for every input the law returns true and its arguments read as before. The row, out of the pure statement (PureObjectsMergeSemilattice) and the printed contract. -/
namespace Go.Proofs.Ytnmkmamobhkcbaa.objectsMergeSemilattice
open Go.ChangeShapes Go.WideShapes Go.ChangeAt Go.RowKit
open Go.ChangeMaps (open_string shut_string)
open Go.Proofs.YtnmkmamobhkcbaaW.PrintWords Go.Proofs.YtnmkmamobhkcbaaW.PrintOpen Go.Proofs.Ytnmkmamobhkcbaa.P
set_option linter.unusedVariables false
theorem own : ownKnob Try.prog.godebug = none := by kernel_rfl
theorem laidOut : laidOutB Try.prog = true := by kernel_rfl
set_option maxRecDepth 100000 in
theorem lifted (os : Os) (started : os.Started) (H : Type) (enc : TypeId × Value → H) :
    ReturnsInHanded {} Try.checked os 13 .any (Rows.objectsMergeSemilatticeSpec.pre6 enc Try.prog Try.f13 Rows.objectsMergeSemilatticeRow.domain false) (Rows.objectsMergeSemilatticeSpec.post enc Try.prog Try.f13 false true false false) := by
  refine returnsInHanded_of_change_sized (C := Try.checked) own started (by kernel_rfl) Try.func13
    (ChangeSpec.witness6 (enc := enc) (C := Try.checked) false ⟨#[], #[.agg #[.slice none 0 0], .agg #[.slice none 0 0], .agg #[.slice none 0 0]], []⟩ 8 (by kernel_rfl) (by kernel_rfl) (by kernel_rfl) (by kernel_rfl)) ?_
  intro W base args ds gs before aDj hW hcnd aQc _
  have hsz : (DataW.weightsEach Try.prog (Try.f13.params.toList ++ Rows.objectsMergeSemilatticeSpec.plain.varTypes Try.prog) (ds ++ gs)).all (· ≤ reachBytes) = true := aQc
  have hval : ∀ (j : Nat) t v, Try.f13.params[j]? = some t → args[j]? = some v → Value.okWide Try.prog W .any base t v := aDj
  have hW' := hW
  obtain ⟨p, q, hA0, hV, rfl, hfz, hnd⟩ := hW
  have hA : DataW.TrodAll enc Try.prog W 0 (fun _ => true) true Try.f13.params.toList args.toList ds p := hA0
  rw [Try.params13] at hA hval hsz
  obtain ⟨v0, vs0, d0, ds0, p0, q0, hargs, rfl, rfl, h0, r0⟩ := trodAll_cons hA
  obtain ⟨v1, vs1, d1, ds1, p1, q1, rfl, rfl, rfl, h1, r1⟩ := trodAll_cons r0
  obtain ⟨v2, vs2, d2, ds2, p2, q2, rfl, rfl, rfl, h2, r2⟩ := trodAll_cons r1
  obtain ⟨rfl, rfl, rfl⟩ := trodAll_nil r2
  obtain rfl : args = #[v0, v1, v2] := by cases args; simp_all
  obtain ⟨rfl, rfl⟩ := trodVars_none hV
  obtain ⟨cs0, rfl, _⟩ := okWide_struct Try.underlying24 (hval 0 24 v0 rfl rfl)
  have k0 := h0
  have lt0 : ∀ x ∈ p0, x.block < W.heap.size := by obtain ⟨m, hm⟩ := k0; exact DataW.trod_lt m _ _ _ hm
  obtain ⟨x0, hk0, y0⟩ := open_arg_struct aEm h0 (fits_arg hsz (j := 0) rfl rfl)
  obtain ⟨bUg, bUh, z0, nA, mZ⟩ := aDk hk0
  have z0_ := Array.toList_inj.1 (z0.trans (show _ = Array.toList #[.slice bUg x0.f0.length bUh] from rfl))
  subst z0_
  obtain ⟨cs1, rfl, _⟩ := okWide_struct Try.underlying24 (hval 1 24 v1 rfl rfl)
  have k1 := h1
  have lt1 : ∀ x ∈ p1, x.block < W.heap.size := by obtain ⟨m, hm⟩ := k1; exact DataW.trod_lt m _ _ _ hm
  obtain ⟨x1, hk1, y1⟩ := open_arg_struct aEm h1 (fits_arg hsz (j := 1) rfl rfl)
  obtain ⟨fP7, fP8, z1, bLx, bLw⟩ := aDk hk1
  have z1_ := Array.toList_inj.1 (z1.trans (show _ = Array.toList #[.slice fP7 x1.f0.length fP8] from rfl))
  subst z1_
  obtain ⟨cs2, rfl, _⟩ := okWide_struct Try.underlying24 (hval 2 24 v2 rfl rfl)
  have k2 := h2
  have lt2 : ∀ x ∈ p2, x.block < W.heap.size := by obtain ⟨m, hm⟩ := k2; exact DataW.trod_lt m _ _ _ hm
  obtain ⟨x2, hk2, y2⟩ := open_arg_struct aEm h2 (fits_arg hsz (j := 2) rfl rfl)
  obtain ⟨hN5, hN6, z2, dWs, dWt⟩ := aDk hk2
  have z2_ := Array.toList_inj.1 (z2.trans (show _ = Array.toList #[.slice hN5 x2.f0.length hN6] from rfl))
  subst z2_
  clear hA0 aDj aQc hsz
  obtain ⟨k, hp⟩ := Pure.ObjectsMergeSemilattice x0 x1 x2 y0 y1 y2
  refine (P.changeforgelaw3_ObjectsMergeSemilattice.calls k _ _ x0.f0 _ _ x1.f0 _ _ x2.f0 true W mZ nA bLw bLx dWt dWs hp).mono fun e W' ⟨he, bel⟩ => ?_
  subst he
  exact ⟨_, rfl, _, _, _, [], _, [], hW', trodAll_mk1 (shut_bool Try.underlying4 _), (trodAll_cons_mk (Below.trod laidOut (by kernel_rfl) (of_decide_eq_true (by kernel_rfl)) k0 bel lt0) (trodAll_cons_mk (Below.trod laidOut (by kernel_rfl) (of_decide_eq_true (by kernel_rfl)) k1 bel lt1) (trodAll_cons_mk (Below.trod laidOut (by kernel_rfl) (of_decide_eq_true (by kernel_rfl)) k2 bel lt2) trodAll_mk0))), rfl, bel.frame _, fun h => by cases h⟩
theorem over : Rows.objectsMergeSemilatticeRow.holds Try.pinned (OpenSpec.ofChange Rows.objectsMergeSemilatticeSpec) :=
  OpenClaim.holds_of_wide 13 Try.f13 rfl rfl rfl rfl rfl rfl rfl ⟨rfl, rfl, rfl, rfl, rfl⟩ rfl rfl rfl rfl rfl (by kernel_rfl) Try.func13 (by kernel_rfl)
    (of_decide_eq_true (by kernel_rfl)) (by unfold Func.isWrapper; first | (rw [if_pos (by decide +kernel)]; kernel_rfl) | (rw [if_neg (by decide +kernel)]; exact ⟨rfl, rfl⟩))
    (fun os started H enc _ => lifted os started H enc)
theorem proved : Rows.ObjectsMergeSemilatticeSaid := over
#print axioms proved
end Go.Proofs.Ytnmkmamobhkcbaa.objectsMergeSemilattice
namespace Go.Proofs.Ytnmkmamobhkcbaa
/-- The row, under a short name, for the claim. -/
theorem objectsMergeSemilattice_holds : Rows.ObjectsMergeSemilatticeSaid := objectsMergeSemilattice.proved
end Go.Proofs.Ytnmkmamobhkcbaa
