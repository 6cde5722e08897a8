/- A delta applied: deltachain.Apply and the reference's ApplyDelta, one specification; the round trip; a text against itself. -/
import Derived.Test.YtgmpnghgmcgghaaDelta2
import Derived.Test.YtgmpnghgmcgghaaDeltaA
import Derived.Test.YtgmpnghgmcgghaaP5
namespace Go.Proofs.Ytgmpnghgmcgghaa.Delta
open Go.RowKit Go.Proofs.YtgmpnghgmcgghaaW.PrintWords Go.Proofs.YtgmpnghgmcgghaaW.PrintEv Go.Proofs.Ytgmpnghgmcgghaa.P
set_option linter.unusedVariables false

/-- Operations that all hold. -/
def Good (b : List Int) (ds : List D) : Prop := ∀ d ∈ ds, opD b d = 0
def cat (b : List Int) (ds : List D) : List Int := ds.flatMap (seg b)
theorem apS_good {b : List Int} : ∀ (ds : List D) (i : Int) (out : List Int), Good b ds → ((out ++ cat b ds).length : Int) ≤ 1000 → apS b ds i out = (out ++ cat b ds, 0, 0)
  | [], i, out, _, _ => by simp [apS, cat]
  | d :: ds, i, out, hg, hl => by
    have e : cat b (d :: ds) = seg b d ++ cat b ds := by simp [cat]
    rw [e, ← List.append_assoc] at hl ⊢
    have h0 := hg d List.mem_cons_self
    rw [List.length_append] at hl
    simp only [apS]
    rw [if_neg (by omega), if_neg (by omega)]
    exact apS_good ds (i + 1) _ (fun d hd => hg d (List.mem_cons_of_mem _ hd)) (by rw [List.length_append]; omega)
theorem cat_part {b : List Int} {d : D} : ∀ {ds : List D}, d ∈ ds → (seg b d).length ≤ (cat b ds).length
  | [], h => by cases h
  | x :: ds, h => by
    have e : cat b (x :: ds) = seg b x ++ cat b ds := by simp [cat]
    rw [e, List.length_append]
    rcases List.mem_cons.1 h with h | h
    · subst h; omega
    · have := cat_part (b := b) h; omega
theorem cat_append (b : List Int) (x y : List D) : cat b (x ++ y) = cat b x ++ cat b y := by simp [cat]
theorem cat_one (b : List Int) (d : D) : cat b [d] = seg b d := by simp [cat]
/-- The last operation holds data alone. -/
def Open (out : List D) (op : Bool) : Prop := op = true → ∃ init l, out = init ++ [⟨0, 0, l⟩] ∧ l ≠ []
theorem more_open (init : List D) (l : List Int) (x : Int) : more (init ++ [⟨0, 0, l⟩]) x = init ++ [⟨0, 0, l ++ [x]⟩] := by
  unfold more
  rw [rdT_last]
  rw [List.length_append, List.length_singleton, Nat.add_sub_cancel, List.set_append_right _ _ (Nat.le_refl _)]
  simp
theorem seg_data (b l : List Int) : seg b ⟨0, 0, l⟩ = l := by simp [seg]
theorem op_data (b : List Int) {l : List Int} (h : l ≠ []) : opD b ⟨0, 0, l⟩ = 0 := by
  have : 0 < l.length := List.length_pos_iff.2 h
  exact opF0 (n := b.length) (f0 := 0) (f1 := 0) (m := l.length) (by omega) (by omega)
theorem enc_good {b : List Int} : ∀ (n : Nat) (t : List Int) (out : List D) (op : Bool), t.length < n → Good b out → Open out op → Good b (enc b n t out op) ∧ cat b (enc b n t out op) = cat b out ++ t ∧ (enc b n t out op).length ≤ out.length + t.length
  | 0, t, out, op, h, _, _ => by omega
  | n + 1, t, out, op, h, hg, ho => by
    have ih := fun t out op => enc_good (b := b) n t out op
    simp only [enc]
    split
    · have : t = [] := List.eq_nil_of_length_eq_zero (by assumption)
      subst this
      exact ⟨hg, by simp, by simp⟩
    · rename_i h0
      have ht : t = rd t 0 :: t.drop 1 := by
        have := drop_cons_rd (xs := t) (i := 0) (by omega)
        simpa using this
      split
      · rename_i h4
        obtain ⟨c1, c2⟩ := mt_copy b t (by omega)
        have hml := mLen_le b t
        have hop : opD b ⟨(mAt b t : Int), (mLen b t : Int), []⟩ = 0 := opF0 (n := b.length) (f0 := mAt b t) (f1 := mLen b t) (m := (([] : List Int).length : Int)) (by omega) (by simp; omega)
        obtain ⟨r1, r2, r3⟩ := ih (t.drop (mLen b t)) (out ++ [⟨(mAt b t : Int), (mLen b t : Int), []⟩]) false (by rw [List.length_drop]; omega) (fun d hd => by
          rcases List.mem_append.1 hd with h | h
          · exact hg d h
          · rw [List.mem_singleton.1 h]; exact hop) (fun h => by cases h)
        refine ⟨r1, ?_, ?_⟩
        · rw [r2, cat_append, cat_one, List.append_assoc]
          congr 1
          unfold seg
          rw [if_pos (by show (0 : Int) < (mLen b t : Int); omega)]
          show ((b.drop ((mAt b t : Int)).toNat).take ((mLen b t : Int)).toNat ++ []) ++ t.drop (mLen b t) = t
          rw [show ((mAt b t : Int)).toNat = mAt b t by omega, show ((mLen b t : Int)).toNat = mLen b t by omega, c2, List.append_nil, List.take_append_drop]
        · rw [List.length_append, List.length_singleton, List.length_drop] at r3; omega
      · split
        · rename_i hop
          obtain ⟨init, l, e, hl⟩ := ho hop
          rw [e, more_open]
          obtain ⟨r1, r2, r3⟩ := ih (t.drop 1) (init ++ [⟨0, 0, l ++ [rd t 0]⟩]) true (by rw [List.length_drop]; omega) (fun d hd => by
            rcases List.mem_append.1 hd with h | h
            · exact hg d (by rw [e]; exact List.mem_append_left _ h)
            · rw [List.mem_singleton.1 h]; exact op_data b (by simp)) (fun _ => ⟨init, _, rfl, by simp⟩)
          refine ⟨r1, ?_, ?_⟩
          · rw [r2, cat_append, cat_append, cat_one, cat_one, seg_data, seg_data, List.append_assoc, List.append_assoc, List.append_assoc, List.singleton_append, ← ht]
          · rw [List.length_append, List.length_singleton, List.length_drop] at r3; rw [List.length_append, List.length_singleton]; omega
        · obtain ⟨r1, r2, r3⟩ := ih (t.drop 1) (out ++ [⟨0, 0, [rd t 0]⟩]) true (by rw [List.length_drop]; omega) (fun d hd => by
            rcases List.mem_append.1 hd with h | h
            · exact hg d h
            · rw [List.mem_singleton.1 h]; exact op_data b (by simp)) (fun _ => ⟨out, _, rfl, by simp⟩)
          refine ⟨r1, ?_, ?_⟩
          · rw [r2, cat_append, cat_one, seg_data, List.append_assoc, List.singleton_append, ← ht]
          · rw [List.length_append, List.length_singleton, List.length_drop] at r3; omega
theorem trip {a b : List Int} (ha : (a.length : Int) ≤ 1000) (hb : (b.length : Int) ≤ 1000) : apR a (enc a (b.length + 1) b [] false) = (b, 0, 0) := by
  obtain ⟨h1, h2, h3⟩ := enc_good (b := a) (b.length + 1) b [] false (by omega) (fun d hd => by cases hd) (fun h => by cases h)
  have h2 : cat a (enc a (b.length + 1) b [] false) = b := by rw [h2]; simp [cat]
  unfold apR
  simp only [List.length_nil] at h3
  rw [if_neg (by omega), if_neg (by omega), apS_good _ _ _ h1 (by rw [List.nil_append, h2]; exact hb), List.nil_append, h2]
theorem self_match (a : List Int) (h : 0 < a.length) : mAt a a = 0 ∧ mLen a a = a.length := by
  have := IsMatch.unique (mt_spec a a) (Or.inr ⟨h, h, by rw [List.drop_zero]; exact lcp_self a, fun i _ => lcp_le_right _ _, fun i hi => by omega⟩ : IsMatch a a 0 a.length)
  exact this
theorem self_enc {a : List Int} (h : 4 ≤ a.length) : enc a (a.length + 1) a [] false = [⟨0, (a.length : Int), []⟩] := by
  obtain ⟨e1, e2⟩ := self_match a (by omega)
  obtain ⟨n, hn⟩ : ∃ n, a.length = n + 1 := ⟨a.length - 1, by omega⟩
  have : ∀ m, enc a (m + 2) a [] false = [⟨0, (a.length : Int), []⟩] := by
    intro m
    simp only [enc]
    rw [if_neg (by omega), if_pos (by omega), e1, e2, if_pos (by rw [List.length_drop]; omega)]
    rfl
  rw [hn, this n, hn]
end Go.Proofs.Ytgmpnghgmcgghaa.Delta
