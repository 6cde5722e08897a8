/- The pure statement of DeltachainRoundTrip. -/
import Derived.Test.YtgmpnghgmcgghaaDelta3
import Derived.Test.YtgmpnghgmcgghaaP10
namespace Go.Proofs.Ytgmpnghgmcgghaa.Pure
open Go.RowKit Go.Proofs.YtgmpnghgmcgghaaW.PrintWords Go.Proofs.YtgmpnghgmcgghaaW.PrintEv Go.Proofs.Ytgmpnghgmcgghaa.P Go.Proofs.Ytgmpnghgmcgghaa.Delta
set_option linter.unusedVariables false
theorem DeltachainRoundTrip : changeforgelaw3_DeltachainRoundTrip.Pure := by
  intro a b ha hb
  refine ev_ex ?_
  unfold changeforgelaw3_DeltachainRoundTrip.f
  refine ev_bind example_ev (ev_pos rfl (ev_bind encode_ev ?_))
  unfold encR
  by_cases h1 : (a.length : Int) > 1000
  · simp only [if_pos h1]
    exact ev_neg (by decide) (ev_now _)
  · simp only [if_neg h1]
    by_cases h2 : (b.length : Int) > 1000
    · simp only [if_pos h2]
      exact ev_neg (by decide) (ev_now _)
    · simp only [if_neg h2]
      have hm : ∀ d ∈ enc a (b.length + 1) b [] false, (d.f2.length : Int) ≤ 140737488351232 := fun d hd => by
        obtain ⟨g1, g2, g3⟩ := enc_good (b := a) (b.length + 1) b [] false (by omega) (fun d hd => by cases hd) (fun h => by cases h)
        have g4 : cat a (enc a (b.length + 1) b [] false) = b := by rw [g2]; simp [cat]
        have g5 := cat_part (b := a) hd
        have g6 : d.f2.length ≤ (seg a d).length := by unfold seg; rw [List.length_append]; omega
        rw [g4] at g5
        omega
      refine ev_pos (by simp) (ev_bind (apply_ev hm) ?_)
      rw [trip (by omega) (by omega)]
      exact ev_pos (by simp) (ev_cast (ev_now _) (by simp))
end Go.Proofs.Ytgmpnghgmcgghaa.Pure
