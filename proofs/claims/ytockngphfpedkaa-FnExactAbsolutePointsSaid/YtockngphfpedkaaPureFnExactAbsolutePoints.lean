/- The pure statement of FnExactAbsolutePoints, for all arguments. -/
import Derived.Test.YtockngphfpedkaaLFnExactAbsolutePoints
namespace Go.Proofs.Ytockngphfpedkaa.Pure
open Go.RowKit Go.Proofs.Ytockngphfpedkaa.XFnExactAbsolutePoints Go.Proofs.YtockngphfpedkaaW.PrintWords Go.Proofs.YtockngphfpedkaaW.PrintLast Go.Proofs.Ytockngphfpedkaa.B
open Classical
set_option linter.unusedVariables false
set_option linter.unusedSimpArgs false

theorem FnExactAbsolutePoints : laws_FnExactAbsolutePoints.Pure := by
  intro a0 _
  by_cases h2 : a0 = 2
  · exact ⟨20000, by rw [h2]; decide +kernel⟩
  by_cases h3 : a0 = 3
  · exact ⟨20000, by rw [h3]; decide +kernel⟩
  by_cases h5 : a0 = 5
  · exact ⟨20000, by rw [h5]; decide +kernel⟩
  by_cases h7 : a0 = 7
  · exact ⟨20000, by rw [h7]; decide +kernel⟩
  have hp : spec_l04Prime.f a0 = some false := by unfold spec_l04Prime.f; rw [if_neg h2, if_neg h3, if_neg h5, beq_eq_false_iff_ne.mpr h7]
  have hq : impl_isPrime.f a0 = some false := by unfold impl_isPrime.f; rw [if_neg h2, if_neg h3, if_neg h5, beq_eq_false_iff_ne.mpr h7]
  have hs : ∀ k, spec_AbsolutePoints.f k a0 = some ([], 2) := fun k => by unfold spec_AbsolutePoints.f; rw [hp]; rfl
  have hi : ∀ k, impl_AbsolutePoints.f k a0 = some ([], 2) := fun k => by unfold impl_AbsolutePoints.f; rw [hq]; rfl
  refine ⟨20, ?_⟩
  unfold laws_FnExactAbsolutePoints.f
  rw [hs, hi]
  show laws_FnExactAbsolutePoints.j0 20 a0 [] 2 [] false = some true
  rw [laws_FnExactAbsolutePoints.j0.eq_2]
  show ((impl_AbsolutePoints.f 19 a0).bind fun bt172 => ((laws_eqInt64S.f 19 bt172.1 []).bind fun t176 => (if t176 = true then (laws_FnExactAbsolutePoints.j1 19 [] 1 (bt172.2 != 2)) else (laws_FnExactAbsolutePoints.j1 19 [] 1 true)))) = some true
  rw [hi]
  decide +kernel

end Go.Proofs.Ytockngphfpedkaa.Pure
