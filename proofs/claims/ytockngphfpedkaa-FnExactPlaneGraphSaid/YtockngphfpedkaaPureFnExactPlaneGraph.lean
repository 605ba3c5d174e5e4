/- The pure statement of FnExactPlaneGraph, for all arguments. -/
import Derived.Test.YtockngphfpedkaaLFnExactPlaneGraph
namespace Go.Proofs.Ytockngphfpedkaa.Pure
open Go.RowKit Go.Proofs.Ytockngphfpedkaa.XFnExactPlaneGraph Go.Proofs.YtockngphfpedkaaW.PrintWords Go.Proofs.YtockngphfpedkaaW.PrintLast Go.Proofs.Ytockngphfpedkaa.B
open Classical
set_option linter.unusedVariables false
set_option linter.unusedSimpArgs false

theorem FnExactPlaneGraph : laws_FnExactPlaneGraph.Pure := by
  intro a0 _
  by_cases h2 : a0 = 2
  · exact ⟨20000, by rw [h2]; decide +kernel⟩
  by_cases h3 : a0 = 3
  · exact ⟨20000, by rw [h3]; decide +kernel⟩
  by_cases h5 : a0 = 5
  · exact ⟨20000, by rw [h5]; decide +kernel⟩
  by_cases h7 : a0 = 7
  · exact ⟨20000, by rw [h7]; decide +kernel⟩
  have hp : spec_l04Prime.f a0 = some false := by unfold spec_l04Prime.f; rw [if_neg h2, if_neg h3, if_neg h5, beq_eq_false_iff_ne.mpr h7]
  have hq : impl_isPrime.f a0 = some false := by unfold impl_isPrime.f; rw [if_neg h2, if_neg h3, if_neg h5, beq_eq_false_iff_ne.mpr h7]
  have hs : ∀ k, spec_PlaneGraph.f k a0 = some (0, [], 2) := fun k => by unfold spec_PlaneGraph.f; rw [hp]; rfl
  have hi : ∀ k, impl_PlaneGraph.f k a0 = some (0, [], 2) := fun k => by unfold impl_PlaneGraph.f; rw [hq]; rfl
  refine ⟨20, ?_⟩
  unfold laws_FnExactPlaneGraph.f
  rw [hs, hi]
  show laws_FnExactPlaneGraph.j0 20 a0 2 false 0 [] 0 [] = some true
  rw [laws_FnExactPlaneGraph.j0.eq_2]
  show ((impl_PlaneGraph.f 19 a0).bind fun bt195 => ((laws_eqGraph.f 19 bt195.1 bt195.2.1 0 []).bind fun t201 => (if t201 = true then (laws_FnExactPlaneGraph.j1 19 1 (bt195.2.2 != 2) 0 []) else (laws_FnExactPlaneGraph.j1 19 1 true 0 [])))) = some true
  rw [hi]
  decide +kernel

end Go.Proofs.Ytockngphfpedkaa.Pure
