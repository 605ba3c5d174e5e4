import Derived.Test.YtockngphfpedkaaDoorXFnExactOddGraphx5
namespace Go.Proofs.YtockngphfpedkaaDoor.Pure
open Go.RowKit Go.Proofs.YtockngphfpedkaaDoor.XFnExactOddGraph Go.Proofs.YtockngphfpedkaaDoorW.PrintWords Go.Proofs.YtockngphfpedkaaDoorW.PrintLast
theorem FnExactOddGraph (a0 : Int) (_wa0 : (Lit.int .i64 a0).wf = true) : ∃ k, laws_FnExactOddGraph.f k a0 = some true := by
  by_cases h2 : a0 = 2
  · exact ⟨20000, by rw [h2]; decide +kernel⟩
  by_cases h3 : a0 = 3
  · exact ⟨20000, by rw [h3]; decide +kernel⟩
  by_cases h4 : a0 = 4
  · exact ⟨20000, by rw [h4]; decide +kernel⟩
  have hp : spec_l01In.f a0 2 4 = some false := by
    unfold spec_l01In.f
    by_cases h : a0 < 2
    · rw [if_neg (by omega)]
    · rw [if_pos (by omega), decide_eq_false (by omega)]
  have hs : ∀ k, spec_OddGraph.f k a0 = some (0, [], 2) := fun k => by unfold spec_OddGraph.f; rw [hp]; rfl
  have hi : ∀ k, impl_OddGraph.f k a0 = some (0, [], 2) := fun k => by
    unfold impl_OddGraph.f
    by_cases h : a0 < 2
    · rw [if_pos h]
    · rw [if_neg h, if_pos (by omega)]
  refine ⟨20, ?_⟩
  unfold laws_FnExactOddGraph.f
  rw [hs, hi]
  show laws_FnExactOddGraph.j0 20 a0 2 false 0 [] 0 [] = some true
  rw [laws_FnExactOddGraph.j0.eq_2]
  show ((impl_OddGraph.f 19 a0).bind fun bt195 => ((laws_eqGraph.f 19 bt195.1 bt195.2.1 0 []).bind fun t201 => (if t201 = true then (laws_FnExactOddGraph.j1 19 1 (bt195.2.2 != 2) 0 []) else (laws_FnExactOddGraph.j1 19 1 true 0 [])))) = some true
  rw [hi]
  decide +kernel
end Go.Proofs.YtockngphfpedkaaDoor.Pure
