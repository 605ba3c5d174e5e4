/- The pure statement of FnExactLevelsFrom, for all arguments. -/
import Derived.Test.YtggbhpjakakgeaaDoorLFnExactLevelsFrom
namespace Go.Proofs.YtggbhpjakakgeaaDoor.Pure
open Go.RowKit Go.Proofs.YtggbhpjakakgeaaDoor.XFnExactLevelsFrom Go.Proofs.YtggbhpjakakgeaaDoorW.PrintWords Go.Proofs.YtggbhpjakakgeaaDoorW.PrintLast Go.Proofs.YtggbhpjakakgeaaDoor.B
open Classical
set_option linter.unusedVariables false
set_option linter.unusedSimpArgs false

theorem FnExactLevelsFrom (a0 : Int) (l0 : List Int) (a1 : Int) (wa0 : (Lit.int .i64 a0).wf = true) (m0 : l0.length ≤ maxLen) (w0 : ∀ x ∈ l0, (Lit.int .i64 x).wf = true) (w1 : (Lit.int .i64 a1).wf = true) : ∃ k, laws_FnExactLevelsFrom.f k a0 l0 a1 = some true := by
  refine Ev.rounds (g := fun q => laws_FnExactLevelsFrom.f q a0 l0 a1) ?_
  unfold laws_FnExactLevelsFrom.f
  unfold maxLen at m0
  rcases laws_szGraph.sp (n := a0) (l := l0) (a := 1048576) (by omega) (by omega) (by omega) with ⟨e0, c0⟩ | ⟨e0, c0⟩
  · simp only [e0, Option.bind_some]; exact Ev.now _
  simp only [e0, Option.bind_some, if_neg (show ¬ ((1048576 : Int) - l0.length < 0) by omega)]
  have hs := spec_LevelsFrom.ev a0 l0 a1 
  have hi := impl_LevelsFrom.ev a0 l0 a1 
  have hl := levR_length a0 l0 a1
  generalize levR a0 l0 a1 = R at hs hi hl
  have to0 := laws_toGraph.ev a0 l0 (by omega)
  have eq0 := laws_eqGraph.ev a0 l0 (by omega)
  obtain ⟨k0, hk0, _, _⟩ := laws_markGraph.ev a0 l0 (1) (by omega) (by omega)
  have ng0 : ¬ (1 + (l0.length : Int) < 0) := by omega
  obtain ⟨rl, rc⟩ := R
  simp only at hl
  have he := laws_eqInt64S.ev rl (by omega)
  obtain ⟨m, hm, hml, hmm⟩ := laws_markInt64S.ev rl 1 (by omega) (by omega)
  have hh := laws_heldInt64S.ev m 1 (by omega) (by omega) (fun j hj => hmm j (by omega))
  rw [hml] at hh
  have ng : ¬ (1 + (rl.length : Int) < 0) := by omega
  repeat (first
    | with_reducible exact Ev.now _
    | with_reducible refine Ev.bind hs ?_
    | with_reducible refine Ev.bind hi ?_
    | with_reducible refine Ev.bind he ?_
    | with_reducible refine Ev.bind hm ?_
    | with_reducible refine Ev.bind hh ?_
    | with_reducible refine Ev.bind to0 ?_
    | with_reducible refine Ev.bind eq0 ?_
    | with_reducible refine Ev.bind hk0 ?_
    | with_reducible refine Ev.step (fun k => laws_FnExactLevelsFrom.j0.eq_2 ..) ?_
    | with_reducible refine Ev.step (fun k => laws_FnExactLevelsFrom.j1.eq_2 ..) ?_
    | with_reducible refine Ev.step (fun k => laws_FnExactLevelsFrom.j2.eq_2 ..) ?_
    | simp only [if_true, if_false, Bool.false_eq_true, bne_self_eq_false, Bool.not_true, Bool.not_false, if_neg ng0, if_neg ng])

end Go.Proofs.YtggbhpjakakgeaaDoor.Pure
