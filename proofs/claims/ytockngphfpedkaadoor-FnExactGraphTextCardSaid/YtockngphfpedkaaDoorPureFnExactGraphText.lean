/- The pure statement of FnExactGraphText, for all arguments. -/
import Derived.Test.YtockngphfpedkaaDoorLFnExactGraphText
namespace Go.Proofs.YtockngphfpedkaaDoor.Pure
open Go.RowKit Go.Proofs.YtockngphfpedkaaDoor.XFnExactGraphText Go.Proofs.YtockngphfpedkaaDoorW.PrintWords Go.Proofs.YtockngphfpedkaaDoorW.PrintLast Go.Proofs.YtockngphfpedkaaDoor.B
open Classical
set_option linter.unusedVariables false
set_option linter.unusedSimpArgs false

theorem FnExactGraphText (a0 : Int) (l0 : List Int) (wa0 : (Lit.int .i64 a0).wf = true) (m0 : l0.length ≤ maxLen) (w0 : ∀ x ∈ l0, (Lit.int .i64 x).wf = true) : ∃ k, laws_FnExactGraphText.f k a0 l0 = some true := by
  refine Ev.rounds (g := fun q => laws_FnExactGraphText.f q a0 l0) ?_
  unfold laws_FnExactGraphText.f
  unfold maxLen at m0
  rcases laws_szGraph.sp (n := a0) (l := l0) (a := 1048576) (by omega) (by omega) (by omega) with ⟨e0, c0⟩ | ⟨e0, c0⟩
  · simp only [e0, Option.bind_some]; exact Ev.now _
  simp only [e0, Option.bind_some, if_neg (show ¬ ((1048576 : Int) - l0.length < 0) by omega)]
  have hs := spec_GraphText.ev a0 l0 
  have hi := impl_GraphText.ev a0 l0 
  generalize gtxR a0 l0 = R at hs hi
  have to0 := laws_toGraph.ev a0 l0 (by omega)
  have eq0 := laws_eqGraph.ev a0 l0 (by omega)
  repeat (first
    | with_reducible exact Ev.now _
    | with_reducible refine Ev.bind hs ?_
    | with_reducible refine Ev.bind hi ?_
    | with_reducible refine Ev.bind to0 ?_
    | with_reducible refine Ev.bind eq0 ?_
    | with_reducible refine Ev.step (fun k => laws_FnExactGraphText.j0.eq_2 ..) ?_
    | simp only [if_true, if_false, Bool.false_eq_true, bne_self_eq_false, Bool.not_true, Bool.not_false])

end Go.Proofs.YtockngphfpedkaaDoor.Pure
