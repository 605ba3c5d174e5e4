/- The pure statement of FnExactLiftParts, for all arguments. -/
import Derived.Test.YtdieobmhmkdjmaaDoorLFnExactLiftParts
namespace Go.Proofs.YtdieobmhmkdjmaaDoor.Pure
open Go.RowKit Go.Proofs.YtdieobmhmkdjmaaDoor.XFnExactLiftParts Go.Proofs.YtdieobmhmkdjmaaDoorW.PrintWords Go.Proofs.YtdieobmhmkdjmaaDoorW.PrintLast Go.Proofs.YtdieobmhmkdjmaaDoor.B
open Classical
set_option linter.unusedVariables false
set_option linter.unusedSimpArgs false

theorem FnExactLiftParts (a0 b0 : Int) (l0 : List S56) (wa0 : (Lit.int .i64 a0).wf = true) (wb0 : (Lit.int .i64 b0).wf = true) (m0 : l0.length ≤ maxLen) : ∃ k, laws_FnExactLiftParts.f k a0 b0 l0 = some true := by
  refine Ev.rounds (g := fun q => laws_FnExactLiftParts.f q a0 b0 l0) ?_
  unfold laws_FnExactLiftParts.f
  unfold maxLen at m0
  rcases laws_szBase.sp (n := a0) (m := b0) (l := l0) (a := 1048576) (by omega) (by omega) (by omega) with ⟨e0, c0⟩ | ⟨e0, c0⟩
  · simp only [e0, Option.bind_some]; exact Ev.now _
  simp only [e0, Option.bind_some, if_neg (show ¬ ((1048576 : Int) - l0.length < 0) by omega)]
  have hs := spec_LiftParts.ev a0 b0 (l0.map toA) 
  have hi := impl_LiftParts.ev a0 b0 (l0.map toA) 
  generalize lpartsR a0 b0 (l0.map toA) = R at hs hi
  have hml0 : (l0.map toA).length = l0.length := List.length_map ..
  have to0 := laws_toBase.ev a0 b0 l0 (by omega)
  have eq0 := laws_eqBase.ev a0 b0 (l0.map toA) (by omega)
  repeat (first
    | with_reducible exact Ev.now _
    | with_reducible refine Ev.bind hs ?_
    | with_reducible refine Ev.bind hi ?_
    | with_reducible refine Ev.bind to0 ?_
    | with_reducible refine Ev.bind eq0 ?_
    | with_reducible refine Ev.step (fun k => laws_FnExactLiftParts.j0.eq_2 ..) ?_
    | simp only [if_true, if_false, Bool.false_eq_true, bne_self_eq_false, Bool.not_true, Bool.not_false])

end Go.Proofs.YtdieobmhmkdjmaaDoor.Pure
