/- The pure statement of FnExactIsBase, for all arguments. -/
import Derived.Test.YtdieobmhmkdjmaaLFnExactIsBase
namespace Go.Proofs.Ytdieobmhmkdjmaa.Pure
open Go.RowKit Go.Proofs.Ytdieobmhmkdjmaa.XFnExactIsBase Go.Proofs.YtdieobmhmkdjmaaW.PrintWords Go.Proofs.YtdieobmhmkdjmaaW.PrintLast Go.Proofs.Ytdieobmhmkdjmaa.B
open Classical
set_option linter.unusedVariables false
set_option linter.unusedSimpArgs false

theorem FnExactIsBase (a0 b0 : Int) (l0 : List S75) (_ : (Lit.int .i64 a0).wf = true) (_ : (Lit.int .i64 b0).wf = true) (m0 : l0.length ≤ maxLen) : ∃ k, laws_FnExactIsBase.f k a0 b0 l0 = some true := by
  refine Ev.rounds (g := fun q => laws_FnExactIsBase.f q a0 b0 l0) ?_
  unfold laws_FnExactIsBase.f
  unfold maxLen at m0
  rcases laws_szBase.sp (n := a0) (m := b0) (l := l0) (a := 1048576) (by omega) (by omega) (by omega) with ⟨e, c⟩ | ⟨e, c⟩
  · simp only [e, Option.bind_some]; exact Ev.now _
  simp only [e, Option.bind_some, if_neg (show ¬ ((1048576 : Int) - l0.length < 0) by omega)]
  have ht := laws_toBase.ev a0 b0 l0 (by omega)
  have hs := spec_IsBase.ev a0 b0 (l0.map toA)
  have he := laws_eqBase.ev a0 b0 (l0.map toA) (by rw [List.length_map]; omega)
  refine Ev.bind ht ?_
  refine Ev.bind hs ?_
  refine Ev.bind ht ?_
  simp only [impl_IsBase.sp, Option.bind_some, bne_self_eq_false, Bool.false_eq_true, if_false]
  refine Ev.bind ht ?_
  refine Ev.bind he ?_
  simp only [if_true]
  exact Ev.now _

end Go.Proofs.Ytdieobmhmkdjmaa.Pure
