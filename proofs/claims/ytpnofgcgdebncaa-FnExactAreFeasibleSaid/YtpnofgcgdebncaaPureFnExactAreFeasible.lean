/- The pure statement of FnExactAreFeasible, for all arguments. -/
import Derived.Test.YtpnofgcgdebncaaLFnExactAreFeasible
namespace Go.Proofs.Ytpnofgcgdebncaa.Pure
open Go.RowKit Go.Proofs.Ytpnofgcgdebncaa.PFnExactAreFeasible Go.Proofs.YtpnofgcgdebncaaW.PrintWords Go.Proofs.YtpnofgcgdebncaaW.PrintLast Go.Proofs.Ytpnofgcgdebncaa.B
open Classical
set_option linter.unusedVariables false
set_option linter.unusedSimpArgs false

theorem FnExactAreFeasible (l0 l1 : List Int) (m0 : l0.length ≤ maxLen) (w0 : ∀ x ∈ l0, (Lit.int .i64 x).wf = true) (m1 : l1.length ≤ maxLen) (w1 : ∀ x ∈ l1, (Lit.int .i64 x).wf = true) : ∃ k, laws_FnExactAreFeasible.f k l0 l1 = some true := by
  refine Ev.rounds (g := fun q => laws_FnExactAreFeasible.f q l0 l1) ?_
  unfold laws_FnExactAreFeasible.f
  by_cases g0 : (l0.length : Int) > 1048576
  · simp only [if_pos g0]; exact Ev.now _
  by_cases g1 : (l1.length : Int) > 1048576
  · simp only [if_neg g0, if_pos g1]; exact Ev.now _
  simp only [if_neg g0, if_neg g1]
  have hs := spec_AreFeasible.ev l0 l1
  have hi := impl_AreFeasible.ev l0 l1
  generalize feasR l0 l1 = R at hs hi
  obtain ⟨rb, rc⟩ := R
  have to0 := laws_toInt64S.ev l0 (by omega)
  have eq0 := laws_eqInt64S.ev l0 (by omega)
  have to1 := laws_toInt64S.ev l1 (by omega)
  have eq1 := laws_eqInt64S.ev l1 (by omega)
  repeat (first
    | with_reducible exact Ev.now _
    | with_reducible refine Ev.bind hs ?_
    | with_reducible refine Ev.bind hi ?_
    | with_reducible refine Ev.bind to0 ?_
    | with_reducible refine Ev.bind to1 ?_
    | with_reducible refine Ev.bind eq0 ?_
    | with_reducible refine Ev.bind eq1 ?_
    | with_reducible refine Ev.step (fun k => laws_FnExactAreFeasible.j0.eq_2 ..) ?_
    | simp only [if_true, if_false, Bool.false_eq_true, bne_self_eq_false, Bool.not_true, Bool.not_false])

end Go.Proofs.Ytpnofgcgdebncaa.Pure
