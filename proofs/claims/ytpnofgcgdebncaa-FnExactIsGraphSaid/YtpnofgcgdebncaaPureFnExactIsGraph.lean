/- The pure statement of FnExactIsGraph, for all arguments. -/
import Derived.Test.YtpnofgcgdebncaaLFnExactIsGraph
namespace Go.Proofs.Ytpnofgcgdebncaa.Pure
open Go.RowKit Go.Proofs.Ytpnofgcgdebncaa.PFnExactIsGraph Go.Proofs.YtpnofgcgdebncaaW.PrintWords Go.Proofs.YtpnofgcgdebncaaW.PrintLast Go.Proofs.Ytpnofgcgdebncaa.B
open Classical
set_option linter.unusedVariables false
set_option linter.unusedSimpArgs false

theorem FnExactIsGraph (n : Int) (l : List Int) (_ : (Lit.int .i64 n).wf = true) (hm : l.length ≤ maxLen) (_ : ∀ x ∈ l, (Lit.int .i64 x).wf = true) : ∃ k, laws_FnExactIsGraph.f k n l = some true := by
  refine Ev.rounds (g := fun q => laws_FnExactIsGraph.f q n l) ?_
  unfold maxLen at hm
  unfold laws_FnExactIsGraph.f
  rcases laws_szGraph.sp (n := n) (l := l) (a := 1048576) (by omega) (by omega) (by omega) with ⟨e, c⟩ | ⟨e, c⟩
  · simp only [e, Option.bind_some]
    exact Ev.now _
  · simp only [e, Option.bind_some, if_neg (show ¬ ((1048576 : Int) - l.length < 0) by omega)]
    have ht := laws_toGraph.ev n l (by omega)
    have hs := spec_l01Is.ev n l
    have hi := impl_IsGraph.ev n l
    have he := laws_eqGraph.ev n l (by omega)
    have hs' : Ev (fun q => spec_IsGraph.f q n l) (decide (IsG n l)) := by
      unfold spec_IsGraph.f
      exact Ev.bind hs (Ev.now _)
    refine Ev.bind ht ?_
    refine Ev.bind hs' ?_
    refine Ev.bind ht ?_
    refine Ev.bind hi ?_
    simp only [bne_self_eq_false, Bool.false_eq_true, if_false]
    refine Ev.bind ht ?_
    refine Ev.bind he ?_
    simp only [if_true]
    exact Ev.now _

end Go.Proofs.Ytpnofgcgdebncaa.Pure
