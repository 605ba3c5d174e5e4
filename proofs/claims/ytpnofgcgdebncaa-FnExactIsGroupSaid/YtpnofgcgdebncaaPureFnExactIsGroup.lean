/- The pure statement of FnExactIsGroup, for all arguments. -/
import Derived.Test.YtpnofgcgdebncaaLFnExactIsGroup
namespace Go.Proofs.Ytpnofgcgdebncaa.Pure
open Go.RowKit Go.Proofs.Ytpnofgcgdebncaa.PFnExactIsGroup Go.Proofs.YtpnofgcgdebncaaW.PrintWords Go.Proofs.YtpnofgcgdebncaaW.PrintLast Go.Proofs.Ytpnofgcgdebncaa.B
open Classical
set_option linter.unusedVariables false
set_option linter.unusedSimpArgs false

theorem FnExactIsGroup (a b : Int) (_ : (Lit.int .i64 a).wf = true) (_ : (Lit.int .i64 b).wf = true) : laws_FnExactIsGroup.f a b = some true := by
  obtain ⟨r, h1, h2, _⟩ := isGroup_both a b
  unfold laws_FnExactIsGroup.f laws_toGroup.f spec_IsGroup.f
  simp only [Option.bind_some, h1, h2, bne_self_eq_false, Bool.false_eq_true, if_false]

end Go.Proofs.Ytpnofgcgdebncaa.Pure
