/- The pure statement of FnExactOrderOfGroup, for all arguments. -/
import Derived.Test.YtpnofgcgdebncaaLFnExactOrderOfGroup
namespace Go.Proofs.Ytpnofgcgdebncaa.Pure
open Go.RowKit Go.Proofs.Ytpnofgcgdebncaa.PFnExactOrderOfGroup Go.Proofs.YtpnofgcgdebncaaW.PrintWords Go.Proofs.YtpnofgcgdebncaaW.PrintLast Go.Proofs.Ytpnofgcgdebncaa.B
open Classical
set_option linter.unusedVariables false
set_option linter.unusedSimpArgs false

theorem FnExactOrderOfGroup (a b : Int) (_ : (Lit.int .i64 a).wf = true) (_ : (Lit.int .i64 b).wf = true) : laws_FnExactOrderOfGroup.f a b = some true := by
  obtain ⟨r, h1, h2, h3⟩ := isGroup_both a b
  unfold laws_FnExactOrderOfGroup.f laws_toGroup.f spec_OrderOfGroup.f impl_OrderOfGroup.f
  simp only [Option.bind_some, h1, h2]
  cases r with
  | false => simp
  | true =>
    simp only [if_true]
    unfold spec_l05Order.f impl_Group_order.f
    rcases h3 rfl with h | h | h <;> simp [h]

end Go.Proofs.Ytpnofgcgdebncaa.Pure
