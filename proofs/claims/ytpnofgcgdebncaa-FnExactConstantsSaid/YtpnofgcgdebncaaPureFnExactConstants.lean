/- The pure statement of FnExactConstants, for all arguments. -/
import Derived.Test.YtpnofgcgdebncaaLFnExactConstants
namespace Go.Proofs.Ytpnofgcgdebncaa.Pure
open Go.RowKit Go.Proofs.Ytpnofgcgdebncaa.PFnExactConstants Go.Proofs.YtpnofgcgdebncaaW.PrintWords Go.Proofs.YtpnofgcgdebncaaW.PrintLast Go.Proofs.Ytpnofgcgdebncaa.B
open Classical
set_option linter.unusedVariables false
set_option linter.unusedSimpArgs false

theorem FnExactConstants : laws_FnExactConstants.Pure := rfl

end Go.Proofs.Ytpnofgcgdebncaa.Pure
