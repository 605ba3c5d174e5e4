/- What the functions that FnExactConstants reaches compute. -/
import Derived.Test.YtpnofgcgdebncaaPFnExactConstantsx0
import Derived.Test.YtpnofgcgdebncaaPFnExactConstantsx1
import Derived.Test.YtpnofgcgdebncaaGr
namespace Go.Proofs.Ytpnofgcgdebncaa.PFnExactConstants
open Go.RowKit Go.Proofs.YtpnofgcgdebncaaW.PrintWords Go.Proofs.YtpnofgcgdebncaaW.PrintLast Go.Proofs.Ytpnofgcgdebncaa.B
open Classical
set_option linter.unusedVariables false
set_option linter.unusedSimpArgs false


end Go.Proofs.Ytpnofgcgdebncaa.PFnExactConstants
