/- What the functions that FnExactAbsolutePoints reaches compute. -/
import Derived.Test.YtockngphfpedkaaXFnExactAbsolutePointsx0
import Derived.Test.YtockngphfpedkaaXFnExactAbsolutePointsx1
import Derived.Test.YtockngphfpedkaaXFnExactAbsolutePointsx2
import Derived.Test.YtockngphfpedkaaXFnExactAbsolutePointsx3
import Derived.Test.YtockngphfpedkaaGr
namespace Go.Proofs.Ytockngphfpedkaa.XFnExactAbsolutePoints
open Go.RowKit Go.Proofs.YtockngphfpedkaaW.PrintWords Go.Proofs.YtockngphfpedkaaW.PrintLast Go.Proofs.Ytockngphfpedkaa.B
open Classical
set_option linter.unusedVariables false
set_option linter.unusedSimpArgs false
set_option linter.unusedSectionVars false


end Go.Proofs.Ytockngphfpedkaa.XFnExactAbsolutePoints
