/- What the functions that FnExactPlaneGraph reaches compute. -/
import Derived.Test.YtockngphfpedkaaXFnExactPlaneGraphx0
import Derived.Test.YtockngphfpedkaaXFnExactPlaneGraphx1
import Derived.Test.YtockngphfpedkaaXFnExactPlaneGraphx2
import Derived.Test.YtockngphfpedkaaXFnExactPlaneGraphx3
import Derived.Test.YtockngphfpedkaaXFnExactPlaneGraphx4
import Derived.Test.YtockngphfpedkaaXFnExactPlaneGraphx5
import Derived.Test.YtockngphfpedkaaGr
namespace Go.Proofs.Ytockngphfpedkaa.XFnExactPlaneGraph
open Go.RowKit Go.Proofs.YtockngphfpedkaaW.PrintWords Go.Proofs.YtockngphfpedkaaW.PrintLast Go.Proofs.Ytockngphfpedkaa.B
open Classical
set_option linter.unusedVariables false
set_option linter.unusedSimpArgs false
set_option linter.unusedSectionVars false


end Go.Proofs.Ytockngphfpedkaa.XFnExactPlaneGraph
