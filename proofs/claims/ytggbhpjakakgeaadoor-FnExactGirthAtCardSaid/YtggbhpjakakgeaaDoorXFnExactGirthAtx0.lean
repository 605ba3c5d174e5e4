-- Written by this project's own program (mprint.py) by means of the kit's printer: with contracts of its own for the functions that the printer leaves out.
import Derived.Test.YtggbhpjakakgeaaDoorProg
import Derived.Below
import Derived.Deep.Draws
import Derived.Deep.AppendLies
import Derived.Maps.AppendAt
import Derived.OwnWalk
import Derived.Laws.BytesArg
import Derived.Laws.MakeOwn
import Derived.Laws.OwnMore
import Derived.Deep.OwnRows
import Derived.Tactics
import Derived.Lib.ConvBytes
import Derived.Laws.Slices
import Derived.WalkKit
import Derived.KernelRfl
import Derived.RowKit3
import Derived.Deep.LoopGhost
import Derived.Deep.QuietTactic
import Derived.BigQuiet
import Derived.WideLaws
import Derived.Deep.DeepCutAuto
import Derived.Deep.CutBlock
import Derived.Deep.RegionHeld3
import Derived.Laws.Rows
import Derived.Lib.AppendStr
import Derived.ArgAppend
import Derived.Laws.IdiomCopy
import Derived.OrdersHeld
import Derived.Laws.BitsLemmas
import Derived.RowKit
import Derived.Laws.CopyOwn
import Derived.Lib.SliceRun
import Derived.Shelf.Spec.TrailingZeros
import Derived.Test.YtggbhpjakakgeaaDoorWWords
import Derived.Test.YtggbhpjakakgeaaDoorWLast
import Derived.Test.YtggbhpjakakgeaaDoorWTab
import Derived.Test.YtggbhpjakakgeaaDoorWFour
import Derived.Test.YtggbhpjakakgeaaDoorWQPut
import Derived.Test.YtggbhpjakakgeaaDoorWApart
import Derived.Test.YtggbhpjakakgeaaDoorWArr
import Derived.Test.YtggbhpjakakgeaaDoorWZeros
import Derived.Test.YtggbhpjakakgeaaDoorWFoot
import Derived.Test.YtggbhpjakakgeaaDoorWKept
import Derived.Test.YtggbhpjakakgeaaDoorWShare
import Derived.Test.YtggbhpjakakgeaaDoorWN
import Derived.Test.YtggbhpjakakgeaaDoorWFootNe
import Derived.Test.YtggbhpjakakgeaaDoorWAt
import Derived.Test.YtggbhpjakakgeaaDoorWEqStruct
import Derived.Test.YtggbhpjakakgeaaDoorWRepsOne
import Derived.Test.YtggbhpjakakgeaaDoorWInv
import Derived.Test.YtggbhpjakakgeaaDoorWInvWords
import Derived.Test.YtggbhpjakakgeaaDoorWGuard
import Derived.Test.YtggbhpjakakgeaaDoorWNEv
import Derived.Test.YtggbhpjakakgeaaDoorWMore
namespace Go.Proofs.YtggbhpjakakgeaaDoor.XFnExactGirthAt
open Go.RowKit Go.Proofs.YtggbhpjakakgeaaDoorW.PrintWords Go.Proofs.YtggbhpjakakgeaaDoorW.PrintLast Go.Proofs.YtggbhpjakakgeaaDoorW.PrintMore
attribute [local go_sem] max2_int min2_int max_two min_two max_three min_three max_four min_four   -- for this text's walks alone
set_option linter.unusedVariables false
set_option linter.unusedSimpArgs false



def errW : Option Int → Value
  | none => .nilIface
  | some c => .iface 0 (.int .i64 c)
theorem errW_none : errW none = .nilIface := rfl
theorem errW_some (c : Int) : errW (some c) = .iface 0 (.int .i64 c) := rfl

theorem info2 : (Tryd.prog.info? 2).map (fun i => (i.zero, i.size, i.bytes)) = some (some (.int .i64 0), 1, 8) := by kernel_rfl
-- the values' own types

end Go.Proofs.YtggbhpjakakgeaaDoor.XFnExactGirthAt
