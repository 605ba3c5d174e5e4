-- Written by this project's own program (mprint.py) by means of the kit's printer: with contracts of its own for the functions that the printer leaves out.
import Derived.Test.YtockngphfpedkaaDoorProg
import Derived.Below
import Derived.Deep.Draws
import Derived.Deep.AppendLies
import Derived.Maps.AppendAt
import Derived.OwnWalk
import Derived.Laws.BytesArg
import Derived.Laws.MakeOwn
import Derived.Laws.OwnMore
import Derived.Deep.OwnRows
import Derived.Tactics
import Derived.Lib.ConvBytes
import Derived.Laws.Slices
import Derived.WalkKit
import Derived.KernelRfl
import Derived.RowKit3
import Derived.Deep.LoopGhost
import Derived.Deep.QuietTactic
import Derived.BigQuiet
import Derived.WideLaws
import Derived.Deep.DeepCutAuto
import Derived.Deep.CutBlock
import Derived.Deep.RegionHeld3
import Derived.Laws.Rows
import Derived.Lib.AppendStr
import Derived.ArgAppend
import Derived.Laws.IdiomCopy
import Derived.OrdersHeld
import Derived.Laws.BitsLemmas
import Derived.RowKit
import Derived.BigQuiet
import Derived.Deep.QuietTactic
import Derived.Laws.CopyOwn
import Derived.Shelf.Spec.TrailingZeros
import Derived.Test.YtockngphfpedkaaDoorWWords
import Derived.Test.YtockngphfpedkaaDoorWLast
import Derived.Test.YtockngphfpedkaaDoorWTab
import Derived.Test.YtockngphfpedkaaDoorWFour
import Derived.Test.YtockngphfpedkaaDoorWQPut
import Derived.Test.YtockngphfpedkaaDoorWApart
import Derived.Test.YtockngphfpedkaaDoorWArr
import Derived.Test.YtockngphfpedkaaDoorWZeros
import Derived.Test.YtockngphfpedkaaDoorWFoot
import Derived.Test.YtockngphfpedkaaDoorWKept
import Derived.Test.YtockngphfpedkaaDoorWShare
import Derived.Test.YtockngphfpedkaaDoorWN
import Derived.Test.YtockngphfpedkaaDoorWFootNe
import Derived.Test.YtockngphfpedkaaDoorWAt
import Derived.Test.YtockngphfpedkaaDoorWEqStruct
import Derived.Test.YtockngphfpedkaaDoorWRepsOne
import Derived.Test.YtockngphfpedkaaDoorWInv
import Derived.Test.YtockngphfpedkaaDoorWInvWords
import Derived.Test.YtockngphfpedkaaDoorWGuard
import Derived.Test.YtockngphfpedkaaDoorWNEv
import Derived.Test.YtockngphfpedkaaDoorWMore
import Derived.Test.YtockngphfpedkaaDoorFx
namespace Go.Proofs.YtockngphfpedkaaDoor.XFnDistances
open Go.RowKit Go.Proofs.YtockngphfpedkaaDoorW.PrintWords Go.Proofs.YtockngphfpedkaaDoorW.PrintLast Go.Proofs.YtockngphfpedkaaDoorW.PrintMore
attribute [local go_sem] max2_int min2_int max_two min_two max_three min_three max_four min_four   -- for this text's walks alone
set_option linter.unusedVariables false
set_option linter.unusedSimpArgs false



def errW : Option Int → Value
  | none => .nilIface
  | some c => .iface 0 (.int .i64 c)
theorem errW_none : errW none = .nilIface := rfl
theorem errW_some (c : Int) : errW (some c) = .iface 0 (.int .i64 c) := rfl

theorem info2 : (Tryd.prog.info? 2).map (fun i => (i.zero, i.size, i.bytes)) = some (some (.int .i64 0), 1, 8) := by kernel_rfl
theorem info9 : (Tryd.prog.info? 9).map (fun i => (i.zero, i.size, i.bytes)) = some (some (.string ⟨#[]⟩), 1, 16) := by kernel_rfl
-- the values' own types

end Go.Proofs.YtockngphfpedkaaDoor.XFnDistances
