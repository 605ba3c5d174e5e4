-- Written by this project's own program (mprint.py) by means of the kit's printer: with contracts of its own for the functions that the printer leaves out.
import Derived.Test.YtjaibklcnjpohaaDoorProg
import Derived.Below
import Derived.Deep.Draws
import Derived.Deep.AppendLies
import Derived.Maps.AppendAt
import Derived.OwnWalk
import Derived.Laws.BytesArg
import Derived.Laws.MakeOwn
import Derived.Laws.OwnMore
import Derived.Deep.OwnRows
import Derived.Tactics
import Derived.Lib.ConvBytes
import Derived.Laws.Slices
import Derived.WalkKit
import Derived.KernelRfl
import Derived.RowKit3
import Derived.Deep.LoopGhost
import Derived.Deep.QuietTactic
import Derived.BigQuiet
import Derived.WideLaws
import Derived.Deep.DeepCutAuto
import Derived.Deep.CutBlock
import Derived.Deep.RegionHeld3
import Derived.Laws.Rows
import Derived.Lib.AppendStr
import Derived.ArgAppend
import Derived.Laws.IdiomCopy
import Derived.OrdersHeld
import Derived.Laws.BitsLemmas
import Derived.RowKit
import Derived.Shelf.Spec.TrailingZeros
import Derived.Test.YtjaibklcnjpohaaDoorWWords
import Derived.Test.YtjaibklcnjpohaaDoorWLast
import Derived.Test.YtjaibklcnjpohaaDoorWTab
import Derived.Test.YtjaibklcnjpohaaDoorWFour
import Derived.Test.YtjaibklcnjpohaaDoorWQPut
import Derived.Test.YtjaibklcnjpohaaDoorWApart
import Derived.Test.YtjaibklcnjpohaaDoorWArr
import Derived.Test.YtjaibklcnjpohaaDoorWZeros
import Derived.Test.YtjaibklcnjpohaaDoorWFoot
import Derived.Test.YtjaibklcnjpohaaDoorWKept
import Derived.Test.YtjaibklcnjpohaaDoorWShare
import Derived.Test.YtjaibklcnjpohaaDoorWN
import Derived.Test.YtjaibklcnjpohaaDoorWFootNe
import Derived.Test.YtjaibklcnjpohaaDoorWAt
import Derived.Test.YtjaibklcnjpohaaDoorWEqStruct
import Derived.Test.YtjaibklcnjpohaaDoorWRepsOne
import Derived.Test.YtjaibklcnjpohaaDoorWInv
import Derived.Test.YtjaibklcnjpohaaDoorWInvWords
import Derived.Test.YtjaibklcnjpohaaDoorWGuard
import Derived.Test.YtjaibklcnjpohaaDoorWNEv
import Derived.Test.YtjaibklcnjpohaaDoorWMore
namespace Go.Proofs.YtjaibklcnjpohaaDoor.XFnExactIsConnected
open Go.RowKit Go.Proofs.YtjaibklcnjpohaaDoorW.PrintWords Go.Proofs.YtjaibklcnjpohaaDoorW.PrintLast Go.Proofs.YtjaibklcnjpohaaDoorW.PrintMore
attribute [local go_sem] max2_int min2_int max_two min_two max_three min_three max_four min_four   -- for this text's walks alone
set_option linter.unusedVariables false
set_option linter.unusedSimpArgs false



def errW : Option Int → Value
  | none => .nilIface
  | some c => .iface 0 (.int .i64 c)
theorem errW_none : errW none = .nilIface := rfl
theorem errW_some (c : Int) : errW (some c) = .iface 0 (.int .i64 c) := rfl

theorem info2 : (Tryd.prog.info? 2).map (fun i => (i.zero, i.size, i.bytes)) = some (some (.int .i64 0), 1, 8) := by kernel_rfl
-- the values' own types

end Go.Proofs.YtjaibklcnjpohaaDoor.XFnExactIsConnected
