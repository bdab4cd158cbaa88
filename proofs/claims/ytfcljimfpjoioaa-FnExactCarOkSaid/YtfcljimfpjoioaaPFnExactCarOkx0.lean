-- Written by a program of this session (wip/tools/fltprint.py: the kit's printer, taught more).
import Derived.Test.YtfcljimfpjoioaaProg
import Derived.Below
import Derived.Deep.Draws
import Derived.Deep.AppendLies
import Derived.Maps.AppendAt
import Derived.OwnWalk
import Derived.Laws.BytesArg
import Derived.Laws.MakeOwn
import Derived.Laws.OwnMore
import Derived.Deep.OwnRows
import Derived.Tactics
import Derived.Lib.ConvBytes
import Derived.Laws.Slices
import Derived.WalkKit
import Derived.KernelRfl
import Derived.RowKit3
import Derived.Deep.LoopGhost
import Derived.Deep.QuietTactic
import Derived.BigQuiet
import Derived.WideLaws
import Derived.Deep.DeepCutAuto
import Derived.Deep.CutBlock
import Derived.Deep.RegionHeld3
import Derived.Laws.Rows
import Derived.Lib.AppendStr
import Derived.ArgAppend
import Derived.Laws.IdiomCopy
import Derived.OrdersHeld
import Derived.Laws.BitsLemmas
import Derived.RowKit
import Derived.Test.YtfcljimfpjoioaaWWords
import Derived.Test.YtfcljimfpjoioaaWLast
import Derived.Test.YtfcljimfpjoioaaWTab
import Derived.Test.YtfcljimfpjoioaaWFour
import Derived.Test.YtfcljimfpjoioaaWQPut
import Derived.Test.YtfcljimfpjoioaaWApart
import Derived.Test.YtfcljimfpjoioaaWArr
import Derived.Test.YtfcljimfpjoioaaWZeros
import Derived.Test.YtfcljimfpjoioaaWFoot
import Derived.Test.YtfcljimfpjoioaaWKept
import Derived.Test.YtfcljimfpjoioaaWShare
import Derived.Test.YtfcljimfpjoioaaWN
import Derived.Test.YtfcljimfpjoioaaWFootNe
import Derived.Test.YtfcljimfpjoioaaWAt
import Derived.Test.YtfcljimfpjoioaaWEqStruct
import Derived.Test.YtfcljimfpjoioaaWRepsOne
import Derived.Test.YtfcljimfpjoioaaWInv
import Derived.Test.YtfcljimfpjoioaaWInvWords
import Derived.Test.YtfcljimfpjoioaaWGuard
import Derived.Test.YtfcljimfpjoioaaWNEv
import Derived.Test.YtfcljimfpjoioaaWMore
import Derived.Test.YtfcljimfpjoioaaWFlt
namespace Go.Proofs.Ytfcljimfpjoioaa.PFnExactCarOk
open Go.RowKit Go.Proofs.YtfcljimfpjoioaaW.PrintWords Go.Proofs.YtfcljimfpjoioaaW.PrintLast Go.Proofs.YtfcljimfpjoioaaW.PrintMore
attribute [local go_sem] run_fl binOp_feq binOp_fne binOp_flt binOp_fle binOp_fgt binOp_fge run_store_f64 run_conv_f64
attribute [local go_sem] max2_int min2_int max_two min_two max_three min_three max_four min_four   -- for this text's walks alone
set_option linter.unusedVariables false
set_option linter.unusedSimpArgs false



def errW : Option Int → Value
  | none => .nilIface
  | some c => .iface 0 (.int .i64 c)
theorem errW_none : errW none = .nilIface := rfl
theorem errW_some (c : Int) : errW (some c) = .iface 0 (.int .i64 c) := rfl

-- the values' own types

end Go.Proofs.Ytfcljimfpjoioaa.PFnExactCarOk
