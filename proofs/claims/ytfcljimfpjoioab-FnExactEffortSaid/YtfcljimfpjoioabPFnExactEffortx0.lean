-- Written by a program of this session (wip/tools/fltprint.py: the kit's printer, taught more).
import Derived.Test.YtfcljimfpjoioabProg
import Derived.Below
import Derived.Deep.Draws
import Derived.Deep.AppendLies
import Derived.Maps.AppendAt
import Derived.OwnWalk
import Derived.Laws.BytesArg
import Derived.Laws.MakeOwn
import Derived.Laws.OwnMore
import Derived.Deep.OwnRows
import Derived.Tactics
import Derived.Lib.ConvBytes
import Derived.Laws.Slices
import Derived.WalkKit
import Derived.KernelRfl
import Derived.RowKit3
import Derived.Deep.LoopGhost
import Derived.Deep.QuietTactic
import Derived.BigQuiet
import Derived.WideLaws
import Derived.Deep.DeepCutAuto
import Derived.Deep.CutBlock
import Derived.Deep.RegionHeld3
import Derived.Laws.Rows
import Derived.Lib.AppendStr
import Derived.ArgAppend
import Derived.Laws.IdiomCopy
import Derived.OrdersHeld
import Derived.Laws.BitsLemmas
import Derived.RowKit
import Derived.Test.YtfcljimfpjoioabWWords
import Derived.Test.YtfcljimfpjoioabWLast
import Derived.Test.YtfcljimfpjoioabWTab
import Derived.Test.YtfcljimfpjoioabWFour
import Derived.Test.YtfcljimfpjoioabWQPut
import Derived.Test.YtfcljimfpjoioabWApart
import Derived.Test.YtfcljimfpjoioabWArr
import Derived.Test.YtfcljimfpjoioabWZeros
import Derived.Test.YtfcljimfpjoioabWFoot
import Derived.Test.YtfcljimfpjoioabWKept
import Derived.Test.YtfcljimfpjoioabWShare
import Derived.Test.YtfcljimfpjoioabWN
import Derived.Test.YtfcljimfpjoioabWFootNe
import Derived.Test.YtfcljimfpjoioabWAt
import Derived.Test.YtfcljimfpjoioabWEqStruct
import Derived.Test.YtfcljimfpjoioabWRepsOne
import Derived.Test.YtfcljimfpjoioabWInv
import Derived.Test.YtfcljimfpjoioabWInvWords
import Derived.Test.YtfcljimfpjoioabWGuard
import Derived.Test.YtfcljimfpjoioabWNEv
import Derived.Test.YtfcljimfpjoioabWMore
import Derived.Test.YtfcljimfpjoioabWFlt
namespace Go.Proofs.Ytfcljimfpjoioab.PFnExactEffort
open Go.RowKit Go.Proofs.YtfcljimfpjoioabW.PrintWords Go.Proofs.YtfcljimfpjoioabW.PrintLast Go.Proofs.YtfcljimfpjoioabW.PrintMore
attribute [local go_sem] run_fl binOp_feq binOp_fne binOp_flt binOp_fle binOp_fgt binOp_fge run_store_f64 run_conv_f64
attribute [local go_sem] max2_int min2_int max_two min_two max_three min_three max_four min_four   -- for this text's walks alone
set_option linter.unusedVariables false
set_option linter.unusedSimpArgs false



def errW : Option Int → Value
  | none => .nilIface
  | some c => .iface 0 (.int .i64 c)
theorem errW_none : errW none = .nilIface := rfl
theorem errW_some (c : Int) : errW (some c) = .iface 0 (.int .i64 c) := rfl

-- the values' own types

end Go.Proofs.Ytfcljimfpjoioab.PFnExactEffort
