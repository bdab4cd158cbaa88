-- Written by a program of this session (wip/tools/fltprint.py: the kit's printer, taught more).
import Derived.Test.YtajphnjooknjdaaProg
import Derived.Below
import Derived.Deep.Draws
import Derived.Deep.AppendLies
import Derived.Maps.AppendAt
import Derived.OwnWalk
import Derived.Laws.BytesArg
import Derived.Laws.MakeOwn
import Derived.Laws.OwnMore
import Derived.Deep.OwnRows
import Derived.Tactics
import Derived.Lib.ConvBytes
import Derived.Laws.Slices
import Derived.WalkKit
import Derived.KernelRfl
import Derived.RowKit3
import Derived.Deep.LoopGhost
import Derived.Deep.QuietTactic
import Derived.BigQuiet
import Derived.WideLaws
import Derived.Deep.DeepCutAuto
import Derived.Deep.CutBlock
import Derived.Deep.RegionHeld3
import Derived.Laws.Rows
import Derived.Lib.AppendStr
import Derived.ArgAppend
import Derived.Laws.IdiomCopy
import Derived.OrdersHeld
import Derived.Laws.BitsLemmas
import Derived.RowKit
import Derived.Test.YtajphnjooknjdaaWWords
import Derived.Test.YtajphnjooknjdaaWLast
import Derived.Test.YtajphnjooknjdaaWTab
import Derived.Test.YtajphnjooknjdaaWFour
import Derived.Test.YtajphnjooknjdaaWQPut
import Derived.Test.YtajphnjooknjdaaWApart
import Derived.Test.YtajphnjooknjdaaWArr
import Derived.Test.YtajphnjooknjdaaWZeros
import Derived.Test.YtajphnjooknjdaaWFoot
import Derived.Test.YtajphnjooknjdaaWKept
import Derived.Test.YtajphnjooknjdaaWShare
import Derived.Test.YtajphnjooknjdaaWN
import Derived.Test.YtajphnjooknjdaaWFootNe
import Derived.Test.YtajphnjooknjdaaWAt
import Derived.Test.YtajphnjooknjdaaWEqStruct
import Derived.Test.YtajphnjooknjdaaWRepsOne
import Derived.Test.YtajphnjooknjdaaWInv
import Derived.Test.YtajphnjooknjdaaWInvWords
import Derived.Test.YtajphnjooknjdaaWGuard
import Derived.Test.YtajphnjooknjdaaWNEv
import Derived.Test.YtajphnjooknjdaaWMore
import Derived.Test.YtajphnjooknjdaaWFlt
namespace Go.Proofs.Ytajphnjooknjdaa.PFnExactJoules
open Go.RowKit Go.Proofs.YtajphnjooknjdaaW.PrintWords Go.Proofs.YtajphnjooknjdaaW.PrintLast Go.Proofs.YtajphnjooknjdaaW.PrintMore
attribute [local go_sem] run_fl binOp_feq binOp_fne binOp_flt binOp_fle binOp_fgt binOp_fge run_store_f64 run_conv_f64
attribute [local go_sem] max2_int min2_int max_two min_two max_three min_three max_four min_four   -- for this text's walks alone
set_option linter.unusedVariables false
set_option linter.unusedSimpArgs false



def errW : Option Int → Value
  | none => .nilIface
  | some c => .iface 0 (.int .i64 c)
theorem errW_none : errW none = .nilIface := rfl
theorem errW_some (c : Int) : errW (some c) = .iface 0 (.int .i64 c) := rfl

theorem info22 : (Try.prog.info? 22).map (fun i => (i.zero, i.size, i.bytes)) = some (some (.float .f64 0), 1, 8) := by kernel_rfl
-- the values' own types

end Go.Proofs.Ytajphnjooknjdaa.PFnExactJoules
