-- Written by a program of this session (wip/tools/fltprint.py: the kit's printer, taught more).
import Derived.Test.YtgjhlkjfdlkndaaDoorProg
import Derived.Below
import Derived.Deep.Draws
import Derived.Deep.AppendLies
import Derived.Maps.AppendAt
import Derived.OwnWalk
import Derived.Laws.BytesArg
import Derived.Laws.MakeOwn
import Derived.Laws.OwnMore
import Derived.Deep.OwnRows
import Derived.Tactics
import Derived.Lib.ConvBytes
import Derived.Laws.Slices
import Derived.WalkKit
import Derived.KernelRfl
import Derived.RowKit3
import Derived.Deep.LoopGhost
import Derived.Deep.QuietTactic
import Derived.BigQuiet
import Derived.WideLaws
import Derived.Deep.DeepCutAuto
import Derived.Deep.CutBlock
import Derived.Deep.RegionHeld3
import Derived.Laws.Rows
import Derived.Lib.AppendStr
import Derived.ArgAppend
import Derived.Laws.IdiomCopy
import Derived.OrdersHeld
import Derived.Laws.BitsLemmas
import Derived.RowKit
import Derived.Test.YtgjhlkjfdlkndaaDoorWWords
import Derived.Test.YtgjhlkjfdlkndaaDoorWLast
import Derived.Test.YtgjhlkjfdlkndaaDoorWTab
import Derived.Test.YtgjhlkjfdlkndaaDoorWFour
import Derived.Test.YtgjhlkjfdlkndaaDoorWQPut
import Derived.Test.YtgjhlkjfdlkndaaDoorWApart
import Derived.Test.YtgjhlkjfdlkndaaDoorWArr
import Derived.Test.YtgjhlkjfdlkndaaDoorWZeros
import Derived.Test.YtgjhlkjfdlkndaaDoorWFoot
import Derived.Test.YtgjhlkjfdlkndaaDoorWKept
import Derived.Test.YtgjhlkjfdlkndaaDoorWShare
import Derived.Test.YtgjhlkjfdlkndaaDoorWN
import Derived.Test.YtgjhlkjfdlkndaaDoorWFootNe
import Derived.Test.YtgjhlkjfdlkndaaDoorWAt
import Derived.Test.YtgjhlkjfdlkndaaDoorWEqStruct
import Derived.Test.YtgjhlkjfdlkndaaDoorWRepsOne
import Derived.Test.YtgjhlkjfdlkndaaDoorWInv
import Derived.Test.YtgjhlkjfdlkndaaDoorWInvWords
import Derived.Test.YtgjhlkjfdlkndaaDoorWGuard
import Derived.Test.YtgjhlkjfdlkndaaDoorWNEv
import Derived.Test.YtgjhlkjfdlkndaaDoorWMore
import Derived.Test.YtgjhlkjfdlkndaaDoorItoa
namespace Go.Proofs.YtgjhlkjfdlkndaaDoor.PFnTimes
open Go.RowKit Go.Proofs.YtgjhlkjfdlkndaaDoorW.PrintWords Go.Proofs.YtgjhlkjfdlkndaaDoorW.PrintLast Go.Proofs.YtgjhlkjfdlkndaaDoorW.PrintMore
attribute [local go_sem] max2_int min2_int max_two min_two max_three min_three max_four min_four   -- for this text's walks alone
set_option linter.unusedVariables false
set_option linter.unusedSimpArgs false



def errW : Option Int → Value
  | none => .nilIface
  | some c => .iface 0 (.int .i64 c)
theorem errW_none : errW none = .nilIface := rfl
theorem errW_some (c : Int) : errW (some c) = .iface 0 (.int .i64 c) := rfl

-- the values' own types

end Go.Proofs.YtgjhlkjfdlkndaaDoor.PFnTimes
