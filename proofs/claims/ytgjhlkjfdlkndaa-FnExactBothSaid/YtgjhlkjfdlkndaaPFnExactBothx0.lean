-- Written by a program of this session (wip/tools/fltprint.py: the kit's printer, taught more).
import Derived.Test.YtgjhlkjfdlkndaaProg
import Derived.Below
import Derived.Deep.Draws
import Derived.Deep.AppendLies
import Derived.Maps.AppendAt
import Derived.OwnWalk
import Derived.Laws.BytesArg
import Derived.Laws.MakeOwn
import Derived.Laws.OwnMore
import Derived.Deep.OwnRows
import Derived.Tactics
import Derived.Lib.ConvBytes
import Derived.Laws.Slices
import Derived.WalkKit
import Derived.KernelRfl
import Derived.RowKit3
import Derived.Deep.LoopGhost
import Derived.Deep.QuietTactic
import Derived.BigQuiet
import Derived.WideLaws
import Derived.Deep.DeepCutAuto
import Derived.Deep.CutBlock
import Derived.Deep.RegionHeld3
import Derived.Laws.Rows
import Derived.Lib.AppendStr
import Derived.ArgAppend
import Derived.Laws.IdiomCopy
import Derived.OrdersHeld
import Derived.Laws.BitsLemmas
import Derived.RowKit
import Derived.Test.YtgjhlkjfdlkndaaVFnExactBothWords
import Derived.Test.YtgjhlkjfdlkndaaVFnExactBothLast
import Derived.Test.YtgjhlkjfdlkndaaVFnExactBothTab
import Derived.Test.YtgjhlkjfdlkndaaVFnExactBothFour
import Derived.Test.YtgjhlkjfdlkndaaVFnExactBothQPut
import Derived.Test.YtgjhlkjfdlkndaaVFnExactBothApart
import Derived.Test.YtgjhlkjfdlkndaaVFnExactBothArr
import Derived.Test.YtgjhlkjfdlkndaaVFnExactBothZeros
import Derived.Test.YtgjhlkjfdlkndaaVFnExactBothFoot
import Derived.Test.YtgjhlkjfdlkndaaVFnExactBothKept
import Derived.Test.YtgjhlkjfdlkndaaVFnExactBothShare
import Derived.Test.YtgjhlkjfdlkndaaVFnExactBothN
import Derived.Test.YtgjhlkjfdlkndaaVFnExactBothFootNe
import Derived.Test.YtgjhlkjfdlkndaaVFnExactBothAt
import Derived.Test.YtgjhlkjfdlkndaaVFnExactBothEqStruct
import Derived.Test.YtgjhlkjfdlkndaaVFnExactBothRepsOne
import Derived.Test.YtgjhlkjfdlkndaaVFnExactBothInv
import Derived.Test.YtgjhlkjfdlkndaaVFnExactBothInvWords
import Derived.Test.YtgjhlkjfdlkndaaVFnExactBothGuard
import Derived.Test.YtgjhlkjfdlkndaaVFnExactBothNEv
import Derived.Test.YtgjhlkjfdlkndaaVFnExactBothMore
namespace Go.Proofs.Ytgjhlkjfdlkndaa.PFnExactBoth
open Go.RowKit Go.Proofs.YtgjhlkjfdlkndaaW.PrintWords Go.Proofs.YtgjhlkjfdlkndaaW.PrintLast Go.Proofs.YtgjhlkjfdlkndaaW.PrintMore
attribute [local go_sem] max2_int min2_int max_two min_two max_three min_three max_four min_four   -- for this text's walks alone
set_option linter.unusedVariables false
set_option linter.unusedSimpArgs false



def errW : Option Int → Value
  | none => .nilIface
  | some c => .iface 0 (.int .i64 c)
theorem errW_none : errW none = .nilIface := rfl
theorem errW_some (c : Int) : errW (some c) = .iface 0 (.int .i64 c) := rfl

theorem info3 : (Try.prog.info? 3).map (fun i => (i.zero, i.size, i.bytes)) = some (some (.int .i64 0), 1, 8) := by kernel_rfl
-- the values' own types

end Go.Proofs.Ytgjhlkjfdlkndaa.PFnExactBoth
