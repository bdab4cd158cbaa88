-- Written by a program of this session (wip/tools/fltprint.py: the kit's printer, taught more).
import Derived.Test.YtgjhlkjfdlkndaaProg
import Derived.Below
import Derived.Deep.Draws
import Derived.Deep.AppendLies
import Derived.Maps.AppendAt
import Derived.OwnWalk
import Derived.Laws.BytesArg
import Derived.Laws.MakeOwn
import Derived.Laws.OwnMore
import Derived.Deep.OwnRows
import Derived.Tactics
import Derived.Lib.ConvBytes
import Derived.Laws.Slices
import Derived.WalkKit
import Derived.KernelRfl
import Derived.RowKit3
import Derived.Deep.LoopGhost
import Derived.Deep.QuietTactic
import Derived.BigQuiet
import Derived.WideLaws
import Derived.Deep.DeepCutAuto
import Derived.Deep.CutBlock
import Derived.Deep.RegionHeld3
import Derived.Laws.Rows
import Derived.Lib.AppendStr
import Derived.ArgAppend
import Derived.Laws.IdiomCopy
import Derived.OrdersHeld
import Derived.Laws.BitsLemmas
import Derived.RowKit
import Derived.Test.YtgjhlkjfdlkndaaVFnExactLaterWords
import Derived.Test.YtgjhlkjfdlkndaaVFnExactLaterLast
import Derived.Test.YtgjhlkjfdlkndaaVFnExactLaterTab
import Derived.Test.YtgjhlkjfdlkndaaVFnExactLaterFour
import Derived.Test.YtgjhlkjfdlkndaaVFnExactLaterQPut
import Derived.Test.YtgjhlkjfdlkndaaVFnExactLaterApart
import Derived.Test.YtgjhlkjfdlkndaaVFnExactLaterArr
import Derived.Test.YtgjhlkjfdlkndaaVFnExactLaterZeros
import Derived.Test.YtgjhlkjfdlkndaaVFnExactLaterFoot
import Derived.Test.YtgjhlkjfdlkndaaVFnExactLaterKept
import Derived.Test.YtgjhlkjfdlkndaaVFnExactLaterShare
import Derived.Test.YtgjhlkjfdlkndaaVFnExactLaterN
import Derived.Test.YtgjhlkjfdlkndaaVFnExactLaterFootNe
import Derived.Test.YtgjhlkjfdlkndaaVFnExactLaterAt
import Derived.Test.YtgjhlkjfdlkndaaVFnExactLaterEqStruct
import Derived.Test.YtgjhlkjfdlkndaaVFnExactLaterRepsOne
import Derived.Test.YtgjhlkjfdlkndaaVFnExactLaterInv
import Derived.Test.YtgjhlkjfdlkndaaVFnExactLaterInvWords
import Derived.Test.YtgjhlkjfdlkndaaVFnExactLaterGuard
import Derived.Test.YtgjhlkjfdlkndaaVFnExactLaterNEv
import Derived.Test.YtgjhlkjfdlkndaaVFnExactLaterMore
namespace Go.Proofs.Ytgjhlkjfdlkndaa.PFnExactLater
open Go.RowKit Go.Proofs.YtgjhlkjfdlkndaaW.PrintWords Go.Proofs.YtgjhlkjfdlkndaaW.PrintLast Go.Proofs.YtgjhlkjfdlkndaaW.PrintMore
attribute [local go_sem] max2_int min2_int max_two min_two max_three min_three max_four min_four   -- for this text's walks alone
set_option linter.unusedVariables false
set_option linter.unusedSimpArgs false



def errW : Option Int → Value
  | none => .nilIface
  | some c => .iface 0 (.int .i64 c)
theorem errW_none : errW none = .nilIface := rfl
theorem errW_some (c : Int) : errW (some c) = .iface 0 (.int .i64 c) := rfl

theorem info3 : (Try.prog.info? 3).map (fun i => (i.zero, i.size, i.bytes)) = some (some (.int .i64 0), 1, 8) := by kernel_rfl
-- the values' own types

end Go.Proofs.Ytgjhlkjfdlkndaa.PFnExactLater
