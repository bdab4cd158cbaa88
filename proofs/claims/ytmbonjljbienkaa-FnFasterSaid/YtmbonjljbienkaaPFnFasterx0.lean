-- Written by a program of this session (wip/tools/fltprint.py: the kit's printer, taught more).
import Derived.Test.YtmbonjljbienkaaProg
import Derived.Below
import Derived.Deep.Draws
import Derived.Deep.AppendLies
import Derived.Maps.AppendAt
import Derived.OwnWalk
import Derived.Laws.BytesArg
import Derived.Laws.MakeOwn
import Derived.Laws.OwnMore
import Derived.Deep.OwnRows
import Derived.Tactics
import Derived.Lib.ConvBytes
import Derived.Laws.Slices
import Derived.WalkKit
import Derived.KernelRfl
import Derived.RowKit3
import Derived.Deep.LoopGhost
import Derived.Deep.QuietTactic
import Derived.BigQuiet
import Derived.WideLaws
import Derived.Deep.DeepCutAuto
import Derived.Deep.CutBlock
import Derived.Deep.RegionHeld3
import Derived.Laws.Rows
import Derived.Lib.AppendStr
import Derived.ArgAppend
import Derived.Laws.IdiomCopy
import Derived.OrdersHeld
import Derived.Laws.BitsLemmas
import Derived.RowKit
import Derived.Test.YtmbonjljbienkaaVFnFasterWords
import Derived.Test.YtmbonjljbienkaaVFnFasterLast
import Derived.Test.YtmbonjljbienkaaVFnFasterTab
import Derived.Test.YtmbonjljbienkaaVFnFasterFour
import Derived.Test.YtmbonjljbienkaaVFnFasterQPut
import Derived.Test.YtmbonjljbienkaaVFnFasterApart
import Derived.Test.YtmbonjljbienkaaVFnFasterArr
import Derived.Test.YtmbonjljbienkaaVFnFasterZeros
import Derived.Test.YtmbonjljbienkaaVFnFasterFoot
import Derived.Test.YtmbonjljbienkaaVFnFasterKept
import Derived.Test.YtmbonjljbienkaaVFnFasterShare
import Derived.Test.YtmbonjljbienkaaVFnFasterN
import Derived.Test.YtmbonjljbienkaaVFnFasterFootNe
import Derived.Test.YtmbonjljbienkaaVFnFasterAt
import Derived.Test.YtmbonjljbienkaaVFnFasterEqStruct
import Derived.Test.YtmbonjljbienkaaVFnFasterRepsOne
import Derived.Test.YtmbonjljbienkaaVFnFasterInv
import Derived.Test.YtmbonjljbienkaaVFnFasterInvWords
import Derived.Test.YtmbonjljbienkaaVFnFasterGuard
import Derived.Test.YtmbonjljbienkaaVFnFasterNEv
import Derived.Test.YtmbonjljbienkaaVFnFasterMore
namespace Go.Proofs.Ytmbonjljbienkaa.PFnFaster
open Go.RowKit Go.Proofs.YtmbonjljbienkaaW.PrintWords Go.Proofs.YtmbonjljbienkaaW.PrintLast Go.Proofs.YtmbonjljbienkaaW.PrintMore
attribute [local go_sem] max2_int min2_int max_two min_two max_three min_three max_four min_four   -- for this text's walks alone
set_option linter.unusedVariables false
set_option linter.unusedSimpArgs false



def errW : Option Int → Value
  | none => .nilIface
  | some c => .iface 0 (.int .i64 c)
theorem errW_none : errW none = .nilIface := rfl
theorem errW_some (c : Int) : errW (some c) = .iface 0 (.int .i64 c) := rfl

theorem info3 : (Try.prog.info? 3).map (fun i => (i.zero, i.size, i.bytes)) = some (some (.int .i64 0), 1, 8) := by kernel_rfl
-- the values' own types

end Go.Proofs.Ytmbonjljbienkaa.PFnFaster
