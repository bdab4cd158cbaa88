-- Words of the kit's printer, as far as this claim reaches them (chosen by wip/tools/prune.py).
import Derived.Test.YtmbonjljbienkaaVFnDriveTab
namespace Go.Proofs.YtmbonjljbienkaaW.PrintLast
def up (b : Nat → Bool) (i : Nat) : Nat → Bool := fun j => if j = i then true else b j
end Go.Proofs.YtmbonjljbienkaaW.PrintLast
