/- The pure statement of the law FnRoots: for all arguments that its types allow, some number of rounds answers true. -/
import Derived.Test.YtfcljimfpjoioaaPFnRootsx1
namespace Go.Proofs.Ytfcljimfpjoioaa.PFnRoots
open Go.RowKit Go.Proofs.YtfcljimfpjoioaaW.PrintWords
def laws_FnRoots.PureR : Prop := ∀ (l0 : (List Int)), (l0.length ≤ maxLen ∧ ∀ y ∈ l0, (Lit.int .u8 y).wf = true) → ∃ k, laws_FnRoots.f k l0 = some true
end Go.Proofs.Ytfcljimfpjoioaa.PFnRoots
