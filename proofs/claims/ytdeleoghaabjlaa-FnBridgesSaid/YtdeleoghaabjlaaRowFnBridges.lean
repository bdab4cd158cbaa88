/- The pure statement of the law FnBridges: for all arguments that its types allow, some number of rounds answers true. -/
import Derived.Test.YtdeleoghaabjlaaPFnBridgesx12
namespace Go.Proofs.Ytdeleoghaabjlaa.PFnBridges
open Go.RowKit Go.Proofs.YtdeleoghaabjlaaW.PrintWords
def laws_FnBridges.PureR : Prop := ∀ (l0 : (List Int)), (l0.length ≤ maxLen ∧ ∀ y ∈ l0, (Lit.int .u8 y).wf = true) → ∃ k, laws_FnBridges.f k l0 = some true
end Go.Proofs.Ytdeleoghaabjlaa.PFnBridges
