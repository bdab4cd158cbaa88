/- The pure statement of the law FnBlocks: for all arguments that its types allow, some number of rounds answers true. -/
import Derived.Test.YtcceefojngmpjaaPFnBlocksx5
namespace Go.Proofs.Ytcceefojngmpjaa.PFnBlocks
open Go.RowKit Go.Proofs.YtcceefojngmpjaaW.PrintWords
def laws_FnBlocks.PureR : Prop := ∀ (l0 : (List Int)), (l0.length ≤ maxLen ∧ ∀ y ∈ l0, (Lit.int .u8 y).wf = true) → ∃ k, laws_FnBlocks.f k l0 = some true
end Go.Proofs.Ytcceefojngmpjaa.PFnBlocks
