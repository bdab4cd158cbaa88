/- The pure statement of the law FnParts: for all arguments that its types allow, some number of rounds answers true. -/
import Derived.Test.YtdeleoghaabjlaaPFnPartsx5
namespace Go.Proofs.Ytdeleoghaabjlaa.PFnParts
open Go.RowKit Go.Proofs.YtdeleoghaabjlaaW.PrintWords
def laws_FnParts.PureR : Prop := ∀ (l0 : (List Int)), (l0.length ≤ maxLen ∧ ∀ y ∈ l0, (Lit.int .u8 y).wf = true) → ∃ k, laws_FnParts.f k l0 = some true
end Go.Proofs.Ytdeleoghaabjlaa.PFnParts
