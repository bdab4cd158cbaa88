/- The pure statement of the law FnWays: for all arguments that its types allow, some number of rounds answers true. -/
import Derived.Test.YtdeleoghaabjlaaPFnWaysx11
namespace Go.Proofs.Ytdeleoghaabjlaa.PFnWays
open Go.RowKit Go.Proofs.YtdeleoghaabjlaaW.PrintWords
def laws_FnWays.PureR : Prop := ∀ (l0 : (List Int)), (l0.length ≤ maxLen ∧ ∀ y ∈ l0, (Lit.int .u8 y).wf = true) → ∃ k, laws_FnWays.f k l0 = some true
end Go.Proofs.Ytdeleoghaabjlaa.PFnWays
