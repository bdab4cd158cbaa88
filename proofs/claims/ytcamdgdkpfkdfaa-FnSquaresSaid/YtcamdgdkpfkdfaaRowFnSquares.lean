/- The pure statement of the law FnSquares: for all arguments that its types allow, some number of rounds answers true. -/
import Derived.Test.YtcamdgdkpfkdfaaPFnSquaresx5
namespace Go.Proofs.Ytcamdgdkpfkdfaa.PFnSquares
open Go.RowKit Go.Proofs.YtcamdgdkpfkdfaaW.PrintWords
def laws_FnSquares.PureR : Prop := ∀ (l0 : (List Int)), (l0.length ≤ maxLen ∧ ∀ y ∈ l0, (Lit.int .u8 y).wf = true) → ∃ k, laws_FnSquares.f k l0 = some true
end Go.Proofs.Ytcamdgdkpfkdfaa.PFnSquares
