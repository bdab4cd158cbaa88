/- The pure statement of the law FnLater: for all arguments that its types allow, some number of rounds answers true. -/
import Derived.Test.YtgjhlkjfdlkndaaPFnLaterx9
namespace Go.Proofs.Ytgjhlkjfdlkndaa.PFnLater
open Go.RowKit Go.Proofs.YtgjhlkjfdlkndaaW.PrintWords
def laws_FnLater.PureR : Prop := ∀ (l0 : (List Int)), (l0.length ≤ maxLen ∧ ∀ y ∈ l0, (Lit.int .u8 y).wf = true) → ∃ k, laws_FnLater.f k l0 = some true
end Go.Proofs.Ytgjhlkjfdlkndaa.PFnLater
