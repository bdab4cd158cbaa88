/- The pure statement of the law FnBoth: for all arguments that its types allow, some number of rounds answers true. -/
import Derived.Test.YtgjhlkjfdlkndaaPFnBothx11
namespace Go.Proofs.Ytgjhlkjfdlkndaa.PFnBoth
open Go.RowKit Go.Proofs.YtgjhlkjfdlkndaaW.PrintWords
def laws_FnBoth.PureR : Prop := ∀ (l0 : (List Int)), (l0.length ≤ maxLen ∧ ∀ y ∈ l0, (Lit.int .u8 y).wf = true) → ∃ k, laws_FnBoth.f k l0 = some true
end Go.Proofs.Ytgjhlkjfdlkndaa.PFnBoth
