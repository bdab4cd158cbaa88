/- The pure statement of the law FnFaster: for all arguments that its types allow, some number of rounds answers true. -/
import Derived.Test.YtmbonjljbienkaaPFnFasterx6
namespace Go.Proofs.Ytmbonjljbienkaa.PFnFaster
open Go.RowKit Go.Proofs.YtmbonjljbienkaaW.PrintWords
def laws_FnFaster.PureR : Prop := ∀ (l0 : (List Int)), (l0.length ≤ maxLen ∧ ∀ y ∈ l0, (Lit.int .u8 y).wf = true) → ∃ k, laws_FnFaster.f k l0 = some true
end Go.Proofs.Ytmbonjljbienkaa.PFnFaster
