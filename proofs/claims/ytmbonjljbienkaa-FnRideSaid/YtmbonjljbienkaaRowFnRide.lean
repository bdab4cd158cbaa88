/- The pure statement of the law FnRide: for all arguments that its types allow, some number of rounds answers true. -/
import Derived.Test.YtmbonjljbienkaaPFnRidex6
namespace Go.Proofs.Ytmbonjljbienkaa.PFnRide
open Go.RowKit Go.Proofs.YtmbonjljbienkaaW.PrintWords
def laws_FnRide.PureR : Prop := ∀ (l0 : (List Int)), (l0.length ≤ maxLen ∧ ∀ y ∈ l0, (Lit.int .u8 y).wf = true) → ∃ k, laws_FnRide.f k l0 = some true
end Go.Proofs.Ytmbonjljbienkaa.PFnRide
