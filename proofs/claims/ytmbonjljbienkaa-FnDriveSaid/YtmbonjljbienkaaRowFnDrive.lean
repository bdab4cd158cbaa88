/- The pure statement of the law FnDrive: for all arguments that its types allow, some number of rounds answers true. -/
import Derived.Test.YtmbonjljbienkaaPFnDrivex9
namespace Go.Proofs.Ytmbonjljbienkaa.PFnDrive
open Go.RowKit Go.Proofs.YtmbonjljbienkaaW.PrintWords
def laws_FnDrive.PureR : Prop := ∀ (l0 : (List Int)), (l0.length ≤ maxLen ∧ ∀ y ∈ l0, (Lit.int .u8 y).wf = true) → ∃ k, laws_FnDrive.f k l0 = some true
end Go.Proofs.Ytmbonjljbienkaa.PFnDrive
