/- The pure statement of the law FnSignal: for all arguments that its types allow, some number of rounds answers true. -/
import Derived.Test.YtcceefojngmpjaaPFnSignalx4
namespace Go.Proofs.Ytcceefojngmpjaa.PFnSignal
open Go.RowKit Go.Proofs.YtcceefojngmpjaaW.PrintWords
def laws_FnSignal.PureR : Prop := ∀ (l0 : (List Int)), (l0.length ≤ maxLen ∧ ∀ y ∈ l0, (Lit.int .u8 y).wf = true) → ∃ k, laws_FnSignal.f k l0 = some true
end Go.Proofs.Ytcceefojngmpjaa.PFnSignal
