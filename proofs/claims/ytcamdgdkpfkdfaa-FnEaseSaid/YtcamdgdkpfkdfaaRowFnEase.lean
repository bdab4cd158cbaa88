/- The pure statement of the law FnEase: for all arguments that its types allow, some number of rounds answers true. -/
import Derived.Test.YtcamdgdkpfkdfaaPFnEasex5
namespace Go.Proofs.Ytcamdgdkpfkdfaa.PFnEase
open Go.RowKit Go.Proofs.YtcamdgdkpfkdfaaW.PrintWords
def laws_FnEase.PureR : Prop := ∀ (l0 : (List Int)), (l0.length ≤ maxLen ∧ ∀ y ∈ l0, (Lit.int .u8 y).wf = true) → ∃ k, laws_FnEase.f k l0 = some true
end Go.Proofs.Ytcamdgdkpfkdfaa.PFnEase
