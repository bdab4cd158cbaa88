/- The pure statement of the law FnExactAspects: for all arguments that its types allow, some number of rounds answers true. -/
import Derived.Test.YtcceefojngmpjaaPFnExactAspectsx3
namespace Go.Proofs.Ytcceefojngmpjaa.PFnExactAspects
open Go.RowKit Go.Proofs.YtcceefojngmpjaaW.PrintWords
def laws_FnExactAspects.Pure : Prop := ∀ (l0 : (List Bool)) (a1 : Int), (l0.length ≤ maxLen ∧ ∀ y ∈ l0, True) → (Lit.int .i64 a1).wf = true → ∃ k, laws_FnExactAspects.f k l0 a1 = some true
end Go.Proofs.Ytcceefojngmpjaa.PFnExactAspects
