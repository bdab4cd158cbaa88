/- The pure statement of the law FnExactTakenBy: for all arguments that its types allow, some number of rounds answers true. -/
import Derived.Test.YtcceefojngmpjaaPFnExactTakenByx4
namespace Go.Proofs.Ytcceefojngmpjaa.PFnExactTakenBy
open Go.RowKit Go.Proofs.YtcceefojngmpjaaW.PrintWords
def laws_FnExactTakenBy.Pure : Prop := ∀ (a0 : Int) (l1 : (List S57)), (Lit.int .i64 a0).wf = true → (l1.length ≤ maxLen ∧ ∀ y ∈ l1, ((Lit.int .i64 y.f0).wf = true ∧ (Lit.int .i64 y.f1).wf = true)) → ∃ k, laws_FnExactTakenBy.f k a0 l1 = some true
end Go.Proofs.Ytcceefojngmpjaa.PFnExactTakenBy
