/- The pure statement of the law FnExactForward: for all arguments that its types allow, some number of rounds answers true. -/
import Derived.Test.YtcceefojngmpjaaPFnExactForwardx6
namespace Go.Proofs.Ytcceefojngmpjaa.PFnExactForward
open Go.RowKit Go.Proofs.YtcceefojngmpjaaW.PrintWords
def laws_FnExactForward.Pure : Prop := ∀ (a0 : Int) (l1 : (List S57)) (a2 : Int) (a3 : Int), (Lit.int .i64 a0).wf = true → (l1.length ≤ maxLen ∧ ∀ y ∈ l1, ((Lit.int .i64 y.f0).wf = true ∧ (Lit.int .i64 y.f1).wf = true)) → (Lit.int .i64 a2).wf = true → (Lit.int .i64 a3).wf = true → ∃ k, laws_FnExactForward.f k a0 l1 a2 a3 = some true
end Go.Proofs.Ytcceefojngmpjaa.PFnExactForward
