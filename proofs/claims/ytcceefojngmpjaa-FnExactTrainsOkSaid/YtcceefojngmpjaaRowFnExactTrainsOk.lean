/- The pure statement of the law FnExactTrainsOk: for all arguments that its types allow, some number of rounds answers true. -/
import Derived.Test.YtcceefojngmpjaaPFnExactTrainsOkx2
namespace Go.Proofs.Ytcceefojngmpjaa.PFnExactTrainsOk
open Go.RowKit Go.Proofs.YtcceefojngmpjaaW.PrintWords
def laws_FnExactTrainsOk.Pure : Prop := ∀ (a0 : Int) (l1 : (List S57)), (Lit.int .i64 a0).wf = true → (l1.length ≤ maxLen ∧ ∀ y ∈ l1, ((Lit.int .i64 y.f0).wf = true ∧ (Lit.int .i64 y.f1).wf = true)) → ∃ k, laws_FnExactTrainsOk.f k a0 l1 = some true
end Go.Proofs.Ytcceefojngmpjaa.PFnExactTrainsOk
