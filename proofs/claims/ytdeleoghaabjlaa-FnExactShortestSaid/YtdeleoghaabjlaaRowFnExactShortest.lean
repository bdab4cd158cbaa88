/- The pure statement of the law FnExactShortest: for all arguments that its types allow, some number of rounds answers true. -/
import Derived.Test.YtdeleoghaabjlaaPFnExactShortestx8
namespace Go.Proofs.Ytdeleoghaabjlaa.PFnExactShortest
open Go.RowKit Go.Proofs.YtdeleoghaabjlaaW.PrintWords
def laws_FnExactShortest.Pure : Prop := ∀ (a0_0 : Int) (l0_1 : (List S81)) (a1 : Int) (a2 : Int), (Lit.int .i64 a0_0).wf = true → (l0_1.length ≤ maxLen ∧ ∀ y ∈ l0_1, ((Lit.int .i64 y.f0).wf = true ∧ (Lit.int .i64 y.f1).wf = true ∧ (Lit.int .i64 y.f2).wf = true ∧ (Lit.int .i64 y.f3).wf = true)) → (Lit.int .i64 a1).wf = true → (Lit.int .i64 a2).wf = true → ∃ k, laws_FnExactShortest.f k a0_0 l0_1 a1 a2 = some true
end Go.Proofs.Ytdeleoghaabjlaa.PFnExactShortest
