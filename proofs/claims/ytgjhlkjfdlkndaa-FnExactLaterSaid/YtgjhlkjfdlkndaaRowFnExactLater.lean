/- The pure statement of the law FnExactLater: for all arguments that its types allow, some number of rounds answers true. -/
import Derived.Test.YtgjhlkjfdlkndaaPFnExactLaterx7
namespace Go.Proofs.Ytgjhlkjfdlkndaa.PFnExactLater
open Go.RowKit Go.Proofs.YtgjhlkjfdlkndaaW.PrintWords
def laws_FnExactLater.Pure : Prop := ∀ (a0_0 : Int) (a0_1 : Int) (a0_2 : Int) (l0_3 : (List Int)) (l0_4 : (List Int)) (a1 : Int), (Lit.int .i64 a0_0).wf = true → (Lit.int .i64 a0_1).wf = true → (Lit.int .i64 a0_2).wf = true → (l0_3.length ≤ maxLen ∧ ∀ y ∈ l0_3, (Lit.int .i64 y).wf = true) → (l0_4.length ≤ maxLen ∧ ∀ y ∈ l0_4, (Lit.int .i64 y).wf = true) → (Lit.int .i64 a1).wf = true → ∃ k, laws_FnExactLater.f k a0_0 a0_1 a0_2 l0_3 l0_4 a1 = some true
end Go.Proofs.Ytgjhlkjfdlkndaa.PFnExactLater
