/- The pure statement of the law FnExactBoth: for all arguments that its types allow, some number of rounds answers true. -/
import Derived.Test.YtgjhlkjfdlkndaaPFnExactBothx9
namespace Go.Proofs.Ytgjhlkjfdlkndaa.PFnExactBoth
open Go.RowKit Go.Proofs.YtgjhlkjfdlkndaaW.PrintWords
def laws_FnExactBoth.Pure : Prop := ∀ (a0_0 : Int) (a0_1 : Int) (a0_2 : Int) (l0_3 : (List Int)) (l0_4 : (List Int)) (a1_0 : Int) (a1_1 : Int) (a1_2 : Int) (l1_3 : (List Int)) (l1_4 : (List Int)), (Lit.int .i64 a0_0).wf = true → (Lit.int .i64 a0_1).wf = true → (Lit.int .i64 a0_2).wf = true → (l0_3.length ≤ maxLen ∧ ∀ y ∈ l0_3, (Lit.int .i64 y).wf = true) → (l0_4.length ≤ maxLen ∧ ∀ y ∈ l0_4, (Lit.int .i64 y).wf = true) → (Lit.int .i64 a1_0).wf = true → (Lit.int .i64 a1_1).wf = true → (Lit.int .i64 a1_2).wf = true → (l1_3.length ≤ maxLen ∧ ∀ y ∈ l1_3, (Lit.int .i64 y).wf = true) → (l1_4.length ≤ maxLen ∧ ∀ y ∈ l1_4, (Lit.int .i64 y).wf = true) → ∃ k, laws_FnExactBoth.f k a0_0 a0_1 a0_2 l0_3 l0_4 a1_0 a1_1 a1_2 l1_3 l1_4 = some true
end Go.Proofs.Ytgjhlkjfdlkndaa.PFnExactBoth
