/- The pure statement of the law FnExactEase: for all arguments that its types allow, some number of rounds answers true. -/
import Derived.Test.YtcamdgdkpfkdfaaPFnExactEasex5
namespace Go.Proofs.Ytcamdgdkpfkdfaa.PFnExactEase
open Go.RowKit Go.Proofs.YtcamdgdkpfkdfaaW.PrintWords
def laws_FnExactEase.Pure : Prop := ∀ (a0_0 : Int) (a0_1 : Int) (a0_2 : Int) (l1 : (List Int)) (a2 : Int), (Lit.int .i64 a0_0).wf = true → (Lit.int .i64 a0_1).wf = true → (Lit.int .i64 a0_2).wf = true → (l1.length ≤ maxLen ∧ ∀ y ∈ l1, (Lit.int .i64 y).wf = true) → (Lit.int .i64 a2).wf = true → ∃ k, laws_FnExactEase.f k a0_0 a0_1 a0_2 l1 a2 = some true
end Go.Proofs.Ytcamdgdkpfkdfaa.PFnExactEase
