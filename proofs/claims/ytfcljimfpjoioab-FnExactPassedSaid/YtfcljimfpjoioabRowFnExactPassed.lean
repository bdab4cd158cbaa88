/- The pure statement of the law FnExactPassed: for all arguments that its types allow, some number of rounds answers true. -/
import Derived.Test.YtfcljimfpjoioabPFnExactPassedx2
namespace Go.Proofs.Ytfcljimfpjoioab.PFnExactPassed
open Go.RowKit Go.Proofs.YtfcljimfpjoioabW.PrintWords
def laws_FnExactPassed.PureR : Prop := ∀ (l0 : (List Int)) (l1 : (List Int)), (l0.length ≤ maxLen ∧ ∀ y ∈ l0, (Lit.int .i64 y).wf = true) → (l1.length ≤ maxLen ∧ ∀ y ∈ l1, (Lit.int .i64 y).wf = true) → ∃ k, laws_FnExactPassed.f k l0 l1 = some true
end Go.Proofs.Ytfcljimfpjoioab.PFnExactPassed
