/- The pure statement of the law FnExactFreeFrom: for all arguments that its types allow, some number of rounds answers true. -/
import Derived.Test.YtfcljimfpjoioabPFnExactFreeFromx1
namespace Go.Proofs.Ytfcljimfpjoioab.PFnExactFreeFrom
open Go.RowKit Go.Proofs.YtfcljimfpjoioabW.PrintWords
def laws_FnExactFreeFrom.Pure : Prop := ∀ (l0 : (List Bool)) (a1 : Int), (l0.length ≤ maxLen ∧ ∀ y ∈ l0, True) → (Lit.int .i64 a1).wf = true → ∃ k, laws_FnExactFreeFrom.f k l0 a1 = some true
end Go.Proofs.Ytfcljimfpjoioab.PFnExactFreeFrom
