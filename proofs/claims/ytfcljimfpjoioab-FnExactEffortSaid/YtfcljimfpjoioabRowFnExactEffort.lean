/- The pure statement of the law FnExactEffort: for all arguments that its types allow, some number of rounds answers true. -/
import Derived.Test.YtfcljimfpjoioabPFnExactEffortx1
namespace Go.Proofs.Ytfcljimfpjoioab.PFnExactEffort
open Go.RowKit Go.Proofs.YtfcljimfpjoioabW.PrintWords
def laws_FnExactEffort.Pure : Prop := ∀ (a0_0 : Nat) (a0_1 : Nat) (a1 : Nat), (Lit.float .f64 a0_0).wf = true → (Lit.float .f64 a0_1).wf = true → (Lit.float .f64 a1).wf = true → ∃ k, laws_FnExactEffort.f k a0_0 a0_1 a1 = some true
end Go.Proofs.Ytfcljimfpjoioab.PFnExactEffort
