/- The pure statement of the law FnExactInRange: for all arguments that its types allow, some number of rounds answers true. -/
import Derived.Test.YtfcljimfpjoioaaPFnExactInRangex1
namespace Go.Proofs.Ytfcljimfpjoioaa.PFnExactInRange
open Go.RowKit Go.Proofs.YtfcljimfpjoioaaW.PrintWords
def laws_FnExactInRange.Pure : Prop := ∀ (a0 : Nat) (a1 : Nat) (a2 : Nat), (Lit.float .f64 a0).wf = true → (Lit.float .f64 a1).wf = true → (Lit.float .f64 a2).wf = true → laws_FnExactInRange.f a0 a1 a2 = some true
end Go.Proofs.Ytfcljimfpjoioaa.PFnExactInRange
