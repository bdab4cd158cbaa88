/- The pure statement of the law FnExactLocoOk: for all arguments that its types allow, some number of rounds answers true. -/
import Derived.Test.YtfcljimfpjoioaaPFnExactLocoOkx1
namespace Go.Proofs.Ytfcljimfpjoioaa.PFnExactLocoOk
open Go.RowKit Go.Proofs.YtfcljimfpjoioaaW.PrintWords
def laws_FnExactLocoOk.Pure : Prop := ∀ (a0_0 : Nat) (a0_1 : Nat), (Lit.float .f64 a0_0).wf = true → (Lit.float .f64 a0_1).wf = true → laws_FnExactLocoOk.f a0_0 a0_1 = some true
end Go.Proofs.Ytfcljimfpjoioaa.PFnExactLocoOk
