/- The pure statement of the law FnExactCarOk: for all arguments that its types allow, some number of rounds answers true. -/
import Derived.Test.YtfcljimfpjoioaaPFnExactCarOkx1
namespace Go.Proofs.Ytfcljimfpjoioaa.PFnExactCarOk
open Go.RowKit Go.Proofs.YtfcljimfpjoioaaW.PrintWords
def laws_FnExactCarOk.Pure : Prop := ∀ (a0_0 : Nat) (a0_1 : Nat) (a0_2 : Nat) (a0_3 : Nat), (Lit.float .f64 a0_0).wf = true → (Lit.float .f64 a0_1).wf = true → (Lit.float .f64 a0_2).wf = true → (Lit.float .f64 a0_3).wf = true → laws_FnExactCarOk.f a0_0 a0_1 a0_2 a0_3 = some true
end Go.Proofs.Ytfcljimfpjoioaa.PFnExactCarOk
