/- The pure statement of the law FnExactMotorOk: for all arguments that its types allow, some number of rounds answers true. -/
import Derived.Test.YtfcljimfpjoioaaPFnExactMotorOkx1
namespace Go.Proofs.Ytfcljimfpjoioaa.PFnExactMotorOk
open Go.RowKit Go.Proofs.YtfcljimfpjoioaaW.PrintWords
def laws_FnExactMotorOk.Pure : Prop := ∀ (a0_0 : Int) (a0_1 : Int) (a0_2 : Int), (Lit.int .i64 a0_0).wf = true → (Lit.int .i64 a0_1).wf = true → (Lit.int .i64 a0_2).wf = true → laws_FnExactMotorOk.f a0_0 a0_1 a0_2 = some true
end Go.Proofs.Ytfcljimfpjoioaa.PFnExactMotorOk
