/- The pure statement of the law FnExactResist: for all arguments that its types allow, some number of rounds answers true. -/
import Derived.Test.YtfcljimfpjoioabPFnExactResistx1
namespace Go.Proofs.Ytfcljimfpjoioab.PFnExactResist
open Go.RowKit Go.Proofs.YtfcljimfpjoioabW.PrintWords
def laws_FnExactResist.Pure : Prop := ∀ (a0_0 : Nat) (a0_1 : Nat) (a0_2 : Nat) (a0_3 : Nat) (a1 : Nat), (Lit.float .f64 a0_0).wf = true → (Lit.float .f64 a0_1).wf = true → (Lit.float .f64 a0_2).wf = true → (Lit.float .f64 a0_3).wf = true → (Lit.float .f64 a1).wf = true → ∃ k, laws_FnExactResist.f k a0_0 a0_1 a0_2 a0_3 a1 = some true
end Go.Proofs.Ytfcljimfpjoioab.PFnExactResist
