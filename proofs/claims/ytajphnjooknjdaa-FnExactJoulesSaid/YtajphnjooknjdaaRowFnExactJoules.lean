/- The pure statement of the law FnExactJoules: for all arguments that its types allow, some number of rounds answers true. -/
import Derived.Test.YtajphnjooknjdaaPFnExactJoulesx3
namespace Go.Proofs.Ytajphnjooknjdaa.PFnExactJoules
open Go.RowKit Go.Proofs.YtajphnjooknjdaaW.PrintWords
def laws_FnExactJoules.Pure : Prop := ∀ (a0_0 : Nat) (a0_1 : Nat) (l1 : (List Nat)) (a2 : Nat), (Lit.float .f64 a0_0).wf = true → (Lit.float .f64 a0_1).wf = true → (l1.length ≤ maxLen ∧ ∀ y ∈ l1, (Lit.float .f64 y).wf = true) → (Lit.float .f64 a2).wf = true → ∃ k, laws_FnExactJoules.f k a0_0 a0_1 l1 a2 = some true
end Go.Proofs.Ytajphnjooknjdaa.PFnExactJoules
