/- The pure statement of the law FnExactBalance: for all arguments that its types allow, some number of rounds answers true. -/
import Derived.Test.YtajphnjooknjdaaPFnExactBalancex4
namespace Go.Proofs.Ytajphnjooknjdaa.PFnExactBalance
open Go.RowKit Go.Proofs.YtajphnjooknjdaaW.PrintWords
def laws_FnExactBalance.Pure : Prop := ∀ (a0_0 : Nat) (a0_1 : Nat) (l1 : (List S63)) (a2 : Nat), (Lit.float .f64 a0_0).wf = true → (Lit.float .f64 a0_1).wf = true → (l1.length ≤ maxLen ∧ ∀ y ∈ l1, ((Lit.float .f64 y.f0).wf = true ∧ (Lit.float .f64 y.f1).wf = true ∧ (Lit.float .f64 y.f2).wf = true ∧ (Lit.float .f64 y.f3).wf = true)) → (Lit.float .f64 a2).wf = true → ∃ k, laws_FnExactBalance.f k a0_0 a0_1 l1 a2 = some true
end Go.Proofs.Ytajphnjooknjdaa.PFnExactBalance
