/- The pure statement of the law FnExactRide: for all arguments that its types allow, some number of rounds answers true. -/
import Derived.Test.YtajphnjooknjdaaPFnExactRidex7
namespace Go.Proofs.Ytajphnjooknjdaa.PFnExactRide
open Go.RowKit Go.Proofs.YtajphnjooknjdaaW.PrintWords
def laws_FnExactRide.Pure : Prop := ∀ (a0_0 : Nat) (a0_1 : Nat) (l1 : (List S63)) (a2 : Nat) (l3 : (List Nat)) (a4 : Nat), (Lit.float .f64 a0_0).wf = true → (Lit.float .f64 a0_1).wf = true → (l1.length ≤ maxLen ∧ ∀ y ∈ l1, ((Lit.float .f64 y.f0).wf = true ∧ (Lit.float .f64 y.f1).wf = true ∧ (Lit.float .f64 y.f2).wf = true ∧ (Lit.float .f64 y.f3).wf = true)) → (Lit.float .f64 a2).wf = true → (l3.length ≤ maxLen ∧ ∀ y ∈ l3, (Lit.float .f64 y).wf = true) → (Lit.float .f64 a4).wf = true → ∃ k, laws_FnExactRide.f k a0_0 a0_1 l1 a2 l3 a4 = some true
end Go.Proofs.Ytajphnjooknjdaa.PFnExactRide
