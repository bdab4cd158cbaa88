/- The pure statement of the law FnExactWeigh: for all arguments that its types allow, some number of rounds answers true. -/
import Derived.Test.YtajphnjooknjdaaPFnExactWeighx3
namespace Go.Proofs.Ytajphnjooknjdaa.PFnExactWeigh
open Go.RowKit Go.Proofs.YtajphnjooknjdaaW.PrintWords
def laws_FnExactWeigh.Pure : Prop := ∀ (l0 : (List S63)), (l0.length ≤ maxLen ∧ ∀ y ∈ l0, ((Lit.float .f64 y.f0).wf = true ∧ (Lit.float .f64 y.f1).wf = true ∧ (Lit.float .f64 y.f2).wf = true ∧ (Lit.float .f64 y.f3).wf = true)) → ∃ k, laws_FnExactWeigh.f k l0 = some true
end Go.Proofs.Ytajphnjooknjdaa.PFnExactWeigh
