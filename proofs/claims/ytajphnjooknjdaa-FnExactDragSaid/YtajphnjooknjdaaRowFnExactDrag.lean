/- The pure statement of the law FnExactDrag: for all arguments that its types allow, some number of rounds answers true. -/
import Derived.Test.YtajphnjooknjdaaPFnExactDragx3
namespace Go.Proofs.Ytajphnjooknjdaa.PFnExactDrag
open Go.RowKit Go.Proofs.YtajphnjooknjdaaW.PrintWords
def laws_FnExactDrag.Pure : Prop := ∀ (l0 : (List S63)) (a1 : Nat) (a2 : Nat), (l0.length ≤ maxLen ∧ ∀ y ∈ l0, ((Lit.float .f64 y.f0).wf = true ∧ (Lit.float .f64 y.f1).wf = true ∧ (Lit.float .f64 y.f2).wf = true ∧ (Lit.float .f64 y.f3).wf = true)) → (Lit.float .f64 a1).wf = true → (Lit.float .f64 a2).wf = true → ∃ k, laws_FnExactDrag.f k l0 a1 a2 = some true
end Go.Proofs.Ytajphnjooknjdaa.PFnExactDrag
