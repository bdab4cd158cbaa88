/- The pure statement of the law FnBalance: for all arguments that its types allow, some number of rounds answers true. -/
import Derived.Test.YtajphnjooknjdaaPFnBalancex5
namespace Go.Proofs.Ytajphnjooknjdaa.PFnBalance
open Go.RowKit Go.Proofs.YtajphnjooknjdaaW.PrintWords
def laws_FnBalance.PureR : Prop := ∀ (l0 : (List Int)), (l0.length ≤ maxLen ∧ ∀ y ∈ l0, (Lit.int .u8 y).wf = true) → ∃ k, laws_FnBalance.f k l0 = some true
end Go.Proofs.Ytajphnjooknjdaa.PFnBalance
