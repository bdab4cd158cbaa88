-- Words of the kit's printer, as far as this claim reaches them (chosen by wip/tools/prune.py).
import Derived.Test.YtgjhlkjfdlkndaaVFnLaterFootNe
namespace Go.Proofs.YtgjhlkjfdlkndaaW.PrintWords
open Go.RowKit
section
variable {w w' u : World} {m B g : Nat} {o : Obj} {row : Option Nat} {S : Nat → Prop} {a : Addr} {v : Value}
theorem moved_at (hq : w.drewN m = w') (h : u.heap.size ≤ w.heap.size) : u.heap.size ≤ w'.heap.size := by subst hq; exact h
end
end Go.Proofs.YtgjhlkjfdlkndaaW.PrintWords
