/-
  No cell of these rows narrows 'for every input' (looked for: loops, veiled, ifaces, maps, wideKeys, modest, calm, conditions, laid).
  DERIVED. THE GIVEN ROWS OF THIS SEAT. 8 by the template 'for every input the law returns true; each argument reads behind the call as it read before'; 0 by the template 'total and deterministic' (their statements: YtajphnjooknjdaaTotals.lean).
  GIVEN WITH THE SEED: the statements are not yours to turn. If you find one false, say at which input.
  Laid BY PROGRAM, IN A SANDBOX (cutbox-rows.mjs): the forced cells as the released guide's own fill.sh prints them over the translation 253ce5907ccb67c6… (all of the seat's roots in one cut). By AI agents, Wed Nov 11 2026. No macro, syntax, notation, axiom, sorry.
-/
import Derived.Test.YtajphnjooknjdaaChecked
import GoSem.Claim
import GoSem.ClaimJoined
import GoSem.ClaimMapViews
import Derived.JoinedTies
import Derived.KernelRfl
namespace Go.Proofs.Ytajphnjooknjdaa
/- THE CELL 'sum', in the pinned program and in every row, IS THE sha256 OF THE DUMP (.gsa) THAT YtajphnjooknjdaaProg.lean LOADS. Nothing in Lean hashes anything: it is a label: what it is worth is what the hold of that sum in a sandbox is worth. -/
noncomputable def Try.pinned : Pinned := { name := "ytajphnjooknjdaa", sum := "253ce5907ccb67c67513ce2862fde5014e9d7a74b8f236f3803654d7e374be7d", checked := Try.checked }
namespace Rows
def none {H : Type} : Left H := { results := [], args := [] }

/-- 'laws.FnExactJoules': WHATEVER THE INPUT: true; the input reads as it did. -/
def fnExactJoulesSpec : ChangeSpec := { name := "fnExactJoules", fn := fun _ => fun
  | [d1, d2, d3] => { results := [.lit (.bool true)], args := [d1, d2, d3] }
  | _ => none }
def fnExactJoulesRow : OpenClaim := { program := "ytajphnjooknjdaa", sum := "253ce5907ccb67c67513ce2862fde5014e9d7a74b8f236f3803654d7e374be7d", func := "loop.example/g00075/laws.FnExactJoules", spec := "fnExactJoules", apart := false }
def FnExactJoulesSaid : Prop := fnExactJoulesRow.holds Try.pinned (OpenSpec.ofChange fnExactJoulesSpec)

/-- ITS FALSE NEIGHBOUR: 'it returns false'. Refute it at one input. -/
def fnExactJoulesWrong : ChangeSpec := { name := "fnExactJoules", fn := fun _ => fun
  | [d1, d2, d3] => { results := [.lit (.bool false)], args := [d1, d2, d3] }
  | _ => none }
def FnExactJoulesWrongFalsely : Prop := fnExactJoulesRow.holds Try.pinned (OpenSpec.ofChange fnExactJoulesWrong)

/-- 'laws.FnExactWeigh': WHATEVER THE INPUT: true; the input reads as it did. -/
def fnExactWeighSpec : ChangeSpec := { name := "fnExactWeigh", fn := fun _ => fun
  | [d] => { results := [.lit (.bool true)], args := [d] }
  | _ => none }
def fnExactWeighRow : OpenClaim := { program := "ytajphnjooknjdaa", sum := "253ce5907ccb67c67513ce2862fde5014e9d7a74b8f236f3803654d7e374be7d", func := "loop.example/g00075/laws.FnExactWeigh", spec := "fnExactWeigh", apart := false }
def FnExactWeighSaid : Prop := fnExactWeighRow.holds Try.pinned (OpenSpec.ofChange fnExactWeighSpec)

/-- ITS FALSE NEIGHBOUR: 'it returns false'. Refute it at one input. -/
def fnExactWeighWrong : ChangeSpec := { name := "fnExactWeigh", fn := fun _ => fun
  | [d] => { results := [.lit (.bool false)], args := [d] }
  | _ => none }
def FnExactWeighWrongFalsely : Prop := fnExactWeighRow.holds Try.pinned (OpenSpec.ofChange fnExactWeighWrong)

/-- 'laws.FnExactRide': WHATEVER THE INPUT: true; the input reads as it did. -/
def fnExactRideSpec : ChangeSpec := { name := "fnExactRide", fn := fun _ => fun
  | [d1, d2, d3, d4, d5] => { results := [.lit (.bool true)], args := [d1, d2, d3, d4, d5] }
  | _ => none }
def fnExactRideRow : OpenClaim := { program := "ytajphnjooknjdaa", sum := "253ce5907ccb67c67513ce2862fde5014e9d7a74b8f236f3803654d7e374be7d", func := "loop.example/g00075/laws.FnExactRide", spec := "fnExactRide", apart := false }
def FnExactRideSaid : Prop := fnExactRideRow.holds Try.pinned (OpenSpec.ofChange fnExactRideSpec)

/-- ITS FALSE NEIGHBOUR: 'it returns false'. Refute it at one input. -/
def fnExactRideWrong : ChangeSpec := { name := "fnExactRide", fn := fun _ => fun
  | [d1, d2, d3, d4, d5] => { results := [.lit (.bool false)], args := [d1, d2, d3, d4, d5] }
  | _ => none }
def FnExactRideWrongFalsely : Prop := fnExactRideRow.holds Try.pinned (OpenSpec.ofChange fnExactRideWrong)

/-- 'laws.FnExactDrag': WHATEVER THE INPUT: true; the input reads as it did. -/
def fnExactDragSpec : ChangeSpec := { name := "fnExactDrag", fn := fun _ => fun
  | [d1, d2, d3] => { results := [.lit (.bool true)], args := [d1, d2, d3] }
  | _ => none }
def fnExactDragRow : OpenClaim := { program := "ytajphnjooknjdaa", sum := "253ce5907ccb67c67513ce2862fde5014e9d7a74b8f236f3803654d7e374be7d", func := "loop.example/g00075/laws.FnExactDrag", spec := "fnExactDrag", apart := false }
def FnExactDragSaid : Prop := fnExactDragRow.holds Try.pinned (OpenSpec.ofChange fnExactDragSpec)

/-- ITS FALSE NEIGHBOUR: 'it returns false'. Refute it at one input. -/
def fnExactDragWrong : ChangeSpec := { name := "fnExactDrag", fn := fun _ => fun
  | [d1, d2, d3] => { results := [.lit (.bool false)], args := [d1, d2, d3] }
  | _ => none }
def FnExactDragWrongFalsely : Prop := fnExactDragRow.holds Try.pinned (OpenSpec.ofChange fnExactDragWrong)

/-- 'laws.FnBalance': WHATEVER THE INPUT: true; the input reads as it did. -/
def fnBalanceSpec : ChangeSpec := { name := "fnBalance", fn := fun _ => fun
  | [d] => { results := [.lit (.bool true)], args := [d] }
  | _ => none }
def fnBalanceRow : OpenClaim := { program := "ytajphnjooknjdaa", sum := "253ce5907ccb67c67513ce2862fde5014e9d7a74b8f236f3803654d7e374be7d", func := "loop.example/g00075/laws.FnBalance", spec := "fnBalance", apart := false }
def FnBalanceSaid : Prop := fnBalanceRow.holds Try.pinned (OpenSpec.ofChange fnBalanceSpec)

/-- ITS FALSE NEIGHBOUR: 'it returns false'. Refute it at one input. -/
def fnBalanceWrong : ChangeSpec := { name := "fnBalance", fn := fun _ => fun
  | [d] => { results := [.lit (.bool false)], args := [d] }
  | _ => none }
def FnBalanceWrongFalsely : Prop := fnBalanceRow.holds Try.pinned (OpenSpec.ofChange fnBalanceWrong)

/-- 'laws.FnExactBalance': WHATEVER THE INPUT: true; the input reads as it did. -/
def fnExactBalanceSpec : ChangeSpec := { name := "fnExactBalance", fn := fun _ => fun
  | [d1, d2, d3] => { results := [.lit (.bool true)], args := [d1, d2, d3] }
  | _ => none }
def fnExactBalanceRow : OpenClaim := { program := "ytajphnjooknjdaa", sum := "253ce5907ccb67c67513ce2862fde5014e9d7a74b8f236f3803654d7e374be7d", func := "loop.example/g00075/laws.FnExactBalance", spec := "fnExactBalance", apart := false }
def FnExactBalanceSaid : Prop := fnExactBalanceRow.holds Try.pinned (OpenSpec.ofChange fnExactBalanceSpec)

/-- ITS FALSE NEIGHBOUR: 'it returns false'. Refute it at one input. -/
def fnExactBalanceWrong : ChangeSpec := { name := "fnExactBalance", fn := fun _ => fun
  | [d1, d2, d3] => { results := [.lit (.bool false)], args := [d1, d2, d3] }
  | _ => none }
def FnExactBalanceWrongFalsely : Prop := fnExactBalanceRow.holds Try.pinned (OpenSpec.ofChange fnExactBalanceWrong)

/-- 'laws.FnExactPull': WHATEVER THE INPUT: true; the input reads as it did. -/
def fnExactPullSpec : ChangeSpec := { name := "fnExactPull", fn := fun _ => fun
  | [d1, d2, d3, d4, d5] => { results := [.lit (.bool true)], args := [d1, d2, d3, d4, d5] }
  | _ => none }
def fnExactPullRow : OpenClaim := { program := "ytajphnjooknjdaa", sum := "253ce5907ccb67c67513ce2862fde5014e9d7a74b8f236f3803654d7e374be7d", func := "loop.example/g00075/laws.FnExactPull", spec := "fnExactPull", apart := false }
def FnExactPullSaid : Prop := fnExactPullRow.holds Try.pinned (OpenSpec.ofChange fnExactPullSpec)

/-- ITS FALSE NEIGHBOUR: 'it returns false'. Refute it at one input. -/
def fnExactPullWrong : ChangeSpec := { name := "fnExactPull", fn := fun _ => fun
  | [d1, d2, d3, d4, d5] => { results := [.lit (.bool false)], args := [d1, d2, d3, d4, d5] }
  | _ => none }
def FnExactPullWrongFalsely : Prop := fnExactPullRow.holds Try.pinned (OpenSpec.ofChange fnExactPullWrong)

/-- 'laws.FnRide': WHATEVER THE INPUT: true; the input reads as it did. -/
def fnRideSpec : ChangeSpec := { name := "fnRide", fn := fun _ => fun
  | [d] => { results := [.lit (.bool true)], args := [d] }
  | _ => none }
def fnRideRow : OpenClaim := { program := "ytajphnjooknjdaa", sum := "253ce5907ccb67c67513ce2862fde5014e9d7a74b8f236f3803654d7e374be7d", func := "loop.example/g00075/laws.FnRide", spec := "fnRide", apart := false }
def FnRideSaid : Prop := fnRideRow.holds Try.pinned (OpenSpec.ofChange fnRideSpec)

/-- ITS FALSE NEIGHBOUR: 'it returns false'. Refute it at one input. -/
def fnRideWrong : ChangeSpec := { name := "fnRide", fn := fun _ => fun
  | [d] => { results := [.lit (.bool false)], args := [d] }
  | _ => none }
def FnRideWrongFalsely : Prop := fnRideRow.holds Try.pinned (OpenSpec.ofChange fnRideWrong)

/- THE SECOND FORM. 'bulk': how many values and letters a reading holds, each counted each time it is reached (what is shared counts as often as it is met; a slice's spare places count too). A statement '..UptoSaid' is the law's where the arguments, and the package variables that the reading takes, are together of bulk at most 1048576: NARROWER than '..Said'. Prove '..Said' where nothing that the law and all that it calls make is longer than what came in: it says more and counts as full. Else prove '..UptoSaid'. A law counts once. -/
mutual
def uptoBulk {H : Type} : DataW H → Nat
  | .lit (.string bytes) => bytes.length + 1
  | .lit _ => 1
  | .nil => 1
  | .ptr d => uptoBulk d + 1
  | .slice elems spare => uptoBulkAll elems + uptoBulkAll spare + 1
  | .agg parts => uptoBulkAll parts + 1
  | .iface _ d => uptoBulk d + 1
  | .map entries => uptoBulkEntries entries + 1
  | .held _ => 1
def uptoBulkAll {H : Type} : List (DataW H) → Nat
  | [] => 0
  | d :: r => uptoBulk d + uptoBulkAll r
def uptoBulkEntries {H : Type} : List (Lit × DataW H) → Nat
  | [] => 0
  | x :: r => uptoBulkEntry x + uptoBulkEntries r
def uptoBulkEntry {H : Type} : Lit × DataW H → Nat
  | (.string bytes, d) => bytes.length + uptoBulk d + 1
  | (_, d) => uptoBulk d + 1
 end
def uptoSmall : (H : Type) → List (DataW H) → Bool := fun _ ds => decide (uptoBulkAll ds ≤ 1048576)
def OpenSpec.upto (s : _root_.Go.ChangeSpec) : _root_.Go.OpenSpec := { _root_.Go.OpenSpec.ofChange s with cond := some uptoSmall }

/-- 'laws.FnExactJoules', WHERE WHAT IT READS IS OF BULK AT MOST 1048576: true; the input reads as it did. -/
def fnExactJoulesUptoRow : OpenClaim := { program := "ytajphnjooknjdaa", sum := "253ce5907ccb67c67513ce2862fde5014e9d7a74b8f236f3803654d7e374be7d", func := "loop.example/g00075/laws.FnExactJoules", spec := "fnExactJoules", apart := false, narrowed := true }
def FnExactJoulesUptoSaid : Prop := fnExactJoulesUptoRow.holds Try.pinned (OpenSpec.upto fnExactJoulesSpec)

/-- 'laws.FnExactWeigh', WHERE WHAT IT READS IS OF BULK AT MOST 1048576: true; the input reads as it did. -/
def fnExactWeighUptoRow : OpenClaim := { program := "ytajphnjooknjdaa", sum := "253ce5907ccb67c67513ce2862fde5014e9d7a74b8f236f3803654d7e374be7d", func := "loop.example/g00075/laws.FnExactWeigh", spec := "fnExactWeigh", apart := false, narrowed := true }
def FnExactWeighUptoSaid : Prop := fnExactWeighUptoRow.holds Try.pinned (OpenSpec.upto fnExactWeighSpec)

/-- 'laws.FnExactRide', WHERE WHAT IT READS IS OF BULK AT MOST 1048576: true; the input reads as it did. -/
def fnExactRideUptoRow : OpenClaim := { program := "ytajphnjooknjdaa", sum := "253ce5907ccb67c67513ce2862fde5014e9d7a74b8f236f3803654d7e374be7d", func := "loop.example/g00075/laws.FnExactRide", spec := "fnExactRide", apart := false, narrowed := true }
def FnExactRideUptoSaid : Prop := fnExactRideUptoRow.holds Try.pinned (OpenSpec.upto fnExactRideSpec)

/-- 'laws.FnExactDrag', WHERE WHAT IT READS IS OF BULK AT MOST 1048576: true; the input reads as it did. -/
def fnExactDragUptoRow : OpenClaim := { program := "ytajphnjooknjdaa", sum := "253ce5907ccb67c67513ce2862fde5014e9d7a74b8f236f3803654d7e374be7d", func := "loop.example/g00075/laws.FnExactDrag", spec := "fnExactDrag", apart := false, narrowed := true }
def FnExactDragUptoSaid : Prop := fnExactDragUptoRow.holds Try.pinned (OpenSpec.upto fnExactDragSpec)

/-- 'laws.FnBalance', WHERE WHAT IT READS IS OF BULK AT MOST 1048576: true; the input reads as it did. -/
def fnBalanceUptoRow : OpenClaim := { program := "ytajphnjooknjdaa", sum := "253ce5907ccb67c67513ce2862fde5014e9d7a74b8f236f3803654d7e374be7d", func := "loop.example/g00075/laws.FnBalance", spec := "fnBalance", apart := false, narrowed := true }
def FnBalanceUptoSaid : Prop := fnBalanceUptoRow.holds Try.pinned (OpenSpec.upto fnBalanceSpec)

/-- 'laws.FnExactBalance', WHERE WHAT IT READS IS OF BULK AT MOST 1048576: true; the input reads as it did. -/
def fnExactBalanceUptoRow : OpenClaim := { program := "ytajphnjooknjdaa", sum := "253ce5907ccb67c67513ce2862fde5014e9d7a74b8f236f3803654d7e374be7d", func := "loop.example/g00075/laws.FnExactBalance", spec := "fnExactBalance", apart := false, narrowed := true }
def FnExactBalanceUptoSaid : Prop := fnExactBalanceUptoRow.holds Try.pinned (OpenSpec.upto fnExactBalanceSpec)

/-- 'laws.FnExactPull', WHERE WHAT IT READS IS OF BULK AT MOST 1048576: true; the input reads as it did. -/
def fnExactPullUptoRow : OpenClaim := { program := "ytajphnjooknjdaa", sum := "253ce5907ccb67c67513ce2862fde5014e9d7a74b8f236f3803654d7e374be7d", func := "loop.example/g00075/laws.FnExactPull", spec := "fnExactPull", apart := false, narrowed := true }
def FnExactPullUptoSaid : Prop := fnExactPullUptoRow.holds Try.pinned (OpenSpec.upto fnExactPullSpec)

/-- 'laws.FnRide', WHERE WHAT IT READS IS OF BULK AT MOST 1048576: true; the input reads as it did. -/
def fnRideUptoRow : OpenClaim := { program := "ytajphnjooknjdaa", sum := "253ce5907ccb67c67513ce2862fde5014e9d7a74b8f236f3803654d7e374be7d", func := "loop.example/g00075/laws.FnRide", spec := "fnRide", apart := false, narrowed := true }
def FnRideUptoSaid : Prop := fnRideUptoRow.holds Try.pinned (OpenSpec.upto fnRideSpec)

end Rows
end Go.Proofs.Ytajphnjooknjdaa
