/-
  No cell of these rows narrows 'for every input' (looked for: loops, veiled, ifaces, maps, wideKeys, modest, calm, conditions, laid).
  DERIVED. THE GIVEN ROWS OF THIS SEAT. 6 by the template 'for every input the law returns true; each argument reads behind the call as it read before'; 0 by the template 'total and deterministic' (their statements: YtfcljimfpjoioabTotals.lean).
  GIVEN WITH THE SEED: the statements are not yours to turn. If you find one false, say at which input.
  Laid BY PROGRAM, IN A SANDBOX (cutbox-rows.mjs): the forced cells as the released guide's own fill.sh prints them over the translation cff978f82f38816c… (all of the seat's roots in one cut). By AI agents, Wed Nov 11 2026. No macro, syntax, notation, axiom, sorry.
-/
import Derived.Test.YtfcljimfpjoioabChecked
import GoSem.Claim
import GoSem.ClaimJoined
import GoSem.ClaimMapViews
import Derived.JoinedTies
import Derived.KernelRfl
namespace Go.Proofs.Ytfcljimfpjoioab
/- THE CELL 'sum', in the pinned program and in every row, IS THE sha256 OF THE DUMP (.gsa) THAT YtfcljimfpjoioabProg.lean LOADS. Nothing in Lean hashes anything: it is a label: what it is worth is what the hold of that sum in a sandbox is worth. -/
noncomputable def Try.pinned : Pinned := { name := "ytfcljimfpjoioab", sum := "cff978f82f38816cd4f95ecc1a0ae91f3ab142b9fcbbe5732a42c696a604d837", checked := Try.checked }
namespace Rows
def none {H : Type} : Left H := { results := [], args := [] }

/-- 'laws.FnExactRoot': WHATEVER THE INPUT: true; the input reads as it did. -/
def fnExactRootSpec : ChangeSpec := { name := "fnExactRoot", fn := fun _ => fun
  | [d] => { results := [.lit (.bool true)], args := [d] }
  | _ => none }
def fnExactRootRow : OpenClaim := { program := "ytfcljimfpjoioab", sum := "cff978f82f38816cd4f95ecc1a0ae91f3ab142b9fcbbe5732a42c696a604d837", func := "loop.example/g00075/laws.FnExactRoot", spec := "fnExactRoot", apart := false }
def FnExactRootSaid : Prop := fnExactRootRow.holds Try.pinned (OpenSpec.ofChange fnExactRootSpec)

/-- ITS FALSE NEIGHBOUR: 'it returns false'. Refute it at one input. -/
def fnExactRootWrong : ChangeSpec := { name := "fnExactRoot", fn := fun _ => fun
  | [d] => { results := [.lit (.bool false)], args := [d] }
  | _ => none }
def FnExactRootWrongFalsely : Prop := fnExactRootRow.holds Try.pinned (OpenSpec.ofChange fnExactRootWrong)

/-- 'laws.FnExactFreeFrom': WHATEVER THE INPUT: true; the input reads as it did. -/
def fnExactFreeFromSpec : ChangeSpec := { name := "fnExactFreeFrom", fn := fun _ => fun
  | [d1, d2] => { results := [.lit (.bool true)], args := [d1, d2] }
  | _ => none }
def fnExactFreeFromRow : OpenClaim := { program := "ytfcljimfpjoioab", sum := "cff978f82f38816cd4f95ecc1a0ae91f3ab142b9fcbbe5732a42c696a604d837", func := "loop.example/g00075/laws.FnExactFreeFrom", spec := "fnExactFreeFrom", apart := false }
def FnExactFreeFromSaid : Prop := fnExactFreeFromRow.holds Try.pinned (OpenSpec.ofChange fnExactFreeFromSpec)

/-- ITS FALSE NEIGHBOUR: 'it returns false'. Refute it at one input. -/
def fnExactFreeFromWrong : ChangeSpec := { name := "fnExactFreeFrom", fn := fun _ => fun
  | [d1, d2] => { results := [.lit (.bool false)], args := [d1, d2] }
  | _ => none }
def FnExactFreeFromWrongFalsely : Prop := fnExactFreeFromRow.holds Try.pinned (OpenSpec.ofChange fnExactFreeFromWrong)

/-- 'laws.FnExactCellTime': WHATEVER THE INPUT: true; the input reads as it did. -/
def fnExactCellTimeSpec : ChangeSpec := { name := "fnExactCellTime", fn := fun _ => fun
  | [d1, d2] => { results := [.lit (.bool true)], args := [d1, d2] }
  | _ => none }
def fnExactCellTimeRow : OpenClaim := { program := "ytfcljimfpjoioab", sum := "cff978f82f38816cd4f95ecc1a0ae91f3ab142b9fcbbe5732a42c696a604d837", func := "loop.example/g00075/laws.FnExactCellTime", spec := "fnExactCellTime", apart := false }
def FnExactCellTimeSaid : Prop := fnExactCellTimeRow.holds Try.pinned (OpenSpec.ofChange fnExactCellTimeSpec)

/-- ITS FALSE NEIGHBOUR: 'it returns false'. Refute it at one input. -/
def fnExactCellTimeWrong : ChangeSpec := { name := "fnExactCellTime", fn := fun _ => fun
  | [d1, d2] => { results := [.lit (.bool false)], args := [d1, d2] }
  | _ => none }
def FnExactCellTimeWrongFalsely : Prop := fnExactCellTimeRow.holds Try.pinned (OpenSpec.ofChange fnExactCellTimeWrong)

/-- 'laws.FnExactResist': WHATEVER THE INPUT: true; the input reads as it did. -/
def fnExactResistSpec : ChangeSpec := { name := "fnExactResist", fn := fun _ => fun
  | [d1, d2] => { results := [.lit (.bool true)], args := [d1, d2] }
  | _ => none }
def fnExactResistRow : OpenClaim := { program := "ytfcljimfpjoioab", sum := "cff978f82f38816cd4f95ecc1a0ae91f3ab142b9fcbbe5732a42c696a604d837", func := "loop.example/g00075/laws.FnExactResist", spec := "fnExactResist", apart := false }
def FnExactResistSaid : Prop := fnExactResistRow.holds Try.pinned (OpenSpec.ofChange fnExactResistSpec)

/-- ITS FALSE NEIGHBOUR: 'it returns false'. Refute it at one input. -/
def fnExactResistWrong : ChangeSpec := { name := "fnExactResist", fn := fun _ => fun
  | [d1, d2] => { results := [.lit (.bool false)], args := [d1, d2] }
  | _ => none }
def FnExactResistWrongFalsely : Prop := fnExactResistRow.holds Try.pinned (OpenSpec.ofChange fnExactResistWrong)

/-- 'laws.FnExactPassed': WHATEVER THE INPUT: true; the input reads as it did. -/
def fnExactPassedSpec : ChangeSpec := { name := "fnExactPassed", fn := fun _ => fun
  | [d1, d2] => { results := [.lit (.bool true)], args := [d1, d2] }
  | _ => none }
def fnExactPassedRow : OpenClaim := { program := "ytfcljimfpjoioab", sum := "cff978f82f38816cd4f95ecc1a0ae91f3ab142b9fcbbe5732a42c696a604d837", func := "loop.example/g00075/laws.FnExactPassed", spec := "fnExactPassed", apart := false }
def FnExactPassedSaid : Prop := fnExactPassedRow.holds Try.pinned (OpenSpec.ofChange fnExactPassedSpec)

/-- ITS FALSE NEIGHBOUR: 'it returns false'. Refute it at one input. -/
def fnExactPassedWrong : ChangeSpec := { name := "fnExactPassed", fn := fun _ => fun
  | [d1, d2] => { results := [.lit (.bool false)], args := [d1, d2] }
  | _ => none }
def FnExactPassedWrongFalsely : Prop := fnExactPassedRow.holds Try.pinned (OpenSpec.ofChange fnExactPassedWrong)

/-- 'laws.FnExactEffort': WHATEVER THE INPUT: true; the input reads as it did. -/
def fnExactEffortSpec : ChangeSpec := { name := "fnExactEffort", fn := fun _ => fun
  | [d1, d2] => { results := [.lit (.bool true)], args := [d1, d2] }
  | _ => none }
def fnExactEffortRow : OpenClaim := { program := "ytfcljimfpjoioab", sum := "cff978f82f38816cd4f95ecc1a0ae91f3ab142b9fcbbe5732a42c696a604d837", func := "loop.example/g00075/laws.FnExactEffort", spec := "fnExactEffort", apart := false }
def FnExactEffortSaid : Prop := fnExactEffortRow.holds Try.pinned (OpenSpec.ofChange fnExactEffortSpec)

/-- ITS FALSE NEIGHBOUR: 'it returns false'. Refute it at one input. -/
def fnExactEffortWrong : ChangeSpec := { name := "fnExactEffort", fn := fun _ => fun
  | [d1, d2] => { results := [.lit (.bool false)], args := [d1, d2] }
  | _ => none }
def FnExactEffortWrongFalsely : Prop := fnExactEffortRow.holds Try.pinned (OpenSpec.ofChange fnExactEffortWrong)

/- THE SECOND FORM. 'bulk': how many values and letters a reading holds, each counted each time it is reached (what is shared counts as often as it is met; a slice's spare places count too). A statement '..UptoSaid' is the law's where the arguments, and the package variables that the reading takes, are together of bulk at most 1048576: NARROWER than '..Said'. Prove '..Said' where nothing that the law and all that it calls make is longer than what came in: it says more and counts as full. Else prove '..UptoSaid'. A law counts once. -/
mutual
def uptoBulk {H : Type} : DataW H → Nat
  | .lit (.string bytes) => bytes.length + 1
  | .lit _ => 1
  | .nil => 1
  | .ptr d => uptoBulk d + 1
  | .slice elems spare => uptoBulkAll elems + uptoBulkAll spare + 1
  | .agg parts => uptoBulkAll parts + 1
  | .iface _ d => uptoBulk d + 1
  | .map entries => uptoBulkEntries entries + 1
  | .held _ => 1
def uptoBulkAll {H : Type} : List (DataW H) → Nat
  | [] => 0
  | d :: r => uptoBulk d + uptoBulkAll r
def uptoBulkEntries {H : Type} : List (Lit × DataW H) → Nat
  | [] => 0
  | x :: r => uptoBulkEntry x + uptoBulkEntries r
def uptoBulkEntry {H : Type} : Lit × DataW H → Nat
  | (.string bytes, d) => bytes.length + uptoBulk d + 1
  | (_, d) => uptoBulk d + 1
 end
def uptoSmall : (H : Type) → List (DataW H) → Bool := fun _ ds => decide (uptoBulkAll ds ≤ 1048576)
def OpenSpec.upto (s : _root_.Go.ChangeSpec) : _root_.Go.OpenSpec := { _root_.Go.OpenSpec.ofChange s with cond := some uptoSmall }

/-- 'laws.FnExactRoot', WHERE WHAT IT READS IS OF BULK AT MOST 1048576: true; the input reads as it did. -/
def fnExactRootUptoRow : OpenClaim := { program := "ytfcljimfpjoioab", sum := "cff978f82f38816cd4f95ecc1a0ae91f3ab142b9fcbbe5732a42c696a604d837", func := "loop.example/g00075/laws.FnExactRoot", spec := "fnExactRoot", apart := false, narrowed := true }
def FnExactRootUptoSaid : Prop := fnExactRootUptoRow.holds Try.pinned (OpenSpec.upto fnExactRootSpec)

/-- 'laws.FnExactFreeFrom', WHERE WHAT IT READS IS OF BULK AT MOST 1048576: true; the input reads as it did. -/
def fnExactFreeFromUptoRow : OpenClaim := { program := "ytfcljimfpjoioab", sum := "cff978f82f38816cd4f95ecc1a0ae91f3ab142b9fcbbe5732a42c696a604d837", func := "loop.example/g00075/laws.FnExactFreeFrom", spec := "fnExactFreeFrom", apart := false, narrowed := true }
def FnExactFreeFromUptoSaid : Prop := fnExactFreeFromUptoRow.holds Try.pinned (OpenSpec.upto fnExactFreeFromSpec)

/-- 'laws.FnExactCellTime', WHERE WHAT IT READS IS OF BULK AT MOST 1048576: true; the input reads as it did. -/
def fnExactCellTimeUptoRow : OpenClaim := { program := "ytfcljimfpjoioab", sum := "cff978f82f38816cd4f95ecc1a0ae91f3ab142b9fcbbe5732a42c696a604d837", func := "loop.example/g00075/laws.FnExactCellTime", spec := "fnExactCellTime", apart := false, narrowed := true }
def FnExactCellTimeUptoSaid : Prop := fnExactCellTimeUptoRow.holds Try.pinned (OpenSpec.upto fnExactCellTimeSpec)

/-- 'laws.FnExactResist', WHERE WHAT IT READS IS OF BULK AT MOST 1048576: true; the input reads as it did. -/
def fnExactResistUptoRow : OpenClaim := { program := "ytfcljimfpjoioab", sum := "cff978f82f38816cd4f95ecc1a0ae91f3ab142b9fcbbe5732a42c696a604d837", func := "loop.example/g00075/laws.FnExactResist", spec := "fnExactResist", apart := false, narrowed := true }
def FnExactResistUptoSaid : Prop := fnExactResistUptoRow.holds Try.pinned (OpenSpec.upto fnExactResistSpec)

/-- 'laws.FnExactPassed', WHERE WHAT IT READS IS OF BULK AT MOST 1048576: true; the input reads as it did. -/
def fnExactPassedUptoRow : OpenClaim := { program := "ytfcljimfpjoioab", sum := "cff978f82f38816cd4f95ecc1a0ae91f3ab142b9fcbbe5732a42c696a604d837", func := "loop.example/g00075/laws.FnExactPassed", spec := "fnExactPassed", apart := false, narrowed := true }
def FnExactPassedUptoSaid : Prop := fnExactPassedUptoRow.holds Try.pinned (OpenSpec.upto fnExactPassedSpec)

/-- 'laws.FnExactEffort', WHERE WHAT IT READS IS OF BULK AT MOST 1048576: true; the input reads as it did. -/
def fnExactEffortUptoRow : OpenClaim := { program := "ytfcljimfpjoioab", sum := "cff978f82f38816cd4f95ecc1a0ae91f3ab142b9fcbbe5732a42c696a604d837", func := "loop.example/g00075/laws.FnExactEffort", spec := "fnExactEffort", apart := false, narrowed := true }
def FnExactEffortUptoSaid : Prop := fnExactEffortUptoRow.holds Try.pinned (OpenSpec.upto fnExactEffortSpec)

end Rows
end Go.Proofs.Ytfcljimfpjoioab
