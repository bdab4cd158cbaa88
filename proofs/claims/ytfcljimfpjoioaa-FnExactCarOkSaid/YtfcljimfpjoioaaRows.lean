/-
  No cell of these rows narrows 'for every input' (looked for: loops, veiled, ifaces, maps, wideKeys, modest, calm, conditions, laid).
  DERIVED. THE GIVEN ROWS OF THIS SEAT. 6 by the template 'for every input the law returns true; each argument reads behind the call as it read before'; 0 by the template 'total and deterministic' (their statements: YtfcljimfpjoioaaTotals.lean).
  GIVEN WITH THE SEED: the statements are not yours to turn. If you find one false, say at which input.
  Laid BY PROGRAM, IN A SANDBOX (cutbox-rows.mjs): the forced cells as the released guide's own fill.sh prints them over the translation 5ffe0e6e9307639f… (all of the seat's roots in one cut). By AI agents, Wed Nov 11 2026. No macro, syntax, notation, axiom, sorry.
-/
import Derived.Test.YtfcljimfpjoioaaChecked
import GoSem.Claim
import GoSem.ClaimJoined
import GoSem.ClaimMapViews
import Derived.JoinedTies
import Derived.KernelRfl
namespace Go.Proofs.Ytfcljimfpjoioaa
/- THE CELL 'sum', in the pinned program and in every row, IS THE sha256 OF THE DUMP (.gsa) THAT YtfcljimfpjoioaaProg.lean LOADS. Nothing in Lean hashes anything: it is a label: what it is worth is what the hold of that sum in a sandbox is worth. -/
noncomputable def Try.pinned : Pinned := { name := "ytfcljimfpjoioaa", sum := "5ffe0e6e9307639fabd4d4fcb30c7022859a632cbb9b75d510406c27979d4953", checked := Try.checked }
namespace Rows
def none {H : Type} : Left H := { results := [], args := [] }

/-- 'laws.FnExactConstants': WHATEVER THE INPUT: true; the input reads as it did. -/
def fnExactConstantsSpec : ChangeSpec := { name := "fnExactConstants", fn := fun _ => fun
  | [] => { results := [.lit (.bool true)], args := [] }
  | _ => none }
def fnExactConstantsRow : OpenClaim := { program := "ytfcljimfpjoioaa", sum := "5ffe0e6e9307639fabd4d4fcb30c7022859a632cbb9b75d510406c27979d4953", func := "loop.example/g00075/laws.FnExactConstants", spec := "fnExactConstants", apart := false }
def FnExactConstantsSaid : Prop := fnExactConstantsRow.holds Try.pinned (OpenSpec.ofChange fnExactConstantsSpec)

/-- ITS FALSE NEIGHBOUR: 'it returns false'. Refute it at one input. -/
def fnExactConstantsWrong : ChangeSpec := { name := "fnExactConstants", fn := fun _ => fun
  | [] => { results := [.lit (.bool false)], args := [] }
  | _ => none }
def FnExactConstantsWrongFalsely : Prop := fnExactConstantsRow.holds Try.pinned (OpenSpec.ofChange fnExactConstantsWrong)

/-- 'laws.FnExactInRange': WHATEVER THE INPUT: true; the input reads as it did. -/
def fnExactInRangeSpec : ChangeSpec := { name := "fnExactInRange", fn := fun _ => fun
  | [d1, d2, d3] => { results := [.lit (.bool true)], args := [d1, d2, d3] }
  | _ => none }
def fnExactInRangeRow : OpenClaim := { program := "ytfcljimfpjoioaa", sum := "5ffe0e6e9307639fabd4d4fcb30c7022859a632cbb9b75d510406c27979d4953", func := "loop.example/g00075/laws.FnExactInRange", spec := "fnExactInRange", apart := false }
def FnExactInRangeSaid : Prop := fnExactInRangeRow.holds Try.pinned (OpenSpec.ofChange fnExactInRangeSpec)

/-- ITS FALSE NEIGHBOUR: 'it returns false'. Refute it at one input. -/
def fnExactInRangeWrong : ChangeSpec := { name := "fnExactInRange", fn := fun _ => fun
  | [d1, d2, d3] => { results := [.lit (.bool false)], args := [d1, d2, d3] }
  | _ => none }
def FnExactInRangeWrongFalsely : Prop := fnExactInRangeRow.holds Try.pinned (OpenSpec.ofChange fnExactInRangeWrong)

/-- 'laws.FnExactLocoOk': WHATEVER THE INPUT: true; the input reads as it did. -/
def fnExactLocoOkSpec : ChangeSpec := { name := "fnExactLocoOk", fn := fun _ => fun
  | [d] => { results := [.lit (.bool true)], args := [d] }
  | _ => none }
def fnExactLocoOkRow : OpenClaim := { program := "ytfcljimfpjoioaa", sum := "5ffe0e6e9307639fabd4d4fcb30c7022859a632cbb9b75d510406c27979d4953", func := "loop.example/g00075/laws.FnExactLocoOk", spec := "fnExactLocoOk", apart := false }
def FnExactLocoOkSaid : Prop := fnExactLocoOkRow.holds Try.pinned (OpenSpec.ofChange fnExactLocoOkSpec)

/-- ITS FALSE NEIGHBOUR: 'it returns false'. Refute it at one input. -/
def fnExactLocoOkWrong : ChangeSpec := { name := "fnExactLocoOk", fn := fun _ => fun
  | [d] => { results := [.lit (.bool false)], args := [d] }
  | _ => none }
def FnExactLocoOkWrongFalsely : Prop := fnExactLocoOkRow.holds Try.pinned (OpenSpec.ofChange fnExactLocoOkWrong)

/-- 'laws.FnExactMotorOk': WHATEVER THE INPUT: true; the input reads as it did. -/
def fnExactMotorOkSpec : ChangeSpec := { name := "fnExactMotorOk", fn := fun _ => fun
  | [d] => { results := [.lit (.bool true)], args := [d] }
  | _ => none }
def fnExactMotorOkRow : OpenClaim := { program := "ytfcljimfpjoioaa", sum := "5ffe0e6e9307639fabd4d4fcb30c7022859a632cbb9b75d510406c27979d4953", func := "loop.example/g00075/laws.FnExactMotorOk", spec := "fnExactMotorOk", apart := false }
def FnExactMotorOkSaid : Prop := fnExactMotorOkRow.holds Try.pinned (OpenSpec.ofChange fnExactMotorOkSpec)

/-- ITS FALSE NEIGHBOUR: 'it returns false'. Refute it at one input. -/
def fnExactMotorOkWrong : ChangeSpec := { name := "fnExactMotorOk", fn := fun _ => fun
  | [d] => { results := [.lit (.bool false)], args := [d] }
  | _ => none }
def FnExactMotorOkWrongFalsely : Prop := fnExactMotorOkRow.holds Try.pinned (OpenSpec.ofChange fnExactMotorOkWrong)

/-- 'laws.FnExactCarOk': WHATEVER THE INPUT: true; the input reads as it did. -/
def fnExactCarOkSpec : ChangeSpec := { name := "fnExactCarOk", fn := fun _ => fun
  | [d] => { results := [.lit (.bool true)], args := [d] }
  | _ => none }
def fnExactCarOkRow : OpenClaim := { program := "ytfcljimfpjoioaa", sum := "5ffe0e6e9307639fabd4d4fcb30c7022859a632cbb9b75d510406c27979d4953", func := "loop.example/g00075/laws.FnExactCarOk", spec := "fnExactCarOk", apart := false }
def FnExactCarOkSaid : Prop := fnExactCarOkRow.holds Try.pinned (OpenSpec.ofChange fnExactCarOkSpec)

/-- ITS FALSE NEIGHBOUR: 'it returns false'. Refute it at one input. -/
def fnExactCarOkWrong : ChangeSpec := { name := "fnExactCarOk", fn := fun _ => fun
  | [d] => { results := [.lit (.bool false)], args := [d] }
  | _ => none }
def FnExactCarOkWrongFalsely : Prop := fnExactCarOkRow.holds Try.pinned (OpenSpec.ofChange fnExactCarOkWrong)

/-- 'laws.FnRoots': WHATEVER THE INPUT: true; the input reads as it did. -/
def fnRootsSpec : ChangeSpec := { name := "fnRoots", fn := fun _ => fun
  | [d] => { results := [.lit (.bool true)], args := [d] }
  | _ => none }
def fnRootsRow : OpenClaim := { program := "ytfcljimfpjoioaa", sum := "5ffe0e6e9307639fabd4d4fcb30c7022859a632cbb9b75d510406c27979d4953", func := "loop.example/g00075/laws.FnRoots", spec := "fnRoots", apart := false }
def FnRootsSaid : Prop := fnRootsRow.holds Try.pinned (OpenSpec.ofChange fnRootsSpec)

/-- ITS FALSE NEIGHBOUR: 'it returns false'. Refute it at one input. -/
def fnRootsWrong : ChangeSpec := { name := "fnRoots", fn := fun _ => fun
  | [d] => { results := [.lit (.bool false)], args := [d] }
  | _ => none }
def FnRootsWrongFalsely : Prop := fnRootsRow.holds Try.pinned (OpenSpec.ofChange fnRootsWrong)

/- THE SECOND FORM. 'bulk': how many values and letters a reading holds, each counted each time it is reached (what is shared counts as often as it is met; a slice's spare places count too). A statement '..UptoSaid' is the law's where the arguments, and the package variables that the reading takes, are together of bulk at most 1048576: NARROWER than '..Said'. Prove '..Said' where nothing that the law and all that it calls make is longer than what came in: it says more and counts as full. Else prove '..UptoSaid'. A law counts once. -/
mutual
def uptoBulk {H : Type} : DataW H → Nat
  | .lit (.string bytes) => bytes.length + 1
  | .lit _ => 1
  | .nil => 1
  | .ptr d => uptoBulk d + 1
  | .slice elems spare => uptoBulkAll elems + uptoBulkAll spare + 1
  | .agg parts => uptoBulkAll parts + 1
  | .iface _ d => uptoBulk d + 1
  | .map entries => uptoBulkEntries entries + 1
  | .held _ => 1
def uptoBulkAll {H : Type} : List (DataW H) → Nat
  | [] => 0
  | d :: r => uptoBulk d + uptoBulkAll r
def uptoBulkEntries {H : Type} : List (Lit × DataW H) → Nat
  | [] => 0
  | x :: r => uptoBulkEntry x + uptoBulkEntries r
def uptoBulkEntry {H : Type} : Lit × DataW H → Nat
  | (.string bytes, d) => bytes.length + uptoBulk d + 1
  | (_, d) => uptoBulk d + 1
 end
def uptoSmall : (H : Type) → List (DataW H) → Bool := fun _ ds => decide (uptoBulkAll ds ≤ 1048576)
def OpenSpec.upto (s : _root_.Go.ChangeSpec) : _root_.Go.OpenSpec := { _root_.Go.OpenSpec.ofChange s with cond := some uptoSmall }

/-- 'laws.FnExactConstants', WHERE WHAT IT READS IS OF BULK AT MOST 1048576: true; the input reads as it did. -/
def fnExactConstantsUptoRow : OpenClaim := { program := "ytfcljimfpjoioaa", sum := "5ffe0e6e9307639fabd4d4fcb30c7022859a632cbb9b75d510406c27979d4953", func := "loop.example/g00075/laws.FnExactConstants", spec := "fnExactConstants", apart := false, narrowed := true }
def FnExactConstantsUptoSaid : Prop := fnExactConstantsUptoRow.holds Try.pinned (OpenSpec.upto fnExactConstantsSpec)

/-- 'laws.FnExactInRange', WHERE WHAT IT READS IS OF BULK AT MOST 1048576: true; the input reads as it did. -/
def fnExactInRangeUptoRow : OpenClaim := { program := "ytfcljimfpjoioaa", sum := "5ffe0e6e9307639fabd4d4fcb30c7022859a632cbb9b75d510406c27979d4953", func := "loop.example/g00075/laws.FnExactInRange", spec := "fnExactInRange", apart := false, narrowed := true }
def FnExactInRangeUptoSaid : Prop := fnExactInRangeUptoRow.holds Try.pinned (OpenSpec.upto fnExactInRangeSpec)

/-- 'laws.FnExactLocoOk', WHERE WHAT IT READS IS OF BULK AT MOST 1048576: true; the input reads as it did. -/
def fnExactLocoOkUptoRow : OpenClaim := { program := "ytfcljimfpjoioaa", sum := "5ffe0e6e9307639fabd4d4fcb30c7022859a632cbb9b75d510406c27979d4953", func := "loop.example/g00075/laws.FnExactLocoOk", spec := "fnExactLocoOk", apart := false, narrowed := true }
def FnExactLocoOkUptoSaid : Prop := fnExactLocoOkUptoRow.holds Try.pinned (OpenSpec.upto fnExactLocoOkSpec)

/-- 'laws.FnExactMotorOk', WHERE WHAT IT READS IS OF BULK AT MOST 1048576: true; the input reads as it did. -/
def fnExactMotorOkUptoRow : OpenClaim := { program := "ytfcljimfpjoioaa", sum := "5ffe0e6e9307639fabd4d4fcb30c7022859a632cbb9b75d510406c27979d4953", func := "loop.example/g00075/laws.FnExactMotorOk", spec := "fnExactMotorOk", apart := false, narrowed := true }
def FnExactMotorOkUptoSaid : Prop := fnExactMotorOkUptoRow.holds Try.pinned (OpenSpec.upto fnExactMotorOkSpec)

/-- 'laws.FnExactCarOk', WHERE WHAT IT READS IS OF BULK AT MOST 1048576: true; the input reads as it did. -/
def fnExactCarOkUptoRow : OpenClaim := { program := "ytfcljimfpjoioaa", sum := "5ffe0e6e9307639fabd4d4fcb30c7022859a632cbb9b75d510406c27979d4953", func := "loop.example/g00075/laws.FnExactCarOk", spec := "fnExactCarOk", apart := false, narrowed := true }
def FnExactCarOkUptoSaid : Prop := fnExactCarOkUptoRow.holds Try.pinned (OpenSpec.upto fnExactCarOkSpec)

/-- 'laws.FnRoots', WHERE WHAT IT READS IS OF BULK AT MOST 1048576: true; the input reads as it did. -/
def fnRootsUptoRow : OpenClaim := { program := "ytfcljimfpjoioaa", sum := "5ffe0e6e9307639fabd4d4fcb30c7022859a632cbb9b75d510406c27979d4953", func := "loop.example/g00075/laws.FnRoots", spec := "fnRoots", apart := false, narrowed := true }
def FnRootsUptoSaid : Prop := fnRootsUptoRow.holds Try.pinned (OpenSpec.upto fnRootsSpec)

end Rows
end Go.Proofs.Ytfcljimfpjoioaa
