/-
  No cell of these rows narrows 'for every input' (looked for: loops, veiled, ifaces, maps, wideKeys, modest, calm, conditions, laid).
  DERIVED. THE GIVEN ROWS OF THIS SEAT. 3 by the template 'for every input the law returns true; each argument reads behind the call as it read before'; 0 by the template 'total and deterministic' (their statements: YtmbonjljbienkaaTotals.lean).
  GIVEN WITH THE SEED: the statements are not yours to turn. If you find one false, say at which input.
  Laid BY PROGRAM, IN A SANDBOX (cutbox-rows.mjs): the forced cells as the released guide's own fill.sh prints them over the translation 7ede95542033832c… (all of the seat's roots in one cut). By AI agents, Wed Nov 11 2026. No macro, syntax, notation, axiom, sorry.
-/
import Derived.Test.YtmbonjljbienkaaChecked
import GoSem.Claim
import GoSem.ClaimJoined
import GoSem.ClaimMapViews
import Derived.JoinedTies
import Derived.KernelRfl
namespace Go.Proofs.Ytmbonjljbienkaa
/- THE CELL 'sum', in the pinned program and in every row, IS THE sha256 OF THE DUMP (.gsa) THAT YtmbonjljbienkaaProg.lean LOADS. Nothing in Lean hashes anything: it is a label: what it is worth is what the hold of that sum in a sandbox is worth. -/
noncomputable def Try.pinned : Pinned := { name := "ytmbonjljbienkaa", sum := "7ede95542033832c272c6bbf39f5b62df6e461516df8fca191b4f144190e139a", checked := Try.checked }
namespace Rows
def none {H : Type} : Left H := { results := [], args := [] }

/-- 'laws.FnFaster': WHATEVER THE INPUT: true; the input reads as it did. -/
def fnFasterSpec : ChangeSpec := { name := "fnFaster", fn := fun _ => fun
  | [d] => { results := [.lit (.bool true)], args := [d] }
  | _ => none }
def fnFasterRow : OpenClaim := { program := "ytmbonjljbienkaa", sum := "7ede95542033832c272c6bbf39f5b62df6e461516df8fca191b4f144190e139a", func := "loop.example/g00075/laws.FnFaster", spec := "fnFaster", apart := false }
def FnFasterSaid : Prop := fnFasterRow.holds Try.pinned (OpenSpec.ofChange fnFasterSpec)

/-- ITS FALSE NEIGHBOUR: 'it returns false'. Refute it at one input. -/
def fnFasterWrong : ChangeSpec := { name := "fnFaster", fn := fun _ => fun
  | [d] => { results := [.lit (.bool false)], args := [d] }
  | _ => none }
def FnFasterWrongFalsely : Prop := fnFasterRow.holds Try.pinned (OpenSpec.ofChange fnFasterWrong)

/-- 'laws.FnRide': WHATEVER THE INPUT: true; the input reads as it did. -/
def fnRideSpec : ChangeSpec := { name := "fnRide", fn := fun _ => fun
  | [d] => { results := [.lit (.bool true)], args := [d] }
  | _ => none }
def fnRideRow : OpenClaim := { program := "ytmbonjljbienkaa", sum := "7ede95542033832c272c6bbf39f5b62df6e461516df8fca191b4f144190e139a", func := "loop.example/g00075/laws.FnRide", spec := "fnRide", apart := false }
def FnRideSaid : Prop := fnRideRow.holds Try.pinned (OpenSpec.ofChange fnRideSpec)

/-- ITS FALSE NEIGHBOUR: 'it returns false'. Refute it at one input. -/
def fnRideWrong : ChangeSpec := { name := "fnRide", fn := fun _ => fun
  | [d] => { results := [.lit (.bool false)], args := [d] }
  | _ => none }
def FnRideWrongFalsely : Prop := fnRideRow.holds Try.pinned (OpenSpec.ofChange fnRideWrong)

/-- 'laws.FnDrive': WHATEVER THE INPUT: true; the input reads as it did. -/
def fnDriveSpec : ChangeSpec := { name := "fnDrive", fn := fun _ => fun
  | [d] => { results := [.lit (.bool true)], args := [d] }
  | _ => none }
def fnDriveRow : OpenClaim := { program := "ytmbonjljbienkaa", sum := "7ede95542033832c272c6bbf39f5b62df6e461516df8fca191b4f144190e139a", func := "loop.example/g00075/laws.FnDrive", spec := "fnDrive", apart := false }
def FnDriveSaid : Prop := fnDriveRow.holds Try.pinned (OpenSpec.ofChange fnDriveSpec)

/-- ITS FALSE NEIGHBOUR: 'it returns false'. Refute it at one input. -/
def fnDriveWrong : ChangeSpec := { name := "fnDrive", fn := fun _ => fun
  | [d] => { results := [.lit (.bool false)], args := [d] }
  | _ => none }
def FnDriveWrongFalsely : Prop := fnDriveRow.holds Try.pinned (OpenSpec.ofChange fnDriveWrong)

/- THE SECOND FORM. 'bulk': how many values and letters a reading holds, each counted each time it is reached (what is shared counts as often as it is met; a slice's spare places count too). A statement '..UptoSaid' is the law's where the arguments, and the package variables that the reading takes, are together of bulk at most 1048576: NARROWER than '..Said'. Prove '..Said' where nothing that the law and all that it calls make is longer than what came in: it says more and counts as full. Else prove '..UptoSaid'. A law counts once. -/
mutual
def uptoBulk {H : Type} : DataW H → Nat
  | .lit (.string bytes) => bytes.length + 1
  | .lit _ => 1
  | .nil => 1
  | .ptr d => uptoBulk d + 1
  | .slice elems spare => uptoBulkAll elems + uptoBulkAll spare + 1
  | .agg parts => uptoBulkAll parts + 1
  | .iface _ d => uptoBulk d + 1
  | .map entries => uptoBulkEntries entries + 1
  | .held _ => 1
def uptoBulkAll {H : Type} : List (DataW H) → Nat
  | [] => 0
  | d :: r => uptoBulk d + uptoBulkAll r
def uptoBulkEntries {H : Type} : List (Lit × DataW H) → Nat
  | [] => 0
  | x :: r => uptoBulkEntry x + uptoBulkEntries r
def uptoBulkEntry {H : Type} : Lit × DataW H → Nat
  | (.string bytes, d) => bytes.length + uptoBulk d + 1
  | (_, d) => uptoBulk d + 1
 end
def uptoSmall : (H : Type) → List (DataW H) → Bool := fun _ ds => decide (uptoBulkAll ds ≤ 1048576)
def OpenSpec.upto (s : _root_.Go.ChangeSpec) : _root_.Go.OpenSpec := { _root_.Go.OpenSpec.ofChange s with cond := some uptoSmall }

/-- 'laws.FnFaster', WHERE WHAT IT READS IS OF BULK AT MOST 1048576: true; the input reads as it did. -/
def fnFasterUptoRow : OpenClaim := { program := "ytmbonjljbienkaa", sum := "7ede95542033832c272c6bbf39f5b62df6e461516df8fca191b4f144190e139a", func := "loop.example/g00075/laws.FnFaster", spec := "fnFaster", apart := false, narrowed := true }
def FnFasterUptoSaid : Prop := fnFasterUptoRow.holds Try.pinned (OpenSpec.upto fnFasterSpec)

/-- 'laws.FnRide', WHERE WHAT IT READS IS OF BULK AT MOST 1048576: true; the input reads as it did. -/
def fnRideUptoRow : OpenClaim := { program := "ytmbonjljbienkaa", sum := "7ede95542033832c272c6bbf39f5b62df6e461516df8fca191b4f144190e139a", func := "loop.example/g00075/laws.FnRide", spec := "fnRide", apart := false, narrowed := true }
def FnRideUptoSaid : Prop := fnRideUptoRow.holds Try.pinned (OpenSpec.upto fnRideSpec)

/-- 'laws.FnDrive', WHERE WHAT IT READS IS OF BULK AT MOST 1048576: true; the input reads as it did. -/
def fnDriveUptoRow : OpenClaim := { program := "ytmbonjljbienkaa", sum := "7ede95542033832c272c6bbf39f5b62df6e461516df8fca191b4f144190e139a", func := "loop.example/g00075/laws.FnDrive", spec := "fnDrive", apart := false, narrowed := true }
def FnDriveUptoSaid : Prop := fnDriveUptoRow.holds Try.pinned (OpenSpec.upto fnDriveSpec)

end Rows
end Go.Proofs.Ytmbonjljbienkaa
