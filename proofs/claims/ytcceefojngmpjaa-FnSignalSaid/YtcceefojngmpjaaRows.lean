/-
  No cell of these rows narrows 'for every input' (looked for: loops, veiled, ifaces, maps, wideKeys, modest, calm, conditions, laid).
  DERIVED. THE GIVEN ROWS OF THIS SEAT. 8 by the template 'for every input the law returns true; each argument reads behind the call as it read before'; 0 by the template 'total and deterministic' (their statements: YtcceefojngmpjaaTotals.lean).
  GIVEN WITH THE SEED: the statements are not yours to turn. If you find one false, say at which input.
  Laid BY PROGRAM, IN A SANDBOX (cutbox-rows.mjs): the forced cells as the released guide's own fill.sh prints them over the translation 91ccbd8ba0bc7fb5… (all of the seat's roots in one cut). By AI agents, Wed Nov 11 2026. No macro, syntax, notation, axiom, sorry.
-/
import Derived.Test.YtcceefojngmpjaaChecked
import GoSem.Claim
import GoSem.ClaimJoined
import GoSem.ClaimMapViews
import Derived.JoinedTies
import Derived.KernelRfl
namespace Go.Proofs.Ytcceefojngmpjaa
/- THE CELL 'sum', in the pinned program and in every row, IS THE sha256 OF THE DUMP (.gsa) THAT YtcceefojngmpjaaProg.lean LOADS. Nothing in Lean hashes anything: it is a label: what it is worth is what the hold of that sum in a sandbox is worth. -/
noncomputable def Try.pinned : Pinned := { name := "ytcceefojngmpjaa", sum := "91ccbd8ba0bc7fb547543f111de2d682232c9b36ba8d06a90b2af1ccf5e153b2", checked := Try.checked }
namespace Rows
def none {H : Type} : Left H := { results := [], args := [] }

/-- 'laws.FnExactTrainsOk': WHATEVER THE INPUT: true; the input reads as it did. -/
def fnExactTrainsOkSpec : ChangeSpec := { name := "fnExactTrainsOk", fn := fun _ => fun
  | [d1, d2] => { results := [.lit (.bool true)], args := [d1, d2] }
  | _ => none }
def fnExactTrainsOkRow : OpenClaim := { program := "ytcceefojngmpjaa", sum := "91ccbd8ba0bc7fb547543f111de2d682232c9b36ba8d06a90b2af1ccf5e153b2", func := "loop.example/g00075/laws.FnExactTrainsOk", spec := "fnExactTrainsOk", apart := false }
def FnExactTrainsOkSaid : Prop := fnExactTrainsOkRow.holds Try.pinned (OpenSpec.ofChange fnExactTrainsOkSpec)

/-- ITS FALSE NEIGHBOUR: 'it returns false'. Refute it at one input. -/
def fnExactTrainsOkWrong : ChangeSpec := { name := "fnExactTrainsOk", fn := fun _ => fun
  | [d1, d2] => { results := [.lit (.bool false)], args := [d1, d2] }
  | _ => none }
def FnExactTrainsOkWrongFalsely : Prop := fnExactTrainsOkRow.holds Try.pinned (OpenSpec.ofChange fnExactTrainsOkWrong)

/-- 'laws.FnExactAspects': WHATEVER THE INPUT: true; the input reads as it did. -/
def fnExactAspectsSpec : ChangeSpec := { name := "fnExactAspects", fn := fun _ => fun
  | [d1, d2] => { results := [.lit (.bool true)], args := [d1, d2] }
  | _ => none }
def fnExactAspectsRow : OpenClaim := { program := "ytcceefojngmpjaa", sum := "91ccbd8ba0bc7fb547543f111de2d682232c9b36ba8d06a90b2af1ccf5e153b2", func := "loop.example/g00075/laws.FnExactAspects", spec := "fnExactAspects", apart := false }
def FnExactAspectsSaid : Prop := fnExactAspectsRow.holds Try.pinned (OpenSpec.ofChange fnExactAspectsSpec)

/-- ITS FALSE NEIGHBOUR: 'it returns false'. Refute it at one input. -/
def fnExactAspectsWrong : ChangeSpec := { name := "fnExactAspects", fn := fun _ => fun
  | [d1, d2] => { results := [.lit (.bool false)], args := [d1, d2] }
  | _ => none }
def FnExactAspectsWrongFalsely : Prop := fnExactAspectsRow.holds Try.pinned (OpenSpec.ofChange fnExactAspectsWrong)

/-- 'laws.FnExactShrink': WHATEVER THE INPUT: true; the input reads as it did. -/
def fnExactShrinkSpec : ChangeSpec := { name := "fnExactShrink", fn := fun _ => fun
  | [d1, d2, d3] => { results := [.lit (.bool true)], args := [d1, d2, d3] }
  | _ => none }
def fnExactShrinkRow : OpenClaim := { program := "ytcceefojngmpjaa", sum := "91ccbd8ba0bc7fb547543f111de2d682232c9b36ba8d06a90b2af1ccf5e153b2", func := "loop.example/g00075/laws.FnExactShrink", spec := "fnExactShrink", apart := false }
def FnExactShrinkSaid : Prop := fnExactShrinkRow.holds Try.pinned (OpenSpec.ofChange fnExactShrinkSpec)

/-- ITS FALSE NEIGHBOUR: 'it returns false'. Refute it at one input. -/
def fnExactShrinkWrong : ChangeSpec := { name := "fnExactShrink", fn := fun _ => fun
  | [d1, d2, d3] => { results := [.lit (.bool false)], args := [d1, d2, d3] }
  | _ => none }
def FnExactShrinkWrongFalsely : Prop := fnExactShrinkRow.holds Try.pinned (OpenSpec.ofChange fnExactShrinkWrong)

/-- 'laws.FnExactTakenBy': WHATEVER THE INPUT: true; the input reads as it did. -/
def fnExactTakenBySpec : ChangeSpec := { name := "fnExactTakenBy", fn := fun _ => fun
  | [d1, d2] => { results := [.lit (.bool true)], args := [d1, d2] }
  | _ => none }
def fnExactTakenByRow : OpenClaim := { program := "ytcceefojngmpjaa", sum := "91ccbd8ba0bc7fb547543f111de2d682232c9b36ba8d06a90b2af1ccf5e153b2", func := "loop.example/g00075/laws.FnExactTakenBy", spec := "fnExactTakenBy", apart := false }
def FnExactTakenBySaid : Prop := fnExactTakenByRow.holds Try.pinned (OpenSpec.ofChange fnExactTakenBySpec)

/-- ITS FALSE NEIGHBOUR: 'it returns false'. Refute it at one input. -/
def fnExactTakenByWrong : ChangeSpec := { name := "fnExactTakenBy", fn := fun _ => fun
  | [d1, d2] => { results := [.lit (.bool false)], args := [d1, d2] }
  | _ => none }
def FnExactTakenByWrongFalsely : Prop := fnExactTakenByRow.holds Try.pinned (OpenSpec.ofChange fnExactTakenByWrong)

/-- 'laws.FnSignal': WHATEVER THE INPUT: true; the input reads as it did. -/
def fnSignalSpec : ChangeSpec := { name := "fnSignal", fn := fun _ => fun
  | [d] => { results := [.lit (.bool true)], args := [d] }
  | _ => none }
def fnSignalRow : OpenClaim := { program := "ytcceefojngmpjaa", sum := "91ccbd8ba0bc7fb547543f111de2d682232c9b36ba8d06a90b2af1ccf5e153b2", func := "loop.example/g00075/laws.FnSignal", spec := "fnSignal", apart := false }
def FnSignalSaid : Prop := fnSignalRow.holds Try.pinned (OpenSpec.ofChange fnSignalSpec)

/-- ITS FALSE NEIGHBOUR: 'it returns false'. Refute it at one input. -/
def fnSignalWrong : ChangeSpec := { name := "fnSignal", fn := fun _ => fun
  | [d] => { results := [.lit (.bool false)], args := [d] }
  | _ => none }
def FnSignalWrongFalsely : Prop := fnSignalRow.holds Try.pinned (OpenSpec.ofChange fnSignalWrong)

/-- 'laws.FnBlocks': WHATEVER THE INPUT: true; the input reads as it did. -/
def fnBlocksSpec : ChangeSpec := { name := "fnBlocks", fn := fun _ => fun
  | [d] => { results := [.lit (.bool true)], args := [d] }
  | _ => none }
def fnBlocksRow : OpenClaim := { program := "ytcceefojngmpjaa", sum := "91ccbd8ba0bc7fb547543f111de2d682232c9b36ba8d06a90b2af1ccf5e153b2", func := "loop.example/g00075/laws.FnBlocks", spec := "fnBlocks", apart := false }
def FnBlocksSaid : Prop := fnBlocksRow.holds Try.pinned (OpenSpec.ofChange fnBlocksSpec)

/-- ITS FALSE NEIGHBOUR: 'it returns false'. Refute it at one input. -/
def fnBlocksWrong : ChangeSpec := { name := "fnBlocks", fn := fun _ => fun
  | [d] => { results := [.lit (.bool false)], args := [d] }
  | _ => none }
def FnBlocksWrongFalsely : Prop := fnBlocksRow.holds Try.pinned (OpenSpec.ofChange fnBlocksWrong)

/-- 'laws.FnExactForward': WHATEVER THE INPUT: true; the input reads as it did. -/
def fnExactForwardSpec : ChangeSpec := { name := "fnExactForward", fn := fun _ => fun
  | [d1, d2, d3, d4] => { results := [.lit (.bool true)], args := [d1, d2, d3, d4] }
  | _ => none }
def fnExactForwardRow : OpenClaim := { program := "ytcceefojngmpjaa", sum := "91ccbd8ba0bc7fb547543f111de2d682232c9b36ba8d06a90b2af1ccf5e153b2", func := "loop.example/g00075/laws.FnExactForward", spec := "fnExactForward", apart := false }
def FnExactForwardSaid : Prop := fnExactForwardRow.holds Try.pinned (OpenSpec.ofChange fnExactForwardSpec)

/-- ITS FALSE NEIGHBOUR: 'it returns false'. Refute it at one input. -/
def fnExactForwardWrong : ChangeSpec := { name := "fnExactForward", fn := fun _ => fun
  | [d1, d2, d3, d4] => { results := [.lit (.bool false)], args := [d1, d2, d3, d4] }
  | _ => none }
def FnExactForwardWrongFalsely : Prop := fnExactForwardRow.holds Try.pinned (OpenSpec.ofChange fnExactForwardWrong)

/-- 'laws.FnDrive': WHATEVER THE INPUT: true; the input reads as it did. -/
def fnDriveSpec : ChangeSpec := { name := "fnDrive", fn := fun _ => fun
  | [d] => { results := [.lit (.bool true)], args := [d] }
  | _ => none }
def fnDriveRow : OpenClaim := { program := "ytcceefojngmpjaa", sum := "91ccbd8ba0bc7fb547543f111de2d682232c9b36ba8d06a90b2af1ccf5e153b2", func := "loop.example/g00075/laws.FnDrive", spec := "fnDrive", apart := false }
def FnDriveSaid : Prop := fnDriveRow.holds Try.pinned (OpenSpec.ofChange fnDriveSpec)

/-- ITS FALSE NEIGHBOUR: 'it returns false'. Refute it at one input. -/
def fnDriveWrong : ChangeSpec := { name := "fnDrive", fn := fun _ => fun
  | [d] => { results := [.lit (.bool false)], args := [d] }
  | _ => none }
def FnDriveWrongFalsely : Prop := fnDriveRow.holds Try.pinned (OpenSpec.ofChange fnDriveWrong)

/- THE SECOND FORM. 'bulk': how many values and letters a reading holds, each counted each time it is reached (what is shared counts as often as it is met; a slice's spare places count too). A statement '..UptoSaid' is the law's where the arguments, and the package variables that the reading takes, are together of bulk at most 1048576: NARROWER than '..Said'. Prove '..Said' where nothing that the law and all that it calls make is longer than what came in: it says more and counts as full. Else prove '..UptoSaid'. A law counts once. -/
mutual
def uptoBulk {H : Type} : DataW H → Nat
  | .lit (.string bytes) => bytes.length + 1
  | .lit _ => 1
  | .nil => 1
  | .ptr d => uptoBulk d + 1
  | .slice elems spare => uptoBulkAll elems + uptoBulkAll spare + 1
  | .agg parts => uptoBulkAll parts + 1
  | .iface _ d => uptoBulk d + 1
  | .map entries => uptoBulkEntries entries + 1
  | .held _ => 1
def uptoBulkAll {H : Type} : List (DataW H) → Nat
  | [] => 0
  | d :: r => uptoBulk d + uptoBulkAll r
def uptoBulkEntries {H : Type} : List (Lit × DataW H) → Nat
  | [] => 0
  | x :: r => uptoBulkEntry x + uptoBulkEntries r
def uptoBulkEntry {H : Type} : Lit × DataW H → Nat
  | (.string bytes, d) => bytes.length + uptoBulk d + 1
  | (_, d) => uptoBulk d + 1
 end
def uptoSmall : (H : Type) → List (DataW H) → Bool := fun _ ds => decide (uptoBulkAll ds ≤ 1048576)
def OpenSpec.upto (s : _root_.Go.ChangeSpec) : _root_.Go.OpenSpec := { _root_.Go.OpenSpec.ofChange s with cond := some uptoSmall }

/-- 'laws.FnExactTrainsOk', WHERE WHAT IT READS IS OF BULK AT MOST 1048576: true; the input reads as it did. -/
def fnExactTrainsOkUptoRow : OpenClaim := { program := "ytcceefojngmpjaa", sum := "91ccbd8ba0bc7fb547543f111de2d682232c9b36ba8d06a90b2af1ccf5e153b2", func := "loop.example/g00075/laws.FnExactTrainsOk", spec := "fnExactTrainsOk", apart := false, narrowed := true }
def FnExactTrainsOkUptoSaid : Prop := fnExactTrainsOkUptoRow.holds Try.pinned (OpenSpec.upto fnExactTrainsOkSpec)

/-- 'laws.FnExactAspects', WHERE WHAT IT READS IS OF BULK AT MOST 1048576: true; the input reads as it did. -/
def fnExactAspectsUptoRow : OpenClaim := { program := "ytcceefojngmpjaa", sum := "91ccbd8ba0bc7fb547543f111de2d682232c9b36ba8d06a90b2af1ccf5e153b2", func := "loop.example/g00075/laws.FnExactAspects", spec := "fnExactAspects", apart := false, narrowed := true }
def FnExactAspectsUptoSaid : Prop := fnExactAspectsUptoRow.holds Try.pinned (OpenSpec.upto fnExactAspectsSpec)

/-- 'laws.FnExactShrink', WHERE WHAT IT READS IS OF BULK AT MOST 1048576: true; the input reads as it did. -/
def fnExactShrinkUptoRow : OpenClaim := { program := "ytcceefojngmpjaa", sum := "91ccbd8ba0bc7fb547543f111de2d682232c9b36ba8d06a90b2af1ccf5e153b2", func := "loop.example/g00075/laws.FnExactShrink", spec := "fnExactShrink", apart := false, narrowed := true }
def FnExactShrinkUptoSaid : Prop := fnExactShrinkUptoRow.holds Try.pinned (OpenSpec.upto fnExactShrinkSpec)

/-- 'laws.FnExactTakenBy', WHERE WHAT IT READS IS OF BULK AT MOST 1048576: true; the input reads as it did. -/
def fnExactTakenByUptoRow : OpenClaim := { program := "ytcceefojngmpjaa", sum := "91ccbd8ba0bc7fb547543f111de2d682232c9b36ba8d06a90b2af1ccf5e153b2", func := "loop.example/g00075/laws.FnExactTakenBy", spec := "fnExactTakenBy", apart := false, narrowed := true }
def FnExactTakenByUptoSaid : Prop := fnExactTakenByUptoRow.holds Try.pinned (OpenSpec.upto fnExactTakenBySpec)

/-- 'laws.FnSignal', WHERE WHAT IT READS IS OF BULK AT MOST 1048576: true; the input reads as it did. -/
def fnSignalUptoRow : OpenClaim := { program := "ytcceefojngmpjaa", sum := "91ccbd8ba0bc7fb547543f111de2d682232c9b36ba8d06a90b2af1ccf5e153b2", func := "loop.example/g00075/laws.FnSignal", spec := "fnSignal", apart := false, narrowed := true }
def FnSignalUptoSaid : Prop := fnSignalUptoRow.holds Try.pinned (OpenSpec.upto fnSignalSpec)

/-- 'laws.FnBlocks', WHERE WHAT IT READS IS OF BULK AT MOST 1048576: true; the input reads as it did. -/
def fnBlocksUptoRow : OpenClaim := { program := "ytcceefojngmpjaa", sum := "91ccbd8ba0bc7fb547543f111de2d682232c9b36ba8d06a90b2af1ccf5e153b2", func := "loop.example/g00075/laws.FnBlocks", spec := "fnBlocks", apart := false, narrowed := true }
def FnBlocksUptoSaid : Prop := fnBlocksUptoRow.holds Try.pinned (OpenSpec.upto fnBlocksSpec)

/-- 'laws.FnExactForward', WHERE WHAT IT READS IS OF BULK AT MOST 1048576: true; the input reads as it did. -/
def fnExactForwardUptoRow : OpenClaim := { program := "ytcceefojngmpjaa", sum := "91ccbd8ba0bc7fb547543f111de2d682232c9b36ba8d06a90b2af1ccf5e153b2", func := "loop.example/g00075/laws.FnExactForward", spec := "fnExactForward", apart := false, narrowed := true }
def FnExactForwardUptoSaid : Prop := fnExactForwardUptoRow.holds Try.pinned (OpenSpec.upto fnExactForwardSpec)

/-- 'laws.FnDrive', WHERE WHAT IT READS IS OF BULK AT MOST 1048576: true; the input reads as it did. -/
def fnDriveUptoRow : OpenClaim := { program := "ytcceefojngmpjaa", sum := "91ccbd8ba0bc7fb547543f111de2d682232c9b36ba8d06a90b2af1ccf5e153b2", func := "loop.example/g00075/laws.FnDrive", spec := "fnDrive", apart := false, narrowed := true }
def FnDriveUptoSaid : Prop := fnDriveUptoRow.holds Try.pinned (OpenSpec.upto fnDriveSpec)

end Rows
end Go.Proofs.Ytcceefojngmpjaa
