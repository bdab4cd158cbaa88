/-
  No cell of these rows narrows 'for every input' (looked for: loops, veiled, ifaces, maps, wideKeys, modest, calm, conditions, laid).
  DERIVED. THE GIVEN ROWS OF THIS SEAT. 8 by the template 'for every input the law returns true; each argument reads behind the call as it read before'; 0 by the template 'total and deterministic' (their statements: YtcamdgdkpfkdfaaTotals.lean).
  GIVEN WITH THE SEED: the statements are not yours to turn. If you find one false, say at which input.
  Laid BY PROGRAM, IN A SANDBOX (cutbox-rows.mjs): the forced cells as the released guide's own fill.sh prints them over the translation 14f3631cb1f50a34… (all of the seat's roots in one cut). By AI agents, Wed Nov 11 2026. No macro, syntax, notation, axiom, sorry.
-/
import Derived.Test.YtcamdgdkpfkdfaaChecked
import GoSem.Claim
import GoSem.ClaimJoined
import GoSem.ClaimMapViews
import Derived.JoinedTies
import Derived.KernelRfl
namespace Go.Proofs.Ytcamdgdkpfkdfaa
/- THE CELL 'sum', in the pinned program and in every row, IS THE sha256 OF THE DUMP (.gsa) THAT YtcamdgdkpfkdfaaProg.lean LOADS. Nothing in Lean hashes anything: it is a label: what it is worth is what the hold of that sum in a sandbox is worth. -/
noncomputable def Try.pinned : Pinned := { name := "ytcamdgdkpfkdfaa", sum := "14f3631cb1f50a342e9751e8913e2db9e84a9d26579e3488afeb69c2a58c0448", checked := Try.checked }
namespace Rows
def none {H : Type} : Left H := { results := [], args := [] }

/-- 'laws.FnExactSquares': WHATEVER THE INPUT: true; the input reads as it did. -/
def fnExactSquaresSpec : ChangeSpec := { name := "fnExactSquares", fn := fun _ => fun
  | [d1, d2] => { results := [.lit (.bool true)], args := [d1, d2] }
  | _ => none }
def fnExactSquaresRow : OpenClaim := { program := "ytcamdgdkpfkdfaa", sum := "14f3631cb1f50a342e9751e8913e2db9e84a9d26579e3488afeb69c2a58c0448", func := "loop.example/g00075/laws.FnExactSquares", spec := "fnExactSquares", apart := false }
def FnExactSquaresSaid : Prop := fnExactSquaresRow.holds Try.pinned (OpenSpec.ofChange fnExactSquaresSpec)

/-- ITS FALSE NEIGHBOUR: 'it returns false'. Refute it at one input. -/
def fnExactSquaresWrong : ChangeSpec := { name := "fnExactSquares", fn := fun _ => fun
  | [d1, d2] => { results := [.lit (.bool false)], args := [d1, d2] }
  | _ => none }
def FnExactSquaresWrongFalsely : Prop := fnExactSquaresRow.holds Try.pinned (OpenSpec.ofChange fnExactSquaresWrong)

/-- 'laws.FnEase': WHATEVER THE INPUT: true; the input reads as it did. -/
def fnEaseSpec : ChangeSpec := { name := "fnEase", fn := fun _ => fun
  | [d] => { results := [.lit (.bool true)], args := [d] }
  | _ => none }
def fnEaseRow : OpenClaim := { program := "ytcamdgdkpfkdfaa", sum := "14f3631cb1f50a342e9751e8913e2db9e84a9d26579e3488afeb69c2a58c0448", func := "loop.example/g00075/laws.FnEase", spec := "fnEase", apart := false }
def FnEaseSaid : Prop := fnEaseRow.holds Try.pinned (OpenSpec.ofChange fnEaseSpec)

/-- ITS FALSE NEIGHBOUR: 'it returns false'. Refute it at one input. -/
def fnEaseWrong : ChangeSpec := { name := "fnEase", fn := fun _ => fun
  | [d] => { results := [.lit (.bool false)], args := [d] }
  | _ => none }
def FnEaseWrongFalsely : Prop := fnEaseRow.holds Try.pinned (OpenSpec.ofChange fnEaseWrong)

/-- 'laws.FnFaster': WHATEVER THE INPUT: true; the input reads as it did. -/
def fnFasterSpec : ChangeSpec := { name := "fnFaster", fn := fun _ => fun
  | [d] => { results := [.lit (.bool true)], args := [d] }
  | _ => none }
def fnFasterRow : OpenClaim := { program := "ytcamdgdkpfkdfaa", sum := "14f3631cb1f50a342e9751e8913e2db9e84a9d26579e3488afeb69c2a58c0448", func := "loop.example/g00075/laws.FnFaster", spec := "fnFaster", apart := false }
def FnFasterSaid : Prop := fnFasterRow.holds Try.pinned (OpenSpec.ofChange fnFasterSpec)

/-- ITS FALSE NEIGHBOUR: 'it returns false'. Refute it at one input. -/
def fnFasterWrong : ChangeSpec := { name := "fnFaster", fn := fun _ => fun
  | [d] => { results := [.lit (.bool false)], args := [d] }
  | _ => none }
def FnFasterWrongFalsely : Prop := fnFasterRow.holds Try.pinned (OpenSpec.ofChange fnFasterWrong)

/-- 'laws.FnSquares': WHATEVER THE INPUT: true; the input reads as it did. -/
def fnSquaresSpec : ChangeSpec := { name := "fnSquares", fn := fun _ => fun
  | [d] => { results := [.lit (.bool true)], args := [d] }
  | _ => none }
def fnSquaresRow : OpenClaim := { program := "ytcamdgdkpfkdfaa", sum := "14f3631cb1f50a342e9751e8913e2db9e84a9d26579e3488afeb69c2a58c0448", func := "loop.example/g00075/laws.FnSquares", spec := "fnSquares", apart := false }
def FnSquaresSaid : Prop := fnSquaresRow.holds Try.pinned (OpenSpec.ofChange fnSquaresSpec)

/-- ITS FALSE NEIGHBOUR: 'it returns false'. Refute it at one input. -/
def fnSquaresWrong : ChangeSpec := { name := "fnSquares", fn := fun _ => fun
  | [d] => { results := [.lit (.bool false)], args := [d] }
  | _ => none }
def FnSquaresWrongFalsely : Prop := fnSquaresRow.holds Try.pinned (OpenSpec.ofChange fnSquaresWrong)

/-- 'laws.FnExactRunTime': WHATEVER THE INPUT: true; the input reads as it did. -/
def fnExactRunTimeSpec : ChangeSpec := { name := "fnExactRunTime", fn := fun _ => fun
  | [d1, d2] => { results := [.lit (.bool true)], args := [d1, d2] }
  | _ => none }
def fnExactRunTimeRow : OpenClaim := { program := "ytcamdgdkpfkdfaa", sum := "14f3631cb1f50a342e9751e8913e2db9e84a9d26579e3488afeb69c2a58c0448", func := "loop.example/g00075/laws.FnExactRunTime", spec := "fnExactRunTime", apart := false }
def FnExactRunTimeSaid : Prop := fnExactRunTimeRow.holds Try.pinned (OpenSpec.ofChange fnExactRunTimeSpec)

/-- ITS FALSE NEIGHBOUR: 'it returns false'. Refute it at one input. -/
def fnExactRunTimeWrong : ChangeSpec := { name := "fnExactRunTime", fn := fun _ => fun
  | [d1, d2] => { results := [.lit (.bool false)], args := [d1, d2] }
  | _ => none }
def FnExactRunTimeWrongFalsely : Prop := fnExactRunTimeRow.holds Try.pinned (OpenSpec.ofChange fnExactRunTimeWrong)

/-- 'laws.FnExactWithStop': WHATEVER THE INPUT: true; the input reads as it did. -/
def fnExactWithStopSpec : ChangeSpec := { name := "fnExactWithStop", fn := fun _ => fun
  | [d1, d2, d3] => { results := [.lit (.bool true)], args := [d1, d2, d3] }
  | _ => none }
def fnExactWithStopRow : OpenClaim := { program := "ytcamdgdkpfkdfaa", sum := "14f3631cb1f50a342e9751e8913e2db9e84a9d26579e3488afeb69c2a58c0448", func := "loop.example/g00075/laws.FnExactWithStop", spec := "fnExactWithStop", apart := false }
def FnExactWithStopSaid : Prop := fnExactWithStopRow.holds Try.pinned (OpenSpec.ofChange fnExactWithStopSpec)

/-- ITS FALSE NEIGHBOUR: 'it returns false'. Refute it at one input. -/
def fnExactWithStopWrong : ChangeSpec := { name := "fnExactWithStop", fn := fun _ => fun
  | [d1, d2, d3] => { results := [.lit (.bool false)], args := [d1, d2, d3] }
  | _ => none }
def FnExactWithStopWrongFalsely : Prop := fnExactWithStopRow.holds Try.pinned (OpenSpec.ofChange fnExactWithStopWrong)

/-- 'laws.FnExactPassing': WHATEVER THE INPUT: true; the input reads as it did. -/
def fnExactPassingSpec : ChangeSpec := { name := "fnExactPassing", fn := fun _ => fun
  | [d1, d2] => { results := [.lit (.bool true)], args := [d1, d2] }
  | _ => none }
def fnExactPassingRow : OpenClaim := { program := "ytcamdgdkpfkdfaa", sum := "14f3631cb1f50a342e9751e8913e2db9e84a9d26579e3488afeb69c2a58c0448", func := "loop.example/g00075/laws.FnExactPassing", spec := "fnExactPassing", apart := false }
def FnExactPassingSaid : Prop := fnExactPassingRow.holds Try.pinned (OpenSpec.ofChange fnExactPassingSpec)

/-- ITS FALSE NEIGHBOUR: 'it returns false'. Refute it at one input. -/
def fnExactPassingWrong : ChangeSpec := { name := "fnExactPassing", fn := fun _ => fun
  | [d1, d2] => { results := [.lit (.bool false)], args := [d1, d2] }
  | _ => none }
def FnExactPassingWrongFalsely : Prop := fnExactPassingRow.holds Try.pinned (OpenSpec.ofChange fnExactPassingWrong)

/-- 'laws.FnExactEase': WHATEVER THE INPUT: true; the input reads as it did. -/
def fnExactEaseSpec : ChangeSpec := { name := "fnExactEase", fn := fun _ => fun
  | [d1, d2, d3] => { results := [.lit (.bool true)], args := [d1, d2, d3] }
  | _ => none }
def fnExactEaseRow : OpenClaim := { program := "ytcamdgdkpfkdfaa", sum := "14f3631cb1f50a342e9751e8913e2db9e84a9d26579e3488afeb69c2a58c0448", func := "loop.example/g00075/laws.FnExactEase", spec := "fnExactEase", apart := false }
def FnExactEaseSaid : Prop := fnExactEaseRow.holds Try.pinned (OpenSpec.ofChange fnExactEaseSpec)

/-- ITS FALSE NEIGHBOUR: 'it returns false'. Refute it at one input. -/
def fnExactEaseWrong : ChangeSpec := { name := "fnExactEase", fn := fun _ => fun
  | [d1, d2, d3] => { results := [.lit (.bool false)], args := [d1, d2, d3] }
  | _ => none }
def FnExactEaseWrongFalsely : Prop := fnExactEaseRow.holds Try.pinned (OpenSpec.ofChange fnExactEaseWrong)

/- THE SECOND FORM. 'bulk': how many values and letters a reading holds, each counted each time it is reached (what is shared counts as often as it is met; a slice's spare places count too). A statement '..UptoSaid' is the law's where the arguments, and the package variables that the reading takes, are together of bulk at most 1048576: NARROWER than '..Said'. Prove '..Said' where nothing that the law and all that it calls make is longer than what came in: it says more and counts as full. Else prove '..UptoSaid'. A law counts once. -/
mutual
def uptoBulk {H : Type} : DataW H → Nat
  | .lit (.string bytes) => bytes.length + 1
  | .lit _ => 1
  | .nil => 1
  | .ptr d => uptoBulk d + 1
  | .slice elems spare => uptoBulkAll elems + uptoBulkAll spare + 1
  | .agg parts => uptoBulkAll parts + 1
  | .iface _ d => uptoBulk d + 1
  | .map entries => uptoBulkEntries entries + 1
  | .held _ => 1
def uptoBulkAll {H : Type} : List (DataW H) → Nat
  | [] => 0
  | d :: r => uptoBulk d + uptoBulkAll r
def uptoBulkEntries {H : Type} : List (Lit × DataW H) → Nat
  | [] => 0
  | x :: r => uptoBulkEntry x + uptoBulkEntries r
def uptoBulkEntry {H : Type} : Lit × DataW H → Nat
  | (.string bytes, d) => bytes.length + uptoBulk d + 1
  | (_, d) => uptoBulk d + 1
 end
def uptoSmall : (H : Type) → List (DataW H) → Bool := fun _ ds => decide (uptoBulkAll ds ≤ 1048576)
def OpenSpec.upto (s : _root_.Go.ChangeSpec) : _root_.Go.OpenSpec := { _root_.Go.OpenSpec.ofChange s with cond := some uptoSmall }

/-- 'laws.FnExactSquares', WHERE WHAT IT READS IS OF BULK AT MOST 1048576: true; the input reads as it did. -/
def fnExactSquaresUptoRow : OpenClaim := { program := "ytcamdgdkpfkdfaa", sum := "14f3631cb1f50a342e9751e8913e2db9e84a9d26579e3488afeb69c2a58c0448", func := "loop.example/g00075/laws.FnExactSquares", spec := "fnExactSquares", apart := false, narrowed := true }
def FnExactSquaresUptoSaid : Prop := fnExactSquaresUptoRow.holds Try.pinned (OpenSpec.upto fnExactSquaresSpec)

/-- 'laws.FnEase', WHERE WHAT IT READS IS OF BULK AT MOST 1048576: true; the input reads as it did. -/
def fnEaseUptoRow : OpenClaim := { program := "ytcamdgdkpfkdfaa", sum := "14f3631cb1f50a342e9751e8913e2db9e84a9d26579e3488afeb69c2a58c0448", func := "loop.example/g00075/laws.FnEase", spec := "fnEase", apart := false, narrowed := true }
def FnEaseUptoSaid : Prop := fnEaseUptoRow.holds Try.pinned (OpenSpec.upto fnEaseSpec)

/-- 'laws.FnFaster', WHERE WHAT IT READS IS OF BULK AT MOST 1048576: true; the input reads as it did. -/
def fnFasterUptoRow : OpenClaim := { program := "ytcamdgdkpfkdfaa", sum := "14f3631cb1f50a342e9751e8913e2db9e84a9d26579e3488afeb69c2a58c0448", func := "loop.example/g00075/laws.FnFaster", spec := "fnFaster", apart := false, narrowed := true }
def FnFasterUptoSaid : Prop := fnFasterUptoRow.holds Try.pinned (OpenSpec.upto fnFasterSpec)

/-- 'laws.FnSquares', WHERE WHAT IT READS IS OF BULK AT MOST 1048576: true; the input reads as it did. -/
def fnSquaresUptoRow : OpenClaim := { program := "ytcamdgdkpfkdfaa", sum := "14f3631cb1f50a342e9751e8913e2db9e84a9d26579e3488afeb69c2a58c0448", func := "loop.example/g00075/laws.FnSquares", spec := "fnSquares", apart := false, narrowed := true }
def FnSquaresUptoSaid : Prop := fnSquaresUptoRow.holds Try.pinned (OpenSpec.upto fnSquaresSpec)

/-- 'laws.FnExactRunTime', WHERE WHAT IT READS IS OF BULK AT MOST 1048576: true; the input reads as it did. -/
def fnExactRunTimeUptoRow : OpenClaim := { program := "ytcamdgdkpfkdfaa", sum := "14f3631cb1f50a342e9751e8913e2db9e84a9d26579e3488afeb69c2a58c0448", func := "loop.example/g00075/laws.FnExactRunTime", spec := "fnExactRunTime", apart := false, narrowed := true }
def FnExactRunTimeUptoSaid : Prop := fnExactRunTimeUptoRow.holds Try.pinned (OpenSpec.upto fnExactRunTimeSpec)

/-- 'laws.FnExactWithStop', WHERE WHAT IT READS IS OF BULK AT MOST 1048576: true; the input reads as it did. -/
def fnExactWithStopUptoRow : OpenClaim := { program := "ytcamdgdkpfkdfaa", sum := "14f3631cb1f50a342e9751e8913e2db9e84a9d26579e3488afeb69c2a58c0448", func := "loop.example/g00075/laws.FnExactWithStop", spec := "fnExactWithStop", apart := false, narrowed := true }
def FnExactWithStopUptoSaid : Prop := fnExactWithStopUptoRow.holds Try.pinned (OpenSpec.upto fnExactWithStopSpec)

/-- 'laws.FnExactPassing', WHERE WHAT IT READS IS OF BULK AT MOST 1048576: true; the input reads as it did. -/
def fnExactPassingUptoRow : OpenClaim := { program := "ytcamdgdkpfkdfaa", sum := "14f3631cb1f50a342e9751e8913e2db9e84a9d26579e3488afeb69c2a58c0448", func := "loop.example/g00075/laws.FnExactPassing", spec := "fnExactPassing", apart := false, narrowed := true }
def FnExactPassingUptoSaid : Prop := fnExactPassingUptoRow.holds Try.pinned (OpenSpec.upto fnExactPassingSpec)

/-- 'laws.FnExactEase', WHERE WHAT IT READS IS OF BULK AT MOST 1048576: true; the input reads as it did. -/
def fnExactEaseUptoRow : OpenClaim := { program := "ytcamdgdkpfkdfaa", sum := "14f3631cb1f50a342e9751e8913e2db9e84a9d26579e3488afeb69c2a58c0448", func := "loop.example/g00075/laws.FnExactEase", spec := "fnExactEase", apart := false, narrowed := true }
def FnExactEaseUptoSaid : Prop := fnExactEaseUptoRow.holds Try.pinned (OpenSpec.upto fnExactEaseSpec)

end Rows
end Go.Proofs.Ytcamdgdkpfkdfaa
