/-
  No cell of these rows narrows 'for every input' (looked for: loops, veiled, ifaces, maps, wideKeys, modest, calm, conditions, laid).
  DERIVED. THE GIVEN ROWS OF THIS SEAT. 8 by the template 'for every input the law returns true; each argument reads behind the call as it read before'; 0 by the template 'total and deterministic' (their statements: YtgjhlkjfdlkndaaTotals.lean).
  GIVEN WITH THE SEED: the statements are not yours to turn. If you find one false, say at which input.
  Laid BY PROGRAM, IN A SANDBOX (cutbox-rows.mjs): the forced cells as the released guide's own fill.sh prints them over the translation 94c074680a18e493… (all of the seat's roots in one cut). By AI agents, Wed Nov 11 2026. No macro, syntax, notation, axiom, sorry.
-/
import Derived.Test.YtgjhlkjfdlkndaaChecked
import GoSem.Claim
import GoSem.ClaimJoined
import GoSem.ClaimMapViews
import Derived.JoinedTies
import Derived.KernelRfl
namespace Go.Proofs.Ytgjhlkjfdlkndaa
/- THE CELL 'sum', in the pinned program and in every row, IS THE sha256 OF THE DUMP (.gsa) THAT YtgjhlkjfdlkndaaProg.lean LOADS. Nothing in Lean hashes anything: it is a label: what it is worth is what the hold of that sum in a sandbox is worth. -/
noncomputable def Try.pinned : Pinned := { name := "ytgjhlkjfdlkndaa", sum := "94c074680a18e4938d10b70ae9cb272995a0b961cd24d50e7d4a78d3f5f2636e", checked := Try.checked }
namespace Rows
def none {H : Type} : Left H := { results := [], args := [] }

/-- 'laws.FnExactPatternOk': WHATEVER THE INPUT: true; the input reads as it did. -/
def fnExactPatternOkSpec : ChangeSpec := { name := "fnExactPatternOk", fn := fun _ => fun
  | [d] => { results := [.lit (.bool true)], args := [d] }
  | _ => none }
def fnExactPatternOkRow : OpenClaim := { program := "ytgjhlkjfdlkndaa", sum := "94c074680a18e4938d10b70ae9cb272995a0b961cd24d50e7d4a78d3f5f2636e", func := "loop.example/g00075/laws.FnExactPatternOk", spec := "fnExactPatternOk", apart := false }
def FnExactPatternOkSaid : Prop := fnExactPatternOkRow.holds Try.pinned (OpenSpec.ofChange fnExactPatternOkSpec)

/-- ITS FALSE NEIGHBOUR: 'it returns false'. Refute it at one input. -/
def fnExactPatternOkWrong : ChangeSpec := { name := "fnExactPatternOk", fn := fun _ => fun
  | [d] => { results := [.lit (.bool false)], args := [d] }
  | _ => none }
def FnExactPatternOkWrongFalsely : Prop := fnExactPatternOkRow.holds Try.pinned (OpenSpec.ofChange fnExactPatternOkWrong)

/-- 'laws.FnExactRunsOn': WHATEVER THE INPUT: true; the input reads as it did. -/
def fnExactRunsOnSpec : ChangeSpec := { name := "fnExactRunsOn", fn := fun _ => fun
  | [d1, d2] => { results := [.lit (.bool true)], args := [d1, d2] }
  | _ => none }
def fnExactRunsOnRow : OpenClaim := { program := "ytgjhlkjfdlkndaa", sum := "94c074680a18e4938d10b70ae9cb272995a0b961cd24d50e7d4a78d3f5f2636e", func := "loop.example/g00075/laws.FnExactRunsOn", spec := "fnExactRunsOn", apart := false }
def FnExactRunsOnSaid : Prop := fnExactRunsOnRow.holds Try.pinned (OpenSpec.ofChange fnExactRunsOnSpec)

/-- ITS FALSE NEIGHBOUR: 'it returns false'. Refute it at one input. -/
def fnExactRunsOnWrong : ChangeSpec := { name := "fnExactRunsOn", fn := fun _ => fun
  | [d1, d2] => { results := [.lit (.bool false)], args := [d1, d2] }
  | _ => none }
def FnExactRunsOnWrongFalsely : Prop := fnExactRunsOnRow.holds Try.pinned (OpenSpec.ofChange fnExactRunsOnWrong)

/-- 'laws.FnExactNextRun': WHATEVER THE INPUT: true; the input reads as it did. -/
def fnExactNextRunSpec : ChangeSpec := { name := "fnExactNextRun", fn := fun _ => fun
  | [d1, d2] => { results := [.lit (.bool true)], args := [d1, d2] }
  | _ => none }
def fnExactNextRunRow : OpenClaim := { program := "ytgjhlkjfdlkndaa", sum := "94c074680a18e4938d10b70ae9cb272995a0b961cd24d50e7d4a78d3f5f2636e", func := "loop.example/g00075/laws.FnExactNextRun", spec := "fnExactNextRun", apart := false }
def FnExactNextRunSaid : Prop := fnExactNextRunRow.holds Try.pinned (OpenSpec.ofChange fnExactNextRunSpec)

/-- ITS FALSE NEIGHBOUR: 'it returns false'. Refute it at one input. -/
def fnExactNextRunWrong : ChangeSpec := { name := "fnExactNextRun", fn := fun _ => fun
  | [d1, d2] => { results := [.lit (.bool false)], args := [d1, d2] }
  | _ => none }
def FnExactNextRunWrongFalsely : Prop := fnExactNextRunRow.holds Try.pinned (OpenSpec.ofChange fnExactNextRunWrong)

/-- 'laws.FnExactRuns': WHATEVER THE INPUT: true; the input reads as it did. -/
def fnExactRunsSpec : ChangeSpec := { name := "fnExactRuns", fn := fun _ => fun
  | [d] => { results := [.lit (.bool true)], args := [d] }
  | _ => none }
def fnExactRunsRow : OpenClaim := { program := "ytgjhlkjfdlkndaa", sum := "94c074680a18e4938d10b70ae9cb272995a0b961cd24d50e7d4a78d3f5f2636e", func := "loop.example/g00075/laws.FnExactRuns", spec := "fnExactRuns", apart := false }
def FnExactRunsSaid : Prop := fnExactRunsRow.holds Try.pinned (OpenSpec.ofChange fnExactRunsSpec)

/-- ITS FALSE NEIGHBOUR: 'it returns false'. Refute it at one input. -/
def fnExactRunsWrong : ChangeSpec := { name := "fnExactRuns", fn := fun _ => fun
  | [d] => { results := [.lit (.bool false)], args := [d] }
  | _ => none }
def FnExactRunsWrongFalsely : Prop := fnExactRunsRow.holds Try.pinned (OpenSpec.ofChange fnExactRunsWrong)

/-- 'laws.FnExactLater': WHATEVER THE INPUT: true; the input reads as it did. -/
def fnExactLaterSpec : ChangeSpec := { name := "fnExactLater", fn := fun _ => fun
  | [d1, d2] => { results := [.lit (.bool true)], args := [d1, d2] }
  | _ => none }
def fnExactLaterRow : OpenClaim := { program := "ytgjhlkjfdlkndaa", sum := "94c074680a18e4938d10b70ae9cb272995a0b961cd24d50e7d4a78d3f5f2636e", func := "loop.example/g00075/laws.FnExactLater", spec := "fnExactLater", apart := false }
def FnExactLaterSaid : Prop := fnExactLaterRow.holds Try.pinned (OpenSpec.ofChange fnExactLaterSpec)

/-- ITS FALSE NEIGHBOUR: 'it returns false'. Refute it at one input. -/
def fnExactLaterWrong : ChangeSpec := { name := "fnExactLater", fn := fun _ => fun
  | [d1, d2] => { results := [.lit (.bool false)], args := [d1, d2] }
  | _ => none }
def FnExactLaterWrongFalsely : Prop := fnExactLaterRow.holds Try.pinned (OpenSpec.ofChange fnExactLaterWrong)

/-- 'laws.FnLater': WHATEVER THE INPUT: true; the input reads as it did. -/
def fnLaterSpec : ChangeSpec := { name := "fnLater", fn := fun _ => fun
  | [d] => { results := [.lit (.bool true)], args := [d] }
  | _ => none }
def fnLaterRow : OpenClaim := { program := "ytgjhlkjfdlkndaa", sum := "94c074680a18e4938d10b70ae9cb272995a0b961cd24d50e7d4a78d3f5f2636e", func := "loop.example/g00075/laws.FnLater", spec := "fnLater", apart := false }
def FnLaterSaid : Prop := fnLaterRow.holds Try.pinned (OpenSpec.ofChange fnLaterSpec)

/-- ITS FALSE NEIGHBOUR: 'it returns false'. Refute it at one input. -/
def fnLaterWrong : ChangeSpec := { name := "fnLater", fn := fun _ => fun
  | [d] => { results := [.lit (.bool false)], args := [d] }
  | _ => none }
def FnLaterWrongFalsely : Prop := fnLaterRow.holds Try.pinned (OpenSpec.ofChange fnLaterWrong)

/-- 'laws.FnExactBoth': WHATEVER THE INPUT: true; the input reads as it did. -/
def fnExactBothSpec : ChangeSpec := { name := "fnExactBoth", fn := fun _ => fun
  | [d1, d2] => { results := [.lit (.bool true)], args := [d1, d2] }
  | _ => none }
def fnExactBothRow : OpenClaim := { program := "ytgjhlkjfdlkndaa", sum := "94c074680a18e4938d10b70ae9cb272995a0b961cd24d50e7d4a78d3f5f2636e", func := "loop.example/g00075/laws.FnExactBoth", spec := "fnExactBoth", apart := false }
def FnExactBothSaid : Prop := fnExactBothRow.holds Try.pinned (OpenSpec.ofChange fnExactBothSpec)

/-- ITS FALSE NEIGHBOUR: 'it returns false'. Refute it at one input. -/
def fnExactBothWrong : ChangeSpec := { name := "fnExactBoth", fn := fun _ => fun
  | [d1, d2] => { results := [.lit (.bool false)], args := [d1, d2] }
  | _ => none }
def FnExactBothWrongFalsely : Prop := fnExactBothRow.holds Try.pinned (OpenSpec.ofChange fnExactBothWrong)

/-- 'laws.FnBoth': WHATEVER THE INPUT: true; the input reads as it did. -/
def fnBothSpec : ChangeSpec := { name := "fnBoth", fn := fun _ => fun
  | [d] => { results := [.lit (.bool true)], args := [d] }
  | _ => none }
def fnBothRow : OpenClaim := { program := "ytgjhlkjfdlkndaa", sum := "94c074680a18e4938d10b70ae9cb272995a0b961cd24d50e7d4a78d3f5f2636e", func := "loop.example/g00075/laws.FnBoth", spec := "fnBoth", apart := false }
def FnBothSaid : Prop := fnBothRow.holds Try.pinned (OpenSpec.ofChange fnBothSpec)

/-- ITS FALSE NEIGHBOUR: 'it returns false'. Refute it at one input. -/
def fnBothWrong : ChangeSpec := { name := "fnBoth", fn := fun _ => fun
  | [d] => { results := [.lit (.bool false)], args := [d] }
  | _ => none }
def FnBothWrongFalsely : Prop := fnBothRow.holds Try.pinned (OpenSpec.ofChange fnBothWrong)

/- THE SECOND FORM. 'bulk': how many values and letters a reading holds, each counted each time it is reached (what is shared counts as often as it is met; a slice's spare places count too). A statement '..UptoSaid' is the law's where the arguments, and the package variables that the reading takes, are together of bulk at most 1048576: NARROWER than '..Said'. Prove '..Said' where nothing that the law and all that it calls make is longer than what came in: it says more and counts as full. Else prove '..UptoSaid'. A law counts once. -/
mutual
def uptoBulk {H : Type} : DataW H → Nat
  | .lit (.string bytes) => bytes.length + 1
  | .lit _ => 1
  | .nil => 1
  | .ptr d => uptoBulk d + 1
  | .slice elems spare => uptoBulkAll elems + uptoBulkAll spare + 1
  | .agg parts => uptoBulkAll parts + 1
  | .iface _ d => uptoBulk d + 1
  | .map entries => uptoBulkEntries entries + 1
  | .held _ => 1
def uptoBulkAll {H : Type} : List (DataW H) → Nat
  | [] => 0
  | d :: r => uptoBulk d + uptoBulkAll r
def uptoBulkEntries {H : Type} : List (Lit × DataW H) → Nat
  | [] => 0
  | x :: r => uptoBulkEntry x + uptoBulkEntries r
def uptoBulkEntry {H : Type} : Lit × DataW H → Nat
  | (.string bytes, d) => bytes.length + uptoBulk d + 1
  | (_, d) => uptoBulk d + 1
 end
def uptoSmall : (H : Type) → List (DataW H) → Bool := fun _ ds => decide (uptoBulkAll ds ≤ 1048576)
def OpenSpec.upto (s : _root_.Go.ChangeSpec) : _root_.Go.OpenSpec := { _root_.Go.OpenSpec.ofChange s with cond := some uptoSmall }

/-- 'laws.FnExactPatternOk', WHERE WHAT IT READS IS OF BULK AT MOST 1048576: true; the input reads as it did. -/
def fnExactPatternOkUptoRow : OpenClaim := { program := "ytgjhlkjfdlkndaa", sum := "94c074680a18e4938d10b70ae9cb272995a0b961cd24d50e7d4a78d3f5f2636e", func := "loop.example/g00075/laws.FnExactPatternOk", spec := "fnExactPatternOk", apart := false, narrowed := true }
def FnExactPatternOkUptoSaid : Prop := fnExactPatternOkUptoRow.holds Try.pinned (OpenSpec.upto fnExactPatternOkSpec)

/-- 'laws.FnExactRunsOn', WHERE WHAT IT READS IS OF BULK AT MOST 1048576: true; the input reads as it did. -/
def fnExactRunsOnUptoRow : OpenClaim := { program := "ytgjhlkjfdlkndaa", sum := "94c074680a18e4938d10b70ae9cb272995a0b961cd24d50e7d4a78d3f5f2636e", func := "loop.example/g00075/laws.FnExactRunsOn", spec := "fnExactRunsOn", apart := false, narrowed := true }
def FnExactRunsOnUptoSaid : Prop := fnExactRunsOnUptoRow.holds Try.pinned (OpenSpec.upto fnExactRunsOnSpec)

/-- 'laws.FnExactNextRun', WHERE WHAT IT READS IS OF BULK AT MOST 1048576: true; the input reads as it did. -/
def fnExactNextRunUptoRow : OpenClaim := { program := "ytgjhlkjfdlkndaa", sum := "94c074680a18e4938d10b70ae9cb272995a0b961cd24d50e7d4a78d3f5f2636e", func := "loop.example/g00075/laws.FnExactNextRun", spec := "fnExactNextRun", apart := false, narrowed := true }
def FnExactNextRunUptoSaid : Prop := fnExactNextRunUptoRow.holds Try.pinned (OpenSpec.upto fnExactNextRunSpec)

/-- 'laws.FnExactRuns', WHERE WHAT IT READS IS OF BULK AT MOST 1048576: true; the input reads as it did. -/
def fnExactRunsUptoRow : OpenClaim := { program := "ytgjhlkjfdlkndaa", sum := "94c074680a18e4938d10b70ae9cb272995a0b961cd24d50e7d4a78d3f5f2636e", func := "loop.example/g00075/laws.FnExactRuns", spec := "fnExactRuns", apart := false, narrowed := true }
def FnExactRunsUptoSaid : Prop := fnExactRunsUptoRow.holds Try.pinned (OpenSpec.upto fnExactRunsSpec)

/-- 'laws.FnExactLater', WHERE WHAT IT READS IS OF BULK AT MOST 1048576: true; the input reads as it did. -/
def fnExactLaterUptoRow : OpenClaim := { program := "ytgjhlkjfdlkndaa", sum := "94c074680a18e4938d10b70ae9cb272995a0b961cd24d50e7d4a78d3f5f2636e", func := "loop.example/g00075/laws.FnExactLater", spec := "fnExactLater", apart := false, narrowed := true }
def FnExactLaterUptoSaid : Prop := fnExactLaterUptoRow.holds Try.pinned (OpenSpec.upto fnExactLaterSpec)

/-- 'laws.FnLater', WHERE WHAT IT READS IS OF BULK AT MOST 1048576: true; the input reads as it did. -/
def fnLaterUptoRow : OpenClaim := { program := "ytgjhlkjfdlkndaa", sum := "94c074680a18e4938d10b70ae9cb272995a0b961cd24d50e7d4a78d3f5f2636e", func := "loop.example/g00075/laws.FnLater", spec := "fnLater", apart := false, narrowed := true }
def FnLaterUptoSaid : Prop := fnLaterUptoRow.holds Try.pinned (OpenSpec.upto fnLaterSpec)

/-- 'laws.FnExactBoth', WHERE WHAT IT READS IS OF BULK AT MOST 1048576: true; the input reads as it did. -/
def fnExactBothUptoRow : OpenClaim := { program := "ytgjhlkjfdlkndaa", sum := "94c074680a18e4938d10b70ae9cb272995a0b961cd24d50e7d4a78d3f5f2636e", func := "loop.example/g00075/laws.FnExactBoth", spec := "fnExactBoth", apart := false, narrowed := true }
def FnExactBothUptoSaid : Prop := fnExactBothUptoRow.holds Try.pinned (OpenSpec.upto fnExactBothSpec)

/-- 'laws.FnBoth', WHERE WHAT IT READS IS OF BULK AT MOST 1048576: true; the input reads as it did. -/
def fnBothUptoRow : OpenClaim := { program := "ytgjhlkjfdlkndaa", sum := "94c074680a18e4938d10b70ae9cb272995a0b961cd24d50e7d4a78d3f5f2636e", func := "loop.example/g00075/laws.FnBoth", spec := "fnBoth", apart := false, narrowed := true }
def FnBothUptoSaid : Prop := fnBothUptoRow.holds Try.pinned (OpenSpec.upto fnBothSpec)

end Rows
end Go.Proofs.Ytgjhlkjfdlkndaa
