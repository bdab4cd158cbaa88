/-
  DERIVED. GIVEN WITH THE SEED: THE CARDS: each row of YtgjhlkjfdlkndaaDoorRows.lean that lists a variable, with what it lists TIED to the program's text (the seventh form; the later family's looks); each row that meets fmt, with fmt's text TOLD by the authors' own Lean function (tested against real Go, not proved from fmt's source: count such statements apart). THE CARD IS WHAT COUNTS. Prove the row's statement (the work); the ties are given (YtgjhlkjfdlkndaaDoorTie.lean); close each card by the builder's one call (the guide's Derived/Test/ToyasCard.lean, 'card_holds'). Laid BY PROGRAM, IN A SANDBOX (cutbox-door.mjs). By AI agents, Wed Nov 11 2026. No macro, syntax, notation, axiom, sorry.
-/
import Derived.Test.YtgjhlkjfdlkndaaDoorRows
import GoSem.ClaimSeven
namespace Go.Proofs.YtgjhlkjfdlkndaaDoor
namespace Rows

/-- THE TIED CARD OF 'laws.FnExactReadTime'. -/
def fnExactReadTimeCard : Claim7 := { stood := { row := fnExactReadTimeRow, standIns := [], harness := (true, "47a510e06106f9592f2882c8d2613056b046d56eae39f7e34d7860841a153681"), looks := false }, kinds := [], alts := [], laidByText := true, laidKinds := [.data, .data, .data], laidTests := true, laidLooks := .later }
def FnExactReadTimeCardSaid : Prop := Claim7.holds Tryd.pinned (.plain (OpenSpec.ofChange fnExactReadTimeSpec)) fnExactReadTimeCard

/-- THE TIED CARD OF 'laws.FnTimes'. -/
def fnTimesCard : Claim7 := { stood := { row := fnTimesRow, standIns := [], harness := (true, "47a510e06106f9592f2882c8d2613056b046d56eae39f7e34d7860841a153681"), looks := false }, kinds := [], alts := [], laidByText := true, laidKinds := [.data, .data, .data], laidTests := true, laidLooks := .later }
def FnTimesCardSaid : Prop := Claim7.holds Tryd.pinned (.plain (OpenSpec.ofChange fnTimesSpec)) fnTimesCard

/-- THE TIED CARD OF 'laws.FnExactTimeText'. -/
def fnExactTimeTextCard : Claim7 := { stood := { row := fnExactTimeTextRow, standIns := [], harness := (true, "47a510e06106f9592f2882c8d2613056b046d56eae39f7e34d7860841a153681"), looks := false }, kinds := [], alts := [], laidByText := true, laidKinds := [.data, .data, .data], laidTests := true, laidLooks := .later }
def FnExactTimeTextCardSaid : Prop := Claim7.holds Tryd.pinned (.plain (OpenSpec.ofChange fnExactTimeTextSpec)) fnExactTimeTextCard

/-- THE SECOND FORM's CARD OF 'laws.FnExactReadTime'. -/
def fnExactReadTimeUptoCard : Claim7 := { stood := { row := fnExactReadTimeUptoRow, standIns := [], harness := (true, "47a510e06106f9592f2882c8d2613056b046d56eae39f7e34d7860841a153681"), looks := false }, kinds := [], alts := [], laidByText := true, laidKinds := [.data, .data, .data], laidTests := true, laidLooks := .later }
def FnExactReadTimeUptoCardSaid : Prop := Claim7.holds Tryd.pinned (.plain (OpenSpec.upto fnExactReadTimeSpec)) fnExactReadTimeUptoCard

/-- THE SECOND FORM's CARD OF 'laws.FnTimes'. -/
def fnTimesUptoCard : Claim7 := { stood := { row := fnTimesUptoRow, standIns := [], harness := (true, "47a510e06106f9592f2882c8d2613056b046d56eae39f7e34d7860841a153681"), looks := false }, kinds := [], alts := [], laidByText := true, laidKinds := [.data, .data, .data], laidTests := true, laidLooks := .later }
def FnTimesUptoCardSaid : Prop := Claim7.holds Tryd.pinned (.plain (OpenSpec.upto fnTimesSpec)) fnTimesUptoCard

/-- THE SECOND FORM's CARD OF 'laws.FnExactTimeText'. -/
def fnExactTimeTextUptoCard : Claim7 := { stood := { row := fnExactTimeTextUptoRow, standIns := [], harness := (true, "47a510e06106f9592f2882c8d2613056b046d56eae39f7e34d7860841a153681"), looks := false }, kinds := [], alts := [], laidByText := true, laidKinds := [.data, .data, .data], laidTests := true, laidLooks := .later }
def FnExactTimeTextUptoCardSaid : Prop := Claim7.holds Tryd.pinned (.plain (OpenSpec.upto fnExactTimeTextSpec)) fnExactTimeTextUptoCard
end Rows
end Go.Proofs.YtgjhlkjfdlkndaaDoor
