/-
  DERIVED. GIVEN WITH THE SEED: THE CARDS: each row of YtifigmamaakigaaDoorRows.lean that lists a variable, with what it lists TIED to the program's text (the seventh form; the later family's looks); each row that meets fmt, with fmt's text TOLD by the authors' own Lean function (tested against real Go, not proved from fmt's source: count such statements apart). THE CARD IS WHAT COUNTS. Prove the row's statement (the work); the ties are given (YtifigmamaakigaaDoorTie.lean); close each card by the builder's one call (the guide's Derived/Test/ToyasCard.lean, 'card_holds'). Laid BY PROGRAM, IN A SANDBOX (cutbox-door.mjs). By AI agents, Wed Nov 11 2026. No macro, syntax, notation, axiom, sorry.
-/
import Derived.Test.YtifigmamaakigaaDoorRows
import GoSem.ClaimSeven
namespace Go.Proofs.YtifigmamaakigaaDoor
namespace Rows

/-- THE TIED CARD OF 'trestlelaw27.VerdictMerges'. -/
def verdictMergesCard : Claim7 := { stood := { row := verdictMergesRow, standIns := [], harness := (true, "3e61d4019603407948ead464325f8d03ca404d5066eae36164af49c28bf73f9f"), looks := true }, kinds := [], alts := [], laidByText := true, laidKinds := [.data, .data, .data, .data, .sentinel, .sentinel, .widerDeep, .pinned], laidTests := true, laidLooks := .later }
def VerdictMergesCardSaid : Prop := Claim7.holds Tryd.pinned (.plain (OpenSpec.ofChange verdictMergesSpec)) verdictMergesCard

/-- THE TIED CARD OF 'trestlelaw27.VerdictBack'. -/
def verdictBackCard : Claim7 := { stood := { row := verdictBackRow, standIns := [], harness := (true, "3e61d4019603407948ead464325f8d03ca404d5066eae36164af49c28bf73f9f"), looks := true }, kinds := [], alts := [], laidByText := true, laidKinds := [.data, .data, .data, .data, .sentinel, .sentinel, .widerDeep, .pinned], laidTests := true, laidLooks := .later }
def VerdictBackCardSaid : Prop := Claim7.holds Tryd.pinned (.plain (OpenSpec.ofChange verdictBackSpec)) verdictBackCard

/-- THE SECOND FORM's CARD OF 'trestlelaw27.VerdictMerges'. -/
def verdictMergesUptoCard : Claim7 := { stood := { row := verdictMergesUptoRow, standIns := [], harness := (true, "3e61d4019603407948ead464325f8d03ca404d5066eae36164af49c28bf73f9f"), looks := true }, kinds := [], alts := [], laidByText := true, laidKinds := [.data, .data, .data, .data, .sentinel, .sentinel, .widerDeep, .pinned], laidTests := true, laidLooks := .later }
def VerdictMergesUptoCardSaid : Prop := Claim7.holds Tryd.pinned (.plain (OpenSpec.upto verdictMergesSpec)) verdictMergesUptoCard

/-- THE SECOND FORM's CARD OF 'trestlelaw27.VerdictBack'. -/
def verdictBackUptoCard : Claim7 := { stood := { row := verdictBackUptoRow, standIns := [], harness := (true, "3e61d4019603407948ead464325f8d03ca404d5066eae36164af49c28bf73f9f"), looks := true }, kinds := [], alts := [], laidByText := true, laidKinds := [.data, .data, .data, .data, .sentinel, .sentinel, .widerDeep, .pinned], laidTests := true, laidLooks := .later }
def VerdictBackUptoCardSaid : Prop := Claim7.holds Tryd.pinned (.plain (OpenSpec.upto verdictBackSpec)) verdictBackUptoCard
end Rows
end Go.Proofs.YtifigmamaakigaaDoor
