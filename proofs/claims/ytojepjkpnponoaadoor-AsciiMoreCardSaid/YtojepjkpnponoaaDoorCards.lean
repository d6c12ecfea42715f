/-
  DERIVED. GIVEN WITH THE SEED: THE CARDS: each row of YtojepjkpnponoaaDoorRows.lean that lists a variable, with what it lists TIED to the program's text (the seventh form; the later family's looks); each row that meets fmt, with fmt's text TOLD by the authors' own Lean function (tested against real Go, not proved from fmt's source: count such statements apart). THE CARD IS WHAT COUNTS. Prove the row's statement (the work); the ties are given (YtojepjkpnponoaaDoorTie.lean); close each card by the builder's one call (the guide's Derived/Test/ToyasCard.lean, 'card_holds'). Laid BY PROGRAM, IN A SANDBOX (cutbox-door.mjs). By AI agents, Wed Nov 11 2026. No macro, syntax, notation, axiom, sorry.
-/
import Derived.Test.YtojepjkpnponoaaDoorRows
import GoSem.ClaimSeven
namespace Go.Proofs.YtojepjkpnponoaaDoor
namespace Rows

/-- THE TIED CARD OF 'trestlelaw12.StimPrints'. -/
def stimPrintsCard : Claim7 := { stood := { row := stimPrintsRow, standIns := [], harness := (true, "ceefe9fd1829a0d6bf9a22b60ea8dca0f72defbe5f88411bf7f9f633f2def695"), looks := true }, kinds := [], alts := [], laidByText := true, laidKinds := [.data, .data, .data, .data, .sentinel, .sentinel, .pinned], laidTests := true, laidLooks := .later }
def StimPrintsCardSaid : Prop := Claim7.holds Tryd.pinned (.plain (OpenSpec.ofChange stimPrintsSpec)) stimPrintsCard

/-- THE TIED CARD OF 'trestlelaw12.StimBack'. -/
def stimBackCard : Claim7 := { stood := { row := stimBackRow, standIns := [], harness := (true, "ceefe9fd1829a0d6bf9a22b60ea8dca0f72defbe5f88411bf7f9f633f2def695"), looks := true }, kinds := [], alts := [], laidByText := true, laidKinds := [.data, .data, .data, .data, .sentinel, .sentinel, .pinned], laidTests := true, laidLooks := .later }
def StimBackCardSaid : Prop := Claim7.holds Tryd.pinned (.plain (OpenSpec.ofChange stimBackSpec)) stimBackCard

/-- THE TIED CARD OF 'trestlelaw12.StimForth'. -/
def stimForthCard : Claim7 := { stood := { row := stimForthRow, standIns := [], harness := (true, "ceefe9fd1829a0d6bf9a22b60ea8dca0f72defbe5f88411bf7f9f633f2def695"), looks := true }, kinds := [], alts := [], laidByText := true, laidKinds := [.data, .data, .data, .data, .sentinel, .sentinel, .pinned], laidTests := true, laidLooks := .later }
def StimForthCardSaid : Prop := Claim7.holds Tryd.pinned (.plain (OpenSpec.ofChange stimForthSpec)) stimForthCard

/-- THE TIED CARD OF 'trestlelaw04.AsciiHeads'. -/
def asciiHeadsCard : Claim7 := { stood := { row := asciiHeadsRow, standIns := [], harness := (true, "ceefe9fd1829a0d6bf9a22b60ea8dca0f72defbe5f88411bf7f9f633f2def695"), looks := true }, kinds := [], alts := [], laidByText := true, laidKinds := [.data, .data, .data, .data, .sentinel, .sentinel, .pinned], laidTests := true, laidLooks := .later }
def AsciiHeadsCardSaid : Prop := Claim7.holds Tryd.pinned (.plain (OpenSpec.ofChange asciiHeadsSpec)) asciiHeadsCard

/-- THE TIED CARD OF 'trestlelaw04.AsciiTails'. -/
def asciiTailsCard : Claim7 := { stood := { row := asciiTailsRow, standIns := [], harness := (true, "ceefe9fd1829a0d6bf9a22b60ea8dca0f72defbe5f88411bf7f9f633f2def695"), looks := true }, kinds := [], alts := [], laidByText := true, laidKinds := [.data, .data, .data, .data, .sentinel, .sentinel, .pinned], laidTests := true, laidLooks := .later }
def AsciiTailsCardSaid : Prop := Claim7.holds Tryd.pinned (.plain (OpenSpec.ofChange asciiTailsSpec)) asciiTailsCard

/-- THE TIED CARD OF 'trestlelaw04.AsciiRight'. -/
def asciiRightCard : Claim7 := { stood := { row := asciiRightRow, standIns := [], harness := (true, "ceefe9fd1829a0d6bf9a22b60ea8dca0f72defbe5f88411bf7f9f633f2def695"), looks := true }, kinds := [], alts := [], laidByText := true, laidKinds := [.data, .data, .data, .data, .sentinel, .sentinel, .pinned], laidTests := true, laidLooks := .later }
def AsciiRightCardSaid : Prop := Claim7.holds Tryd.pinned (.plain (OpenSpec.ofChange asciiRightSpec)) asciiRightCard

/-- THE TIED CARD OF 'trestlelaw04.AsciiOne'. -/
def asciiOneCard : Claim7 := { stood := { row := asciiOneRow, standIns := [], harness := (true, "ceefe9fd1829a0d6bf9a22b60ea8dca0f72defbe5f88411bf7f9f633f2def695"), looks := true }, kinds := [], alts := [], laidByText := true, laidKinds := [.data, .data, .data, .data, .sentinel, .sentinel, .pinned], laidTests := true, laidLooks := .later }
def AsciiOneCardSaid : Prop := Claim7.holds Tryd.pinned (.plain (OpenSpec.ofChange asciiOneSpec)) asciiOneCard

/-- THE TIED CARD OF 'trestlelaw04.AsciiMore'. -/
def asciiMoreCard : Claim7 := { stood := { row := asciiMoreRow, standIns := [], harness := (true, "ceefe9fd1829a0d6bf9a22b60ea8dca0f72defbe5f88411bf7f9f633f2def695"), looks := true }, kinds := [], alts := [], laidByText := true, laidKinds := [.data, .data, .data, .data, .sentinel, .sentinel, .pinned], laidTests := true, laidLooks := .later }
def AsciiMoreCardSaid : Prop := Claim7.holds Tryd.pinned (.plain (OpenSpec.ofChange asciiMoreSpec)) asciiMoreCard

/-- THE SECOND FORM's CARD OF 'trestlelaw12.StimPrints'. -/
def stimPrintsUptoCard : Claim7 := { stood := { row := stimPrintsUptoRow, standIns := [], harness := (true, "ceefe9fd1829a0d6bf9a22b60ea8dca0f72defbe5f88411bf7f9f633f2def695"), looks := true }, kinds := [], alts := [], laidByText := true, laidKinds := [.data, .data, .data, .data, .sentinel, .sentinel, .pinned], laidTests := true, laidLooks := .later }
def StimPrintsUptoCardSaid : Prop := Claim7.holds Tryd.pinned (.plain (OpenSpec.upto stimPrintsSpec)) stimPrintsUptoCard

/-- THE SECOND FORM's CARD OF 'trestlelaw12.StimBack'. -/
def stimBackUptoCard : Claim7 := { stood := { row := stimBackUptoRow, standIns := [], harness := (true, "ceefe9fd1829a0d6bf9a22b60ea8dca0f72defbe5f88411bf7f9f633f2def695"), looks := true }, kinds := [], alts := [], laidByText := true, laidKinds := [.data, .data, .data, .data, .sentinel, .sentinel, .pinned], laidTests := true, laidLooks := .later }
def StimBackUptoCardSaid : Prop := Claim7.holds Tryd.pinned (.plain (OpenSpec.upto stimBackSpec)) stimBackUptoCard

/-- THE SECOND FORM's CARD OF 'trestlelaw12.StimForth'. -/
def stimForthUptoCard : Claim7 := { stood := { row := stimForthUptoRow, standIns := [], harness := (true, "ceefe9fd1829a0d6bf9a22b60ea8dca0f72defbe5f88411bf7f9f633f2def695"), looks := true }, kinds := [], alts := [], laidByText := true, laidKinds := [.data, .data, .data, .data, .sentinel, .sentinel, .pinned], laidTests := true, laidLooks := .later }
def StimForthUptoCardSaid : Prop := Claim7.holds Tryd.pinned (.plain (OpenSpec.upto stimForthSpec)) stimForthUptoCard

/-- THE SECOND FORM's CARD OF 'trestlelaw04.AsciiHeads'. -/
def asciiHeadsUptoCard : Claim7 := { stood := { row := asciiHeadsUptoRow, standIns := [], harness := (true, "ceefe9fd1829a0d6bf9a22b60ea8dca0f72defbe5f88411bf7f9f633f2def695"), looks := true }, kinds := [], alts := [], laidByText := true, laidKinds := [.data, .data, .data, .data, .sentinel, .sentinel, .pinned], laidTests := true, laidLooks := .later }
def AsciiHeadsUptoCardSaid : Prop := Claim7.holds Tryd.pinned (.plain (OpenSpec.upto asciiHeadsSpec)) asciiHeadsUptoCard

/-- THE SECOND FORM's CARD OF 'trestlelaw04.AsciiTails'. -/
def asciiTailsUptoCard : Claim7 := { stood := { row := asciiTailsUptoRow, standIns := [], harness := (true, "ceefe9fd1829a0d6bf9a22b60ea8dca0f72defbe5f88411bf7f9f633f2def695"), looks := true }, kinds := [], alts := [], laidByText := true, laidKinds := [.data, .data, .data, .data, .sentinel, .sentinel, .pinned], laidTests := true, laidLooks := .later }
def AsciiTailsUptoCardSaid : Prop := Claim7.holds Tryd.pinned (.plain (OpenSpec.upto asciiTailsSpec)) asciiTailsUptoCard

/-- THE SECOND FORM's CARD OF 'trestlelaw04.AsciiRight'. -/
def asciiRightUptoCard : Claim7 := { stood := { row := asciiRightUptoRow, standIns := [], harness := (true, "ceefe9fd1829a0d6bf9a22b60ea8dca0f72defbe5f88411bf7f9f633f2def695"), looks := true }, kinds := [], alts := [], laidByText := true, laidKinds := [.data, .data, .data, .data, .sentinel, .sentinel, .pinned], laidTests := true, laidLooks := .later }
def AsciiRightUptoCardSaid : Prop := Claim7.holds Tryd.pinned (.plain (OpenSpec.upto asciiRightSpec)) asciiRightUptoCard

/-- THE SECOND FORM's CARD OF 'trestlelaw04.AsciiOne'. -/
def asciiOneUptoCard : Claim7 := { stood := { row := asciiOneUptoRow, standIns := [], harness := (true, "ceefe9fd1829a0d6bf9a22b60ea8dca0f72defbe5f88411bf7f9f633f2def695"), looks := true }, kinds := [], alts := [], laidByText := true, laidKinds := [.data, .data, .data, .data, .sentinel, .sentinel, .pinned], laidTests := true, laidLooks := .later }
def AsciiOneUptoCardSaid : Prop := Claim7.holds Tryd.pinned (.plain (OpenSpec.upto asciiOneSpec)) asciiOneUptoCard

/-- THE SECOND FORM's CARD OF 'trestlelaw04.AsciiMore'. -/
def asciiMoreUptoCard : Claim7 := { stood := { row := asciiMoreUptoRow, standIns := [], harness := (true, "ceefe9fd1829a0d6bf9a22b60ea8dca0f72defbe5f88411bf7f9f633f2def695"), looks := true }, kinds := [], alts := [], laidByText := true, laidKinds := [.data, .data, .data, .data, .sentinel, .sentinel, .pinned], laidTests := true, laidLooks := .later }
def AsciiMoreUptoCardSaid : Prop := Claim7.holds Tryd.pinned (.plain (OpenSpec.upto asciiMoreSpec)) asciiMoreUptoCard
end Rows
end Go.Proofs.YtojepjkpnponoaaDoor
