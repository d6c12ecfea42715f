/-
  DERIVED. GIVEN WITH THE SEED: THE CARDS: each row of YtdmngdohlobogaaGreatDoorRows.lean that lists a variable, with what it lists TIED to the program's text (the seventh form; the later family's looks); each row that meets fmt, with fmt's text TOLD by the authors' own Lean function (tested against real Go, not proved from fmt's source: count such statements apart). THE CARD IS WHAT COUNTS. Prove the row's statement (the work); the ties are given (YtdmngdohlobogaaGreatDoorTie.lean); close each card by the builder's one call (the guide's Derived/Test/ToyasCard.lean, 'card_holds'). Laid BY PROGRAM, IN A SANDBOX (cutbox-door.mjs). By AI agents, Wed Nov 11 2026. No macro, syntax, notation, axiom, sorry.
-/
import Derived.Test.YtdmngdohlobogaaGreatDoorRows
import GoSem.ClaimSeven
namespace Go.Proofs.YtdmngdohlobogaaGreatDoor
namespace Rows

/-- THE TIED CARD OF 'trestlelaw05.BinaryReads'. -/
def binaryReadsCard : Claim7 := { stood := { row := binaryReadsRow, standIns := [], harness := (true, "3b5eb4af48bddcf4897398b2dc9d29b8ba09fd727fd7e7fd707208ff862f4a27"), looks := true }, kinds := [], alts := [], laidByText := true, laidKinds := [.data, .data, .data, .data, .sentinel, .sentinel, .pinned], laidTests := true, laidLooks := .later }
def BinaryReadsCardSaid : Prop := Claim7.holds Tryz.pinned (.plain (OpenSpec.ofChange binaryReadsSpec)) binaryReadsCard

/-- THE TIED CARD OF 'trestlelaw05.BinaryEither'. -/
def binaryEitherCard : Claim7 := { stood := { row := binaryEitherRow, standIns := [], harness := (true, "3b5eb4af48bddcf4897398b2dc9d29b8ba09fd727fd7e7fd707208ff862f4a27"), looks := true }, kinds := [], alts := [], laidByText := true, laidKinds := [.data, .data, .data, .data, .sentinel, .sentinel, .pinned], laidTests := true, laidLooks := .later }
def BinaryEitherCardSaid : Prop := Claim7.holds Tryz.pinned (.plain (OpenSpec.ofChange binaryEitherSpec)) binaryEitherCard

/-- THE TIED CARD OF 'trestlelaw05.BinaryRight'. -/
def binaryRightCard : Claim7 := { stood := { row := binaryRightRow, standIns := [], harness := (true, "3b5eb4af48bddcf4897398b2dc9d29b8ba09fd727fd7e7fd707208ff862f4a27"), looks := true }, kinds := [], alts := [], laidByText := true, laidKinds := [.data, .data, .data, .data, .sentinel, .sentinel, .pinned], laidTests := true, laidLooks := .later }
def BinaryRightCardSaid : Prop := Claim7.holds Tryz.pinned (.plain (OpenSpec.ofChange binaryRightSpec)) binaryRightCard

/-- THE TIED CARD OF 'trestlelaw05.BinaryOther'. -/
def binaryOtherCard : Claim7 := { stood := { row := binaryOtherRow, standIns := [], harness := (true, "3b5eb4af48bddcf4897398b2dc9d29b8ba09fd727fd7e7fd707208ff862f4a27"), looks := true }, kinds := [], alts := [], laidByText := true, laidKinds := [.data, .data, .data, .data, .sentinel, .sentinel, .pinned], laidTests := true, laidLooks := .later }
def BinaryOtherCardSaid : Prop := Claim7.holds Tryz.pinned (.plain (OpenSpec.ofChange binaryOtherSpec)) binaryOtherCard

/-- THE SECOND FORM's CARD OF 'trestlelaw05.BinaryReads'. -/
def binaryReadsUptoCard : Claim7 := { stood := { row := binaryReadsUptoRow, standIns := [], harness := (true, "3b5eb4af48bddcf4897398b2dc9d29b8ba09fd727fd7e7fd707208ff862f4a27"), looks := true }, kinds := [], alts := [], laidByText := true, laidKinds := [.data, .data, .data, .data, .sentinel, .sentinel, .pinned], laidTests := true, laidLooks := .later }
def BinaryReadsUptoCardSaid : Prop := Claim7.holds Tryz.pinned (.plain (OpenSpec.upto binaryReadsSpec)) binaryReadsUptoCard

/-- THE SECOND FORM's CARD OF 'trestlelaw05.BinaryEither'. -/
def binaryEitherUptoCard : Claim7 := { stood := { row := binaryEitherUptoRow, standIns := [], harness := (true, "3b5eb4af48bddcf4897398b2dc9d29b8ba09fd727fd7e7fd707208ff862f4a27"), looks := true }, kinds := [], alts := [], laidByText := true, laidKinds := [.data, .data, .data, .data, .sentinel, .sentinel, .pinned], laidTests := true, laidLooks := .later }
def BinaryEitherUptoCardSaid : Prop := Claim7.holds Tryz.pinned (.plain (OpenSpec.upto binaryEitherSpec)) binaryEitherUptoCard

/-- THE SECOND FORM's CARD OF 'trestlelaw05.BinaryRight'. -/
def binaryRightUptoCard : Claim7 := { stood := { row := binaryRightUptoRow, standIns := [], harness := (true, "3b5eb4af48bddcf4897398b2dc9d29b8ba09fd727fd7e7fd707208ff862f4a27"), looks := true }, kinds := [], alts := [], laidByText := true, laidKinds := [.data, .data, .data, .data, .sentinel, .sentinel, .pinned], laidTests := true, laidLooks := .later }
def BinaryRightUptoCardSaid : Prop := Claim7.holds Tryz.pinned (.plain (OpenSpec.upto binaryRightSpec)) binaryRightUptoCard

/-- THE SECOND FORM's CARD OF 'trestlelaw05.BinaryOther'. -/
def binaryOtherUptoCard : Claim7 := { stood := { row := binaryOtherUptoRow, standIns := [], harness := (true, "3b5eb4af48bddcf4897398b2dc9d29b8ba09fd727fd7e7fd707208ff862f4a27"), looks := true }, kinds := [], alts := [], laidByText := true, laidKinds := [.data, .data, .data, .data, .sentinel, .sentinel, .pinned], laidTests := true, laidLooks := .later }
def BinaryOtherUptoCardSaid : Prop := Claim7.holds Tryz.pinned (.plain (OpenSpec.upto binaryOtherSpec)) binaryOtherUptoCard
end Rows
end Go.Proofs.YtdmngdohlobogaaGreatDoor
