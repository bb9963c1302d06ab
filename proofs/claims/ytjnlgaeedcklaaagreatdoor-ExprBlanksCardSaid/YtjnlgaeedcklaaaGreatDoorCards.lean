/-
  DERIVED. GIVEN WITH THE SEED: THE CARDS: each row of YtjnlgaeedcklaaaGreatDoorRows.lean that lists a variable, with what it lists TIED to the program's text (the seventh form; the later family's looks); each row that meets fmt, with fmt's text TOLD by the authors' own Lean function (tested against real Go, not proved from fmt's source: count such statements apart). THE CARD IS WHAT COUNTS. Prove the row's statement (the work); the ties are given (YtjnlgaeedcklaaaGreatDoorTie.lean); close each card by the builder's one call (the guide's Derived/Test/ToyasCard.lean, 'card_holds'). Laid BY PROGRAM, IN A SANDBOX (cutbox-door.mjs). By AI agents, Wed Nov 11 2026. No macro, syntax, notation, axiom, sorry.
-/
import Derived.Test.YtjnlgaeedcklaaaGreatDoorRows
import GoSem.ClaimSeven
namespace Go.Proofs.YtjnlgaeedcklaaaGreatDoor
namespace Rows

/-- THE TIED CARD OF 'wakemanlaw07.ExprReads'. -/
def exprReadsCard : Claim7 := { stood := { row := exprReadsRow, standIns := [], harness := (true, "8d5c986049249155bf005bbf598cdc029711bfdcf8ccaa67f81ac1b947f1ad60"), looks := true }, kinds := [], alts := [], laidByText := true, laidKinds := [.data, .data, .data, .data, .sentinel, .sentinel, .listed, .data, .data, .pinned, .pinned], laidTests := true, laidLooks := .later }
def ExprReadsCardSaid : Prop := Claim7.holds Tryz.pinned (.plain (OpenSpec.ofChange exprReadsSpec)) exprReadsCard

/-- THE TIED CARD OF 'wakemanlaw07.ExprPrints'. -/
def exprPrintsCard : Claim7 := { stood := { row := exprPrintsRow, standIns := [], harness := (true, "8d5c986049249155bf005bbf598cdc029711bfdcf8ccaa67f81ac1b947f1ad60"), looks := true }, kinds := [], alts := [], laidByText := true, laidKinds := [.data, .data, .data, .data, .sentinel, .sentinel, .listed, .data, .data, .pinned, .pinned], laidTests := true, laidLooks := .later }
def ExprPrintsCardSaid : Prop := Claim7.holds Tryz.pinned (.plain (OpenSpec.ofChange exprPrintsSpec)) exprPrintsCard

/-- THE TIED CARD OF 'wakemanlaw07.ExprNormal'. -/
def exprNormalCard : Claim7 := { stood := { row := exprNormalRow, standIns := [], harness := (true, "8d5c986049249155bf005bbf598cdc029711bfdcf8ccaa67f81ac1b947f1ad60"), looks := true }, kinds := [], alts := [], laidByText := true, laidKinds := [.data, .data, .data, .data, .sentinel, .sentinel, .listed, .data, .data, .pinned, .pinned], laidTests := true, laidLooks := .later }
def ExprNormalCardSaid : Prop := Claim7.holds Tryz.pinned (.plain (OpenSpec.ofChange exprNormalSpec)) exprNormalCard

/-- THE TIED CARD OF 'wakemanlaw07.ExprTimes'. -/
def exprTimesCard : Claim7 := { stood := { row := exprTimesRow, standIns := [], harness := (true, "8d5c986049249155bf005bbf598cdc029711bfdcf8ccaa67f81ac1b947f1ad60"), looks := true }, kinds := [], alts := [], laidByText := true, laidKinds := [.data, .data, .data, .data, .sentinel, .sentinel, .listed, .data, .data, .pinned, .pinned], laidTests := true, laidLooks := .later }
def ExprTimesCardSaid : Prop := Claim7.holds Tryz.pinned (.plain (OpenSpec.ofChange exprTimesSpec)) exprTimesCard

/-- THE TIED CARD OF 'wakemanlaw07.ExprMeet'. -/
def exprMeetCard : Claim7 := { stood := { row := exprMeetRow, standIns := [], harness := (true, "8d5c986049249155bf005bbf598cdc029711bfdcf8ccaa67f81ac1b947f1ad60"), looks := true }, kinds := [], alts := [], laidByText := true, laidKinds := [.data, .data, .data, .data, .sentinel, .sentinel, .listed, .data, .data, .pinned, .pinned], laidTests := true, laidLooks := .later }
def ExprMeetCardSaid : Prop := Claim7.holds Tryz.pinned (.plain (OpenSpec.ofChange exprMeetSpec)) exprMeetCard

/-- THE TIED CARD OF 'wakemanlaw07.ExprKnown'. -/
def exprKnownCard : Claim7 := { stood := { row := exprKnownRow, standIns := [], harness := (true, "8d5c986049249155bf005bbf598cdc029711bfdcf8ccaa67f81ac1b947f1ad60"), looks := true }, kinds := [], alts := [], laidByText := true, laidKinds := [.data, .data, .data, .data, .sentinel, .sentinel, .listed, .data, .data, .pinned, .pinned], laidTests := true, laidLooks := .later }
def ExprKnownCardSaid : Prop := Claim7.holds Tryz.pinned (.plain (OpenSpec.ofChange exprKnownSpec)) exprKnownCard

/-- THE TIED CARD OF 'wakemanlaw07.ExprTexts'. -/
def exprTextsCard : Claim7 := { stood := { row := exprTextsRow, standIns := [], harness := (true, "8d5c986049249155bf005bbf598cdc029711bfdcf8ccaa67f81ac1b947f1ad60"), looks := true }, kinds := [], alts := [], laidByText := true, laidKinds := [.data, .data, .data, .data, .sentinel, .sentinel, .listed, .data, .data, .pinned, .pinned], laidTests := true, laidLooks := .later }
def ExprTextsCardSaid : Prop := Claim7.holds Tryz.pinned (.plain (OpenSpec.ofChange exprTextsSpec)) exprTextsCard

/-- THE TIED CARD OF 'wakemanlaw07.ExprPlaces'. -/
def exprPlacesCard : Claim7 := { stood := { row := exprPlacesRow, standIns := [], harness := (true, "8d5c986049249155bf005bbf598cdc029711bfdcf8ccaa67f81ac1b947f1ad60"), looks := true }, kinds := [], alts := [], laidByText := true, laidKinds := [.data, .data, .data, .data, .sentinel, .sentinel, .listed, .data, .data, .pinned, .pinned], laidTests := true, laidLooks := .later }
def ExprPlacesCardSaid : Prop := Claim7.holds Tryz.pinned (.plain (OpenSpec.ofChange exprPlacesSpec)) exprPlacesCard

/-- THE TIED CARD OF 'wakemanlaw07.ExprBlanks'. -/
def exprBlanksCard : Claim7 := { stood := { row := exprBlanksRow, standIns := [], harness := (true, "8d5c986049249155bf005bbf598cdc029711bfdcf8ccaa67f81ac1b947f1ad60"), looks := true }, kinds := [], alts := [], laidByText := true, laidKinds := [.data, .data, .data, .data, .sentinel, .sentinel, .listed, .data, .data, .pinned, .pinned], laidTests := true, laidLooks := .later }
def ExprBlanksCardSaid : Prop := Claim7.holds Tryz.pinned (.plain (OpenSpec.ofChange exprBlanksSpec)) exprBlanksCard

/-- THE SECOND FORM's CARD OF 'wakemanlaw07.ExprReads'. -/
def exprReadsUptoCard : Claim7 := { stood := { row := exprReadsUptoRow, standIns := [], harness := (true, "8d5c986049249155bf005bbf598cdc029711bfdcf8ccaa67f81ac1b947f1ad60"), looks := true }, kinds := [], alts := [], laidByText := true, laidKinds := [.data, .data, .data, .data, .sentinel, .sentinel, .listed, .data, .data, .pinned, .pinned], laidTests := true, laidLooks := .later }
def ExprReadsUptoCardSaid : Prop := Claim7.holds Tryz.pinned (.plain (OpenSpec.upto exprReadsSpec)) exprReadsUptoCard

/-- THE SECOND FORM's CARD OF 'wakemanlaw07.ExprPrints'. -/
def exprPrintsUptoCard : Claim7 := { stood := { row := exprPrintsUptoRow, standIns := [], harness := (true, "8d5c986049249155bf005bbf598cdc029711bfdcf8ccaa67f81ac1b947f1ad60"), looks := true }, kinds := [], alts := [], laidByText := true, laidKinds := [.data, .data, .data, .data, .sentinel, .sentinel, .listed, .data, .data, .pinned, .pinned], laidTests := true, laidLooks := .later }
def ExprPrintsUptoCardSaid : Prop := Claim7.holds Tryz.pinned (.plain (OpenSpec.upto exprPrintsSpec)) exprPrintsUptoCard

/-- THE SECOND FORM's CARD OF 'wakemanlaw07.ExprNormal'. -/
def exprNormalUptoCard : Claim7 := { stood := { row := exprNormalUptoRow, standIns := [], harness := (true, "8d5c986049249155bf005bbf598cdc029711bfdcf8ccaa67f81ac1b947f1ad60"), looks := true }, kinds := [], alts := [], laidByText := true, laidKinds := [.data, .data, .data, .data, .sentinel, .sentinel, .listed, .data, .data, .pinned, .pinned], laidTests := true, laidLooks := .later }
def ExprNormalUptoCardSaid : Prop := Claim7.holds Tryz.pinned (.plain (OpenSpec.upto exprNormalSpec)) exprNormalUptoCard

/-- THE SECOND FORM's CARD OF 'wakemanlaw07.ExprTimes'. -/
def exprTimesUptoCard : Claim7 := { stood := { row := exprTimesUptoRow, standIns := [], harness := (true, "8d5c986049249155bf005bbf598cdc029711bfdcf8ccaa67f81ac1b947f1ad60"), looks := true }, kinds := [], alts := [], laidByText := true, laidKinds := [.data, .data, .data, .data, .sentinel, .sentinel, .listed, .data, .data, .pinned, .pinned], laidTests := true, laidLooks := .later }
def ExprTimesUptoCardSaid : Prop := Claim7.holds Tryz.pinned (.plain (OpenSpec.upto exprTimesSpec)) exprTimesUptoCard

/-- THE SECOND FORM's CARD OF 'wakemanlaw07.ExprMeet'. -/
def exprMeetUptoCard : Claim7 := { stood := { row := exprMeetUptoRow, standIns := [], harness := (true, "8d5c986049249155bf005bbf598cdc029711bfdcf8ccaa67f81ac1b947f1ad60"), looks := true }, kinds := [], alts := [], laidByText := true, laidKinds := [.data, .data, .data, .data, .sentinel, .sentinel, .listed, .data, .data, .pinned, .pinned], laidTests := true, laidLooks := .later }
def ExprMeetUptoCardSaid : Prop := Claim7.holds Tryz.pinned (.plain (OpenSpec.upto exprMeetSpec)) exprMeetUptoCard

/-- THE SECOND FORM's CARD OF 'wakemanlaw07.ExprKnown'. -/
def exprKnownUptoCard : Claim7 := { stood := { row := exprKnownUptoRow, standIns := [], harness := (true, "8d5c986049249155bf005bbf598cdc029711bfdcf8ccaa67f81ac1b947f1ad60"), looks := true }, kinds := [], alts := [], laidByText := true, laidKinds := [.data, .data, .data, .data, .sentinel, .sentinel, .listed, .data, .data, .pinned, .pinned], laidTests := true, laidLooks := .later }
def ExprKnownUptoCardSaid : Prop := Claim7.holds Tryz.pinned (.plain (OpenSpec.upto exprKnownSpec)) exprKnownUptoCard

/-- THE SECOND FORM's CARD OF 'wakemanlaw07.ExprTexts'. -/
def exprTextsUptoCard : Claim7 := { stood := { row := exprTextsUptoRow, standIns := [], harness := (true, "8d5c986049249155bf005bbf598cdc029711bfdcf8ccaa67f81ac1b947f1ad60"), looks := true }, kinds := [], alts := [], laidByText := true, laidKinds := [.data, .data, .data, .data, .sentinel, .sentinel, .listed, .data, .data, .pinned, .pinned], laidTests := true, laidLooks := .later }
def ExprTextsUptoCardSaid : Prop := Claim7.holds Tryz.pinned (.plain (OpenSpec.upto exprTextsSpec)) exprTextsUptoCard

/-- THE SECOND FORM's CARD OF 'wakemanlaw07.ExprPlaces'. -/
def exprPlacesUptoCard : Claim7 := { stood := { row := exprPlacesUptoRow, standIns := [], harness := (true, "8d5c986049249155bf005bbf598cdc029711bfdcf8ccaa67f81ac1b947f1ad60"), looks := true }, kinds := [], alts := [], laidByText := true, laidKinds := [.data, .data, .data, .data, .sentinel, .sentinel, .listed, .data, .data, .pinned, .pinned], laidTests := true, laidLooks := .later }
def ExprPlacesUptoCardSaid : Prop := Claim7.holds Tryz.pinned (.plain (OpenSpec.upto exprPlacesSpec)) exprPlacesUptoCard

/-- THE SECOND FORM's CARD OF 'wakemanlaw07.ExprBlanks'. -/
def exprBlanksUptoCard : Claim7 := { stood := { row := exprBlanksUptoRow, standIns := [], harness := (true, "8d5c986049249155bf005bbf598cdc029711bfdcf8ccaa67f81ac1b947f1ad60"), looks := true }, kinds := [], alts := [], laidByText := true, laidKinds := [.data, .data, .data, .data, .sentinel, .sentinel, .listed, .data, .data, .pinned, .pinned], laidTests := true, laidLooks := .later }
def ExprBlanksUptoCardSaid : Prop := Claim7.holds Tryz.pinned (.plain (OpenSpec.upto exprBlanksSpec)) exprBlanksUptoCard
end Rows
end Go.Proofs.YtjnlgaeedcklaaaGreatDoor
