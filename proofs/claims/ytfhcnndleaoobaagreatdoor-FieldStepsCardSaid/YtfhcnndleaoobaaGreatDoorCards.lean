/-
  DERIVED. GIVEN WITH THE SEED: THE CARDS: each row of YtfhcnndleaoobaaGreatDoorRows.lean that lists a variable, with what it lists TIED to the program's text (the seventh form; the later family's looks); each row that meets fmt, with fmt's text TOLD by the authors' own Lean function (tested against real Go, not proved from fmt's source: count such statements apart). THE CARD IS WHAT COUNTS. Prove the row's statement (the work); the ties are given (YtfhcnndleaoobaaGreatDoorTie.lean); close each card by the builder's one call (the guide's Derived/Test/ToyasCard.lean, 'card_holds'). Laid BY PROGRAM, IN A SANDBOX (cutbox-door.mjs). By AI agents, Wed Nov 11 2026. No macro, syntax, notation, axiom, sorry.
-/
import Derived.Test.YtfhcnndleaoobaaGreatDoorRows
import GoSem.ClaimSeven
namespace Go.Proofs.YtfhcnndleaoobaaGreatDoor
namespace Rows

/-- THE TIED CARD OF 'wakemanlaw06.FieldReads'. -/
def fieldReadsCard : Claim7 := { stood := { row := fieldReadsRow, standIns := [], harness := (true, "9877d2d69120e974259ed65d1f0b2232553d0b492e22c1561705c16cc3db688c"), looks := true }, kinds := [], alts := [], laidByText := true, laidKinds := [.data, .data, .data, .data, .sentinel, .sentinel, .listed, .data, .pinned, .pinned], laidTests := true, laidLooks := .later }
def FieldReadsCardSaid : Prop := Claim7.holds Tryz.pinned (.plain (OpenSpec.ofChange fieldReadsSpec)) fieldReadsCard

/-- THE TIED CARD OF 'wakemanlaw06.FieldPrints'. -/
def fieldPrintsCard : Claim7 := { stood := { row := fieldPrintsRow, standIns := [], harness := (true, "9877d2d69120e974259ed65d1f0b2232553d0b492e22c1561705c16cc3db688c"), looks := true }, kinds := [], alts := [], laidByText := true, laidKinds := [.data, .data, .data, .data, .sentinel, .sentinel, .listed, .data, .pinned, .pinned], laidTests := true, laidLooks := .later }
def FieldPrintsCardSaid : Prop := Claim7.holds Tryz.pinned (.plain (OpenSpec.ofChange fieldPrintsSpec)) fieldPrintsCard

/-- THE TIED CARD OF 'wakemanlaw06.FieldNames'. -/
def fieldNamesCard : Claim7 := { stood := { row := fieldNamesRow, standIns := [], harness := (true, "9877d2d69120e974259ed65d1f0b2232553d0b492e22c1561705c16cc3db688c"), looks := true }, kinds := [], alts := [], laidByText := true, laidKinds := [.data, .data, .data, .data, .sentinel, .sentinel, .listed, .data, .pinned, .pinned], laidTests := true, laidLooks := .later }
def FieldNamesCardSaid : Prop := Claim7.holds Tryz.pinned (.plain (OpenSpec.ofChange fieldNamesSpec)) fieldNamesCard

/-- THE TIED CARD OF 'wakemanlaw06.FieldBack'. -/
def fieldBackCard : Claim7 := { stood := { row := fieldBackRow, standIns := [], harness := (true, "9877d2d69120e974259ed65d1f0b2232553d0b492e22c1561705c16cc3db688c"), looks := true }, kinds := [], alts := [], laidByText := true, laidKinds := [.data, .data, .data, .data, .sentinel, .sentinel, .listed, .data, .pinned, .pinned], laidTests := true, laidLooks := .later }
def FieldBackCardSaid : Prop := Claim7.holds Tryz.pinned (.plain (OpenSpec.ofChange fieldBackSpec)) fieldBackCard

/-- THE TIED CARD OF 'wakemanlaw06.FieldNormal'. -/
def fieldNormalCard : Claim7 := { stood := { row := fieldNormalRow, standIns := [], harness := (true, "9877d2d69120e974259ed65d1f0b2232553d0b492e22c1561705c16cc3db688c"), looks := true }, kinds := [], alts := [], laidByText := true, laidKinds := [.data, .data, .data, .data, .sentinel, .sentinel, .listed, .data, .pinned, .pinned], laidTests := true, laidLooks := .later }
def FieldNormalCardSaid : Prop := Claim7.holds Tryz.pinned (.plain (OpenSpec.ofChange fieldNormalSpec)) fieldNormalCard

/-- THE TIED CARD OF 'wakemanlaw06.FieldLists'. -/
def fieldListsCard : Claim7 := { stood := { row := fieldListsRow, standIns := [], harness := (true, "9877d2d69120e974259ed65d1f0b2232553d0b492e22c1561705c16cc3db688c"), looks := true }, kinds := [], alts := [], laidByText := true, laidKinds := [.data, .data, .data, .data, .sentinel, .sentinel, .listed, .data, .pinned, .pinned], laidTests := true, laidLooks := .later }
def FieldListsCardSaid : Prop := Claim7.holds Tryz.pinned (.plain (OpenSpec.ofChange fieldListsSpec)) fieldListsCard

/-- THE TIED CARD OF 'wakemanlaw06.FieldRanges'. -/
def fieldRangesCard : Claim7 := { stood := { row := fieldRangesRow, standIns := [], harness := (true, "9877d2d69120e974259ed65d1f0b2232553d0b492e22c1561705c16cc3db688c"), looks := true }, kinds := [], alts := [], laidByText := true, laidKinds := [.data, .data, .data, .data, .sentinel, .sentinel, .listed, .data, .pinned, .pinned], laidTests := true, laidLooks := .later }
def FieldRangesCardSaid : Prop := Claim7.holds Tryz.pinned (.plain (OpenSpec.ofChange fieldRangesSpec)) fieldRangesCard

/-- THE TIED CARD OF 'wakemanlaw06.FieldSteps'. -/
def fieldStepsCard : Claim7 := { stood := { row := fieldStepsRow, standIns := [], harness := (true, "9877d2d69120e974259ed65d1f0b2232553d0b492e22c1561705c16cc3db688c"), looks := true }, kinds := [], alts := [], laidByText := true, laidKinds := [.data, .data, .data, .data, .sentinel, .sentinel, .listed, .data, .pinned, .pinned], laidTests := true, laidLooks := .later }
def FieldStepsCardSaid : Prop := Claim7.holds Tryz.pinned (.plain (OpenSpec.ofChange fieldStepsSpec)) fieldStepsCard

/-- THE TIED CARD OF 'wakemanlaw06.FieldCases'. -/
def fieldCasesCard : Claim7 := { stood := { row := fieldCasesRow, standIns := [], harness := (true, "9877d2d69120e974259ed65d1f0b2232553d0b492e22c1561705c16cc3db688c"), looks := true }, kinds := [], alts := [], laidByText := true, laidKinds := [.data, .data, .data, .data, .sentinel, .sentinel, .listed, .data, .pinned, .pinned], laidTests := true, laidLooks := .later }
def FieldCasesCardSaid : Prop := Claim7.holds Tryz.pinned (.plain (OpenSpec.ofChange fieldCasesSpec)) fieldCasesCard

/-- THE TIED CARD OF 'wakemanlaw06.FieldPlaces'. -/
def fieldPlacesCard : Claim7 := { stood := { row := fieldPlacesRow, standIns := [], harness := (true, "9877d2d69120e974259ed65d1f0b2232553d0b492e22c1561705c16cc3db688c"), looks := true }, kinds := [], alts := [], laidByText := true, laidKinds := [.data, .data, .data, .data, .sentinel, .sentinel, .listed, .data, .pinned, .pinned], laidTests := true, laidLooks := .later }
def FieldPlacesCardSaid : Prop := Claim7.holds Tryz.pinned (.plain (OpenSpec.ofChange fieldPlacesSpec)) fieldPlacesCard

/-- THE SECOND FORM's CARD OF 'wakemanlaw06.FieldReads'. -/
def fieldReadsUptoCard : Claim7 := { stood := { row := fieldReadsUptoRow, standIns := [], harness := (true, "9877d2d69120e974259ed65d1f0b2232553d0b492e22c1561705c16cc3db688c"), looks := true }, kinds := [], alts := [], laidByText := true, laidKinds := [.data, .data, .data, .data, .sentinel, .sentinel, .listed, .data, .pinned, .pinned], laidTests := true, laidLooks := .later }
def FieldReadsUptoCardSaid : Prop := Claim7.holds Tryz.pinned (.plain (OpenSpec.upto fieldReadsSpec)) fieldReadsUptoCard

/-- THE SECOND FORM's CARD OF 'wakemanlaw06.FieldPrints'. -/
def fieldPrintsUptoCard : Claim7 := { stood := { row := fieldPrintsUptoRow, standIns := [], harness := (true, "9877d2d69120e974259ed65d1f0b2232553d0b492e22c1561705c16cc3db688c"), looks := true }, kinds := [], alts := [], laidByText := true, laidKinds := [.data, .data, .data, .data, .sentinel, .sentinel, .listed, .data, .pinned, .pinned], laidTests := true, laidLooks := .later }
def FieldPrintsUptoCardSaid : Prop := Claim7.holds Tryz.pinned (.plain (OpenSpec.upto fieldPrintsSpec)) fieldPrintsUptoCard

/-- THE SECOND FORM's CARD OF 'wakemanlaw06.FieldNames'. -/
def fieldNamesUptoCard : Claim7 := { stood := { row := fieldNamesUptoRow, standIns := [], harness := (true, "9877d2d69120e974259ed65d1f0b2232553d0b492e22c1561705c16cc3db688c"), looks := true }, kinds := [], alts := [], laidByText := true, laidKinds := [.data, .data, .data, .data, .sentinel, .sentinel, .listed, .data, .pinned, .pinned], laidTests := true, laidLooks := .later }
def FieldNamesUptoCardSaid : Prop := Claim7.holds Tryz.pinned (.plain (OpenSpec.upto fieldNamesSpec)) fieldNamesUptoCard

/-- THE SECOND FORM's CARD OF 'wakemanlaw06.FieldBack'. -/
def fieldBackUptoCard : Claim7 := { stood := { row := fieldBackUptoRow, standIns := [], harness := (true, "9877d2d69120e974259ed65d1f0b2232553d0b492e22c1561705c16cc3db688c"), looks := true }, kinds := [], alts := [], laidByText := true, laidKinds := [.data, .data, .data, .data, .sentinel, .sentinel, .listed, .data, .pinned, .pinned], laidTests := true, laidLooks := .later }
def FieldBackUptoCardSaid : Prop := Claim7.holds Tryz.pinned (.plain (OpenSpec.upto fieldBackSpec)) fieldBackUptoCard

/-- THE SECOND FORM's CARD OF 'wakemanlaw06.FieldNormal'. -/
def fieldNormalUptoCard : Claim7 := { stood := { row := fieldNormalUptoRow, standIns := [], harness := (true, "9877d2d69120e974259ed65d1f0b2232553d0b492e22c1561705c16cc3db688c"), looks := true }, kinds := [], alts := [], laidByText := true, laidKinds := [.data, .data, .data, .data, .sentinel, .sentinel, .listed, .data, .pinned, .pinned], laidTests := true, laidLooks := .later }
def FieldNormalUptoCardSaid : Prop := Claim7.holds Tryz.pinned (.plain (OpenSpec.upto fieldNormalSpec)) fieldNormalUptoCard

/-- THE SECOND FORM's CARD OF 'wakemanlaw06.FieldLists'. -/
def fieldListsUptoCard : Claim7 := { stood := { row := fieldListsUptoRow, standIns := [], harness := (true, "9877d2d69120e974259ed65d1f0b2232553d0b492e22c1561705c16cc3db688c"), looks := true }, kinds := [], alts := [], laidByText := true, laidKinds := [.data, .data, .data, .data, .sentinel, .sentinel, .listed, .data, .pinned, .pinned], laidTests := true, laidLooks := .later }
def FieldListsUptoCardSaid : Prop := Claim7.holds Tryz.pinned (.plain (OpenSpec.upto fieldListsSpec)) fieldListsUptoCard

/-- THE SECOND FORM's CARD OF 'wakemanlaw06.FieldRanges'. -/
def fieldRangesUptoCard : Claim7 := { stood := { row := fieldRangesUptoRow, standIns := [], harness := (true, "9877d2d69120e974259ed65d1f0b2232553d0b492e22c1561705c16cc3db688c"), looks := true }, kinds := [], alts := [], laidByText := true, laidKinds := [.data, .data, .data, .data, .sentinel, .sentinel, .listed, .data, .pinned, .pinned], laidTests := true, laidLooks := .later }
def FieldRangesUptoCardSaid : Prop := Claim7.holds Tryz.pinned (.plain (OpenSpec.upto fieldRangesSpec)) fieldRangesUptoCard

/-- THE SECOND FORM's CARD OF 'wakemanlaw06.FieldSteps'. -/
def fieldStepsUptoCard : Claim7 := { stood := { row := fieldStepsUptoRow, standIns := [], harness := (true, "9877d2d69120e974259ed65d1f0b2232553d0b492e22c1561705c16cc3db688c"), looks := true }, kinds := [], alts := [], laidByText := true, laidKinds := [.data, .data, .data, .data, .sentinel, .sentinel, .listed, .data, .pinned, .pinned], laidTests := true, laidLooks := .later }
def FieldStepsUptoCardSaid : Prop := Claim7.holds Tryz.pinned (.plain (OpenSpec.upto fieldStepsSpec)) fieldStepsUptoCard

/-- THE SECOND FORM's CARD OF 'wakemanlaw06.FieldCases'. -/
def fieldCasesUptoCard : Claim7 := { stood := { row := fieldCasesUptoRow, standIns := [], harness := (true, "9877d2d69120e974259ed65d1f0b2232553d0b492e22c1561705c16cc3db688c"), looks := true }, kinds := [], alts := [], laidByText := true, laidKinds := [.data, .data, .data, .data, .sentinel, .sentinel, .listed, .data, .pinned, .pinned], laidTests := true, laidLooks := .later }
def FieldCasesUptoCardSaid : Prop := Claim7.holds Tryz.pinned (.plain (OpenSpec.upto fieldCasesSpec)) fieldCasesUptoCard

/-- THE SECOND FORM's CARD OF 'wakemanlaw06.FieldPlaces'. -/
def fieldPlacesUptoCard : Claim7 := { stood := { row := fieldPlacesUptoRow, standIns := [], harness := (true, "9877d2d69120e974259ed65d1f0b2232553d0b492e22c1561705c16cc3db688c"), looks := true }, kinds := [], alts := [], laidByText := true, laidKinds := [.data, .data, .data, .data, .sentinel, .sentinel, .listed, .data, .pinned, .pinned], laidTests := true, laidLooks := .later }
def FieldPlacesUptoCardSaid : Prop := Claim7.holds Tryz.pinned (.plain (OpenSpec.upto fieldPlacesSpec)) fieldPlacesUptoCard
end Rows
end Go.Proofs.YtfhcnndleaoobaaGreatDoor
