/-
  DERIVED. GIVEN WITH THE SEED: THE CARDS: each row of YtjabmipkllkfbaaGreatDoorRows.lean that lists a variable, with what it lists TIED to the program's text (the seventh form; the later family's looks); each row that meets fmt, with fmt's text TOLD by the authors' own Lean function (tested against real Go, not proved from fmt's source: count such statements apart). THE CARD IS WHAT COUNTS. Prove the row's statement (the work); the ties are given (YtjabmipkllkfbaaGreatDoorTie.lean); close each card by the builder's one call (the guide's Derived/Test/ToyasCard.lean, 'card_holds'). Laid BY PROGRAM, IN A SANDBOX (cutbox-door.mjs). By AI agents, Wed Nov 11 2026. No macro, syntax, notation, axiom, sorry.
-/
import Derived.Test.YtjabmipkllkfbaaGreatDoorRows
import GoSem.ClaimSeven
namespace Go.Proofs.YtjabmipkllkfbaaGreatDoor
namespace Rows

/-- THE TIED CARD OF 'wakemanlaw45.AuditMissing'. -/
def auditMissingCard : Claim7 := { stood := { row := auditMissingRow, standIns := [], harness := (true, "59d3e52c24f6fa5d060ade08f560ea91c593fed28af14c0ef04a9290086f24cd"), looks := false }, kinds := [], alts := [], laidByText := true, laidKinds := [.data, .data, .wider, .listed, .data, .pinned], laidTests := true, laidLooks := .later }
def AuditMissingCardSaid : Prop := Claim7.holds Tryz.pinned (.plain (OpenSpec.ofChange auditMissingSpec)) auditMissingCard

/-- THE TIED CARD OF 'wakemanlaw45.AuditParts'. -/
def auditPartsCard : Claim7 := { stood := { row := auditPartsRow, standIns := [], harness := (true, "59d3e52c24f6fa5d060ade08f560ea91c593fed28af14c0ef04a9290086f24cd"), looks := false }, kinds := [], alts := [], laidByText := true, laidKinds := [.data, .data, .wider, .listed, .data, .pinned], laidTests := true, laidLooks := .later }
def AuditPartsCardSaid : Prop := Claim7.holds Tryz.pinned (.plain (OpenSpec.ofChange auditPartsSpec)) auditPartsCard

/-- THE TIED CARD OF 'wakemanlaw45.AuditUnder'. -/
def auditUnderCard : Claim7 := { stood := { row := auditUnderRow, standIns := [], harness := (true, "59d3e52c24f6fa5d060ade08f560ea91c593fed28af14c0ef04a9290086f24cd"), looks := false }, kinds := [], alts := [], laidByText := true, laidKinds := [.data, .data, .wider, .listed, .data, .pinned], laidTests := true, laidLooks := .later }
def AuditUnderCardSaid : Prop := Claim7.holds Tryz.pinned (.plain (OpenSpec.ofChange auditUnderSpec)) auditUnderCard

/-- THE SECOND FORM's CARD OF 'wakemanlaw45.AuditMissing'. -/
def auditMissingUptoCard : Claim7 := { stood := { row := auditMissingUptoRow, standIns := [], harness := (true, "59d3e52c24f6fa5d060ade08f560ea91c593fed28af14c0ef04a9290086f24cd"), looks := false }, kinds := [], alts := [], laidByText := true, laidKinds := [.data, .data, .wider, .listed, .data, .pinned], laidTests := true, laidLooks := .later }
def AuditMissingUptoCardSaid : Prop := Claim7.holds Tryz.pinned (.plain (OpenSpec.upto auditMissingSpec)) auditMissingUptoCard

/-- THE SECOND FORM's CARD OF 'wakemanlaw45.AuditParts'. -/
def auditPartsUptoCard : Claim7 := { stood := { row := auditPartsUptoRow, standIns := [], harness := (true, "59d3e52c24f6fa5d060ade08f560ea91c593fed28af14c0ef04a9290086f24cd"), looks := false }, kinds := [], alts := [], laidByText := true, laidKinds := [.data, .data, .wider, .listed, .data, .pinned], laidTests := true, laidLooks := .later }
def AuditPartsUptoCardSaid : Prop := Claim7.holds Tryz.pinned (.plain (OpenSpec.upto auditPartsSpec)) auditPartsUptoCard

/-- THE SECOND FORM's CARD OF 'wakemanlaw45.AuditUnder'. -/
def auditUnderUptoCard : Claim7 := { stood := { row := auditUnderUptoRow, standIns := [], harness := (true, "59d3e52c24f6fa5d060ade08f560ea91c593fed28af14c0ef04a9290086f24cd"), looks := false }, kinds := [], alts := [], laidByText := true, laidKinds := [.data, .data, .wider, .listed, .data, .pinned], laidTests := true, laidLooks := .later }
def AuditUnderUptoCardSaid : Prop := Claim7.holds Tryz.pinned (.plain (OpenSpec.upto auditUnderSpec)) auditUnderUptoCard
end Rows
end Go.Proofs.YtjabmipkllkfbaaGreatDoor
