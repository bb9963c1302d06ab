/-
  DERIVED. GIVEN WITH THE SEED: THE CARDS: each row of YtmpbddmbpeoehaaGreatDoorRows.lean that lists a variable, with what it lists TIED to the program's text (the seventh form; the later family's looks); each row that meets fmt, with fmt's text TOLD by the authors' own Lean function (tested against real Go, not proved from fmt's source: count such statements apart). THE CARD IS WHAT COUNTS. Prove the row's statement (the work); the ties are given (YtmpbddmbpeoehaaGreatDoorTie.lean); close each card by the builder's one call (the guide's Derived/Test/ToyasCard.lean, 'card_holds'). Laid BY PROGRAM, IN A SANDBOX (cutbox-door.mjs). By AI agents, Wed Nov 11 2026. No macro, syntax, notation, axiom, sorry.
-/
import Derived.Test.YtmpbddmbpeoehaaGreatDoorRows
import GoSem.ClaimSeven
namespace Go.Proofs.YtmpbddmbpeoehaaGreatDoor
namespace Rows

/-- THE TIED CARD OF 'wakemanlaw45.AuditRetries'. -/
def auditRetriesCard : Claim7 := { stood := { row := auditRetriesRow, standIns := [], harness := (true, "5240a5c0e4bee766de83783ad0d98cfc4618830805a3ac10f876e995671aa7e3"), looks := false }, kinds := [], alts := [], laidByText := true, laidKinds := [.data, .data, .wider, .listed, .data, .pinned], laidTests := true, laidLooks := .later }
def AuditRetriesCardSaid : Prop := Claim7.holds Tryz.pinned (.plain (OpenSpec.ofChange auditRetriesSpec)) auditRetriesCard

/-- THE TIED CARD OF 'wakemanlaw45.AuditTries'. -/
def auditTriesCard : Claim7 := { stood := { row := auditTriesRow, standIns := [], harness := (true, "5240a5c0e4bee766de83783ad0d98cfc4618830805a3ac10f876e995671aa7e3"), looks := false }, kinds := [], alts := [], laidByText := true, laidKinds := [.data, .data, .wider, .listed, .data, .pinned], laidTests := true, laidLooks := .later }
def AuditTriesCardSaid : Prop := Claim7.holds Tryz.pinned (.plain (OpenSpec.ofChange auditTriesSpec)) auditTriesCard

/-- THE TIED CARD OF 'wakemanlaw45.AuditUnder'. -/
def auditUnderCard : Claim7 := { stood := { row := auditUnderRow, standIns := [], harness := (true, "5240a5c0e4bee766de83783ad0d98cfc4618830805a3ac10f876e995671aa7e3"), looks := false }, kinds := [], alts := [], laidByText := true, laidKinds := [.data, .data, .wider, .listed, .data, .pinned], laidTests := true, laidLooks := .later }
def AuditUnderCardSaid : Prop := Claim7.holds Tryz.pinned (.plain (OpenSpec.ofChange auditUnderSpec)) auditUnderCard

/-- THE TIED CARD OF 'wakemanlaw45.AuditMissing'. -/
def auditMissingCard : Claim7 := { stood := { row := auditMissingRow, standIns := [], harness := (true, "5240a5c0e4bee766de83783ad0d98cfc4618830805a3ac10f876e995671aa7e3"), looks := false }, kinds := [], alts := [], laidByText := true, laidKinds := [.data, .data, .wider, .listed, .data, .pinned], laidTests := true, laidLooks := .later }
def AuditMissingCardSaid : Prop := Claim7.holds Tryz.pinned (.plain (OpenSpec.ofChange auditMissingSpec)) auditMissingCard

/-- THE TIED CARD OF 'wakemanlaw45.AuditParts'. -/
def auditPartsCard : Claim7 := { stood := { row := auditPartsRow, standIns := [], harness := (true, "5240a5c0e4bee766de83783ad0d98cfc4618830805a3ac10f876e995671aa7e3"), looks := false }, kinds := [], alts := [], laidByText := true, laidKinds := [.data, .data, .wider, .listed, .data, .pinned], laidTests := true, laidLooks := .later }
def AuditPartsCardSaid : Prop := Claim7.holds Tryz.pinned (.plain (OpenSpec.ofChange auditPartsSpec)) auditPartsCard

/-- THE TIED CARD OF 'wakemanlaw45.AuditDues'. -/
def auditDuesCard : Claim7 := { stood := { row := auditDuesRow, standIns := [], harness := (true, "5240a5c0e4bee766de83783ad0d98cfc4618830805a3ac10f876e995671aa7e3"), looks := false }, kinds := [], alts := [], laidByText := true, laidKinds := [.data, .data, .wider, .listed, .data, .pinned], laidTests := true, laidLooks := .later }
def AuditDuesCardSaid : Prop := Claim7.holds Tryz.pinned (.plain (OpenSpec.ofChange auditDuesSpec)) auditDuesCard

/-- THE SECOND FORM's CARD OF 'wakemanlaw45.AuditRetries'. -/
def auditRetriesUptoCard : Claim7 := { stood := { row := auditRetriesUptoRow, standIns := [], harness := (true, "5240a5c0e4bee766de83783ad0d98cfc4618830805a3ac10f876e995671aa7e3"), looks := false }, kinds := [], alts := [], laidByText := true, laidKinds := [.data, .data, .wider, .listed, .data, .pinned], laidTests := true, laidLooks := .later }
def AuditRetriesUptoCardSaid : Prop := Claim7.holds Tryz.pinned (.plain (OpenSpec.upto auditRetriesSpec)) auditRetriesUptoCard

/-- THE SECOND FORM's CARD OF 'wakemanlaw45.AuditTries'. -/
def auditTriesUptoCard : Claim7 := { stood := { row := auditTriesUptoRow, standIns := [], harness := (true, "5240a5c0e4bee766de83783ad0d98cfc4618830805a3ac10f876e995671aa7e3"), looks := false }, kinds := [], alts := [], laidByText := true, laidKinds := [.data, .data, .wider, .listed, .data, .pinned], laidTests := true, laidLooks := .later }
def AuditTriesUptoCardSaid : Prop := Claim7.holds Tryz.pinned (.plain (OpenSpec.upto auditTriesSpec)) auditTriesUptoCard

/-- THE SECOND FORM's CARD OF 'wakemanlaw45.AuditUnder'. -/
def auditUnderUptoCard : Claim7 := { stood := { row := auditUnderUptoRow, standIns := [], harness := (true, "5240a5c0e4bee766de83783ad0d98cfc4618830805a3ac10f876e995671aa7e3"), looks := false }, kinds := [], alts := [], laidByText := true, laidKinds := [.data, .data, .wider, .listed, .data, .pinned], laidTests := true, laidLooks := .later }
def AuditUnderUptoCardSaid : Prop := Claim7.holds Tryz.pinned (.plain (OpenSpec.upto auditUnderSpec)) auditUnderUptoCard

/-- THE SECOND FORM's CARD OF 'wakemanlaw45.AuditMissing'. -/
def auditMissingUptoCard : Claim7 := { stood := { row := auditMissingUptoRow, standIns := [], harness := (true, "5240a5c0e4bee766de83783ad0d98cfc4618830805a3ac10f876e995671aa7e3"), looks := false }, kinds := [], alts := [], laidByText := true, laidKinds := [.data, .data, .wider, .listed, .data, .pinned], laidTests := true, laidLooks := .later }
def AuditMissingUptoCardSaid : Prop := Claim7.holds Tryz.pinned (.plain (OpenSpec.upto auditMissingSpec)) auditMissingUptoCard

/-- THE SECOND FORM's CARD OF 'wakemanlaw45.AuditParts'. -/
def auditPartsUptoCard : Claim7 := { stood := { row := auditPartsUptoRow, standIns := [], harness := (true, "5240a5c0e4bee766de83783ad0d98cfc4618830805a3ac10f876e995671aa7e3"), looks := false }, kinds := [], alts := [], laidByText := true, laidKinds := [.data, .data, .wider, .listed, .data, .pinned], laidTests := true, laidLooks := .later }
def AuditPartsUptoCardSaid : Prop := Claim7.holds Tryz.pinned (.plain (OpenSpec.upto auditPartsSpec)) auditPartsUptoCard

/-- THE SECOND FORM's CARD OF 'wakemanlaw45.AuditDues'. -/
def auditDuesUptoCard : Claim7 := { stood := { row := auditDuesUptoRow, standIns := [], harness := (true, "5240a5c0e4bee766de83783ad0d98cfc4618830805a3ac10f876e995671aa7e3"), looks := false }, kinds := [], alts := [], laidByText := true, laidKinds := [.data, .data, .wider, .listed, .data, .pinned], laidTests := true, laidLooks := .later }
def AuditDuesUptoCardSaid : Prop := Claim7.holds Tryz.pinned (.plain (OpenSpec.upto auditDuesSpec)) auditDuesUptoCard
end Rows
end Go.Proofs.YtmpbddmbpeoehaaGreatDoor
