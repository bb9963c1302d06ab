/-
  DERIVED. GIVEN WITH THE SEED: THE CARDS: each row of YtfpfagmmdiohbaaGreatDoorRows.lean that lists a variable, with what it lists TIED to the program's text (the seventh form; the later family's looks); each row that meets fmt, with fmt's text TOLD by the authors' own Lean function (tested against real Go, not proved from fmt's source: count such statements apart). THE CARD IS WHAT COUNTS. Prove the row's statement (the work); the ties are given (YtfpfagmmdiohbaaGreatDoorTie.lean); close each card by the builder's one call (the guide's Derived/Test/ToyasCard.lean, 'card_holds'). Laid BY PROGRAM, IN A SANDBOX (cutbox-door.mjs). By AI agents, Wed Nov 11 2026. No macro, syntax, notation, axiom, sorry.
-/
import Derived.Test.YtfpfagmmdiohbaaGreatDoorRows
import GoSem.ClaimSeven
namespace Go.Proofs.YtfpfagmmdiohbaaGreatDoor
namespace Rows

/-- THE TIED CARD OF 'wakemanlaw45.AuditRates'. -/
def auditRatesCard : Claim7 := { stood := { row := auditRatesRow, standIns := [], harness := (true, "6f2bd2ca1364548225a5a7df29065dba50201423180e222cacbf8ffeb64335eb"), looks := false }, kinds := [], alts := [], laidByText := true, laidKinds := [.data, .data, .wider, .listed, .data, .pinned], laidTests := true, laidLooks := .later }
def AuditRatesCardSaid : Prop := Claim7.holds Tryz.pinned (.plain (OpenSpec.ofChange auditRatesSpec)) auditRatesCard

/-- THE TIED CARD OF 'wakemanlaw45.AuditWindows'. -/
def auditWindowsCard : Claim7 := { stood := { row := auditWindowsRow, standIns := [], harness := (true, "6f2bd2ca1364548225a5a7df29065dba50201423180e222cacbf8ffeb64335eb"), looks := false }, kinds := [], alts := [], laidByText := true, laidKinds := [.data, .data, .wider, .listed, .data, .pinned], laidTests := true, laidLooks := .later }
def AuditWindowsCardSaid : Prop := Claim7.holds Tryz.pinned (.plain (OpenSpec.ofChange auditWindowsSpec)) auditWindowsCard

/-- THE TIED CARD OF 'wakemanlaw45.AuditOpens'. -/
def auditOpensCard : Claim7 := { stood := { row := auditOpensRow, standIns := [], harness := (true, "6f2bd2ca1364548225a5a7df29065dba50201423180e222cacbf8ffeb64335eb"), looks := false }, kinds := [], alts := [], laidByText := true, laidKinds := [.data, .data, .wider, .listed, .data, .pinned], laidTests := true, laidLooks := .later }
def AuditOpensCardSaid : Prop := Claim7.holds Tryz.pinned (.plain (OpenSpec.ofChange auditOpensSpec)) auditOpensCard

/-- THE TIED CARD OF 'wakemanlaw45.AuditCaps'. -/
def auditCapsCard : Claim7 := { stood := { row := auditCapsRow, standIns := [], harness := (true, "6f2bd2ca1364548225a5a7df29065dba50201423180e222cacbf8ffeb64335eb"), looks := false }, kinds := [], alts := [], laidByText := true, laidKinds := [.data, .data, .wider, .listed, .data, .pinned], laidTests := true, laidLooks := .later }
def AuditCapsCardSaid : Prop := Claim7.holds Tryz.pinned (.plain (OpenSpec.ofChange auditCapsSpec)) auditCapsCard

/-- THE TIED CARD OF 'wakemanlaw45.AuditTexts'. -/
def auditTextsCard : Claim7 := { stood := { row := auditTextsRow, standIns := [], harness := (true, "6f2bd2ca1364548225a5a7df29065dba50201423180e222cacbf8ffeb64335eb"), looks := false }, kinds := [], alts := [], laidByText := true, laidKinds := [.data, .data, .data, .data, .wider, .listed, .data, .data, .pinned], laidTests := true, laidLooks := .later }
def AuditTextsCardSaid : Prop := Claim7.holds Tryz.pinned (.plain (OpenSpec.ofChange auditTextsSpec)) auditTextsCard

/-- THE TIED CARD OF 'wakemanlaw45.AuditLines'. -/
def auditLinesCard : Claim7 := { stood := { row := auditLinesRow, standIns := [], harness := (true, "6f2bd2ca1364548225a5a7df29065dba50201423180e222cacbf8ffeb64335eb"), looks := false }, kinds := [], alts := [], laidByText := true, laidKinds := [.data, .data, .data, .data, .wider, .listed, .data, .data, .pinned], laidTests := true, laidLooks := .later }
def AuditLinesCardSaid : Prop := Claim7.holds Tryz.pinned (.plain (OpenSpec.ofChange auditLinesSpec)) auditLinesCard

/-- THE SECOND FORM's CARD OF 'wakemanlaw45.AuditRates'. -/
def auditRatesUptoCard : Claim7 := { stood := { row := auditRatesUptoRow, standIns := [], harness := (true, "6f2bd2ca1364548225a5a7df29065dba50201423180e222cacbf8ffeb64335eb"), looks := false }, kinds := [], alts := [], laidByText := true, laidKinds := [.data, .data, .wider, .listed, .data, .pinned], laidTests := true, laidLooks := .later }
def AuditRatesUptoCardSaid : Prop := Claim7.holds Tryz.pinned (.plain (OpenSpec.upto auditRatesSpec)) auditRatesUptoCard

/-- THE SECOND FORM's CARD OF 'wakemanlaw45.AuditWindows'. -/
def auditWindowsUptoCard : Claim7 := { stood := { row := auditWindowsUptoRow, standIns := [], harness := (true, "6f2bd2ca1364548225a5a7df29065dba50201423180e222cacbf8ffeb64335eb"), looks := false }, kinds := [], alts := [], laidByText := true, laidKinds := [.data, .data, .wider, .listed, .data, .pinned], laidTests := true, laidLooks := .later }
def AuditWindowsUptoCardSaid : Prop := Claim7.holds Tryz.pinned (.plain (OpenSpec.upto auditWindowsSpec)) auditWindowsUptoCard

/-- THE SECOND FORM's CARD OF 'wakemanlaw45.AuditOpens'. -/
def auditOpensUptoCard : Claim7 := { stood := { row := auditOpensUptoRow, standIns := [], harness := (true, "6f2bd2ca1364548225a5a7df29065dba50201423180e222cacbf8ffeb64335eb"), looks := false }, kinds := [], alts := [], laidByText := true, laidKinds := [.data, .data, .wider, .listed, .data, .pinned], laidTests := true, laidLooks := .later }
def AuditOpensUptoCardSaid : Prop := Claim7.holds Tryz.pinned (.plain (OpenSpec.upto auditOpensSpec)) auditOpensUptoCard

/-- THE SECOND FORM's CARD OF 'wakemanlaw45.AuditCaps'. -/
def auditCapsUptoCard : Claim7 := { stood := { row := auditCapsUptoRow, standIns := [], harness := (true, "6f2bd2ca1364548225a5a7df29065dba50201423180e222cacbf8ffeb64335eb"), looks := false }, kinds := [], alts := [], laidByText := true, laidKinds := [.data, .data, .wider, .listed, .data, .pinned], laidTests := true, laidLooks := .later }
def AuditCapsUptoCardSaid : Prop := Claim7.holds Tryz.pinned (.plain (OpenSpec.upto auditCapsSpec)) auditCapsUptoCard

/-- THE SECOND FORM's CARD OF 'wakemanlaw45.AuditTexts'. -/
def auditTextsUptoCard : Claim7 := { stood := { row := auditTextsUptoRow, standIns := [], harness := (true, "6f2bd2ca1364548225a5a7df29065dba50201423180e222cacbf8ffeb64335eb"), looks := false }, kinds := [], alts := [], laidByText := true, laidKinds := [.data, .data, .data, .data, .wider, .listed, .data, .data, .pinned], laidTests := true, laidLooks := .later }
def AuditTextsUptoCardSaid : Prop := Claim7.holds Tryz.pinned (.plain (OpenSpec.upto auditTextsSpec)) auditTextsUptoCard

/-- THE SECOND FORM's CARD OF 'wakemanlaw45.AuditLines'. -/
def auditLinesUptoCard : Claim7 := { stood := { row := auditLinesUptoRow, standIns := [], harness := (true, "6f2bd2ca1364548225a5a7df29065dba50201423180e222cacbf8ffeb64335eb"), looks := false }, kinds := [], alts := [], laidByText := true, laidKinds := [.data, .data, .data, .data, .wider, .listed, .data, .data, .pinned], laidTests := true, laidLooks := .later }
def AuditLinesUptoCardSaid : Prop := Claim7.holds Tryz.pinned (.plain (OpenSpec.upto auditLinesSpec)) auditLinesUptoCard
end Rows
end Go.Proofs.YtfpfagmmdiohbaaGreatDoor
