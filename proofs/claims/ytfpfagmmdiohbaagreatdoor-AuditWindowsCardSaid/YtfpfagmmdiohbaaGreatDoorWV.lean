/-
  AuditWindows: closed facts of the row; AuditWindows: closed facts of the row.
-/
import Derived.Test.YtfpfagmmdiohbaaGreatDoorRows
import Derived.Test.YtfpfagmmdiohbaaGreatDoorChecked
import Derived.JoinedCond
import Derived.KernelRfl
set_option linter.unusedVariables false
set_option linter.unusedSimpArgs false
set_option linter.unusedVariables false
set_option linter.unusedSimpArgs false
namespace Go.Proofs.YtfpfagmmdiohbaaGreatDoor.auditWindows
theorem c11 : ((Rows.auditWindowsRow.recurses == Tryz.pinned.checked.prog.recurses 4)) = true := by kernel_rfl
end Go.Proofs.YtfpfagmmdiohbaaGreatDoor.auditWindows
set_option linter.unusedVariables false
set_option linter.unusedSimpArgs false
set_option linter.unusedVariables false
set_option linter.unusedSimpArgs false
namespace Go.Proofs.YtfpfagmmdiohbaaGreatDoor.auditWindows
theorem c12 : ((Rows.auditWindowsRow.named == Tryz.pinned.checked.prog.varsNamed 4)) = true := by kernel_rfl
end Go.Proofs.YtfpfagmmdiohbaaGreatDoor.auditWindows
