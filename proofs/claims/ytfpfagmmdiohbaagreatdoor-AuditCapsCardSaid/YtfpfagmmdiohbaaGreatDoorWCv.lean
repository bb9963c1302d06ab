/-
  AuditCaps: closed facts of the row; AuditCaps: closed facts of the row.
-/
import Derived.Test.YtfpfagmmdiohbaaGreatDoorRows
import Derived.Test.YtfpfagmmdiohbaaGreatDoorChecked
import Derived.JoinedCond
import Derived.KernelRfl
set_option linter.unusedVariables false
set_option linter.unusedSimpArgs false
set_option linter.unusedVariables false
set_option linter.unusedSimpArgs false
namespace Go.Proofs.YtfpfagmmdiohbaaGreatDoor.auditCaps
theorem c11 : ((Rows.auditCapsRow.recurses == Tryz.pinned.checked.prog.recurses 6)) = true := by kernel_rfl
end Go.Proofs.YtfpfagmmdiohbaaGreatDoor.auditCaps
set_option linter.unusedVariables false
set_option linter.unusedSimpArgs false
set_option linter.unusedVariables false
set_option linter.unusedSimpArgs false
namespace Go.Proofs.YtfpfagmmdiohbaaGreatDoor.auditCaps
theorem c12 : ((Rows.auditCapsRow.named == Tryz.pinned.checked.prog.varsNamed 6)) = true := by kernel_rfl
end Go.Proofs.YtfpfagmmdiohbaaGreatDoor.auditCaps
