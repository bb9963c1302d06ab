/-
  AuditRates: closed facts of the row; AuditRates: closed facts of the row.
-/
import Derived.Test.YtfpfagmmdiohbaaGreatDoorRows
import Derived.Test.YtfpfagmmdiohbaaGreatDoorChecked
import Derived.JoinedCond
import Derived.KernelRfl
set_option linter.unusedVariables false
set_option linter.unusedSimpArgs false
set_option linter.unusedVariables false
set_option linter.unusedSimpArgs false
namespace Go.Proofs.YtfpfagmmdiohbaaGreatDoor.auditRates
theorem c11 : ((Rows.auditRatesRow.recurses == Tryz.pinned.checked.prog.recurses 3)) = true := by kernel_rfl
end Go.Proofs.YtfpfagmmdiohbaaGreatDoor.auditRates
set_option linter.unusedVariables false
set_option linter.unusedSimpArgs false
set_option linter.unusedVariables false
set_option linter.unusedSimpArgs false
namespace Go.Proofs.YtfpfagmmdiohbaaGreatDoor.auditRates
theorem c12 : ((Rows.auditRatesRow.named == Tryz.pinned.checked.prog.varsNamed 3)) = true := by kernel_rfl
end Go.Proofs.YtfpfagmmdiohbaaGreatDoor.auditRates
