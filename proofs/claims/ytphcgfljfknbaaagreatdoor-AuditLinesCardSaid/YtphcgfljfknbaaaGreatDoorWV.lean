/-
  AuditLines: closed facts of the row; AuditLines: closed facts of the row.
-/
import Derived.Test.YtphcgfljfknbaaaGreatDoorRows
import Derived.Test.YtphcgfljfknbaaaGreatDoorChecked
import Derived.JoinedCond
import Derived.KernelRfl
set_option linter.unusedVariables false
set_option linter.unusedSimpArgs false
set_option linter.unusedVariables false
set_option linter.unusedSimpArgs false
namespace Go.Proofs.YtphcgfljfknbaaaGreatDoor.auditLines
theorem c11 : ((Rows.auditLinesRow.recurses == Tryz.pinned.checked.prog.recurses 3)) = true := by kernel_rfl
end Go.Proofs.YtphcgfljfknbaaaGreatDoor.auditLines
set_option linter.unusedVariables false
set_option linter.unusedSimpArgs false
set_option linter.unusedVariables false
set_option linter.unusedSimpArgs false
namespace Go.Proofs.YtphcgfljfknbaaaGreatDoor.auditLines
theorem c12 : ((Rows.auditLinesRow.named == Tryz.pinned.checked.prog.varsNamed 3)) = true := by kernel_rfl
end Go.Proofs.YtphcgfljfknbaaaGreatDoor.auditLines
