/-
  AuditTries: closed facts of the row; AuditTries: closed facts of the row.
-/
import Derived.Test.YtmpbddmbpeoehaaGreatDoorRows
import Derived.Test.YtmpbddmbpeoehaaGreatDoorChecked
import Derived.JoinedCond
import Derived.KernelRfl
set_option linter.unusedVariables false
set_option linter.unusedSimpArgs false
set_option linter.unusedVariables false
set_option linter.unusedSimpArgs false
namespace Go.Proofs.YtmpbddmbpeoehaaGreatDoor.auditTries
theorem c11 : ((Rows.auditTriesRow.recurses == Tryz.pinned.checked.prog.recurses 4)) = true := by kernel_rfl
end Go.Proofs.YtmpbddmbpeoehaaGreatDoor.auditTries
set_option linter.unusedVariables false
set_option linter.unusedSimpArgs false
set_option linter.unusedVariables false
set_option linter.unusedSimpArgs false
namespace Go.Proofs.YtmpbddmbpeoehaaGreatDoor.auditTries
theorem c12 : ((Rows.auditTriesRow.named == Tryz.pinned.checked.prog.varsNamed 4)) = true := by kernel_rfl
end Go.Proofs.YtmpbddmbpeoehaaGreatDoor.auditTries
