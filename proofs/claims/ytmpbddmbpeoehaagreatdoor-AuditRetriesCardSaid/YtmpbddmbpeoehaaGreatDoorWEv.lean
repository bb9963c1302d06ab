/-
  AuditRetries: closed facts of the row; AuditRetries: closed facts of the row.
-/
import Derived.Test.YtmpbddmbpeoehaaGreatDoorRows
import Derived.Test.YtmpbddmbpeoehaaGreatDoorChecked
import Derived.JoinedCond
import Derived.KernelRfl
set_option linter.unusedVariables false
set_option linter.unusedSimpArgs false
namespace Go.Proofs.YtmpbddmbpeoehaaGreatDoor.auditRetries
theorem c11 : ((Rows.auditRetriesRow.recurses == Tryz.pinned.checked.prog.recurses 3)) = true := by kernel_rfl
end Go.Proofs.YtmpbddmbpeoehaaGreatDoor.auditRetries
namespace Go.Proofs.YtmpbddmbpeoehaaGreatDoor.auditRetries
theorem c12 : ((Rows.auditRetriesRow.named == Tryz.pinned.checked.prog.varsNamed 3)) = true := by kernel_rfl
end Go.Proofs.YtmpbddmbpeoehaaGreatDoor.auditRetries
