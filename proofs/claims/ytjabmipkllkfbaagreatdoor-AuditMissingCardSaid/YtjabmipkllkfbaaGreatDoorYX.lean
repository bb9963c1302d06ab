/-
  AuditMissing: closed facts of the row; AuditMissing: closed facts of the row.
-/
import Derived.Test.YtjabmipkllkfbaaGreatDoorRows
import Derived.Test.YtjabmipkllkfbaaGreatDoorChecked
import Derived.JoinedCond
import Derived.KernelRfl
set_option linter.unusedVariables false
set_option linter.unusedSimpArgs false
namespace Go.Proofs.YtjabmipkllkfbaaGreatDoor.auditMissing
theorem c11 : ((Rows.auditMissingRow.recurses == Tryz.pinned.checked.prog.recurses 3)) = true := by kernel_rfl
end Go.Proofs.YtjabmipkllkfbaaGreatDoor.auditMissing
namespace Go.Proofs.YtjabmipkllkfbaaGreatDoor.auditMissing
theorem c12 : ((Rows.auditMissingRow.named == Tryz.pinned.checked.prog.varsNamed 3)) = true := by kernel_rfl
end Go.Proofs.YtjabmipkllkfbaaGreatDoor.auditMissing
