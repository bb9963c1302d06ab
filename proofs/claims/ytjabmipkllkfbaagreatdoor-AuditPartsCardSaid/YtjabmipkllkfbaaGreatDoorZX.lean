/-
  AuditParts: closed facts of the row; AuditParts: closed facts of the row.
-/
import Derived.Test.YtjabmipkllkfbaaGreatDoorRows
import Derived.Test.YtjabmipkllkfbaaGreatDoorChecked
import Derived.JoinedCond
import Derived.KernelRfl
set_option linter.unusedVariables false
set_option linter.unusedSimpArgs false
namespace Go.Proofs.YtjabmipkllkfbaaGreatDoor.auditParts
section
theorem Aq:((Rows.auditPartsRow.recurses==Tryz.pinned.checked.prog.recurses 4))=true:=by kernel_rfl
end
section
theorem Ar:((Rows.auditPartsRow.named==Tryz.pinned.checked.prog.varsNamed 4))=true:=by kernel_rfl
end
end Go.Proofs.YtjabmipkllkfbaaGreatDoor.auditParts
