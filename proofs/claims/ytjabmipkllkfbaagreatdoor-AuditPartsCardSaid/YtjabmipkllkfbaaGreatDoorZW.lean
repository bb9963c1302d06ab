/-
  AuditParts: closed facts of the row; AuditParts: closed facts of the row; AuditParts: closed facts of the row.
-/
import Derived.Test.YtjabmipkllkfbaaGreatDoorRows
import Derived.Test.YtjabmipkllkfbaaGreatDoorChecked
import Derived.JoinedCond
import Derived.KernelRfl
set_option linter.unusedVariables false
set_option linter.unusedSimpArgs false
namespace Go.Proofs.YtjabmipkllkfbaaGreatDoor.auditParts
section
theorem c0:(Rows.auditPartsRow.wf (OpenSpec.ofChange ((OpenSpec.ofChange Rows.auditPartsSpec).bare)))=true:=by kernel_rfl
theorem c1:(laidOutB Tryz.pinned.checked.prog)=true:=by kernel_rfl
theorem c2:(mapsRowed Tryz.pinned.checked.prog)=true:=by kernel_rfl
theorem c3:(Tryz.f4.params.all (Tryz.pinned.checked.prog.readableRec ·))=true:=by kernel_rfl
theorem c4:(namedTie Tryz.pinned.checked.prog Rows.auditPartsRow.named ((OpenSpec.ofChange Rows.auditPartsSpec).bare).vars)=true:=by kernel_rfl
theorem c5:((Rows.auditPartsRow.stops==[]))=true:=by kernel_rfl
theorem c6:((Tryz.pinned.checked.prog.stops==[]))=true:=by kernel_rfl
theorem c7:((Rows.auditPartsRow.knobs==[]))=true:=by kernel_rfl
theorem c8:((Tryz.pinned.checked.prog.stopKnobs==[]))=true:=by kernel_rfl
end
section
theorem c9:((Rows.auditPartsRow.inPlace==Tryz.pinned.checked.prog.inPlace 4))=true:=by kernel_rfl
end
section
theorem gJ:((Rows.auditPartsRow.unfollowed==Tryz.pinned.checked.prog.unfollowed 4))=true:=by kernel_rfl
end
end Go.Proofs.YtjabmipkllkfbaaGreatDoor.auditParts
