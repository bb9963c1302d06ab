/-
  AuditMissing: closed facts of the row; AuditMissing: closed facts of the row; AuditMissing: closed facts of the row.
-/
import Derived.Test.YtjabmipkllkfbaaGreatDoorRows
import Derived.Test.YtjabmipkllkfbaaGreatDoorChecked
import Derived.JoinedCond
import Derived.KernelRfl
set_option linter.unusedVariables false
set_option linter.unusedSimpArgs false
namespace Go.Proofs.YtjabmipkllkfbaaGreatDoor.auditMissing
theorem c0 : (Rows.auditMissingRow.wf (OpenSpec.ofChange ((OpenSpec.ofChange Rows.auditMissingSpec).bare))) = true := by kernel_rfl
theorem c1 : (laidOutB Tryz.pinned.checked.prog) = true := by kernel_rfl
theorem c2 : (mapsRowed Tryz.pinned.checked.prog) = true := by kernel_rfl
theorem c3 : (Tryz.f3.params.all (Tryz.pinned.checked.prog.readableRec ·)) = true := by kernel_rfl
theorem c4 : (namedTie Tryz.pinned.checked.prog Rows.auditMissingRow.named ((OpenSpec.ofChange Rows.auditMissingSpec).bare).vars) = true := by kernel_rfl
theorem c5 : ((Rows.auditMissingRow.stops == [])) = true := by kernel_rfl
theorem c6 : ((Tryz.pinned.checked.prog.stops == [])) = true := by kernel_rfl
theorem c7 : ((Rows.auditMissingRow.knobs == [])) = true := by kernel_rfl
theorem c8 : ((Tryz.pinned.checked.prog.stopKnobs == [])) = true := by kernel_rfl
end Go.Proofs.YtjabmipkllkfbaaGreatDoor.auditMissing
namespace Go.Proofs.YtjabmipkllkfbaaGreatDoor.auditMissing
theorem c9 : ((Rows.auditMissingRow.inPlace == Tryz.pinned.checked.prog.inPlace 3)) = true := by kernel_rfl
end Go.Proofs.YtjabmipkllkfbaaGreatDoor.auditMissing
namespace Go.Proofs.YtjabmipkllkfbaaGreatDoor.auditMissing
theorem c10 : ((Rows.auditMissingRow.unfollowed == Tryz.pinned.checked.prog.unfollowed 3)) = true := by kernel_rfl
end Go.Proofs.YtjabmipkllkfbaaGreatDoor.auditMissing
