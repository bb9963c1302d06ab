/-
  AuditCaps: closed facts of the row; AuditCaps: closed facts of the row; AuditCaps: closed facts of the row.
-/
import Derived.Test.YtfpfagmmdiohbaaGreatDoorRows
import Derived.Test.YtfpfagmmdiohbaaGreatDoorChecked
import Derived.JoinedCond
import Derived.KernelRfl
set_option linter.unusedVariables false
set_option linter.unusedSimpArgs false
set_option linter.unusedVariables false
set_option linter.unusedSimpArgs false
namespace Go.Proofs.YtfpfagmmdiohbaaGreatDoor.auditCaps
theorem c0 : (Rows.auditCapsRow.wf (OpenSpec.ofChange ((OpenSpec.ofChange Rows.auditCapsSpec).bare))) = true := by kernel_rfl
theorem c1 : (laidOutB Tryz.pinned.checked.prog) = true := by kernel_rfl
theorem c2 : (mapsRowed Tryz.pinned.checked.prog) = true := by kernel_rfl
theorem c3 : (Tryz.f6.params.all (Tryz.pinned.checked.prog.readableRec ·)) = true := by kernel_rfl
theorem c4 : (namedTie Tryz.pinned.checked.prog Rows.auditCapsRow.named ((OpenSpec.ofChange Rows.auditCapsSpec).bare).vars) = true := by kernel_rfl
theorem c5 : ((Rows.auditCapsRow.stops == [])) = true := by kernel_rfl
theorem c6 : ((Tryz.pinned.checked.prog.stops == [])) = true := by kernel_rfl
theorem c7 : ((Rows.auditCapsRow.knobs == [])) = true := by kernel_rfl
theorem c8 : ((Tryz.pinned.checked.prog.stopKnobs == [])) = true := by kernel_rfl
end Go.Proofs.YtfpfagmmdiohbaaGreatDoor.auditCaps
set_option linter.unusedVariables false
set_option linter.unusedSimpArgs false
set_option linter.unusedVariables false
set_option linter.unusedSimpArgs false
namespace Go.Proofs.YtfpfagmmdiohbaaGreatDoor.auditCaps
theorem c9 : ((Rows.auditCapsRow.inPlace == Tryz.pinned.checked.prog.inPlace 6)) = true := by kernel_rfl
end Go.Proofs.YtfpfagmmdiohbaaGreatDoor.auditCaps
set_option linter.unusedVariables false
set_option linter.unusedSimpArgs false
set_option linter.unusedVariables false
set_option linter.unusedSimpArgs false
namespace Go.Proofs.YtfpfagmmdiohbaaGreatDoor.auditCaps
theorem c10 : ((Rows.auditCapsRow.unfollowed == Tryz.pinned.checked.prog.unfollowed 6)) = true := by kernel_rfl
end Go.Proofs.YtfpfagmmdiohbaaGreatDoor.auditCaps
