/-
  AuditWindows: closed facts of the row; AuditWindows: closed facts of the row; AuditWindows: closed facts of the row.
-/
import Derived.Test.YtfpfagmmdiohbaaGreatDoorRows
import Derived.Test.YtfpfagmmdiohbaaGreatDoorChecked
import Derived.JoinedCond
import Derived.KernelRfl
set_option linter.unusedVariables false
set_option linter.unusedSimpArgs false
set_option linter.unusedVariables false
set_option linter.unusedSimpArgs false
namespace Go.Proofs.YtfpfagmmdiohbaaGreatDoor.auditWindows
theorem c0 : (Rows.auditWindowsRow.wf (OpenSpec.ofChange ((OpenSpec.ofChange Rows.auditWindowsSpec).bare))) = true := by kernel_rfl
theorem c1 : (laidOutB Tryz.pinned.checked.prog) = true := by kernel_rfl
theorem c2 : (mapsRowed Tryz.pinned.checked.prog) = true := by kernel_rfl
theorem c3 : (Tryz.f4.params.all (Tryz.pinned.checked.prog.readableRec ·)) = true := by kernel_rfl
theorem c4 : (namedTie Tryz.pinned.checked.prog Rows.auditWindowsRow.named ((OpenSpec.ofChange Rows.auditWindowsSpec).bare).vars) = true := by kernel_rfl
theorem c5 : ((Rows.auditWindowsRow.stops == [])) = true := by kernel_rfl
theorem c6 : ((Tryz.pinned.checked.prog.stops == [])) = true := by kernel_rfl
theorem c7 : ((Rows.auditWindowsRow.knobs == [])) = true := by kernel_rfl
theorem c8 : ((Tryz.pinned.checked.prog.stopKnobs == [])) = true := by kernel_rfl
end Go.Proofs.YtfpfagmmdiohbaaGreatDoor.auditWindows
set_option linter.unusedVariables false
set_option linter.unusedSimpArgs false
set_option linter.unusedVariables false
set_option linter.unusedSimpArgs false
namespace Go.Proofs.YtfpfagmmdiohbaaGreatDoor.auditWindows
theorem c9 : ((Rows.auditWindowsRow.inPlace == Tryz.pinned.checked.prog.inPlace 4)) = true := by kernel_rfl
end Go.Proofs.YtfpfagmmdiohbaaGreatDoor.auditWindows
set_option linter.unusedVariables false
set_option linter.unusedSimpArgs false
set_option linter.unusedVariables false
set_option linter.unusedSimpArgs false
namespace Go.Proofs.YtfpfagmmdiohbaaGreatDoor.auditWindows
theorem c10 : ((Rows.auditWindowsRow.unfollowed == Tryz.pinned.checked.prog.unfollowed 4)) = true := by kernel_rfl
end Go.Proofs.YtfpfagmmdiohbaaGreatDoor.auditWindows
