/-
  AuditLines: closed facts of the row; AuditLines: closed facts of the row; AuditLines: closed facts of the row.
-/
import Derived.Test.YtphcgfljfknbaaaGreatDoorRows
import Derived.Test.YtphcgfljfknbaaaGreatDoorChecked
import Derived.JoinedCond
import Derived.KernelRfl
set_option linter.unusedVariables false
set_option linter.unusedSimpArgs false
set_option linter.unusedVariables false
set_option linter.unusedSimpArgs false
namespace Go.Proofs.YtphcgfljfknbaaaGreatDoor.auditLines
theorem c0 : (Rows.auditLinesRow.wf (OpenSpec.ofChange ((OpenSpec.ofChange Rows.auditLinesSpec).bare))) = true := by kernel_rfl
theorem c1 : (laidOutB Tryz.pinned.checked.prog) = true := by kernel_rfl
theorem c2 : (mapsRowed Tryz.pinned.checked.prog) = true := by kernel_rfl
theorem c3 : (Tryz.f3.params.all (Tryz.pinned.checked.prog.readableRec ·)) = true := by kernel_rfl
theorem c4 : (namedTie Tryz.pinned.checked.prog Rows.auditLinesRow.named ((OpenSpec.ofChange Rows.auditLinesSpec).bare).vars) = true := by kernel_rfl
theorem c5 : ((Rows.auditLinesRow.stops == [])) = true := by kernel_rfl
theorem c6 : ((Tryz.pinned.checked.prog.stops == [])) = true := by kernel_rfl
theorem c7 : ((Rows.auditLinesRow.knobs == [])) = true := by kernel_rfl
theorem c8 : ((Tryz.pinned.checked.prog.stopKnobs == [])) = true := by kernel_rfl
end Go.Proofs.YtphcgfljfknbaaaGreatDoor.auditLines
set_option linter.unusedVariables false
set_option linter.unusedSimpArgs false
set_option linter.unusedVariables false
set_option linter.unusedSimpArgs false
namespace Go.Proofs.YtphcgfljfknbaaaGreatDoor.auditLines
theorem c9 : ((Rows.auditLinesRow.inPlace == Tryz.pinned.checked.prog.inPlace 3)) = true := by kernel_rfl
end Go.Proofs.YtphcgfljfknbaaaGreatDoor.auditLines
set_option linter.unusedVariables false
set_option linter.unusedSimpArgs false
set_option linter.unusedVariables false
set_option linter.unusedSimpArgs false
namespace Go.Proofs.YtphcgfljfknbaaaGreatDoor.auditLines
theorem c10 : ((Rows.auditLinesRow.unfollowed == Tryz.pinned.checked.prog.unfollowed 3)) = true := by kernel_rfl
end Go.Proofs.YtphcgfljfknbaaaGreatDoor.auditLines
