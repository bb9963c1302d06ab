/-
  AuditRetries: closed facts of the row; AuditRetries: closed facts of the row; AuditRetries: closed facts of the row.
-/
import Derived.Test.YtmpbddmbpeoehaaGreatDoorRows
import Derived.Test.YtmpbddmbpeoehaaGreatDoorChecked
import Derived.JoinedCond
import Derived.KernelRfl
set_option linter.unusedVariables false
set_option linter.unusedSimpArgs false
namespace Go.Proofs.YtmpbddmbpeoehaaGreatDoor.auditRetries
theorem c0 : (Rows.auditRetriesRow.wf (OpenSpec.ofChange ((OpenSpec.ofChange Rows.auditRetriesSpec).bare))) = true := by kernel_rfl
theorem c1 : (laidOutB Tryz.pinned.checked.prog) = true := by kernel_rfl
theorem c2 : (mapsRowed Tryz.pinned.checked.prog) = true := by kernel_rfl
theorem c3 : (Tryz.f3.params.all (Tryz.pinned.checked.prog.readableRec ·)) = true := by kernel_rfl
theorem c4 : (namedTie Tryz.pinned.checked.prog Rows.auditRetriesRow.named ((OpenSpec.ofChange Rows.auditRetriesSpec).bare).vars) = true := by kernel_rfl
theorem c5 : ((Rows.auditRetriesRow.stops == [])) = true := by kernel_rfl
theorem c6 : ((Tryz.pinned.checked.prog.stops == [])) = true := by kernel_rfl
theorem c7 : ((Rows.auditRetriesRow.knobs == [])) = true := by kernel_rfl
theorem c8 : ((Tryz.pinned.checked.prog.stopKnobs == [])) = true := by kernel_rfl
end Go.Proofs.YtmpbddmbpeoehaaGreatDoor.auditRetries
namespace Go.Proofs.YtmpbddmbpeoehaaGreatDoor.auditRetries
theorem c9 : ((Rows.auditRetriesRow.inPlace == Tryz.pinned.checked.prog.inPlace 3)) = true := by kernel_rfl
end Go.Proofs.YtmpbddmbpeoehaaGreatDoor.auditRetries
namespace Go.Proofs.YtmpbddmbpeoehaaGreatDoor.auditRetries
theorem c10 : ((Rows.auditRetriesRow.unfollowed == Tryz.pinned.checked.prog.unfollowed 3)) = true := by kernel_rfl
end Go.Proofs.YtmpbddmbpeoehaaGreatDoor.auditRetries
