/-
  AuditTexts: the row's closed facts, in a text of their own.
-/
import Derived.Test.YtfpfagmmdiohbaaGreatDoorRows
import Derived.Test.YtfpfagmmdiohbaaGreatDoorChecked
import Derived.JoinedCond
import Derived.KernelRfl
set_option linter.unusedVariables false
set_option linter.unusedSimpArgs false
namespace Go.Proofs.YtfpfagmmdiohbaaGreatDoor.auditTexts
theorem closed : joinedFacts Tryz.pinned.checked.prog 7 Tryz.f7 (OpenSpec.ofChange Rows.auditTextsSpec).bare Rows.auditTextsRow = true := by kernel_rfl
end Go.Proofs.YtfpfagmmdiohbaaGreatDoor.auditTexts
