/-
  AuditOpens: the runs of the evaluator.
-/
import Derived.Test.YtfpfagmmdiohbaaGreatDoorEvLaid
import Derived.Test.YtfpfagmmdiohbaaGreatDoorEvOpA
set_option linter.unusedVariables false
set_option linter.unusedSimpArgs false
namespace Go.Proofs.YtfpfagmmdiohbaaGreatDoor.Ev

set_option maxRecDepth 1000000 in
theorem opens_tf : isTrue (ev (tabK KC) 100000 (.call [] 5 (argsO true false)) s0) = true := by kernel_rfl
set_option maxRecDepth 1000000 in
theorem opens_ff1 : isTrue (ev (tabK (KO true)) 100000 (.call [] 5 (argsO false false)) s0) = true := by kernel_rfl
end Go.Proofs.YtfpfagmmdiohbaaGreatDoor.Ev
