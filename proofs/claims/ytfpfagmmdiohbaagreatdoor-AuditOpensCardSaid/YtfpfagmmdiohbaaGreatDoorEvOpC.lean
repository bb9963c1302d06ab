/-
  AuditOpens: the last run of the evaluator.
-/
import Derived.Test.YtfpfagmmdiohbaaGreatDoorEvOpB
set_option linter.unusedVariables false
set_option linter.unusedSimpArgs false
namespace Go.Proofs.YtfpfagmmdiohbaaGreatDoor.Ev
set_option maxRecDepth 1000000 in
theorem opens_ff0 : isTrue (ev (tabK (KO false)) 100000 (.call [] 5 (argsO false false)) s0) = true := by kernel_rfl
theorem opens_ff (t : Bool) : isTrue (ev (tabK (KO t)) 100000 (.call [] 5 (argsO false false)) s0) = true := by
  cases t
  · exact opens_ff0
  · exact opens_ff1
end Go.Proofs.YtfpfagmmdiohbaaGreatDoor.Ev
