/-
  AuditOpens: the runs of the evaluator.
-/
import Derived.Test.YtfpfagmmdiohbaaGreatDoorEvLaid
set_option linter.unusedVariables false
set_option linter.unusedSimpArgs false
namespace Go.Proofs.YtfpfagmmdiohbaaGreatDoor.Ev

def at1 : IE := .add (.lit 100) (.var 1)
def at2 : IE := .add at1 (.var 2)
def wh : IE := .add (.lit 101) (.var 0)
def KO (t : Bool) : Know := ⟨[(0, 255), (0, 255), (0, 255)], [(at1, at2, true), (wh, at2, t)], []⟩
def KC : Know := ⟨[(0, 255), (0, 255), (0, 255)], [(at1, at2, true)], []⟩
def argsO (c o : Bool) : List AV := [.int .u8 (.var 0), .int .u8 (.var 1), .int .u8 (.var 2), .bool c, .bool o]

set_option maxRecDepth 1000000 in
theorem opens_ft : isTrue (ev (tabK KC) 100000 (.call [] 5 (argsO false true)) s0) = true := by kernel_rfl
set_option maxRecDepth 1000000 in
theorem opens_tt : isTrue (ev (tabK KC) 100000 (.call [] 5 (argsO true true)) s0) = true := by kernel_rfl
end Go.Proofs.YtfpfagmmdiohbaaGreatDoor.Ev
