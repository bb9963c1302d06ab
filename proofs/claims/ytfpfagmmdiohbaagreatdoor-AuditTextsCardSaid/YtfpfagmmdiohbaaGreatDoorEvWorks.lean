/-
  The examples of the audit's chapter hold: the evaluator's run.
-/
import Derived.Test.YtfpfagmmdiohbaaGreatDoorEvLaid
set_option linter.unusedVariables false
set_option linter.unusedSimpArgs false
namespace Go.Proofs.YtfpfagmmdiohbaaGreatDoor.Ev
open Go.RowKit
def K0 : Know := ⟨[], [], []⟩
set_option maxRecDepth 1000000 in
theorem works_run : isTrue (ev (tabK K0) 100000 (.call [] 10 []) s0) = true := by kernel_rfl
theorem know0 : KnowOk K0 (fun _ => 0) :=
  ⟨fun i r h => by rw [lget_eq] at h; simp [K0] at h, fun a b t h => (by cases h), fun a b t h => (by cases h)⟩
theorem works (w : World) (hT : TabV w) : Calls Tryz.prog 10 #[] w fun e w' => e = .returned (.bool true) ∧ Below w.heap.size w w' :=
  ev_true know0 hT (rfl : concL (V0 fun _ => 0) [] = some []) works_run
end Go.Proofs.YtfpfagmmdiohbaaGreatDoor.Ev
