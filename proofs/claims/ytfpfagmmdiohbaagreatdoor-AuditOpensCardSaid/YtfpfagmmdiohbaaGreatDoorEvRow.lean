/-
  What the rows of this seat share: the laid table as the runs ask for it; the world of the witness.
-/
import Derived.Test.YtfpfagmmdiohbaaGreatDoorEvLaid
import Derived.Test.YtfpfagmmdiohbaaGreatDoorCards
import Derived.Test.YtfpfagmmdiohbaaGreatDoorTie
import Derived.WalkKit
import Derived.ProofKit
import Derived.OpenShut
import Derived.Deep.DeepHandedRow
import Derived.Lib.LaidTab
import Derived.Lib.LaidU8
import Derived.Lib.SmallJoins
import Derived.Stop.LaidErr
import Derived.Lay
import Derived.LaidMore
set_option linter.unusedVariables false
set_option linter.unusedSimpArgs false
namespace Go.Proofs.YtfpfagmmdiohbaaGreatDoor.ERow
open Go.ChangeShapes Go.WideShapes Go.ChangeAt Go.RowKit

theorem own : ownKnob Tryz.prog.godebug = none := by kernel_rfl

/-- The list of the laid variables. -/
def laidL : List (String × DataW Unit) := Rows.auditOpensRow.laid

theorem tabs_of {W : World} (hL : laidMetH Tryz.prog laidL W) (hS : W.ShapedOpen Tryz.prog) : Ev.TabV W := by
  have hL' : laidMet Tryz.prog laidL W := hL
  exact Ev.steps_of (Lib.laidMet.reads hL' (.tail _ (.tail _ (.head _))))

/-! ### The world of the witness -/
theorem wit_shaped (os : Os) (args : Array Value) : ((World.laidAll Tryz.prog os laidL).forCall (fun _ _ => 0) ⟨#[], args, []⟩).Shaped Tryz.prog :=
  World.shaped_of_ZipB (by kernel_rfl) (by kernel_rfl)
theorem wit_laid (os : Os) (args : Array Value) : laidMetH Tryz.prog laidL ((World.laidAll Tryz.prog os laidL).forCall (fun _ _ => 0) ⟨#[], args, []⟩).memory := by
  rw [MakeChecks.laidMetH_plain _ _ _ (by kernel_rfl)]
  exact laidMet_laidAll _ (by kernel_rfl) (by kernel_rfl)
end Go.Proofs.YtfpfagmmdiohbaaGreatDoor.ERow
