/-
  The document's six kinds as they lie in memory.
-/
import Derived.Test.YtfhcnndleaoobaaGreatDoorFWorks
set_option linter.unusedVariables false
set_option linter.unusedSimpArgs false
namespace Go.Proofs.YtfhcnndleaoobaaGreatDoor
open Go.RowKit

set_option maxHeartbeats 2000000 in
theorem ref_Six (w : World) : Calls Tryz.prog 31 #[] w fun e w' =>
    ∃ g m d, e = .returned (.slice (some ⟨g, 0, none⟩) 6 6) ∧ Below w.heap.size w w' ∧ SixAt w' g m d := by
  go_enter Tryz.func31, Tryz.ntmps31
  go_wp2_with fail
  go_ret
  exact ⟨_, _, _, rfl, (((Below.refl _ _).alloc (Nat.le_refl _) _).alloc (by simp) _).alloc (by simp <;> omega) _, six_laid w _⟩
end Go.Proofs.YtfhcnndleaoobaaGreatDoor
