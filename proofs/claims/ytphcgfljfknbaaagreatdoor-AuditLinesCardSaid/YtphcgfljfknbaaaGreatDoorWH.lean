/-
  Contracts: events.
-/
import Derived.Test.YtphcgfljfknbaaaGreatDoorWF
import Derived.Test.YtphcgfljfknbaaaGreatDoorWT
import Derived.Test.YtphcgfljfknbaaaGreatDoorWG
set_option linter.unusedVariables false
set_option linter.unusedSimpArgs false
set_option linter.unusedVariables false
set_option linter.unusedSimpArgs false
namespace Go.Proofs.YtphcgfljfknbaaaGreatDoor.Vc
/-- In the range of its kind. -/
def K.i64 (z : Int) : Prop := IntKind.i64.min ≤ z ∧ z ≤ IntKind.i64.max
def K.u64 (z : Int) : Prop := IntKind.u64.min ≤ z ∧ z ≤ IntKind.u64.max
def K.u8 (z : Int) : Prop := IntKind.u8.min ≤ z ∧ z ≤ IntKind.u8.max
end Go.Proofs.YtphcgfljfknbaaaGreatDoor.Vc
