/-
  The document's text: Normal, Name.
-/
import Derived.Test.YtjnlgaeedcklaaaGreatDoorFPrintR2
import Derived.Test.YtjnlgaeedcklaaaGreatDoorFRef8
set_option linter.unusedVariables false
set_option linter.unusedSimpArgs false
namespace Go.Proofs.YtjnlgaeedcklaaaGreatDoor
open Go.RowKit

/-- What Normal returns. -/
def retNormal (p : List UInt8 × Nat × Int) : Value := .tuple #[.string ⟨p.1.toArray⟩, .int .i64 p.2.1, .int .i64 p.2.2]

end Go.Proofs.YtjnlgaeedcklaaaGreatDoor
