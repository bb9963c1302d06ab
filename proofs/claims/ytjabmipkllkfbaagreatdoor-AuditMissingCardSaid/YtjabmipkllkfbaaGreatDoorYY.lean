/-
  AuditMissing: the closed facts of the row, joined.
-/
import Derived.Test.YtjabmipkllkfbaaGreatDoorYW
import Derived.Test.YtjabmipkllkfbaaGreatDoorYX
import Derived.Test.YtjabmipkllkfbaaGreatDoorYXf
set_option linter.unusedVariables false
set_option linter.unusedSimpArgs false
namespace Go.Proofs.YtjabmipkllkfbaaGreatDoor.auditMissing
theorem andB {a b : Bool} (h : a = true) (k : b = true) : (a && b) = true := by rw [h, k]; rfl
set_option maxRecDepth 100000 in
theorem closed : joinedFacts Tryz.pinned.checked.prog 3 Tryz.f3 ((OpenSpec.ofChange Rows.auditMissingSpec).bare) Rows.auditMissingRow = true :=
 (andB (andB (andB (andB (andB (andB (andB (andB (andB (andB (andB (andB (andB (andB (andB (andB (andB (andB (andB (andB (andB (andB (andB (andB (andB (andB (andB (andB (andB (andB (andB c0 c1) c2) c3) c4) c5) c6) c7) c8) c9) c10) c11) c12) c13) c14) c15) c16) c17) c18) c19) c20) c21) c22) c23) c24) c25) c26) c27) c28) c29) c30) c31)
end Go.Proofs.YtjabmipkllkfbaaGreatDoor.auditMissing
