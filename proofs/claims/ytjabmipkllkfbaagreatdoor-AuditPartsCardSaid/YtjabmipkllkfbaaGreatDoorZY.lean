/-
  AuditParts: the closed facts of the row, joined.
-/
import Derived.Test.YtjabmipkllkfbaaGreatDoorZW
import Derived.Test.YtjabmipkllkfbaaGreatDoorZX
import Derived.Test.YtjabmipkllkfbaaGreatDoorZXf
set_option linter.unusedVariables false
set_option linter.unusedSimpArgs false
namespace Go.Proofs.YtjabmipkllkfbaaGreatDoor.auditParts
section
theorem eW {a b:Bool} (h:a=true) (k:b=true):(a&&b)=true:=by rw [h,k];rfl
set_option maxRecDepth 100000 in
theorem closed:joinedFacts Tryz.pinned.checked.prog 4 Tryz.f4 ((OpenSpec.ofChange Rows.auditPartsSpec).bare) Rows.auditPartsRow=true:=
 (eW (eW (eW (eW (eW (eW (eW (eW (eW (eW (eW (eW (eW (eW (eW (eW (eW (eW (eW (eW (eW (eW (eW (eW (eW (eW (eW (eW (eW (eW (eW c0 c1) c2) c3) c4) c5) c6) c7) c8) c9) gJ) Aq) Ar) DO) Ix) At) Jo) Km) Kn) Ko) Kp) Kq) Ks) Kt) Kv) Kw) Kx) Ky) Kz) KA) KB) KC)
end
end Go.Proofs.YtjabmipkllkfbaaGreatDoor.auditParts
