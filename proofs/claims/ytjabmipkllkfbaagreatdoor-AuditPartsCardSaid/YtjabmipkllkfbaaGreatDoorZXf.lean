/-
  AuditParts: closed facts of the row.
-/
import Derived.Test.YtjabmipkllkfbaaGreatDoorRows
import Derived.Test.YtjabmipkllkfbaaGreatDoorChecked
import Derived.JoinedCond
import Derived.KernelRfl
set_option linter.unusedVariables false
set_option linter.unusedSimpArgs false
namespace Go.Proofs.YtjabmipkllkfbaaGreatDoor.auditParts
section
theorem DO:((Rows.auditPartsRow.maps==(Tryz.f4.params.toList++((OpenSpec.ofChange Rows.auditPartsSpec).bare).plain.varTypes Tryz.pinned.checked.prog).any (Tryz.pinned.checked.prog.mapsRec ·)))=true:=by kernel_rfl
theorem Ix:((Rows.auditPartsRow.ifaces==(Tryz.f4.params.toList++((OpenSpec.ofChange Rows.auditPartsSpec).bare).plain.varTypes Tryz.pinned.checked.prog).any (Tryz.pinned.checked.prog.ifacesRec ·)))=true:=by kernel_rfl
theorem At:((Rows.auditPartsRow.mapsOut==Tryz.pinned.checked.prog.mapsAmong Tryz.f4.resultTypes.toList))=true:=by kernel_rfl
theorem Jo:((Rows.auditPartsRow.loops==(Tryz.f4.params.toList++((OpenSpec.ofChange Rows.auditPartsSpec).bare).plain.varTypes Tryz.pinned.checked.prog).any (Tryz.pinned.checked.prog.loopsFrom ·)))=true:=by kernel_rfl
theorem Km:((Rows.auditPartsRow.wideKeys==(Tryz.f4.params.toList++((OpenSpec.ofChange Rows.auditPartsSpec).bare).plain.varTypes Tryz.pinned.checked.prog++Tryz.f4.resultTypes.toList).any (Tryz.pinned.checked.prog.wideKeysFrom ·)))=true:=by kernel_rfl
theorem Kn:(((OpenSpec.ofChange Rows.auditPartsSpec).bare).vars.all (Tryz.pinned.checked.prog.varReadable ·))=true:=by kernel_rfl
theorem Ko:(Tryz.f4.resultTypes.all (fun t=>Tryz.pinned.checked.prog.readableRec t&&decide (t<Tryz.pinned.checked.prog.types.size)))=true:=by kernel_rfl
theorem Kp:((Rows.auditPartsRow.ifacesOut==Tryz.f4.resultTypes.toList.any (Tryz.pinned.checked.prog.ifacesRec ·)))=true:=by kernel_rfl
theorem Kq:((Rows.auditPartsRow.loopsOut==Tryz.f4.resultTypes.toList.any (Tryz.pinned.checked.prog.loopsFrom ·)))=true:=by kernel_rfl
theorem Ks:((Rows.auditPartsRow.plainKeys==Tryz.pinned.checked.prog.plainKeys))=true:=by kernel_rfl
theorem Kt:(Rows.auditPartsRow.shortTexts.isNone)=true:=by kernel_rfl
theorem Kv:(Tryz.pinned.checked.prog.stopsHeard)=true:=by kernel_rfl
theorem Kw:(Tryz.pinned.checked.prog.mayEnter)=true:=by kernel_rfl
theorem Kx:((Rows.auditPartsRow.lifted==Tryz.pinned.checked.prog.liftsFinal))=true:=by kernel_rfl
theorem Ky:((Tryz.pinned.checked.prog.make==some Rows.auditPartsRow.make))=true:=by kernel_rfl
theorem Kz:((Rows.auditPartsRow.kinds==(if Rows.auditPartsRow.domain.isEmpty then [] else Tryz.f4.params.toList.map fun t=>match Tryz.pinned.checked.prog.underlying t with | some (.int k)=>some k | _=>none)))=true:=by kernel_rfl
theorem KA:((Rows.auditPartsRow.pinned==Rows.auditPartsRow.pinnedBy))=true:=by kernel_rfl
theorem KB:((Rows.auditPartsRow.veiled==(Tryz.f4.params.toList++((OpenSpec.ofChange Rows.auditPartsSpec).bare).plain.varTypes Tryz.pinned.checked.prog++Tryz.f4.resultTypes.toList).any (Tryz.pinned.checked.prog.veiledRec ·)))=true:=by kernel_rfl
theorem KC:(Rows.auditPartsRow.veiledFits Tryz.pinned.checked.prog Tryz.f4.params.toList (Tryz.f4.params.toList++((OpenSpec.ofChange Rows.auditPartsSpec).bare).plain.varTypes Tryz.pinned.checked.prog++Tryz.f4.resultTypes.toList))=true:=by kernel_rfl
end
end Go.Proofs.YtjabmipkllkfbaaGreatDoor.auditParts
