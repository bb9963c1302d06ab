/-
  AuditRetries: closed facts of the row.
-/
import Derived.Test.YtmpbddmbpeoehaaGreatDoorRows
import Derived.Test.YtmpbddmbpeoehaaGreatDoorChecked
import Derived.JoinedCond
import Derived.KernelRfl
set_option linter.unusedVariables false
set_option linter.unusedSimpArgs false
namespace Go.Proofs.YtmpbddmbpeoehaaGreatDoor.auditRetries
theorem c13 : ((Rows.auditRetriesRow.maps == (Tryz.f3.params.toList ++ ((OpenSpec.ofChange Rows.auditRetriesSpec).bare).plain.varTypes Tryz.pinned.checked.prog).any (Tryz.pinned.checked.prog.mapsRec ·))) = true := by kernel_rfl
theorem c14 : ((Rows.auditRetriesRow.ifaces == (Tryz.f3.params.toList ++ ((OpenSpec.ofChange Rows.auditRetriesSpec).bare).plain.varTypes Tryz.pinned.checked.prog).any (Tryz.pinned.checked.prog.ifacesRec ·))) = true := by kernel_rfl
theorem c15 : ((Rows.auditRetriesRow.mapsOut == Tryz.pinned.checked.prog.mapsAmong Tryz.f3.resultTypes.toList)) = true := by kernel_rfl
theorem c16 : ((Rows.auditRetriesRow.loops == (Tryz.f3.params.toList ++ ((OpenSpec.ofChange Rows.auditRetriesSpec).bare).plain.varTypes Tryz.pinned.checked.prog).any (Tryz.pinned.checked.prog.loopsFrom ·))) = true := by kernel_rfl
theorem c17 : ((Rows.auditRetriesRow.wideKeys == (Tryz.f3.params.toList ++ ((OpenSpec.ofChange Rows.auditRetriesSpec).bare).plain.varTypes Tryz.pinned.checked.prog ++ Tryz.f3.resultTypes.toList).any (Tryz.pinned.checked.prog.wideKeysFrom ·))) = true := by kernel_rfl
theorem c18 : (((OpenSpec.ofChange Rows.auditRetriesSpec).bare).vars.all (Tryz.pinned.checked.prog.varReadable ·)) = true := by kernel_rfl
theorem c19 : (Tryz.f3.resultTypes.all (fun t => Tryz.pinned.checked.prog.readableRec t && decide (t < Tryz.pinned.checked.prog.types.size))) = true := by kernel_rfl
theorem c20 : ((Rows.auditRetriesRow.ifacesOut == Tryz.f3.resultTypes.toList.any (Tryz.pinned.checked.prog.ifacesRec ·))) = true := by kernel_rfl
theorem c21 : ((Rows.auditRetriesRow.loopsOut == Tryz.f3.resultTypes.toList.any (Tryz.pinned.checked.prog.loopsFrom ·))) = true := by kernel_rfl
theorem c22 : ((Rows.auditRetriesRow.plainKeys == Tryz.pinned.checked.prog.plainKeys)) = true := by kernel_rfl
theorem c23 : (Rows.auditRetriesRow.shortTexts.isNone) = true := by kernel_rfl
theorem c24 : (Tryz.pinned.checked.prog.stopsHeard) = true := by kernel_rfl
theorem c25 : (Tryz.pinned.checked.prog.mayEnter) = true := by kernel_rfl
theorem c26 : ((Rows.auditRetriesRow.lifted == Tryz.pinned.checked.prog.liftsFinal)) = true := by kernel_rfl
theorem c27 : ((Tryz.pinned.checked.prog.make == some Rows.auditRetriesRow.make)) = true := by kernel_rfl
theorem c28 : ((Rows.auditRetriesRow.kinds == (if Rows.auditRetriesRow.domain.isEmpty then [] else Tryz.f3.params.toList.map fun t => match Tryz.pinned.checked.prog.underlying t with | some (.int k) => some k | _ => none))) = true := by kernel_rfl
theorem c29 : ((Rows.auditRetriesRow.pinned == Rows.auditRetriesRow.pinnedBy)) = true := by kernel_rfl
theorem c30 : ((Rows.auditRetriesRow.veiled == (Tryz.f3.params.toList ++ ((OpenSpec.ofChange Rows.auditRetriesSpec).bare).plain.varTypes Tryz.pinned.checked.prog ++ Tryz.f3.resultTypes.toList).any (Tryz.pinned.checked.prog.veiledRec ·))) = true := by kernel_rfl
theorem c31 : (Rows.auditRetriesRow.veiledFits Tryz.pinned.checked.prog Tryz.f3.params.toList (Tryz.f3.params.toList ++ ((OpenSpec.ofChange Rows.auditRetriesSpec).bare).plain.varTypes Tryz.pinned.checked.prog ++ Tryz.f3.resultTypes.toList)) = true := by kernel_rfl
end Go.Proofs.YtmpbddmbpeoehaaGreatDoor.auditRetries
