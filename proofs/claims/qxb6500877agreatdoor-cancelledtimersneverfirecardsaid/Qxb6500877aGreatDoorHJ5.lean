import Derived.Test.Qxb6500877aGreatDoorRows
import Derived.JoinedOf
set_option linter.unusedVariables false
namespace Go.Proofs.Qxb6500877aGreatDoor
theorem jf13 : ((Rows.cancelledTimersNeverFireRow.maps == (Tryz.f7.params.toList ++ Rows.cancelledTimersNeverFireSpec.plain.varTypes Tryz.prog).any (Tryz.prog.mapsRec ·))) = true := by kernel_rfl
theorem jf14 : ((Rows.cancelledTimersNeverFireRow.ifaces == (Tryz.f7.params.toList ++ Rows.cancelledTimersNeverFireSpec.plain.varTypes Tryz.prog).any (Tryz.prog.ifacesRec ·))) = true := by kernel_rfl
theorem jf15 : ((Rows.cancelledTimersNeverFireRow.mapsOut == Tryz.prog.mapsAmong Tryz.f7.resultTypes.toList)) = true := by kernel_rfl
theorem jf16 : ((Rows.cancelledTimersNeverFireRow.loops == (Tryz.f7.params.toList ++ Rows.cancelledTimersNeverFireSpec.plain.varTypes Tryz.prog).any (Tryz.prog.loopsFrom ·))) = true := by kernel_rfl
theorem jf17 : ((Rows.cancelledTimersNeverFireRow.wideKeys == (Tryz.f7.params.toList ++ Rows.cancelledTimersNeverFireSpec.plain.varTypes Tryz.prog ++ Tryz.f7.resultTypes.toList).any (Tryz.prog.wideKeysFrom ·))) = true := by kernel_rfl
theorem jf18 : (Rows.cancelledTimersNeverFireSpec.vars.all (Tryz.prog.varReadable ·)) = true := by kernel_rfl
theorem jf19 : (Tryz.f7.resultTypes.all (fun t => Tryz.prog.readableRec t && decide (t < Tryz.prog.types.size))) = true := by kernel_rfl
theorem jf20 : ((Rows.cancelledTimersNeverFireRow.ifacesOut == Tryz.f7.resultTypes.toList.any (Tryz.prog.ifacesRec ·))) = true := by kernel_rfl
theorem jf21 : ((Rows.cancelledTimersNeverFireRow.loopsOut == Tryz.f7.resultTypes.toList.any (Tryz.prog.loopsFrom ·))) = true := by kernel_rfl
theorem jf22 : ((Rows.cancelledTimersNeverFireRow.plainKeys == Tryz.prog.plainKeys)) = true := by kernel_rfl
theorem jf23 : (Rows.cancelledTimersNeverFireRow.shortTexts.isNone) = true := by kernel_rfl
theorem jf24 : (Tryz.prog.stopsHeard) = true := by kernel_rfl
theorem jf25 : (Tryz.prog.mayEnter) = true := by kernel_rfl
theorem jf26 : ((Rows.cancelledTimersNeverFireRow.lifted == Tryz.prog.liftsFinal)) = true := by kernel_rfl
theorem jf27 : ((Tryz.prog.make == some Rows.cancelledTimersNeverFireRow.make)) = true := by kernel_rfl
theorem jf28 : ((Rows.cancelledTimersNeverFireRow.kinds == (if Rows.cancelledTimersNeverFireRow.domain.isEmpty then [] else Tryz.f7.params.toList.map fun t => match Tryz.prog.underlying t with | some (.int k) => some k | _ => none))) = true := by kernel_rfl
theorem jf29 : ((Rows.cancelledTimersNeverFireRow.pinned == Rows.cancelledTimersNeverFireRow.pinnedBy)) = true := by kernel_rfl
theorem jf30 : ((Rows.cancelledTimersNeverFireRow.veiled == (Tryz.f7.params.toList ++ Rows.cancelledTimersNeverFireSpec.plain.varTypes Tryz.prog ++ Tryz.f7.resultTypes.toList).any (Tryz.prog.veiledRec ·))) = true := by kernel_rfl
theorem jf31 : (Rows.cancelledTimersNeverFireRow.veiledFits Tryz.prog Tryz.f7.params.toList (Tryz.f7.params.toList ++ Rows.cancelledTimersNeverFireSpec.plain.varTypes Tryz.prog ++ Tryz.f7.resultTypes.toList)) = true := by kernel_rfl
end Go.Proofs.Qxb6500877aGreatDoor
