import Derived.Test.Qxb6500877aGreatDoorRows
import Derived.JoinedOf
set_option linter.unusedVariables false
namespace Go.Proofs.Qxb6500877aGreatDoor
theorem jf13 : ((Rows.nextTimerIsForetoldRow.maps == (Tryz.f14.params.toList ++ Rows.nextTimerIsForetoldSpec.plain.varTypes Tryz.prog).any (Tryz.prog.mapsRec ·))) = true := by kernel_rfl
theorem jf14 : ((Rows.nextTimerIsForetoldRow.ifaces == (Tryz.f14.params.toList ++ Rows.nextTimerIsForetoldSpec.plain.varTypes Tryz.prog).any (Tryz.prog.ifacesRec ·))) = true := by kernel_rfl
theorem jf15 : ((Rows.nextTimerIsForetoldRow.mapsOut == Tryz.prog.mapsAmong Tryz.f14.resultTypes.toList)) = true := by kernel_rfl
theorem jf16 : ((Rows.nextTimerIsForetoldRow.loops == (Tryz.f14.params.toList ++ Rows.nextTimerIsForetoldSpec.plain.varTypes Tryz.prog).any (Tryz.prog.loopsFrom ·))) = true := by kernel_rfl
theorem jf17 : ((Rows.nextTimerIsForetoldRow.wideKeys == (Tryz.f14.params.toList ++ Rows.nextTimerIsForetoldSpec.plain.varTypes Tryz.prog ++ Tryz.f14.resultTypes.toList).any (Tryz.prog.wideKeysFrom ·))) = true := by kernel_rfl
theorem jf18 : (Rows.nextTimerIsForetoldSpec.vars.all (Tryz.prog.varReadable ·)) = true := by kernel_rfl
theorem jf19 : (Tryz.f14.resultTypes.all (fun t => Tryz.prog.readableRec t && decide (t < Tryz.prog.types.size))) = true := by kernel_rfl
theorem jf20 : ((Rows.nextTimerIsForetoldRow.ifacesOut == Tryz.f14.resultTypes.toList.any (Tryz.prog.ifacesRec ·))) = true := by kernel_rfl
theorem jf21 : ((Rows.nextTimerIsForetoldRow.loopsOut == Tryz.f14.resultTypes.toList.any (Tryz.prog.loopsFrom ·))) = true := by kernel_rfl
theorem jf22 : ((Rows.nextTimerIsForetoldRow.plainKeys == Tryz.prog.plainKeys)) = true := by kernel_rfl
theorem jf23 : (Rows.nextTimerIsForetoldRow.shortTexts.isNone) = true := by kernel_rfl
theorem jf24 : (Tryz.prog.stopsHeard) = true := by kernel_rfl
theorem jf25 : (Tryz.prog.mayEnter) = true := by kernel_rfl
theorem jf26 : ((Rows.nextTimerIsForetoldRow.lifted == Tryz.prog.liftsFinal)) = true := by kernel_rfl
theorem jf27 : ((Tryz.prog.make == some Rows.nextTimerIsForetoldRow.make)) = true := by kernel_rfl
theorem jf28 : ((Rows.nextTimerIsForetoldRow.kinds == (if Rows.nextTimerIsForetoldRow.domain.isEmpty then [] else Tryz.f14.params.toList.map fun t => match Tryz.prog.underlying t with | some (.int k) => some k | _ => none))) = true := by kernel_rfl
theorem jf29 : ((Rows.nextTimerIsForetoldRow.pinned == Rows.nextTimerIsForetoldRow.pinnedBy)) = true := by kernel_rfl
theorem jf30 : ((Rows.nextTimerIsForetoldRow.veiled == (Tryz.f14.params.toList ++ Rows.nextTimerIsForetoldSpec.plain.varTypes Tryz.prog ++ Tryz.f14.resultTypes.toList).any (Tryz.prog.veiledRec ·))) = true := by kernel_rfl
theorem jf31 : (Rows.nextTimerIsForetoldRow.veiledFits Tryz.prog Tryz.f14.params.toList (Tryz.f14.params.toList ++ Rows.nextTimerIsForetoldSpec.plain.varTypes Tryz.prog ++ Tryz.f14.resultTypes.toList)) = true := by kernel_rfl
end Go.Proofs.Qxb6500877aGreatDoor
