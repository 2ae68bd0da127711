import Derived.Test.Qxb6500877aGreatDoorRows
import Derived.JoinedOf
set_option linter.unusedVariables false
namespace Go.Proofs.Qxb6500877aGreatDoor
theorem jf13 : ((Rows.traceTellsWhatHappenedRow.maps == (Tryz.f15.params.toList ++ Rows.traceTellsWhatHappenedSpec.plain.varTypes Tryz.prog).any (Tryz.prog.mapsRec ·))) = true := by kernel_rfl
theorem jf14 : ((Rows.traceTellsWhatHappenedRow.ifaces == (Tryz.f15.params.toList ++ Rows.traceTellsWhatHappenedSpec.plain.varTypes Tryz.prog).any (Tryz.prog.ifacesRec ·))) = true := by kernel_rfl
theorem jf15 : ((Rows.traceTellsWhatHappenedRow.mapsOut == Tryz.prog.mapsAmong Tryz.f15.resultTypes.toList)) = true := by kernel_rfl
theorem jf16 : ((Rows.traceTellsWhatHappenedRow.loops == (Tryz.f15.params.toList ++ Rows.traceTellsWhatHappenedSpec.plain.varTypes Tryz.prog).any (Tryz.prog.loopsFrom ·))) = true := by kernel_rfl
theorem jf17 : ((Rows.traceTellsWhatHappenedRow.wideKeys == (Tryz.f15.params.toList ++ Rows.traceTellsWhatHappenedSpec.plain.varTypes Tryz.prog ++ Tryz.f15.resultTypes.toList).any (Tryz.prog.wideKeysFrom ·))) = true := by kernel_rfl
theorem jf18 : (Rows.traceTellsWhatHappenedSpec.vars.all (Tryz.prog.varReadable ·)) = true := by kernel_rfl
theorem jf19 : (Tryz.f15.resultTypes.all (fun t => Tryz.prog.readableRec t && decide (t < Tryz.prog.types.size))) = true := by kernel_rfl
theorem jf20 : ((Rows.traceTellsWhatHappenedRow.ifacesOut == Tryz.f15.resultTypes.toList.any (Tryz.prog.ifacesRec ·))) = true := by kernel_rfl
theorem jf21 : ((Rows.traceTellsWhatHappenedRow.loopsOut == Tryz.f15.resultTypes.toList.any (Tryz.prog.loopsFrom ·))) = true := by kernel_rfl
theorem jf22 : ((Rows.traceTellsWhatHappenedRow.plainKeys == Tryz.prog.plainKeys)) = true := by kernel_rfl
theorem jf23 : (Rows.traceTellsWhatHappenedRow.shortTexts.isNone) = true := by kernel_rfl
theorem jf24 : (Tryz.prog.stopsHeard) = true := by kernel_rfl
theorem jf25 : (Tryz.prog.mayEnter) = true := by kernel_rfl
theorem jf26 : ((Rows.traceTellsWhatHappenedRow.lifted == Tryz.prog.liftsFinal)) = true := by kernel_rfl
theorem jf27 : ((Tryz.prog.make == some Rows.traceTellsWhatHappenedRow.make)) = true := by kernel_rfl
theorem jf28 : ((Rows.traceTellsWhatHappenedRow.kinds == (if Rows.traceTellsWhatHappenedRow.domain.isEmpty then [] else Tryz.f15.params.toList.map fun t => match Tryz.prog.underlying t with | some (.int k) => some k | _ => none))) = true := by kernel_rfl
theorem jf29 : ((Rows.traceTellsWhatHappenedRow.pinned == Rows.traceTellsWhatHappenedRow.pinnedBy)) = true := by kernel_rfl
theorem jf30 : ((Rows.traceTellsWhatHappenedRow.veiled == (Tryz.f15.params.toList ++ Rows.traceTellsWhatHappenedSpec.plain.varTypes Tryz.prog ++ Tryz.f15.resultTypes.toList).any (Tryz.prog.veiledRec ·))) = true := by kernel_rfl
theorem jf31 : (Rows.traceTellsWhatHappenedRow.veiledFits Tryz.prog Tryz.f15.params.toList (Tryz.f15.params.toList ++ Rows.traceTellsWhatHappenedSpec.plain.varTypes Tryz.prog ++ Tryz.f15.resultTypes.toList)) = true := by kernel_rfl
end Go.Proofs.Qxb6500877aGreatDoor
