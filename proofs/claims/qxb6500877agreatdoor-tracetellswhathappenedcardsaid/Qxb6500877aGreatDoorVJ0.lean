import Derived.Test.Qxb6500877aGreatDoorRows
import Derived.JoinedOf
set_option linter.unusedVariables false
namespace Go.Proofs.Qxb6500877aGreatDoor
theorem jf0 : (Rows.traceTellsWhatHappenedRow.wf (OpenSpec.ofChange Rows.traceTellsWhatHappenedSpec)) = true := by kernel_rfl
theorem jf1 : (laidOutB Tryz.prog) = true := by kernel_rfl
theorem jf2 : (mapsRowed Tryz.prog) = true := by kernel_rfl
theorem jf3 : (Tryz.f15.params.all (Tryz.prog.readableRec ·)) = true := by kernel_rfl
theorem jf4 : (namedTie Tryz.prog Rows.traceTellsWhatHappenedRow.named Rows.traceTellsWhatHappenedSpec.vars) = true := by kernel_rfl
theorem jf5 : ((Rows.traceTellsWhatHappenedRow.stops == [])) = true := by kernel_rfl
theorem jf6 : ((Tryz.prog.stops == [])) = true := by kernel_rfl
theorem jf7 : ((Rows.traceTellsWhatHappenedRow.knobs == [])) = true := by kernel_rfl
theorem jf8 : ((Tryz.prog.stopKnobs == [])) = true := by kernel_rfl
end Go.Proofs.Qxb6500877aGreatDoor
