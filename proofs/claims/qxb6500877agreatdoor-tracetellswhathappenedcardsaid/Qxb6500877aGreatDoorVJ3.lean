import Derived.Test.Qxb6500877aGreatDoorRows
import Derived.JoinedOf
set_option linter.unusedVariables false
namespace Go.Proofs.Qxb6500877aGreatDoor
theorem jf11 : ((Rows.traceTellsWhatHappenedRow.recurses == Tryz.prog.recurses 15)) = true := by kernel_rfl
end Go.Proofs.Qxb6500877aGreatDoor
