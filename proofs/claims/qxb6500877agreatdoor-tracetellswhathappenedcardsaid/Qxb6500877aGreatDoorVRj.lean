import Derived.Test.Qxb6500877aGreatDoorVJ0
import Derived.Test.Qxb6500877aGreatDoorVJ1
import Derived.Test.Qxb6500877aGreatDoorVJ2
import Derived.Test.Qxb6500877aGreatDoorVJ3
import Derived.Test.Qxb6500877aGreatDoorVJ4
import Derived.Test.Qxb6500877aGreatDoorVJ5
set_option linter.unusedVariables false
namespace Go.Proofs.Qxb6500877aGreatDoor
theorem closed15 : joinedFacts Tryz.prog 15 Tryz.f15 Rows.traceTellsWhatHappenedSpec Rows.traceTellsWhatHappenedRow = true := by
  simp only [joinedFacts, jf0, jf1, jf2, jf3, jf4, jf5, jf6, jf7, jf8, jf9, jf10, jf11, jf12, jf13, jf14, jf15, jf16, jf17, jf18, jf19, jf20, jf21, jf22, jf23, jf24, jf25, jf26, jf27, jf29, jf30, jf31, Bool.true_and, Bool.and_true]
  kernel_rfl
end Go.Proofs.Qxb6500877aGreatDoor
