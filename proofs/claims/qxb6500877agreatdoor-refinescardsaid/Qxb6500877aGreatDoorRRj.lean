import Derived.Test.Qxb6500877aGreatDoorRJ0
import Derived.Test.Qxb6500877aGreatDoorRJ1
import Derived.Test.Qxb6500877aGreatDoorRJ2
import Derived.Test.Qxb6500877aGreatDoorRJ3
import Derived.Test.Qxb6500877aGreatDoorRJ4
import Derived.Test.Qxb6500877aGreatDoorRJ5
set_option linter.unusedVariables false
namespace Go.Proofs.Qxb6500877aGreatDoor
theorem closed3 : joinedFacts Tryz.prog 3 Tryz.f3 Rows.refinesSpec Rows.refinesRow = true := by
  simp only [joinedFacts, jf0, jf1, jf2, jf3, jf4, jf5, jf6, jf7, jf8, jf9, jf10, jf11, jf12, jf13, jf14, jf15, jf16, jf17, jf18, jf19, jf20, jf21, jf22, jf23, jf24, jf25, jf26, jf27, jf29, jf30, jf31, Bool.true_and, Bool.and_true]
  kernel_rfl
end Go.Proofs.Qxb6500877aGreatDoor
