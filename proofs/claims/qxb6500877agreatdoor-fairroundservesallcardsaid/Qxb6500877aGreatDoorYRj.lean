import Derived.Test.Qxb6500877aGreatDoorYJ0
import Derived.Test.Qxb6500877aGreatDoorYJ1
import Derived.Test.Qxb6500877aGreatDoorYJ2
import Derived.Test.Qxb6500877aGreatDoorYJ3
import Derived.Test.Qxb6500877aGreatDoorYJ4
import Derived.Test.Qxb6500877aGreatDoorYJ5
set_option linter.unusedVariables false
namespace Go.Proofs.Qxb6500877aGreatDoor
theorem closed13 : joinedFacts Tryz.prog 13 Tryz.f13 Rows.fairRoundServesAllSpec Rows.fairRoundServesAllRow = true := by
  simp only [joinedFacts, jf0, jf1, jf2, jf3, jf4, jf5, jf6, jf7, jf8, jf9, jf10, jf11, jf12, jf13, jf14, jf15, jf16, jf17, jf18, jf19, jf20, jf21, jf22, jf23, jf24, jf25, jf26, jf27, jf29, jf30, jf31, Bool.true_and, Bool.and_true]
  kernel_rfl
end Go.Proofs.Qxb6500877aGreatDoor
