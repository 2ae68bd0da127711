import Derived.Test.Qxb6500877aGreatDoorOJ0
import Derived.Test.Qxb6500877aGreatDoorOJ1
import Derived.Test.Qxb6500877aGreatDoorOJ2
import Derived.Test.Qxb6500877aGreatDoorOJ3
import Derived.Test.Qxb6500877aGreatDoorOJ4
import Derived.Test.Qxb6500877aGreatDoorOJ5
set_option linter.unusedVariables false
namespace Go.Proofs.Qxb6500877aGreatDoor
theorem closed5 : joinedFacts Tryz.prog 5 Tryz.f5 Rows.fullMailboxRefusesSpec Rows.fullMailboxRefusesRow = true := by
  simp only [joinedFacts, jf0, jf1, jf2, jf3, jf4, jf5, jf6, jf7, jf8, jf9, jf10, jf11, jf12, jf13, jf14, jf15, jf16, jf17, jf18, jf19, jf20, jf21, jf22, jf23, jf24, jf25, jf26, jf27, jf29, jf30, jf31, Bool.true_and, Bool.and_true]
  kernel_rfl
end Go.Proofs.Qxb6500877aGreatDoor
