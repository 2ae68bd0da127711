import Derived.Test.Qxb6500877aGreatDoorSta
import Derived.Test.Qxb6500877aGreatDoorStb
import Derived.Test.Qxb6500877aGreatDoorStc
import Derived.Test.Qxb6500877aGreatDoorStd
import Derived.Test.Qxb6500877aGreatDoorSte
import Derived.Test.Qxb6500877aGreatDoorStf
import Derived.Test.Qxb6500877aGreatDoorStg
import Derived.Test.Qxb6500877aGreatDoorSth
import Derived.Test.Qxb6500877aGreatDoorSti
import Derived.Test.Qxb6500877aGreatDoorMl
set_option linter.unusedVariables false
set_option linter.unusedSimpArgs false
namespace Go.Proofs.Qxb6500877aGreatDoor
open Go.RowKit

theorem afterF_zero (t : Nat) : afterF t 0 = t := by unfold afterF; rw [if_neg (by omega)]; rfl
theorem step_any {w : World} {B mb t k : Nat} {o : OpS} (M : Mach w B mb t k) (hk : k < 800000) (ho : o.ok) : Calls Tryz.prog 19 #[.pointer (some ⟨B, 0, none⟩), opV o] w fun e w' => Any e ∧ Done w w' B mb (afterF t (tickOf o)) (k + 4) := by
  by_cases h2 : o.kd = 2
  · rw [show tickOf o = 1 by rw [tickOf, if_pos h2]]
    exact step_2 M hk o ho h2
  by_cases h3 : o.kd = 3
  · rw [show tickOf o = o.x by rw [tickOf, if_neg h2, if_pos h3]]
    exact step_3 M hk o ho h3
  rw [show tickOf o = 0 by rw [tickOf, if_neg h2, if_neg h3], afterF_zero]
  by_cases h0 : o.kd = 0
  · exact step_0 M hk o ho h0
  by_cases h1 : o.kd = 1
  · exact step_1 M hk o ho h1
  by_cases h4 : o.kd = 4
  · exact step_4 M hk o ho h4
  by_cases h5 : o.kd = 5
  · exact step_5 M hk o ho h5
  by_cases h6 : o.kd = 6
  · exact step_6 M hk o ho h6
  by_cases h7 : o.kd = 7
  · exact step_7 M hk o ho h7
  by_cases h8 : o.kd = 8
  · exact step_8 M hk o ho h8
  by_cases h9 : o.kd = 9
  · exact step_9 M hk o ho h9
  exact step_x M hk o ho (by omega)
end Go.Proofs.Qxb6500877aGreatDoor
