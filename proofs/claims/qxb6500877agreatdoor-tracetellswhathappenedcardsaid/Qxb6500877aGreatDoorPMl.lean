import Derived.Test.Qxb6500877aGreatDoorPMq
import Derived.Test.Qxb6500877aGreatDoorPMl0
set_option linter.unusedVariables false
set_option linter.unusedSimpArgs false
namespace Go.Proofs.Qxb6500877aGreatDoor
open Go.RowKit


set_option maxHeartbeats 1000000 in
theorem ticksOf_any (o : OpS) (w : World) : Calls Tryz.prog 38 #[opV o] w fun e w' => e = .returned (.int .u64 ((tickOf o : Nat) : Int)) ∧ Below w.heap.size w w' := by
  unfold opV
  by_cases h2 : o.kd = 2
  · have hv : tickOf o = 1 := by rw [tickOf, if_pos h2]
    rw [hv, h2]
    clear hv h2
    go_enter Tryz.func38, Tryz.ntmps38
    go_wp2
    go_ret
    exact ⟨rfl, one_alloc _ _⟩
  · have e2 : (((o.kd : Nat) : Int) == 2) = false := by simp; omega
    by_cases h3 : o.kd = 3
    · have hv : tickOf o = o.x := by rw [tickOf, if_neg h2, if_pos h3]
      rw [hv, h3]
      clear hv h2 h3 e2
      go_enter Tryz.func38, Tryz.ntmps38
      go_wp2
      go_ret
      exact ⟨rfl, one_alloc _ _⟩
    · have e3 : (((o.kd : Nat) : Int) == 3) = false := by simp; omega
      have hv : tickOf o = 0 := by rw [tickOf, if_neg h2, if_neg h3]
      rw [hv]
      clear hv h2 h3
      go_enter Tryz.func38, Tryz.ntmps38
      go_wp2
      go_ret
      exact ⟨rfl, one_alloc _ _⟩
theorem tickOf_lt {o : OpS} (ho : o.ok) : tickOf o < 18446744073709551616 := by
  unfold tickOf
  have := ho.x
  split
  · omega
  · split <;> omega
end Go.Proofs.Qxb6500877aGreatDoor
