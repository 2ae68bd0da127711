import Derived.Test.Qxb6500877aGreatDoorWe
set_option linter.unusedVariables false
set_option linter.unusedSimpArgs false
namespace Go.Proofs.Qxb6500877aGreatDoor
open Go.RowKit

def notOcc (m : Int) (z : Nat) : Int := bits .andNot .u64 m (IntKind.u64.wrap (2 ^ z))
def unlEnd (s : Wheel) (i : Nat) : Wheel := (((s.nPv i (-1)).nNx i (-1)).nLv i (-3)).nSl i 0
def unlA (s : Wheel) (r : Option (Nat × Nat)) : Wheel := (s.setLh r (-1)).setLt r (-1)
def unlB (s : Wheel) (r : Option (Nat × Nat)) (n : Nat) : Wheel := (s.setLh r n).nPv n (-1)
def unlC (s : Wheel) (r : Option (Nat × Nat)) (p : Nat) : Wheel := (s.nNx p (-1)).setLt r p
def unlD (s : Wheel) (p n : Nat) : Wheel := (s.nNx p n).nPv n p

set_option maxHeartbeats 1000000 in
theorem listEmpty_any {w : World} {B : Nat} {v : Int} {L : Nat} (h : w.cell? ⟨B, L, none⟩ = some (.int .i16 v)) :
    Calls Tryz.prog 175 #[.pointer (some ⟨B, L, none⟩)] w fun e w' => e = .returned (.bool (decide (v = -1))) ∧ w' = w := by
  go_enter Tryz.func175, Tryz.ntmps175
  go_wp2
  go_ret
  refine ⟨?_, rfl⟩
  by_cases h : v = -1 <;> simp [h]

end Go.Proofs.Qxb6500877aGreatDoor
