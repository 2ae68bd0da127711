import Derived.Deep.CutBlock
import Derived.OwnWalk
import Derived.Maps.AppendAt
import Derived.Test.Qxb6500877aGreatDoorTx5
import Derived.Test.Qxb6500877aGreatDoorGa
set_option linter.unusedVariables false
set_option linter.unusedSimpArgs false
namespace Go.Proofs.Qxb6500877aGreatDoor
open Go.RowKit

def sdE (now : Nat) (ac : Nat → Int) (l : List Nat) : List EvS := l.map (fun b => (⟨2, (now : Int), ((b / 4 : Nat) : Int), -1, 0, (b : Int), IntKind.u64.wrap (ac b + 1), 0, 0⟩ : EvS))
theorem sdE_take {now : Nat} {ac : Nat → Int} {l : List Nat} {i b : Nat} (h : l[i]? = some b) : sdE now ac (l.take (i + 1)) = sdE now ac (l.take i) ++ [⟨2, (now : Int), ((b / 4 : Nat) : Int), -1, 0, (b : Int), IntKind.u64.wrap (ac b + 1), 0, 0⟩] := by
  unfold sdE
  rw [List.take_add_one, h]
  simp
theorem tgtOf_len {o : OpS} {l : List Nat} (h : tgtOf o l) : l.length ≤ 4 := by
  rcases h with ⟨_, x, y, _, _, _, _, rfl⟩ | ⟨_, x, _, _, rfl⟩
  · simp
  · exact tgX_len 4
theorem tgtOf_lt {o : OpS} {l : List Nat} (h : tgtOf o l) : ∀ b ∈ l, b < 16 := by
  rcases h with ⟨_, x, y, _, hx, _, hy, rfl⟩ | ⟨_, x, _, hx, rfl⟩
  · intro b hb
    simp at hb
    omega
  · exact tgX_lt hx 4 (by omega)
end Go.Proofs.Qxb6500877aGreatDoor
