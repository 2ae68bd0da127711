import Derived.Test.Qxb6500877aGreatDoorGe
set_option linter.unusedVariables false
set_option linter.unusedSimpArgs false
namespace Go.Proofs.Qxb6500877aGreatDoor
open Go.RowKit

theorem idx74_0 (η : Nat → Int) (w : World) : (Instr.index 74 (heldV η) (.int .i64 0)).run Tryz.prog w = .ok (.int .i64 (η 0)) w := by kernel_rfl
theorem idx74_1 (η : Nat → Int) (w : World) : (Instr.index 74 (heldV η) (.int .i64 1)).run Tryz.prog w = .ok (.int .i64 (η 1)) w := by kernel_rfl
theorem idx74_2 (η : Nat → Int) (w : World) : (Instr.index 74 (heldV η) (.int .i64 2)).run Tryz.prog w = .ok (.int .i64 (η 2)) w := by kernel_rfl
theorem idx74_3 (η : Nat → Int) (w : World) : (Instr.index 74 (heldV η) (.int .i64 3)).run Tryz.prog w = .ok (.int .i64 (η 3)) w := by kernel_rfl
theorem idx74_4 (η : Nat → Int) (w : World) : (Instr.index 74 (heldV η) (.int .i64 4)).run Tryz.prog w = .ok (.int .i64 (η 4)) w := by kernel_rfl
theorem idx74_5 (η : Nat → Int) (w : World) : (Instr.index 74 (heldV η) (.int .i64 5)).run Tryz.prog w = .ok (.int .i64 (η 5)) w := by kernel_rfl
theorem idx74_6 (η : Nat → Int) (w : World) : (Instr.index 74 (heldV η) (.int .i64 6)).run Tryz.prog w = .ok (.int .i64 (η 6)) w := by kernel_rfl
theorem idx74_7 (η : Nat → Int) (w : World) : (Instr.index 74 (heldV η) (.int .i64 7)).run Tryz.prog w = .ok (.int .i64 (η 7)) w := by kernel_rfl
theorem idx74_8 (η : Nat → Int) (w : World) : (Instr.index 74 (heldV η) (.int .i64 8)).run Tryz.prog w = .ok (.int .i64 (η 8)) w := by kernel_rfl
theorem idx74_9 (η : Nat → Int) (w : World) : (Instr.index 74 (heldV η) (.int .i64 9)).run Tryz.prog w = .ok (.int .i64 (η 9)) w := by kernel_rfl
theorem idx74_10 (η : Nat → Int) (w : World) : (Instr.index 74 (heldV η) (.int .i64 10)).run Tryz.prog w = .ok (.int .i64 (η 10)) w := by kernel_rfl
theorem idx74_11 (η : Nat → Int) (w : World) : (Instr.index 74 (heldV η) (.int .i64 11)).run Tryz.prog w = .ok (.int .i64 (η 11)) w := by kernel_rfl
theorem idx74_12 (η : Nat → Int) (w : World) : (Instr.index 74 (heldV η) (.int .i64 12)).run Tryz.prog w = .ok (.int .i64 (η 12)) w := by kernel_rfl
theorem idx74_13 (η : Nat → Int) (w : World) : (Instr.index 74 (heldV η) (.int .i64 13)).run Tryz.prog w = .ok (.int .i64 (η 13)) w := by kernel_rfl
theorem idx74_14 (η : Nat → Int) (w : World) : (Instr.index 74 (heldV η) (.int .i64 14)).run Tryz.prog w = .ok (.int .i64 (η 14)) w := by kernel_rfl
theorem idx74_15 (η : Nat → Int) (w : World) : (Instr.index 74 (heldV η) (.int .i64 15)).run Tryz.prog w = .ok (.int .i64 (η 15)) w := by kernel_rfl
theorem idx74 (η : Nat → Int) {j : Nat} (hj : j < 16) (w : World) : (Instr.index 74 (heldV η) (.int .i64 (j : Int))).run Tryz.prog w = .ok (.int .i64 (η j)) w := by
  have : j = 0 ∨ j = 1 ∨ j = 2 ∨ j = 3 ∨ j = 4 ∨ j = 5 ∨ j = 6 ∨ j = 7 ∨ j = 8 ∨ j = 9 ∨ j = 10 ∨ j = 11 ∨ j = 12 ∨ j = 13 ∨ j = 14 ∨ j = 15 := by omega
  rcases this with rfl | rfl | rfl | rfl | rfl | rfl | rfl | rfl | rfl | rfl | rfl | rfl | rfl | rfl | rfl | rfl
  · exact idx74_0 η w
  · exact idx74_1 η w
  · exact idx74_2 η w
  · exact idx74_3 η w
  · exact idx74_4 η w
  · exact idx74_5 η w
  · exact idx74_6 η w
  · exact idx74_7 η w
  · exact idx74_8 η w
  · exact idx74_9 η w
  · exact idx74_10 η w
  · exact idx74_11 η w
  · exact idx74_12 η w
  · exact idx74_13 η w
  · exact idx74_14 η w
  · exact idx74_15 η w
theorem wpList_index74 {w : World} {ops : Array Oper} {rest : List Oper} {o : Oper} {a : Act} {Q : Exit → Act → World → Prop} (hgd : o.guard = none) (x y : Operand) (ho : o.op = .index 74 x y) {η : Nat → Int} {j : Nat} (hj : j < 16) (hx : a.eval x = heldV η) (hy : a.eval y = .int .i64 (j : Int))
    (h : wpList Tryz.prog ops Q rest (a.put o.dst (.int .i64 (η j))) w) : wpList Tryz.prog ops Q (o :: rest) a w := by
  refine wpList_plain hgd fun K hK => ?_
  have hrun := idx74 η hj w
  unfold Oper.wp
  simp [execOp, ho, hx, hy, hrun, Result.andThen]
  exact hK _ _ h
end Go.Proofs.Qxb6500877aGreatDoor
