import Derived.DeepKeys
import Derived.Test.Qxb6500877aGreatDoorNPc
set_option linter.unusedVariables false
set_option linter.unusedSimpArgs false
namespace Go.Proofs.Qxb6500877aGreatDoor
open Go.RowKit

theorem quad_same (a b c d : Int) (w : World) : (Op.equalIn 9999 38 (.agg #[.int .u64 a, .int .u64 b, .int .u64 c, .int .u64 d]) (.agg #[.int .u64 a, .int .u64 b, .int .u64 c, .int .u64 d])).run Tryz.prog w = .ok true w := by
  obtain ⟨i, hi⟩ : ∃ i, Tryz.prog.info? 28 = some i := info_of_underlying Tryz.underlying28
  have hc : Tryz.prog.cellsOf 28 = 1 := by kernel_rfl
  rw [show (9999 : Nat) = 9998 + 1 from rfl, run_equalIn_array w 9998 _ _ Tryz.underlying38 hi, hc]
  simp only [List.range, List.range.loop, Op.eqItems]
  go_simp
theorem msg_same (m : MsgV) (w : World) : (Op.equalIn 10000 40 (msgV m) (msgV m)).run Tryz.prog w = .ok true w := by
  have hS : Tryz.prog.underlying 40 = some (.struct (Tryz.prog.fieldsOf 40)) := by kernel_rfl
  have hp : Tryz.prog.stoodInHeld 40 = false := by kernel_rfl
  have hq := quad_same m.x0 m.x1 m.x2 m.x3 w
  unfold msgV
  rw [show (10000 : Nat) = 9999 + 1 from rfl, run_equalIn_agg w 9999 40 _ _ hS hp]
  simp only [Program.fieldsOf, Tryz.underlying40]
  go_simp
theorem msg_eql (m : MsgV) (w : World) : (binOp .eql 40 (.agg #[.int .i64 m.mf, .int .i64 m.mt, .int .u32 m.md, .int .u64 m.mq, .int .u64 m.ma, .int .u64 m.x0, .int .u64 m.x1, .int .u64 m.x2, .int .u64 m.x3]) (.agg #[.int .i64 m.mf, .int .i64 m.mt, .int .u32 m.md, .int .u64 m.mq, .int .u64 m.ma, .int .u64 m.x0, .int .u64 m.x1, .int .u64 m.x2, .int .u64 m.x3])).run Tryz.prog w = .ok (.bool true) w := by
  have h := msg_same m w
  unfold msgV at h
  rw [run_eql_struct, h]
  rfl
theorem msg_neq (m : MsgV) (w : World) : (binOp .neq 40 (.agg #[.int .i64 m.mf, .int .i64 m.mt, .int .u32 m.md, .int .u64 m.mq, .int .u64 m.ma, .int .u64 m.x0, .int .u64 m.x1, .int .u64 m.x2, .int .u64 m.x3]) (.agg #[.int .i64 m.mf, .int .i64 m.mt, .int .u32 m.md, .int .u64 m.mq, .int .u64 m.ma, .int .u64 m.x0, .int .u64 m.x1, .int .u64 m.x2, .int .u64 m.x3])).run Tryz.prog w = .ok (.bool false) w := by
  have h := msg_same m w
  unfold msgV at h
  rw [run_neq_struct, h]
  rfl
theorem guard40 : Tryz.prog.eqGuardType Tryz.prog.depth 40 = false := by kernel_rfl
end Go.Proofs.Qxb6500877aGreatDoor
