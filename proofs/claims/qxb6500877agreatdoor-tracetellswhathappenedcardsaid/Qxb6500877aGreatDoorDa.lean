import Derived.Test.Qxb6500877aGreatDoorCc
set_option linter.unusedVariables false
set_option linter.unusedSimpArgs false
namespace Go.Proofs.Qxb6500877aGreatDoor
open Go.RowKit

theorem i64_and3 (n : Int) : bits .and .i64 n 3 = n % 4 := by
  have h15 : (BitVec.ofInt 64 3).toNat = 2 ^ 2 - 1 := by decide
  have key : (BitVec.ofInt 64 n &&& BitVec.ofInt 64 3).toNat = (n % ((2 ^ 64 : Nat) : Int)).toNat % 2 ^ 2 := by
    rw [BitVec.toNat_and, BitVec.toNat_ofInt, h15, Nat.and_two_pow_sub_one_eq_mod]
  show IntKind.i64.wrap ((BitVec.ofInt 64 n &&& BitVec.ofInt 64 3).toNat : Nat) = n % 4
  rw [key, IntKind.wrap_i64]
  omega
set_option maxHeartbeats 1000000 in
theorem rem4_any (v : Int) (w : World) : Calls Tryz.prog 26 #[.int .i64 v, .int .i64 4] w fun e w' => e = .returned (.int .i64 (v % 4)) ∧ w' = w := by
  have hq := i64_and3 v
  go_enter Tryz.func26, Tryz.ntmps26
  go_wp2
  go_ret
  first | exact ⟨rfl, rfl⟩ | exact ⟨by rw [hq], rfl⟩
theorem msg_eql (m : MsgV) (w : World) : (binOp .eql 40 (.agg #[.int .i64 m.mf, .int .i64 m.mt, .int .u32 m.md, .int .u64 m.mq, .int .u64 m.ma, .int .u64 m.x0, .int .u64 m.x1, .int .u64 m.x2, .int .u64 m.x3]) (.agg #[.int .i64 m.mf, .int .i64 m.mt, .int .u32 m.md, .int .u64 m.mq, .int .u64 m.ma, .int .u64 m.x0, .int .u64 m.x1, .int .u64 m.x2, .int .u64 m.x3])).run Tryz.prog w = .ok (.bool true) w := by
  have := msg_same m w
  unfold msgV at this
  rw [run_eql_struct, this]
  rfl
set_option maxHeartbeats 4000000 in
theorem firedEq_nil (w : World) : Calls Tryz.prog 49 #[.slice none 0 0, .slice none 0 0] w fun e w' => e = .returned (.bool true) ∧ w' = w := by
  go_enter Tryz.func49, Tryz.ntmps49
  go_wp2
  refine wp_loop_rounds 1 ?_
  rw [rounds_succ]
  go_wp2
  go_ret
  exact ⟨rfl, rfl⟩
set_option maxHeartbeats 8000000 in
theorem resEq_same (c co tk tm : Int) (w : World) : Calls Tryz.prog 20 #[resV c co tk tm false msg0 none 0 0, resV c co tk tm false msg0 none 0 0] w fun e w' => e = .returned (.bool true) ∧ Below w.heap.size w w' := by
  have g40 := guard40
  have hme : ∀ w, (Op.equalIn 10000 40 (.agg #[.int .i64 0, .int .i64 0, .int .u32 0, .int .u64 0, .int .u64 0, .int .u64 0, .int .u64 0, .int .u64 0, .int .u64 0]) (.agg #[.int .i64 0, .int .i64 0, .int .u32 0, .int .u64 0, .int .u64 0, .int .u64 0, .int .u64 0, .int .u64 0, .int .u64 0])).run Tryz.prog w = .ok true w := fun w => msg_same msg0 w
  unfold resV msg0
  go_enter Tryz.func20, Tryz.ntmps20
  go_wp2_with fail
  refine (firedEq_nil _).mono ?_
  rintro e w2 ⟨rfl, rfl⟩
  go_wp2
  go_ret
  exact ⟨rfl, (one_alloc w _).alloc (by simp) _⟩
end Go.Proofs.Qxb6500877aGreatDoor
