import Derived.Deep.CutBlock
import Derived.OwnWalk
import Derived.Maps.AppendAt
import Derived.Test.Qxb6500880aA
import Derived.Test.Qxb6500880aL
set_option linter.unusedVariables false
set_option linter.unusedSimpArgs false
namespace Go.Proofs.Qxb6500880a
open Go.RowKit

def tVar (v : Nat) : Value := .agg #[.int .u8 0, .int .i64 (v : Int), .int .i64 0, .string ByteArray.empty]
def tOne : Value := .agg #[.int .u8 1, .int .i64 0, .int .i64 1, .string ByteArray.empty]
theorem tm_same (a b c : Int) (w : World) : (Op.equalIn 10000 34 (.agg #[.int .u8 a, .int .i64 b, .int .i64 c, .string ByteArray.empty]) (.agg #[.int .u8 a, .int .i64 b, .int .i64 c, .string ByteArray.empty])).run Try.prog w = .ok true w := by
  have hS : Try.prog.underlying 34 = some (.struct (Try.prog.fieldsOf 34)) := by kernel_rfl
  have hp : Try.prog.stoodInHeld 34 = false := by kernel_rfl
  rw [show (10000 : Nat) = 9999 + 1 from rfl, run_equalIn_agg w 9999 34 _ _ hS hp]
  simp only [Program.fieldsOf, Try.underlying34]
  clear hS hp
  go_simp
theorem tm_eql (a b c : Int) (w : World) : (binOp .eql 34 (.agg #[.int .u8 a, .int .i64 b, .int .i64 c, .string ByteArray.empty]) (.agg #[.int .u8 a, .int .i64 b, .int .i64 c, .string ByteArray.empty])).run Try.prog w = .ok (.bool true) w := by
  have h := tm_same a b c w
  rw [run_eql_struct, h]
  rfl
theorem guard34 : Try.prog.eqGuardType Try.prog.depth 34 = false := by kernel_rfl
set_option maxRecDepth 20000 in
set_option maxHeartbeats 8000000 in
theorem constFine_any (w : World) : Calls Try.prog 28 #[tOne] w fun e w' => e = .returned (.bool true) ∧ Below w.heap.size w w' := by
  have hnq := tm_eql 1 0 1
  have hgd := guard34
  unfold tOne
  go_enter Try.func28, Try.ntmps28
  go_wp2
  go_ret
  exact ⟨rfl, one_alloc _ _⟩
set_option maxRecDepth 20000 in
set_option maxHeartbeats 8000000 in
theorem termFine_any (v : Nat) (w : World) : Calls Try.prog 47 #[tVar v] w fun e w' => e = .returned (.bool true) ∧ Below w.heap.size w w' := by
  have hnq := tm_eql 0 (v : Int) 0
  have hgd := guard34
  have h0 : (v : Int) ≥ 0 := by omega
  have h1 : (0 : Int) ≤ v := by omega
  unfold tVar
  go_enter Try.func47, Try.ntmps47
  go_wp2
  go_ret
  exact ⟨rfl, one_alloc _ _⟩
end Go.Proofs.Qxb6500880a
