import Derived.Deep.CutBlock
import Derived.OwnWalk
import Derived.Maps.AppendAt
import Derived.Test.Qxb6500880aGreatA
import Derived.Test.Qxb6500880aGreatL
set_option linter.unusedVariables false
set_option linter.unusedSimpArgs false
namespace Go.Proofs.Qxb6500880aGreat
open Go.RowKit

def tVar (v : Nat) : Value := .agg #[.int .u8 0, .int .i64 (v : Int), .int .i64 0, .string ByteArray.empty]
def tInt (i : Nat) : Value := .agg #[.int .u8 1, .int .i64 0, .int .i64 (i : Int), .string ByteArray.empty]
theorem tm_same (a b c : Int) (w : World) : (Op.equalIn 10000 26 (.agg #[.int .u8 a, .int .i64 b, .int .i64 c, .string ByteArray.empty]) (.agg #[.int .u8 a, .int .i64 b, .int .i64 c, .string ByteArray.empty])).run Tryz.prog w = .ok true w := by
  have hS : Tryz.prog.underlying 26 = some (.struct (Tryz.prog.fieldsOf 26)) := by kernel_rfl
  have hp : Tryz.prog.stoodInHeld 26 = false := by kernel_rfl
  rw [show (10000 : Nat) = 9999 + 1 from rfl, run_equalIn_agg w 9999 26 _ _ hS hp]
  simp only [Program.fieldsOf, Tryz.underlying26]
  clear hS hp
  go_simp
theorem tm_eql (a b c : Int) (w : World) : (binOp .eql 26 (.agg #[.int .u8 a, .int .i64 b, .int .i64 c, .string ByteArray.empty]) (.agg #[.int .u8 a, .int .i64 b, .int .i64 c, .string ByteArray.empty])).run Tryz.prog w = .ok (.bool true) w := by
  have h := tm_same a b c w
  rw [run_eql_struct, h]
  rfl
theorem guard26 : Tryz.prog.eqGuardType Tryz.prog.depth 26 = false := by kernel_rfl
set_option maxRecDepth 20000 in
set_option maxHeartbeats 8000000 in
theorem constFine_any (i : Nat) (w : World) : Calls Tryz.prog 31 #[tInt i] w fun e w' => e = .returned (.bool true) ∧ Below w.heap.size w w' := by
  have hnq := tm_eql 1 0 (i : Int)
  have hgd := guard26
  unfold tInt
  go_enter Tryz.func31, Tryz.ntmps31
  go_wp2
  go_ret
  exact ⟨rfl, one_alloc _ _⟩
set_option maxRecDepth 20000 in
set_option maxHeartbeats 8000000 in
theorem termFine_any (v : Nat) (w : World) : Calls Tryz.prog 36 #[tVar v] w fun e w' => e = .returned (.bool true) ∧ Below w.heap.size w w' := by
  have hnq := tm_eql 0 (v : Int) 0
  have hgd := guard26
  have h0 : (v : Int) ≥ 0 := by omega
  have h1 : (0 : Int) ≤ v := by omega
  unfold tVar
  go_enter Tryz.func36, Tryz.ntmps36
  go_wp2
  go_ret
  exact ⟨rfl, one_alloc _ _⟩
end Go.Proofs.Qxb6500880aGreat
