import Derived.Test.Qxb6500877aGreatDoorNPb
set_option linter.unusedVariables false
set_option linter.unusedSimpArgs false
namespace Go.Proofs.Qxb6500877aGreatDoor
open Go.RowKit

theorem i64_and15 (n : Int) : bits .and .i64 n 15 = n % 16 := by
  have h15 : (BitVec.ofInt 64 15).toNat = 2 ^ 4 - 1 := by decide
  have key : (BitVec.ofInt 64 n &&& BitVec.ofInt 64 15).toNat = (n % ((2 ^ 64 : Nat) : Int)).toNat % 2 ^ 4 := by
    rw [BitVec.toNat_and, BitVec.toNat_ofInt, h15, Nat.and_two_pow_sub_one_eq_mod]
  show IntKind.i64.wrap ((BitVec.ofInt 64 n &&& BitVec.ofInt 64 15).toNat : Nat) = n % 16
  rw [key, IntKind.wrap_i64]
  omega
set_option maxHeartbeats 1000000 in
theorem rem_any (v : Int) (w : World) : Calls Tryz.prog 26 #[.int .i64 v, .int .i64 16] w fun e w' => e = .returned (.int .i64 (v % 16)) ∧ w' = w := by
  have hq := i64_and15 v
  go_enter Tryz.func26, Tryz.ntmps26
  go_wp2
  go_ret
  first | exact ⟨rfl, rfl⟩ | exact ⟨by rw [hq], rfl⟩
set_option maxHeartbeats 1000000 in
theorem from_any {w : World} {i : Nat} (hi : i < 16) : Calls Tryz.prog 30 #[.int .i64 (i : Int)] w fun e w' => e = .returned (.int .i64 ((i / 4 : Nat) : Int)) ∧ w' = w := by
  have i0 : (0 : Int) ≤ i := by omega
  have i1 : (i : Int) < 16 := by omega
  go_enter Tryz.func30, Tryz.ntmps30
  go_wp2
  go_ret
  exact ⟨by first | go_num | (congr 2; omega), rfl⟩
set_option maxHeartbeats 1000000 in
theorem quiet_any {w : World} {B : Nat} {ν : Net} (H : NetAt w B ν) (h0 : ν.busy = 0) : Calls Tryz.prog 32 #[.pointer (some ⟨B, 0, none⟩)] w fun e w' => e = .returned (.bool true) ∧ w' = w := by
  have hb := H.bus
  rw [h0] at hb
  have fz := H.frz
  go_enter Tryz.func32, Tryz.ntmps32
  go_wp2
  go_ret
  exact ⟨rfl, rfl⟩
end Go.Proofs.Qxb6500877aGreatDoor
