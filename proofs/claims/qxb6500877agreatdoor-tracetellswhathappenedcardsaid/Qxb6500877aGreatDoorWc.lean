import Derived.Test.Qxb6500877aGreatDoorWb
import Derived.Test.Qxb6500877aGreatDoorLa
import Derived.Laws.BitsAllLaws
import Derived.Laws.Bits64
import Derived.Laws.Bits64b
set_option linter.unusedVariables false
set_option linter.unusedSimpArgs false
namespace Go.Proofs.Qxb6500877aGreatDoor
open Go.RowKit

theorem i64_and63 (n : Int) : bits .and .i64 n 63 = n % 64 := by
  have h63 : (BitVec.ofInt 64 63).toNat = 2 ^ 6 - 1 := by decide
  have key : (BitVec.ofInt 64 n &&& BitVec.ofInt 64 63).toNat = (n % ((2 ^ 64 : Nat) : Int)).toNat % 2 ^ 6 := by
    rw [BitVec.toNat_and, BitVec.toNat_ofInt, h63, Nat.and_two_pow_sub_one_eq_mod]
  show IntKind.i64.wrap ((BitVec.ofInt 64 n &&& BitVec.ofInt 64 63).toNat : Nat) = n % 64
  rw [key, IntKind.wrap_i64]
  omega

theorem xor_zero {a b : Nat} (h : a ^^^ b = 0) : a = b := by
  have h2 := congrArg (· ^^^ b) h
  simpa [Nat.xor_assoc] using h2
theorem bitLen_pos {x : Nat} (h : x ≠ 0) : 0 < Lib.bitLen x := by
  unfold Lib.bitLen Lib.bitLenAux
  rw [if_neg h]
  omega
theorem bitLenAux_le : ∀ (f x : Nat), Lib.bitLenAux f x ≤ f
  | 0, _ => Nat.le_refl _
  | f + 1, x => by
    unfold Lib.bitLenAux
    split
    · omega
    · have := bitLenAux_le f (x / 2); omega
theorem bitLen_le (x : Nat) : Lib.bitLen x ≤ 64 := bitLenAux_le 64 x
theorem pow64 (k : Nat) : (2 : Nat) ^ (k * 6) = 64 ^ k := by rw [Nat.mul_comm, Nat.pow_mul]
theorem shr_pow (t k : Nat) : (t : Int) / 2 ^ (k * 6) = ((t / 64 ^ k : Nat) : Int) := by
  rw [← pow64]
  simp

set_option maxHeartbeats 1000000 in
theorem digit_any {t k : Nat} (ht : t < 18446744073709551616) (hk : k < 11) (w : World) :
    Calls Tryz.prog 210 #[.int .u64 (t : Int), .int .i64 (k : Int)] w fun e w' => e = .returned (.int .i64 ((t / 64 ^ k % 64 : Nat) : Int)) ∧ w' = w := by
  have hwk : IntKind.u64.wrap (k : Int) = k := wrap_u64 (by omega)
  have hwm : IntKind.u64.wrap ((k : Int) * 6) = (k : Int) * 6 := wrap_u64 (by omega)
  go_enter Tryz.func210, Tryz.ntmps210
  go_wp2
  go_ret
  refine ⟨ret_int ?_, rfl⟩
  rw [i64_and63, shr_pow]
  generalize t / 64 ^ k = x
  simp only [wrap64]
  omega

theorem slot_val {n k z : Nat} (hn : n < 18446744073709551616) (hk : k < 11) (hz : z < 64) (hzk : z * 64 ^ k < 18446744073709551616) :
    bits .or .u64 (IntKind.u64.wrap ((n : Int) / 2 ^ min ((k + 1) * 6) 64 * 2 ^ min ((k + 1) * 6) 64)) (IntKind.u64.wrap ((z : Int) * 2 ^ (k * 6))) = ((n / 64 ^ (k + 1) * 64 ^ (k + 1) + z * 64 ^ k : Nat) : Int) := by
  have e1 : (n : Int) / 2 ^ min ((k + 1) * 6) 64 * 2 ^ min ((k + 1) * 6) 64 = ((n / 64 ^ (k + 1) * 64 ^ (k + 1) : Nat) : Int) := by
    by_cases h : k < 10
    · rw [Nat.min_eq_left (by omega), shr_pow, ← pow64]
      simp
    · have hk10 : k = 10 := by omega
      subst hk10
      have a1 : n / 64 ^ (10 + 1) = 0 := Nat.div_eq_of_lt (by omega)
      have a2 : (n : Int) / 2 ^ min ((10 + 1) * 6) 64 = 0 := by
        show (n : Int) / 18446744073709551616 = 0
        omega
      rw [a1, a2]
      simp
  have e2 : (z : Int) * 2 ^ (k * 6) = ((z * 64 ^ k : Nat) : Int) := by
    rw [← pow64]; simp
  have hA : n / 64 ^ (k + 1) * 64 ^ (k + 1) ≤ n := Nat.div_mul_le_self _ _
  rw [e1, e2, wrap_u64 (by omega), wrap_u64 (by omega), bits_or_u64_nat _ _ (by omega) hzk]
  have hlt : z * 64 ^ k < 2 ^ ((k + 1) * 6) := by
    rw [pow64, Nat.pow_succ, Nat.mul_comm]
    exact Nat.mul_lt_mul_of_pos_left hz (Nat.pow_pos (by omega))
  have := Nat.two_pow_add_eq_or_of_lt hlt (n / 64 ^ (k + 1))
  rw [pow64] at this
  rw [Nat.mul_comm (n / 64 ^ (k + 1)), ← this]

set_option maxHeartbeats 1000000 in
theorem slotStart_any {w : World} {B : Nat} {s : Wheel} {n k z : Nat} (H : WheelAt w B s) (hn : s.now = n) (hn' : n < 18446744073709551616) (hk : k < 11) (hz : z < 64) (hzk : z * 64 ^ k < 18446744073709551616) :
    Calls Tryz.prog 170 #[.pointer (some ⟨B, 1, none⟩), .int .i64 (k : Int), .int .i64 (z : Int)] w fun e w' => e = .returned (.int .u64 ((n / 64 ^ (k + 1) * 64 ^ (k + 1) + z * 64 ^ k : Nat) : Int)) ∧ w' = w := by
  obtain ⟨c0, _⟩ := H.one
  rw [hn] at c0
  have hwk : IntKind.u64.wrap (k : Int) = k := wrap_u64 (by omega)
  have hwm : IntKind.u64.wrap ((k : Int) * 6) = (k : Int) * 6 := wrap_u64 (by omega)
  have hwm6 : IntKind.u64.wrap ((k : Int) * 6 + 6) = (k : Int) * 6 + 6 := wrap_u64 (by omega)
  have hwz : IntKind.u64.wrap (z : Int) = z := wrap_u64 (by omega)
  have hs0 : ¬ ((k : Int) * 6 + 6 < 0) := by omega
  have hs1 : (0 : Int) ≤ (k : Int) * 6 + 6 := by omega
  have htn : ((k : Int) * 6 + 6).toNat = (k + 1) * 6 := by omega
  go_enter Tryz.func170, Tryz.ntmps170
  go_wp2
  go_ret
  exact ⟨ret_int (slot_val hn' hk hz hzk), rfl⟩

set_option maxHeartbeats 1000000 in
theorem levelFor_any {a b : Nat} (ha : a < 18446744073709551616) (hb : b < 18446744073709551616) (hab : a ≠ b) (w : World) :
    Calls Tryz.prog 209 #[.int .u64 (a : Int), .int .u64 (b : Int)] w fun e w' => e = .returned (.int .i64 (((Lib.bitLen (a ^^^ b) - 1) / 6 : Nat) : Int)) ∧ w' = w := by
  have hx := bits_xor_u64_nat a b ha hb
  have hl := Tryz.bits_Len64 ((a ^^^ b : Nat) : Int) w (by omega) (by have := Nat.xor_lt_two_pow (n := 64) ha hb; omega)
  rw [Int.toNat_natCast] at hl
  have hpos := bitLen_pos (x := a ^^^ b) (fun h => hab (xor_zero h))
  have hle := bitLen_le (a ^^^ b)
  go_enter Tryz.func209, Tryz.ntmps209
  go_wp2_with fail
  refine hl.mono ?_
  rintro e w1 ⟨rfl, rfl⟩
  generalize hm : Lib.bitLen (a ^^^ b) = m at *
  have hq : ((m : Int) - 1).tdiv 6 = ((m : Int) - 1) / 6 := Int.tdiv_eq_ediv_of_nonneg (by omega)
  go_wp2
  go_ret
  refine ⟨ret_int ?_, rfl⟩
  rw [hm]
  omega
end Go.Proofs.Qxb6500877aGreatDoor
