import Derived.Test.Qxb6500877aGreatDoorWg
set_option linter.unusedVariables false
set_option linter.unusedSimpArgs false
namespace Go.Proofs.Qxb6500877aGreatDoor
open Go.RowKit

def tab64 : List Nat := [0, 1, 56, 2, 57, 49, 28, 3, 61, 58, 42, 50, 38, 29, 17, 4, 62, 47, 59, 36, 45, 43, 51, 22, 53, 39, 33, 30, 24, 18, 12, 5, 63, 55, 48, 27, 60, 41, 37, 16, 46, 35, 44, 21, 52, 32, 23, 11, 54, 26, 40, 15, 34, 20, 31, 10, 25, 14, 19, 9, 13, 8, 7, 6]
/-- The table, as the program lays it. -/
def TabAt (w : World) : Prop := ∀ k, k < 64 → w.cell? ⟨2, k, none⟩ = some (.int .u8 ((tab64.getD k 0 : Nat) : Int))
theorem TabAt.mut {w w' : World} {b lo hi : Nat} (h : TabAt w) (m : Mut b lo hi w w') (hb : 2 < b) : TabAt w' := fun k hk => m.far (by omega) (h k hk)
theorem TabAt.below {w w' : World} (h : TabAt w) (hb : Below w.heap.size w w') : TabAt w' := fun k hk => cell_later hb (h k hk)

/-- How many noughts stand last. -/
def tzA : Nat → Nat → Nat
  | 0, _ => 0
  | f + 1, x => if x % 2 = 1 then 0 else tzA f (x / 2) + 1
def tz64 (x : Nat) : Nat := tzA 64 x

theorem tzA_spec : ∀ (f x : Nat), 0 < x → x < 2 ^ f → tzA f x < f ∧ ∃ m, x = 2 ^ tzA f x * (2 * m + 1)
  | 0, x, h0, h1 => by simp at h1; omega
  | f + 1, x, h0, h1 => by
    unfold tzA
    by_cases h : x % 2 = 1
    · rw [if_pos h]
      exact ⟨by omega, x / 2, by simp; omega⟩
    · rw [if_neg h]
      obtain ⟨h2, m, hm⟩ := tzA_spec f (x / 2) (by omega) (by rw [Nat.pow_succ] at h1; omega)
      refine ⟨by omega, m, ?_⟩
      have e : x = 2 * (x / 2) := by omega
      rw [Nat.pow_succ, Nat.mul_comm _ 2, Nat.mul_assoc, ← hm]
      exact e

theorem and_neg {x : Nat} (h0 : 0 < x) (h1 : x < 2 ^ 64) : x &&& (2 ^ 64 - x) = 2 ^ tz64 x := by
  obtain ⟨ht, m, hm⟩ := tzA_spec 64 x h0 h1
  have ht' : tz64 x < 64 := ht
  have hm' : x = 2 ^ tz64 x * (2 * m + 1) := hm
  generalize tz64 x = t at *
  have e : 2 ^ 64 - x = 2 ^ 64 - ((x - 1) + 1) := by omega
  have hp : 0 < 2 ^ t := Nat.pow_pos (by omega)
  have hx1 : x - 1 = 2 ^ t * (2 * m) + (2 ^ t - 1) := by rw [hm', Nat.mul_add]; omega
  apply Nat.eq_of_testBit_eq
  intro i
  rw [Nat.testBit_and, e, Nat.testBit_two_pow_sub_succ (by omega), Nat.testBit_two_pow]
  by_cases hi : i < t
  · have b1 : x.testBit i = false := by
      rw [hm', Nat.testBit_two_pow_mul]
      simp; omega
    rw [b1]
    simp; omega
  · have hd : x.testBit i = (2 * m + 1).testBit (i - t) := by
      rw [hm', Nat.testBit_two_pow_mul]
      simp; omega
    have hd1 : (x - 1).testBit i = (2 * m).testBit (i - t) := by
      rw [hx1, Nat.testBit_two_pow_mul_add _ (by omega), if_neg hi]
    rw [hd, hd1]
    by_cases hit : i = t
    · subst hit
      simp
      omega
    · obtain ⟨j, hj⟩ : ∃ j, i - t = j + 1 := ⟨i - t - 1, by omega⟩
      rw [hj, Nat.testBit_succ, Nat.testBit_succ]
      have a1 : (2 * m + 1) / 2 = m := by omega
      have a2 : 2 * m / 2 = m := by omega
      rw [a1, a2]
      cases hb : m.testBit j <;> simp <;> omega

theorem p64 : (2 : Nat) ^ 64 = 18446744073709551616 := by decide
theorem and_lit {x : Nat} (h0 : 0 < x) (h1 : x < 18446744073709551616) : x &&& (18446744073709551616 - x) = 2 ^ tz64 x := by
  have h2 : x < 2 ^ 64 := by rw [p64]; exact h1
  have := and_neg h0 h2
  rw [p64] at this
  exact this
theorem tz64_lt {x : Nat} (h0 : 0 < x) (h1 : x < 18446744073709551616) : tz64 x < 64 := by
  have h2 : x < 2 ^ 64 := by rw [p64]; exact h1
  exact (tzA_spec 64 x h0 h2).1
theorem wrap_mod {n : Int} : IntKind.u64.wrap n = n % 18446744073709551616 := by
  have e1 : (2 ^ IntKind.u64.bits : Int) = 18446744073709551616 := by decide
  simp only [IntKind.wrap, e1]
  rw [if_neg (by simp [IntKind.signed])]
theorem wrap_neg {x : Nat} (h0 : 0 < x) (h1 : x < 18446744073709551616) : IntKind.u64.wrap (-(x : Int)) = ((18446744073709551616 - x : Nat) : Int) := by
  rw [wrap_mod]
  omega
theorem and_val {x : Nat} (h0 : 0 < x) (h1 : x < 18446744073709551616) : bits .and .u64 (x : Int) (IntKind.u64.wrap (-(x : Int))) = ((2 ^ tz64 x : Nat) : Int) := by
  rw [wrap_neg h0 h1, u64_and_nat _ _ h1 (by omega), and_lit h0 h1]
theorem mul_val (P : Nat) : IntKind.u64.wrap ((P : Int) * 285870213051353865) = ((P * 285870213051353865 % 18446744073709551616 : Nat) : Int) := by
  rw [wrap_mod]
  omega

theorem tab_at : ∀ t : Fin 64, 2 ^ t.val * 285870213051353865 % 18446744073709551616 / 288230376151711744 < 64 ∧ tab64.getD (2 ^ t.val * 285870213051353865 % 18446744073709551616 / 288230376151711744) 0 = t.val := by decide +kernel

set_option maxHeartbeats 2000000 in
theorem tz64_walk {X P MI : Int} {j t : Nat} {w : World} (hx0 : (X == 0) = false) (hb : bits .and .u64 X (IntKind.u64.wrap (-X)) = P) (hw : IntKind.u64.wrap (P * 285870213051353865) = MI) (hmj : MI / 288230376151711744 = (j : Int)) (hj : j < 64) (ht : t < 64)
    (hc : w.cell? ⟨2, j, none⟩ = some (.int .u8 (t : Int))) :
    Calls Tryz.prog 198 #[.int .u64 X] w fun e w' => e = .returned (.int .i64 (t : Int)) ∧ w' = w := by
  have j0 : (0 : Int) ≤ j := by omega
  have j1 : (j : Int) < 64 := by omega
  have hwt : IntKind.i64.wrap (t : Int) = t := wrap_i64 (by omega)
  go_enter Tryz.func198, Tryz.ntmps198
  go_wp2
  go_ret
  exact ⟨ret_int (by omega), rfl⟩

theorem div_val (M : Nat) : (M : Int) / 288230376151711744 = ((M / 288230376151711744 : Nat) : Int) := by omega

theorem tz64_any {x : Nat} (h0 : 0 < x) (h1 : x < 18446744073709551616) {w : World} (T : TabAt w) :
    Calls Tryz.prog 198 #[.int .u64 (x : Int)] w fun e w' => e = .returned (.int .i64 ((tz64 x : Nat) : Int)) ∧ w' = w := by
  have ht := tz64_lt h0 h1
  have hx0 : ((x : Int) == 0) = false := by simp; omega
  have hv := (tab_at ⟨tz64 x, ht⟩).2
  have hj := (tab_at ⟨tz64 x, ht⟩).1
  have hc := T _ hj
  rw [hv] at hc
  exact tz64_walk hx0 (and_val h0 h1) (mul_val _) (div_val _) hj ht hc
end Go.Proofs.Qxb6500877aGreatDoor
