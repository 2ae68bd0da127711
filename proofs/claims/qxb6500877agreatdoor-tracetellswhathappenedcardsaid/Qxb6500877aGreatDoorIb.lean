import Derived.Test.Qxb6500877aGreatDoorIa
set_option linter.unusedVariables false
set_option linter.unusedSimpArgs false
namespace Go.Proofs.Qxb6500877aGreatDoor
open Go.RowKit

def tab32 : List Nat := [0, 1, 28, 2, 29, 14, 24, 3, 30, 22, 20, 15, 25, 17, 4, 8, 31, 27, 13, 23, 21, 19, 16, 7, 26, 12, 18, 6, 11, 5, 10, 9]
/-- The lesser table, as the program lays it. -/
def Tab32 (w : World) : Prop := ∀ k, k < 32 → w.cell? ⟨1, k, none⟩ = some (.int .u8 ((tab32.getD k 0 : Nat) : Int))
theorem Tab32.blk {w w' : World} (h : Tab32 w) (e : w'.heap[1]? = w.heap[1]?) : Tab32 w' := fun k hk => (World.cell?_of_block (a := ⟨1, k, none⟩) e).trans (h k hk)
theorem and16 {x : Nat} (h0 : 0 < x) (h1 : x < 65536) : x &&& (65536 - x) = 2 ^ tz64 x := by
  rw [← and_lit h0 (by omega)]
  have e : 65536 - x = (18446744073709551616 - x) % 2 ^ 16 := by
    have : (2 : Nat) ^ 16 = 65536 := by decide
    rw [this]; omega
  rw [e]
  apply Nat.eq_of_testBit_eq
  intro i
  rw [Nat.testBit_and, Nat.testBit_and, Nat.testBit_mod_two_pow]
  by_cases hi : i < 16
  · simp [hi]
  · have h2 : (2 : Nat) ^ 16 ≤ 2 ^ i := Nat.pow_le_pow_right (by omega) (by omega)
    have h3 : (2 : Nat) ^ 16 = 65536 := by decide
    have : x.testBit i = false := Nat.testBit_lt_two_pow (by omega)
    simp [this]
theorem low_spec {x : Nat} (h0 : 0 < x) (h1 : x < 65536) : tz64 x < 16 ∧ x.testBit (tz64 x) = true ∧ ∀ i, (x &&& (x - 1)).testBit i = (x.testBit i && decide (i ≠ tz64 x)) := by
  obtain ⟨ht, m, hm⟩ := tzA_spec 64 x h0 (by rw [p64]; omega)
  have hm' : x = 2 ^ tz64 x * (2 * m + 1) := hm
  generalize tz64 x = t at *
  have hp : 0 < 2 ^ t := Nat.pow_pos (by omega)
  have hx1 : x - 1 = 2 ^ t * (2 * m) + (2 ^ t - 1) := by rw [hm', Nat.mul_add]; omega
  refine ⟨?_, ?_, fun i => ?_⟩
  · refine Nat.lt_of_not_le (fun q => ?_)
    have h2 : 2 ^ 16 ≤ 2 ^ t := Nat.pow_le_pow_right (by omega) q
    have h3 : 2 ^ t ≤ x := by rw [hm']; exact Nat.le_mul_of_pos_right _ (by omega)
    have : (2 : Nat) ^ 16 = 65536 := by decide
    omega
  · rw [hm', Nat.testBit_two_pow_mul]
    simp
  · rw [Nat.testBit_and]
    by_cases hi : i < t
    · have b1 : x.testBit i = false := by
        rw [hm', Nat.testBit_two_pow_mul]
        simp; omega
      rw [b1]; simp
    · have hd : x.testBit i = (2 * m + 1).testBit (i - t) := by
        rw [hm', Nat.testBit_two_pow_mul]
        simp; omega
      have hd1 : (x - 1).testBit i = (2 * m).testBit (i - t) := by
        rw [hx1, Nat.testBit_two_pow_mul_add _ (by omega), if_neg hi]
      rw [hd, hd1]
      by_cases hit : i = t
      · subst hit; simp
      · obtain ⟨j, hj⟩ : ∃ j, i - t = j + 1 := ⟨i - t - 1, by omega⟩
        rw [hj, Nat.testBit_succ, Nat.testBit_succ]
        have a1 : (2 * m + 1) / 2 = m := by omega
        have a2 : 2 * m / 2 = m := by omega
        rw [a1, a2]
        simp [hit]
theorem tab32_at : ∀ t : Fin 16, 2 ^ t.val * 125613361 % 4294967296 / 134217728 < 32 ∧ tab32.getD (2 ^ t.val * 125613361 % 4294967296 / 134217728) 0 = t.val := by decide +kernel
set_option maxHeartbeats 2000000 in
theorem tz16_walk {X P MI : Int} {j t : Nat} {w : World} (hx0 : (X == 0) = false) (hb : bits .and .u16 X (IntKind.u16.wrap (-X)) = P) (hw0 : IntKind.u32.wrap P = P) (hw : IntKind.u32.wrap (P * 125613361) = MI) (hmj : MI / 134217728 = (j : Int)) (hj : j < 32) (ht : t < 16)
    (hc : w.cell? ⟨1, j, none⟩ = some (.int .u8 (t : Int))) :
    Calls Tryz.prog 174 #[.int .u16 X] w fun e w' => e = .returned (.int .i64 (t : Int)) ∧ w' = w := by
  have j0 : (0 : Int) ≤ j := by omega
  have j1 : (j : Int) < 32 := by omega
  have hwt : IntKind.i64.wrap (t : Int) = t := wrap_i64 (by omega)
  go_enter Tryz.func174, Tryz.ntmps174
  go_wp2
  go_ret
  exact ⟨ret_int (by omega), rfl⟩
theorem tz16_any {x : Nat} (h0 : 0 < x) (h1 : x < 65536) {w : World} (T : Tab32 w) :
    Calls Tryz.prog 174 #[.int .u16 (x : Int)] w fun e w' => e = .returned (.int .i64 ((tz64 x : Nat) : Int)) ∧ w' = w := by
  have ht := (low_spec h0 h1).1
  have hx0 : ((x : Int) == 0) = false := by simp; omega
  have hv := (tab32_at ⟨tz64 x, ht⟩).2
  have hj := (tab32_at ⟨tz64 x, ht⟩).1
  have hc := T _ hj
  rw [hv] at hc
  have hp : 2 ^ tz64 x ≤ 2 ^ 15 := Nat.pow_le_pow_right (by omega) (by omega)
  have hp' : 2 ^ tz64 x ≤ 32768 := hp
  have hn : IntKind.u16.wrap (-(x : Int)) = ((65536 - x : Nat) : Int) := by rw [IntKind.wrap_u16]; omega
  have hb : bits .and .u16 (x : Int) (IntKind.u16.wrap (-(x : Int))) = ((2 ^ tz64 x : Nat) : Int) := by rw [hn, u16_and_nat _ _ h1 (by omega), and16 h0 h1]
  generalize 2 ^ tz64 x = P at *
  refine tz16_walk hx0 hb ?_ (MI := ((P * 125613361 % 4294967296 : Nat) : Int)) ?_ ?_ hj ht hc
  · rw [IntKind.wrap_u32]; omega
  · rw [IntKind.wrap_u32]; omega
  · omega
end Go.Proofs.Qxb6500877aGreatDoor
