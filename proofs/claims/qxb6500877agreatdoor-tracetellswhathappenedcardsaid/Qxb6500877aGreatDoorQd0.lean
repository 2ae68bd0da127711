import Derived.Test.Qxb6500877aGreatDoorQc
import Derived.Test.Qxb6500877aGreatDoorWm
import Derived.Test.Qxb6500877aGreatDoorWp
import Derived.Test.Qxb6500877aGreatDoorWi
import Derived.Test.Qxb6500877aGreatDoorWu
set_option linter.unusedVariables false
set_option linter.unusedSimpArgs false
namespace Go.Proofs.Qxb6500877aGreatDoor
open Go.RowKit

/-- All that is pending before level k. -/
def lev (L : Option (Nat × Nat) → List Nat) (k : Nat) : Nat → List Nat
  | 0 => []
  | z + 1 => lev L k z ++ L (some (k, z))
def preL (L : Option (Nat × Nat) → List Nat) : Nat → List Nat
  | 0 => L none
  | k + 1 => preL L k ++ lev L k 64
theorem lev_skip {L : Option (Nat × Nat) → List Nat} {k z0 : Nat} : ∀ d, (∀ z, z0 ≤ z → z < z0 + d → L (some (k, z)) = []) → lev L k (z0 + d) = lev L k z0
  | 0, _ => rfl
  | d + 1, h => by
    have e : lev L k (z0 + (d + 1)) = lev L k (z0 + d) ++ L (some (k, z0 + d)) := rfl
    rw [e, lev_skip d (fun z h1 h2 => h z h1 (by omega)), h (z0 + d) (by omega) (by omega), List.append_nil]
theorem lev_len {L : Option (Nat × Nat) → List Nat} {k z : Nat} : ∀ d, (lev L k z).length ≤ (lev L k (z + d)).length
  | 0 => Nat.le_refl _
  | d + 1 => by
    have e : lev L k (z + (d + 1)) = lev L k (z + d) ++ L (some (k, z + d)) := rfl
    rw [e, List.length_append]
    have := lev_len (L := L) (k := k) (z := z) d
    omega
theorem preL_len {L : Option (Nat × Nat) → List Nat} {k : Nat} : ∀ d, (preL L k).length ≤ (preL L (k + d)).length
  | 0 => Nat.le_refl _
  | d + 1 => by
    have e : preL L (k + (d + 1)) = preL L (k + d) ++ lev L (k + d) 64 := rfl
    rw [e, List.length_append]
    have := preL_len (L := L) (k := k) d
    omega
theorem preZ_len {L : Option (Nat × Nat) → List Nat} {k z : Nat} (hk : k < 11) (hz : z ≤ 64) : (preL L k ++ lev L k z).length ≤ (preL L 11).length := by
  have h1 := lev_len (L := L) (k := k) (z := z) (64 - z)
  rw [show z + (64 - z) = 64 by omega] at h1
  have h2 := preL_len (L := L) (k := k + 1) (11 - (k + 1))
  rw [show k + 1 + (11 - (k + 1)) = 11 by omega] at h2
  have e : preL L (k + 1) = preL L k ++ lev L k 64 := rfl
  rw [e] at h2
  simp only [List.length_append] at h2 ⊢
  omega
/-- The lowest bit of a number taken off. -/
theorem low_off {m t i : Nat} (h : ∃ q, m = 2 ^ (t + 1) * q + 2 ^ t) : (m &&& (m - 1)).testBit i = (m.testBit i && decide (i ≠ t)) := by
  obtain ⟨q, rfl⟩ := h
  have hp : 0 < 2 ^ t := Nat.two_pow_pos t
  have hlt : 2 ^ t < 2 ^ (t + 1) := by rw [Nat.pow_succ]; omega
  have e : 2 ^ (t + 1) * q + 2 ^ t - 1 = 2 ^ (t + 1) * q + (2 ^ t - 1) := by omega
  rw [Nat.testBit_and, e, Nat.testBit_two_pow_mul_add _ hlt, Nat.testBit_two_pow_mul_add _ (by omega)]
  by_cases hi : i < t + 1
  · rw [if_pos hi, if_pos hi, Nat.testBit_two_pow, Nat.testBit_two_pow_sub_one]
    by_cases e : i = t
    · subst e; simp
    · have : ¬ (t = i) := fun q => e q.symm
      simp [this, e]
  · rw [if_neg hi, if_neg hi]
    have : i ≠ t := by omega
    simp [this]
theorem low_form {m t : Nat} (h1 : m.testBit t = true) (h0 : ∀ j, j < t → m.testBit j = false) : ∃ q, m = 2 ^ (t + 1) * q + 2 ^ t := by
  refine ⟨m / 2 ^ (t + 1), ?_⟩
  have hr : m % 2 ^ (t + 1) = 2 ^ t := by
    apply Nat.eq_of_testBit_eq
    intro i
    rw [Nat.testBit_mod_two_pow, Nat.testBit_two_pow]
    by_cases hi : i < t + 1
    · by_cases e : i = t
      · subst e; simp [h1]
      · have : ¬ (t = i) := fun q => e q.symm
        simp [hi, this, h0 i (by omega)]
    · have : ¬ (t = i) := by omega
      simp [hi, this]
  have := Nat.div_add_mod m (2 ^ (t + 1))
  omega
theorem tz64_facts {m : Nat} (h0 : 0 < m) (h1 : m < 18446744073709551616) : tz64 m < 64 ∧ m.testBit (tz64 m) = true ∧ ∀ j, j < tz64 m → m.testBit j = false := by
  obtain ⟨ht, q, hq⟩ := tzA_spec 64 m h0 (by rw [p64]; exact h1)
  refine ⟨ht, tz_bit h0 h1, fun j hj => ?_⟩
  have e : m = 2 ^ tz64 m * (2 * q + 1) := hq
  generalize tz64 m = t at e hj
  have hlt : 2 ^ t < 2 ^ (t + 1) := by rw [Nat.pow_succ]; have := Nat.two_pow_pos t; omega
  have e2 : m = 2 ^ (t + 1) * q + 2 ^ t := by rw [e, Nat.pow_succ, Nat.mul_add, Nat.mul_one, Nat.mul_assoc]
  rw [e2, Nat.testBit_two_pow_mul_add _ hlt, if_pos (by omega), Nat.testBit_two_pow]
  simp
  omega
theorem low_bits {m : Nat} (h0 : 0 < m) (h1 : m < 18446744073709551616) : IntKind.u64.wrap ((m : Int) - 1) = ((m - 1 : Nat) : Int) ∧ bits .and .u64 (m : Int) ((m - 1 : Nat) : Int) = ((m &&& (m - 1) : Nat) : Int) := by
  refine ⟨?_, u64_and_nat _ _ h1 (by omega)⟩
  rw [wrap_mod]
  omega
/-- The walk over the timers at work: the nodes of P are in the row. -/
structure ES (w0 w : World) (B : Nat) (s : Wheel) (b1 b3 g cap : Nat) (P : List Nat) : Prop where
  H : WheelAt w B s
  T : TabAt w
  c1 : w.cell? ⟨b1, 0, none⟩ = some (.pointer (some ⟨B, 1, none⟩))
  c3 : w.cell? ⟨b3, 0, none⟩ = some (.slice (some ⟨g, 0, none⟩) P.length cap)
  f3 : w.frozen? ⟨b3, 0, none⟩ = false
  own : w.ownsRow g 84 4 (.slice (some ⟨g, 0, none⟩) P.length cap) P.length (tmCells (P.map (tmR s)))
  M : MutB b3 g w0 w
structure EQ (B b1 b3 g : Nat) : Prop where
  h31 : b3 ≠ b1
  h3B : b3 ≠ B
  h3g : b3 ≠ g
  h1g : b1 ≠ g
  hBg : B ≠ g
  h2 : 2 ≠ b3 ∧ 2 ≠ g
theorem ES.note {w0 w : World} {B b1 b3 g cap x : Nat} {s : Wheel} {P : List Nat} (E : ES w0 w B s b1 b3 g cap P) (q : EQ B b1 b3 g) (hx : x < 64) (hfit : P.length < cap) :
    Calls Tryz.prog 164 #[.int .i16 (x : Int), .pointer (some ⟨b3, 0, none⟩), .pointer (some ⟨b1, 0, none⟩)] w fun e w' => e = .returned (.tuple #[]) ∧ ES w0 w' B s b1 b3 g cap (P ++ [x]) := by
  have hlB : B < w.heap.size := World.block_lt_of_cell? _ _ E.H.one.1
  have hl1 := World.block_lt_of_cell? _ _ E.c1
  have hl2 := World.block_lt_of_cell? _ _ (E.T 0 (by omega))
  refine (note_timer E.H hx E.c1 E.c3 E.f3 E.own hfit q.h31 q.h3B q.h3g q.h1g q.hBg).mono ?_
  rintro e w' ⟨rfl, d3, z3, ow, M⟩
  have hB := M.block B hlB (fun e => q.h3B e.symm) q.hBg
  have h1 := M.block b1 hl1 (fun e => q.h31 e.symm) q.h1g
  have h2 := M.block 2 hl2 q.h2.1 q.h2.2
  refine ⟨rfl, E.H.same hB, fun k hk => (World.cell?_of_block (a := ⟨2, k, none⟩) h2).trans (E.T k hk), (World.cell?_of_block (a := ⟨b1, 0, none⟩) h1).trans E.c1, ?_, z3, ?_, E.M.trans M⟩
  · rw [List.length_append]; exact d3
  · rw [List.length_append, List.map_append, List.map_cons, List.map_nil, tmCells_snoc]; exact ow
end Go.Proofs.Qxb6500877aGreatDoor
