import Derived.Test.Qxb6500877aGreatDoorWh
set_option linter.unusedVariables false
set_option linter.unusedSimpArgs false
namespace Go.Proofs.Qxb6500877aGreatDoor
open Go.RowKit

set_option maxHeartbeats 2000000 in
theorem earliest_none {w : World} {B : Nat} {s : Wheel} (H : WheelAt w B s) (h0 : ∀ k, k < 11 → s.occ k = 0) :
    Calls Tryz.prog 169 #[.pointer (some ⟨B, 1, none⟩)] w fun e w' => e = .returned (.tuple #[.int .i64 0, .int .i64 0, .bool false]) ∧ w' = w := by
  go_enter Tryz.func169, Tryz.ntmps169
  go_wp2
  go_loopg [5] 11 (fun g v wr => ∃ k : Nat, k + g = 11 ∧ v = .int .i64 (k : Int) ∧ wr = w)
  case atStart => exact ⟨0, by omega, rfl, rfl⟩
  case round =>
    obtain ⟨k, hk, rfl, rfl⟩ := hrel
    by_cases h11 : k < 11
    · have c := H.bits h11
      rw [h0 k h11] at c
      have i0 : (0 : Int) ≤ k := by omega
      have i1 : (k : Int) < 11 := by omega
      go_wp2
      go_roundg (11 - (k + 1))
      case measure => omega
      case rel => exact ⟨k + 1, by omega, by go_num, rfl⟩
    · have hk' : k = 11 := by omega
      subst hk'
      go_wp2
      go_ret3
      exact ⟨rfl, rfl⟩

set_option maxHeartbeats 2000000 in
theorem earliest_some {w : World} {B : Nat} {s : Wheel} {q m : Nat} (H : WheelAt w B s) (T : TabAt w) (hq : q < 11) (em : s.occ q = m) (hm : 0 < m) (hm' : m < 18446744073709551616) (h0 : ∀ k, k < q → s.occ k = 0) :
    Calls Tryz.prog 169 #[.pointer (some ⟨B, 1, none⟩)] w fun e w' => e = .returned (.tuple #[.int .i64 (q : Int), .int .i64 ((tz64 m : Nat) : Int), .bool true]) ∧ w' = w := by
  have hz := @tz64_any m hm hm' w T
  go_enter Tryz.func169, Tryz.ntmps169
  go_wp2
  go_loopg [5] 11 (fun g v wr => ∃ k : Nat, k + g = 11 ∧ k ≤ q ∧ v = .int .i64 (k : Int) ∧ wr = w)
  case atStart => exact ⟨0, by omega, by omega, rfl, rfl⟩
  case round =>
    obtain ⟨k, hk, hkq, rfl, rfl⟩ := hrel
    have h11 : k < 11 := by omega
    have c := H.bits h11
    have i0 : (0 : Int) ≤ k := by omega
    have i1 : (k : Int) < 11 := by omega
    by_cases he : k = q
    · subst he
      rw [em] at c
      have hmb : ((m : Int) != 0) = true := by simp <;> omega
      go_wp2_with fail
      refine hz.mono ?_
      rintro e w1 ⟨rfl, rfl⟩
      go_wp2
      go_ret3
      exact ⟨rfl, rfl⟩
    · rw [h0 k (by omega)] at c
      go_wp2
      go_roundg (11 - (k + 1))
      case measure => omega
      case rel => exact ⟨k + 1, by omega, by omega, by go_num, rfl⟩
end Go.Proofs.Qxb6500877aGreatDoor
