import Derived.Test.Qxb6500877aGreatDoorWm
import Derived.Test.Qxb6500877aGreatDoorLi
set_option linter.unusedVariables false
set_option linter.unusedSimpArgs false
namespace Go.Proofs.Qxb6500877aGreatDoor
open Go.RowKit

set_option maxHeartbeats 1000000 in
theorem full_any {w : World} {B : Nat} {s : Wheel} (H : WheelAt w B s) :
    Calls Tryz.prog 137 #[.pointer (some ⟨B, 1, none⟩)] w fun e w' => e = .returned (.bool (decide (s.free = -1))) ∧ w' = w := by
  obtain ⟨_, o1, _⟩ := H.one
  go_enter Tryz.func137, Tryz.ntmps137
  go_wp2
  go_ret
  refine ⟨?_, rfl⟩
  by_cases h : s.free = -1 <;> simp [h]
/-- The reading n ticks on. -/
def afterF (t n : Nat) : Nat := if 18446744073709551615 - t < n then 18446744073709551615 else t + n
theorem afterF_lt (t n : Nat) (h : t < 18446744073709551616) : afterF t n < 18446744073709551616 ∧ t ≤ afterF t n := by unfold afterF; split <;> omega
set_option maxHeartbeats 1000000 in
theorem after_any {t n : Nat} (ht : t < 18446744073709551616) (hn : n < 18446744073709551616) (w : World) :
    Calls Tryz.prog 139 #[.int .u64 (t : Int), .int .u64 (n : Int)] w fun e w' => e = .returned (.int .u64 ((afterF t n : Nat) : Int)) ∧ w' = w := by
  have hw1 : IntKind.u64.wrap (18446744073709551615 - (t : Int)) = 18446744073709551615 - (t : Int) := wrap_u64 (by omega)
  by_cases hc : 18446744073709551615 - t < n
  · have hc' : (18446744073709551615 - (t : Int)) < (n : Int) := by omega
    go_enter Tryz.func139, Tryz.ntmps139
    go_wp2
    go_ret
    exact ⟨by rw [afterF, if_pos hc]; rfl, rfl⟩
  · have hc' : ¬ ((18446744073709551615 - (t : Int)) < (n : Int)) := by omega
    have hw2 : IntKind.u64.wrap ((t : Int) + (n : Int)) = (t : Int) + (n : Int) := wrap_u64 (by omega)
    go_enter Tryz.func139, Tryz.ntmps139
    go_wp2
    go_ret
    exact ⟨by rw [afterF, if_neg hc]; simp, rfl⟩
set_option maxHeartbeats 1000000 in
theorem clockAdvance_any {w : World} {B t n : Nat} (hc : w.cell? ⟨B, 0, none⟩ = some (.int .u64 (t : Int))) (fz : ∀ o, w.frozen? ⟨B, o, none⟩ = false) (ht : t < 18446744073709551616) (hn : n < 18446744073709551616) :
    Calls Tryz.prog 102 #[.pointer (some ⟨B, 0, none⟩), .int .u64 (n : Int)] w fun e w' => e = .returned (.int .u64 ((afterF t n : Nat) : Int)) ∧ w' = w.setCell ⟨B, 0, none⟩ (.int .u64 ((afterF t n : Nat) : Int)) := by
  go_enter Tryz.func102, Tryz.ntmps102
  go_wp2_with fail
  refine (after_any ht hn _).mono ?_
  rintro e w1 ⟨rfl, rfl⟩
  go_wp2
  go_ret
  exact ⟨rfl, rfl⟩

end Go.Proofs.Qxb6500877aGreatDoor
