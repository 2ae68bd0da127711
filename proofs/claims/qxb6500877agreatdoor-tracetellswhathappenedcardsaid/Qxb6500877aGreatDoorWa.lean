import Derived.Test.Qxb6500877aGreatDoorBw
set_option linter.unusedVariables false
set_option linter.unusedSimpArgs false
namespace Go.Proofs.Qxb6500877aGreatDoor
open Go.RowKit

/-- Which of two rows goes off first. -/
def bef (s : Wheel) (a b : Nat) : Bool := if (s.nd a).dl = (s.nd b).dl then decide ((s.nd a).id < (s.nd b).id) else decide ((s.nd a).dl < (s.nd b).dl)

set_option maxHeartbeats 4000000 in
theorem before_any {w : World} {B : Nat} {s : Wheel} {a b : Nat} (H : WheelAt w B s) (ha : a < 64) (hb : b < 64) :
    Calls Tryz.prog 233 #[.pointer (some ⟨B, 1, none⟩), .int .i16 (a : Int), .int .i16 (b : Int)] w fun e w' => e = .returned (.bool (bef s a b)) ∧ Below w.heap.size w w' := by
  obtain ⟨a0, _, a2, _⟩ := H.node ha
  obtain ⟨b0, _, b2, _⟩ := H.node hb
  have i0 : (0 : Int) ≤ a := by omega
  have i1 : (a : Int) < 64 := by omega
  have j0 : (0 : Int) ≤ b := by omega
  have j1 : (b : Int) < 64 := by omega
  unfold bef
  by_cases hd : (s.nd a).dl = (s.nd b).dl
  · rw [if_pos hd]
    have hdb : ((s.nd a).dl != (s.nd b).dl) = false := by simp [hd]
    go_enter Tryz.func233, Tryz.ntmps233
    go_wp2
    go_region_held3 (fun _ => True) (trivial) (fail)
    go_wp2
    go_region_held3 (fun w' => w'.cell? ⟨B, 2 + a * 8 + 2, none⟩ = some (.int .u64 (s.nd a).dl) ∧ w'.cell? ⟨B, 2 + b * 8 + 2, none⟩ = some (.int .u64 (s.nd b).dl)) (exact ⟨a2, b2⟩) (fail)
    go_wp2
    go_region_held3 (fun w' => w'.cell? ⟨B, 2 + a * 8, none⟩ = some (.int .u64 (s.nd a).id) ∧ w'.cell? ⟨B, 2 + b * 8, none⟩ = some (.int .u64 (s.nd b).id)) (exact ⟨a0, b0⟩) (fail)
    go_wp2
    go_ret
    exact ⟨rfl, (Below.refl _ _).drew.drew.drew⟩
  · rw [if_neg hd]
    have hdb : ((s.nd a).dl != (s.nd b).dl) = true := by simpa using hd
    go_enter Tryz.func233, Tryz.ntmps233
    go_wp2
    go_region_held3 (fun _ => True) (trivial) (fail)
    go_wp2
    go_region_held3 (fun w' => w'.cell? ⟨B, 2 + a * 8 + 2, none⟩ = some (.int .u64 (s.nd a).dl) ∧ w'.cell? ⟨B, 2 + b * 8 + 2, none⟩ = some (.int .u64 (s.nd b).dl)) (exact ⟨a2, b2⟩) (fail)
    go_wp2
    go_region_held3 (fun w' => w'.cell? ⟨B, 2 + a * 8 + 2, none⟩ = some (.int .u64 (s.nd a).dl) ∧ w'.cell? ⟨B, 2 + b * 8 + 2, none⟩ = some (.int .u64 (s.nd b).dl)) (exact ⟨a2, b2⟩) (fail)
    go_wp2
    go_ret
    exact ⟨rfl, (Below.refl _ _).drew.drew.drew⟩
end Go.Proofs.Qxb6500877aGreatDoor
