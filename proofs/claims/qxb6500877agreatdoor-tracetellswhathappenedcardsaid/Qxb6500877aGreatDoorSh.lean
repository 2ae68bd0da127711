import Derived.Test.Qxb6500877aGreatDoorSe
set_option linter.unusedVariables false
set_option linter.unusedSimpArgs false
namespace Go.Proofs.Qxb6500877aGreatDoor
open Go.RowKit

def lightF (ld : Nat → Int) : Nat → Nat
  | 0 => 0
  | d + 1 => if ld (d + 1) < ld (lightF ld d) then d + 1 else lightF ld d
theorem lightF_le (ld : Nat → Int) : ∀ d, lightF ld d ≤ d
  | 0 => Nat.le_refl _
  | d + 1 => by
    have := lightF_le ld d
    unfold lightF
    split <;> omega

set_option maxHeartbeats 2000000 in
theorem lightest_any {w : World} {B : Nat} {s : Sched} (H : SchedAt w B s) :
    Calls Tryz.prog 211 #[.pointer (some ⟨B, 6596, none⟩)] w fun e w' => e = .returned (.int .i64 (lightF s.ld 3 : Nat)) ∧ Below w.heap.size w w' := by
  go_enter Tryz.func211, Tryz.ntmps211
  go_wp2
  go_loopg [3, 4] 3 (fun g vc vd wr => ∃ d : Nat, d + g = 3 ∧ vc = .int .i64 (lightF s.ld d : Nat) ∧ vd = .int .i64 ((d : Int) + 1) ∧ Below w.heap.size w wr ∧ SchedAt wr B s)
  case atStart => exact ⟨0, by omega, rfl, rfl, Below.refl _ _, H⟩
  case round =>
    obtain ⟨d, hd, rfl, rfl, hB, HR⟩ := hrel
    have hle := lightF_le s.ld d
    by_cases h3 : d < 3
    · obtain ⟨_, c1⟩ := HR.core (c := d + 1) (by omega)
      obtain ⟨_, c2⟩ := HR.core (c := lightF s.ld d) (by omega)
      have i0 : (0 : Int) ≤ (lightF s.ld d : Nat) := by omega
      have i1 : ((lightF s.ld d : Nat) : Int) < 4 := by omega
      have j0 : (0 : Int) ≤ (d : Int) + 1 := by omega
      have j1 : (d : Int) + 1 < 4 := by omega
      have jn : ((d : Int) + 1).toNat = d + 1 := by omega
      have key : lightF s.ld (d + 1) = if s.ld (d + 1) < s.ld (lightF s.ld d) then d + 1 else lightF s.ld d := rfl
      have HK : Hid (lightF s.ld (d + 1) = if s.ld (d + 1) < s.ld (lightF s.ld d) then d + 1 else lightF s.ld d) := key
      clear key
      generalize lightF s.ld d = c at *
      by_cases hlt : s.ld (d + 1) < s.ld c
      · go_wp2
        go_region_held3 (fun w' => w'.cell? ⟨B, 6720 + (d + 1), none⟩ = some (.int .i64 (s.ld (d + 1))) ∧ w'.cell? ⟨B, 6720 + c, none⟩ = some (.int .i64 (s.ld c))) (exact ⟨c1, c2⟩) (fail)
        go_wp2
        go_roundg (3 - (d + 1))
        case measure => omega
        case rel => exact ⟨d + 1, by omega, by rw [HK.out, if_pos hlt]; rfl, by go_num, hB.drew, HR.drew⟩
      · go_wp2
        go_region_held3 (fun w' => w'.cell? ⟨B, 6720 + (d + 1), none⟩ = some (.int .i64 (s.ld (d + 1))) ∧ w'.cell? ⟨B, 6720 + c, none⟩ = some (.int .i64 (s.ld c))) (exact ⟨c1, c2⟩) (fail)
        go_wp2
        go_roundg (3 - (d + 1))
        case measure => omega
        case rel => exact ⟨d + 1, by omega, by rw [HK.out, if_neg (by omega)], by go_num, hB.drew, HR.drew⟩
    · have hd3 : d = 3 := by omega
      subst hd3
      go_wp2
      go_ret
      exact ⟨rfl, hB⟩

end Go.Proofs.Qxb6500877aGreatDoor
