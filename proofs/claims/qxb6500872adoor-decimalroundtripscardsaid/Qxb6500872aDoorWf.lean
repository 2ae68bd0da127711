import Derived.Test.Qxb6500872aDoorWe
import Derived.Test.Qxb6500872aDoorNumB
namespace Go.Proofs.Qxb6500872aDoor
open Go.RowKit

set_option maxHeartbeats 400000 in
theorem addRow_any {a' : Option Addr} {b off n c c' : Nat} {zs ys : List Int} {w : World} (h : Limbs w (some ⟨b, off, none⟩) (n + 1) c zs) (h' : Limbs w a' n c' ys)
    (hf : ∀ x, a' = some x → x.block ≠ b) (hfz : ∀ o, w.frozen? ⟨b, o, none⟩ = false) :
    Calls Tryd.prog 51 #[.slice (some ⟨b, off, none⟩) (n + 1) c, .slice a' n c'] w fun e w' => (e = .returned (.tuple #[]) ∧ ∃ us, Limbs w' (some ⟨b, off, none⟩) (n + 1) c us ∧ pv us (n + 1) = (pv zs (n + 1) + pv ys n) % Bp (n + 1)) ∧ Wrote b off (off + (n + 1)) w w' := by
  have hb := h.big
  have hc := h.cap
  have hb' := h'.big
  have hc' := h'.cap
  go_enter Tryd.func51, Tryd.ntmps51
  go_wp2
  go_loopw [4, 10] (fun cy i wr => ∃ (j : Nat) (C : Int) (us : List Int), j ≤ n ∧ i = .int .i64 j ∧ cy = .int .u64 C ∧ 0 ≤ C ∧ C ≤ 1 ∧ Limbs wr (some ⟨b, off, none⟩) (n + 1) c us ∧ Wrote b off (off + (n + 1)) w wr
      ∧ (∀ i, j ≤ i → us[i]?.getD 0 = zs[i]?.getD 0) ∧ pv us j + C * Bp j = pv zs j + pv ys j) (fun _ i _ => n - (intOf i).toNat)
  case atStart => exact ⟨0, 0, _, Nat.zero_le _, rfl, rfl, by omega, by omega, h, Wrote.refl _ _ _ _, fun _ _ => rfl, by simp [pv]⟩
  case round =>
    obtain ⟨j, C, us, hj, rfl, rfl, hC0, hC2, hZ, hW, hhi, hsum⟩ := hrel
    have HS : Hid (pv us j + C * Bp j = pv zs j + pv ys j) := hsum
    have HH : Hid (∀ i, j ≤ i → us[i]?.getD 0 = zs[i]?.getD 0) := hhi
    clear hsum hhi
    by_cases hlt : j < n
    · have hY := h'.far hW hf
      obtain ⟨b1, o1, rfl, hc1⟩ := hY.at hlt
      have hy := hc1 j hlt
      have ry := hY.rng j
      obtain ⟨_, _, he, hz⟩ := hZ.at (k := j) (by omega)
      cases he
      have hzj := hz j (by omega)
      have rz := hZ.rng j
      have hfj : wr.frozen? ⟨b, off + j, none⟩ = false := (hW.frz _).trans (hfz _)
      clear hz hc1
      go_wp2
      go_roundw
      case rel => exact ⟨j + 1, _, _, by omega, by go_num, rfl, by omega, by omega, hZ.set (by omega) (u32_range _).1 (u32_range _).2, hW.setCell (by omega) (by omega) _, fun i hi => by rw [getD_set _ (by rw [hZ.len]; omega), if_neg (by omega)]; exact HH.out i (by omega), add_step (by rw [hZ.len]; omega) (HH.out j (Nat.le_refl _)) HS.out⟩
      case measure => simp [intOf]; omega
    · have hjn : j = n := by omega
      subst hjn
      obtain ⟨_, _, he, hz⟩ := hZ.at (k := j) (by omega)
      cases he
      have hzj := hz j (by omega)
      have rz := hZ.rng j
      have hfj : wr.frozen? ⟨b, off + j, none⟩ = false := (hW.frz _).trans (hfz _)
      go_wp2
      go_end0
      exact ⟨⟨rfl, _, hZ.set (by omega) (u32_range _).1 (u32_range _).2, add_last hZ.rng (by rw [hZ.len]; omega) (HH.out j (Nat.le_refl _)) HS.out⟩, hW.setCell (by omega) (by omega) _⟩

def SubRet (b off n c : Nat) (v : Int) (zs ys : List Int) (e : Ending) (w' : World) : Prop :=
  ∃ us neg, e = .returned (.bool neg) ∧ Limbs w' (some ⟨b, off, none⟩) (n + 1) c us ∧ SubPost zs ys us v n neg

theorem and_mask (p : Int) (h0 : 0 ≤ p) (h1 : p < 18446744073709551616) : bits BinOp.and IntKind.u64 p 4294967295 = p % 4294967296 := by
  have h := bits_and_u64_nat p.toNat 4294967295 (by omega) (by omega)
  rw [Int.toNat_of_nonneg h0] at h
  have e : p.toNat &&& 4294967295 = p.toNat % 2 ^ 32 := Nat.and_two_pow_sub_one_eq_mod p.toNat 32
  rw [e] at h
  have h2 : ((p.toNat % 2 ^ 32 : Nat) : Int) = p % 4294967296 := by omega
  exact h.trans h2

set_option maxHeartbeats 400000 in
theorem subMulRow_any {a' : Option Addr} {b off n c c' : Nat} {zs ys : List Int} {v : Int} {w : World} (h : Limbs w (some ⟨b, off, none⟩) (n + 1) c zs) (h' : Limbs w a' n c' ys)
    (hf : ∀ x, a' = some x → x.block ≠ b) (hfz : ∀ o, w.frozen? ⟨b, o, none⟩ = false) (hv0 : 0 ≤ v) (hv : v < 4294967296) :
    Calls Tryd.prog 50 #[.slice (some ⟨b, off, none⟩) (n + 1) c, .slice a' n c', .int .u32 v] w fun e w' => SubRet b off n c v zs ys e w' ∧ Wrote b off (off + (n + 1)) w w' := by
  have hb := h.big
  have hc := h.cap
  have hb' := h'.big
  have hc' := h'.cap
  go_enter Tryd.func50, Tryd.ntmps50
  go_wp2
  go_loopw [7, 8, 16] (fun cy bw i wr => ∃ (j : Nat) (C D : Int) (us : List Int), j ≤ n ∧ i = .int .i64 j ∧ cy = .int .u64 C ∧ bw = .int .u64 D ∧ 0 ≤ C ∧ C < 4294967296 ∧ 0 ≤ D ∧ D ≤ 1 ∧ Limbs wr (some ⟨b, off, none⟩) (n + 1) c us ∧ Wrote b off (off + (n + 1)) w wr
      ∧ (∀ i, j ≤ i → us[i]?.getD 0 = zs[i]?.getD 0) ∧ pv us j - (C + D) * Bp j = pv zs j - v * pv ys j) (fun _ _ i _ => n - (intOf i).toNat)
  case atStart => exact ⟨0, 0, 0, _, Nat.zero_le _, rfl, rfl, rfl, by omega, by omega, by omega, by omega, h, Wrote.refl _ _ _ _, fun _ _ => rfl, by simp [pv]⟩
  case round =>
    obtain ⟨j, C, D, us, hj, rfl, rfl, rfl, hC0, hC2, hD0, hD1, hZ, hW, hhi, hsum⟩ := hrel
    have HS : Hid (pv us j - (C + D) * Bp j = pv zs j - v * pv ys j) := hsum
    have HH : Hid (∀ i, j ≤ i → us[i]?.getD 0 = zs[i]?.getD 0) := hhi
    clear hsum hhi
    by_cases hlt : j < n
    · have hY := h'.far hW hf
      obtain ⟨b1, o1, rfl, hc1⟩ := hY.at hlt
      have hy := hc1 j hlt
      have ry := hY.rng j
      obtain ⟨_, _, he, hz⟩ := hZ.at (k := j) (by omega)
      cases he
      have hzj := hz j (by omega)
      have rz := hZ.rng j
      have hfj : wr.frozen? ⟨b, off + j, none⟩ = false := (hW.frz _).trans (hfz _)
      have hp0 : 0 ≤ ys[j]?.getD 0 * v := Int.mul_nonneg ry.1 hv0
      have hp1 : ys[j]?.getD 0 * v ≤ 4294967295 * 4294967295 := Int.mul_le_mul (by omega) (by omega) (by omega) (by omega)
      simp only [Int.reduceMul] at hp1
      have hm := and_mask (ys[j]?.getD 0 * v + C) (by omega) (by omega)
      clear hz hc1
      go_wp2
      go_roundw
      case rel =>
        refine ⟨j + 1, _, _, _, by omega, by go_num, rfl, rfl, by omega, by omega, (brw _).1, (brw _).2, hZ.set (by omega) (u32_range _).1 (u32_range _).2, hW.setCell (by omega) (by omega) _, fun i hi => by rw [getD_set _ (by rw [hZ.len]; omega), if_neg (by omega)]; exact HH.out i (by omega), ?_⟩
        exact sub_step (p := ys[j]?.getD 0 * v + C) (by rw [hZ.len]; omega) (HH.out j (Nat.le_refl _)) rz ⟨hD0, hD1⟩ rfl HS.out (by simp only [IntKind.wrap_u64]) (by simp only [IntKind.wrap_u64])
      case measure => simp [intOf]; omega
    · have hjn : j = n := by omega
      subst hjn
      obtain ⟨_, _, he, hz⟩ := hZ.at (k := j) (by omega)
      cases he
      have hzj := hz j (by omega)
      have rz := hZ.rng j
      have hfj : wr.frozen? ⟨b, off + j, none⟩ = false := (hW.frz _).trans (hfz _)
      go_wp2
      go_ret
      refine ⟨⟨_, _, rfl, hZ.set (by omega) (u32_range _).1 (u32_range _).2, ?_⟩, hW.setCell (by omega) (by omega) _⟩
      exact sub_last hZ.rng (by rw [hZ.len]; omega) (HH.out j (Nat.le_refl _)) ⟨hC0, hC2⟩ ⟨hD0, hD1⟩ HS.out (by simp only [IntKind.wrap_u64]) (by simp only [IntKind.wrap_u64])

end Go.Proofs.Qxb6500872aDoor
