import Derived.Test.Qxb6500872aDoorWf
namespace Go.Proofs.Qxb6500872aDoor
open Go.RowKit

theorem bits_or_u32_nat (a b : Nat) (ha : a < 4294967296) (hb : b < 4294967296) : bits .or .u32 (a : Int) (b : Int) = ((a ||| b : Nat) : Int) := by
  have hx : a ||| b < 2 ^ 32 := Nat.or_lt_two_pow (by omega) (by omega)
  have h1 : (BitVec.ofInt 32 (a : Int)).toNat = a := by
    rw [BitVec.ofInt_natCast, BitVec.toNat_ofNat]; exact Nat.mod_eq_of_lt (by omega)
  have h2 : (BitVec.ofInt 32 (b : Int)).toNat = b := by
    rw [BitVec.ofInt_natCast, BitVec.toNat_ofNat]; exact Nat.mod_eq_of_lt (by omega)
  show IntKind.u32.wrap ((BitVec.ofInt 32 (a : Int) ||| BitVec.ofInt 32 (b : Int)).toNat : Int) = _
  rw [BitVec.toNat_or, h1, h2, IntKind.wrap_u32]
  omega

/-- 'or' of a multiple of 2^i and of what is below 2^i is their sum. -/
theorem or_add_u32 {i : Nat} {q b : Int} (hq : 0 ≤ q) (hb0 : 0 ≤ b) (hb : b < 2 ^ i) (hs : 2 ^ i * q + b < 4294967296) : bits .or .u32 (2 ^ i * q) b = 2 ^ i * q + b := by
  obtain ⟨m, rfl⟩ := Int.eq_ofNat_of_zero_le hq
  obtain ⟨r, rfl⟩ := Int.eq_ofNat_of_zero_le hb0
  have e : ((2 : Int) ^ i * (m : Int)) = ((2 ^ i * m : Nat) : Int) := by push_cast; rfl
  have hr : r < 2 ^ i := by exact_mod_cast hb
  have hs' : 2 ^ i * m + r < 4294967296 := by
    rw [e] at hs; omega
  rw [e, bits_or_u32_nat _ _ (by omega) (by omega), ← Nat.two_pow_add_eq_or_of_lt hr]
  push_cast; rfl

theorem or_add_u32' {i : Nat} {q b : Int} (hq : 0 ≤ q) (hb0 : 0 ≤ b) (hb : b < 2 ^ i) (hs : 2 ^ i * q + b < 4294967296) : bits .or .u32 b (2 ^ i * q) = b + 2 ^ i * q := by
  rw [Int.add_comm, ← or_add_u32 hq hb0 hb hs]
  show IntKind.u32.wrap ((BitVec.ofInt 32 b ||| BitVec.ofInt 32 (2 ^ i * q)).toNat : Int) = IntKind.u32.wrap ((BitVec.ofInt 32 (2 ^ i * q) ||| BitVec.ofInt 32 b).toNat : Int)
  rw [BitVec.or_comm]

theorem or_add_u64 {q b : Int} (hq : 0 ≤ q) (hq1 : q < 4294967296) (hb0 : 0 ≤ b) (hb : b < 4294967296) : bits .or .u64 (q * 4294967296) b = q * 4294967296 + b := by
  obtain ⟨m, rfl⟩ := Int.eq_ofNat_of_zero_le hq
  obtain ⟨r, rfl⟩ := Int.eq_ofNat_of_zero_le hb0
  have hr : r < 2 ^ 32 := by omega
  have h := Nat.two_pow_add_eq_or_of_lt hr m
  have h2 := bits_or_u64_nat (2 ^ 32 * m) r (by omega) (by omega)
  rw [← h] at h2
  have e1 : ((2 ^ 32 * m : Nat) : Int) = (m : Int) * 4294967296 := by omega
  have e2 : ((2 ^ 32 * m + r : Nat) : Int) = (m : Int) * 4294967296 + (r : Int) := by omega
  rw [e1, e2] at h2
  exact h2

set_option maxHeartbeats 400000 in
theorem divSmall_any {b off bx ox n c c' : Nat} {zs xs : List Int} {d : Int} {w : World} (h : Limbs w (some ⟨b, off, none⟩) n c zs) (h' : Limbs w (some ⟨bx, ox, none⟩) n c' xs)
    (hf : (bx = b ∧ ox = off) ∨ bx ≠ b) (hfz : ∀ o, w.frozen? ⟨b, o, none⟩ = false) (hd0 : 0 < d) (hd : d < 4294967296) :
    Calls Tryd.prog 45 #[.slice (some ⟨b, off, none⟩) n c, .slice (some ⟨bx, ox, none⟩) n c', .int .u32 d] w fun e w' => (∃ us R, e = .returned (.int .u32 R) ∧ Limbs w' (some ⟨b, off, none⟩) n c us ∧ pv us n * d + R = pv xs n ∧ 0 ≤ R ∧ R < d) ∧ Wrote b off (off + n) w w' := by
  have hb := h.big
  have hc := h.cap
  have hb' := h'.big
  have hc' := h'.cap
  go_enter Tryd.func45, Tryd.ntmps45
  go_wp2
  go_loopw [7, 8] (fun rm i wr => ∃ (k : Nat) (R : Int) (us : List Int), k ≤ n ∧ i = .int .i64 ((k : Int) - 1) ∧ rm = .int .u64 R ∧ 0 ≤ R ∧ R < d ∧ Limbs wr (some ⟨b, off, none⟩) n c us ∧ Wrote b off (off + n) w wr
      ∧ (∀ i, i < k → wr.cell? ⟨bx, ox + i, none⟩ = some (.int .u32 (xs[i]?.getD 0))) ∧ (pv us n - pv us k) * d + R * Bp k = pv xs n - pv xs k) (fun _ i _ => (intOf i + 1).toNat)
  case atStart =>
    refine ⟨n, 0, _, Nat.le_refl _, rfl, rfl, by omega, hd0, h, Wrote.refl _ _ _ _, fun i hi => ?_, by simp⟩
    obtain ⟨_, _, he, hcell⟩ := h'.at hi
    cases he
    exact hcell i hi
  case round =>
    obtain ⟨k, R, us, hk, rfl, rfl, hR0, hR1, hZ, hW, hxc, hsum⟩ := hrel
    have HS : Hid ((pv us n - pv us k) * d + R * Bp k = pv xs n - pv xs k) := hsum
    clear hsum
    cases k with
    | zero =>
      go_wp2
      go_ret
      exact ⟨⟨_, _, rfl, hZ, by have := HS.out; simp [pv, Bp] at this; exact this, hR0, hR1⟩, hW⟩
    | succ k =>
      have hx := hxc k (by omega)
      have rx := h'.rng k
      obtain ⟨_, _, he, hz⟩ := hZ.at (k := k) (by omega)
      cases he
      have hzj := hz k (by omega)
      have rz := hZ.rng k
      have hfj : wr.frozen? ⟨b, off + k, none⟩ = false := (hW.frz _).trans (hfz _)
      have HX : Hid (∀ i, i < k + 1 → wr.cell? ⟨bx, ox + i, none⟩ = some (.int .u32 (xs[i]?.getD 0))) := hxc
      have hor := or_add_u64 (q := R) (b := xs[k]?.getD 0) hR0 (by omega) rx.1 rx.2
      clear hz hxc
      go_wp2
      go_roundw
      case rel =>
        refine ⟨k, _, _, by omega, by go_num, rfl, Int.emod_nonneg _ (by omega), Int.emod_lt_of_pos _ hd0, hZ.set (by omega) (u32_range _).1 (u32_range _).2, hW.setCell (by omega) (by omega) _, fun i hi => ?_, div_step hZ.len hk hd0 hR0 hR1 rx HS.out⟩
        rw [World.cell?_setCell_other]
        · exact HX.out i (by omega)
        · intro e
          injection e with e1 e2 _
          rcases hf with ⟨_, f2⟩ | f2
          · omega
          · exact f2 e1.symm
      case measure => simp [intOf]

/-- One limb appended where there is room. -/
theorem Limbs.snoc {w : World} {b off n c : Nat} {zs : List Int} (h : Limbs w (some ⟨b, off, none⟩) n c zs) (hc : n < c) {x : Value} (hx : w.cell? ⟨b, off + n, none⟩ = some x) {v : Int} (hv : 0 ≤ v ∧ v < 4294967296) :
    Limbs (w.setCell ⟨b, off + n, none⟩ (.int .u32 v)) (some ⟨b, off, none⟩) (n + 1) c (zs ++ [v]) := by
  have hl := h.len
  refine ⟨by simp [hl], hc, h.big, fun j => ?_, .inr ⟨_, _, rfl, fun j hj => ?_⟩⟩
  · rw [getD_snoc]; split
    · exact hv
    · exact h.rng j
  · rw [getD_snoc]
    by_cases hjn : j = n
    · subst hjn
      rw [if_pos hl.symm]
      exact World.cell?_setCell_same _ _ _ hx
    · rw [if_neg (by omega), World.cell?_setCell_other _ _ _ _ (by intro e; injection e with _ e2 _; omega)]
      obtain ⟨_, _, he, hcell⟩ := h.at (k := j) (by omega)
      cases he
      exact hcell j (by omega)

theorem Limbs.snoc0 {w : World} {b n c : Nat} {zs : List Int} (h : Limbs w (some ⟨b, 0, none⟩) n c zs) (hc : n < c) {x : Value} (hx : w.cell? ⟨b, n, none⟩ = some x) {v : Int} (hv : 0 ≤ v ∧ v < 4294967296) :
    Limbs (w.setCell ⟨b, n, none⟩ (.int .u32 v)) (some ⟨b, 0, none⟩) (n + 1) c (zs ++ [v]) := by
  have := h.snoc hc (x := x) (by rw [Nat.zero_add]; exact hx) hv
  rwa [Nat.zero_add] at this

set_option maxHeartbeats 400000 in
theorem mulAdd_any {b off n c : Nat} {zs : List Int} {m v : Int} {w : World} (h : Limbs w (some ⟨b, off, none⟩) n c zs) (hcap : n < c) (hroom : ∀ j, n ≤ j → j < c → ∃ x, w.cell? ⟨b, off + j, none⟩ = some x)
    (hfz : ∀ o, w.frozen? ⟨b, o, none⟩ = false) (hm0 : 0 ≤ m) (hm : m < 4294967296) (hv0 : 0 ≤ v) (hv : v < 4294967296) :
    Calls Tryd.prog 43 #[.slice (some ⟨b, off, none⟩) n c, .int .u32 m, .int .u32 v] w fun e w' => (∃ us n', e = .returned (.slice (some ⟨b, off, none⟩) n' c) ∧ Limbs w' (some ⟨b, off, none⟩) n' c us ∧ n' ≤ n + 1 ∧ pv us n' = pv zs n * m + v ∧ (∀ j, n' ≤ j → j < c → ∃ x, w'.cell? ⟨b, off + j, none⟩ = some x) ∧ (∀ o, w'.frozen? ⟨b, o, none⟩ = false)) ∧ Below b w w' := by
  have hb := h.big
  have hc := h.cap
  go_enter Tryd.func43, Tryd.ntmps43
  go_wp2
  go_loopw [7, 15] (fun cy i wr => ∃ (j : Nat) (C : Int) (us : List Int), j ≤ n ∧ i = .int .i64 j ∧ cy = .int .u64 C ∧ 0 ≤ C ∧ C < 4294967296 ∧ Limbs wr (some ⟨b, off, none⟩) n c us ∧ Wrote b off (off + n) w wr
      ∧ (∀ i, j ≤ i → us[i]?.getD 0 = zs[i]?.getD 0) ∧ pv us j + C * Bp j = pv zs j * m + v) (fun _ i _ => n - (intOf i).toNat)
  case atStart => exact ⟨0, v, _, Nat.zero_le _, rfl, rfl, hv0, hv, h, Wrote.refl _ _ _ _, fun _ _ => rfl, by simp [pv, Bp]⟩
  case round =>
    obtain ⟨j, C, us, hj, rfl, rfl, hC0, hC1, hZ, hW, hhi, hsum⟩ := hrel
    have HS : Hid (pv us j + C * Bp j = pv zs j * m + v) := hsum
    have HH : Hid (∀ i, j ≤ i → us[i]?.getD 0 = zs[i]?.getD 0) := hhi
    clear hsum hhi
    by_cases hlt : j < n
    · obtain ⟨_, _, he, hz⟩ := hZ.at hlt
      cases he
      have hzj := hz j hlt
      have rz := hZ.rng j
      have hfj : wr.frozen? ⟨b, off + j, none⟩ = false := (hW.frz _).trans (hfz _)
      have hp0 : 0 ≤ us[j]?.getD 0 * m := Int.mul_nonneg rz.1 hm0
      have hp1 : us[j]?.getD 0 * m ≤ 4294967295 * 4294967295 := Int.mul_le_mul (by omega) (by omega) (by omega) (by omega)
      simp only [Int.reduceMul] at hp1
      clear hz
      go_wp2
      go_roundw
      case rel => exact ⟨j + 1, _, _, by omega, by go_num, rfl, by omega, by omega, hZ.set (by omega) (u32_range _).1 (u32_range _).2, hW.setCell (by omega) (by omega) _, fun i hi => by rw [getD_set _ (by rw [hZ.len]; omega), if_neg (by omega)]; exact HH.out i (by omega), mul_step (by rw [hZ.len]; omega) (HH.out j (Nat.le_refl _)) HS.out⟩
      case measure => simp [intOf]; omega
    · have hjn : j = n := by omega
      subst hjn
      by_cases hC : C = 0
      · have HC : Hid (C = 0) := hC
        have hC' : (C != 0) = false := by simp [hC]
        clear hC
        go_wp2
        go_ret
        exact ⟨⟨us, _, rfl, hZ, by omega, by have := HS.out; rw [HC.out] at this; simpa using this, fun i h1 h2 => by rw [hW.cell _ (by omega)]; exact hroom i h1 h2, fun o => (hW.frz _).trans (hfz _)⟩, hW.below (Nat.le_refl _)⟩
      · obtain ⟨x, hx⟩ := hroom j (Nat.le_refl _) hcap
        have hx1 : wr.cell? ⟨b, off + j, none⟩ = some x := by rw [hW.cell _ (by omega)]; exact hx
        have hx2 : (wr.alloc (.cells #[.int .u32 C] 61)).cell? ⟨b, off + j, none⟩ = some x := cell_later (one_alloc _ _) hx1
        have hlt : b < wr.heap.size := World.block_lt_of_cell? _ _ hx1
        have hfj : wr.frozen? ⟨b, off + j, none⟩ = false := (hW.frz _).trans (hfz _)
        have hA := hZ.snoc hcap hx1 (v := C) ⟨hC0, hC1⟩
        have hB : Below b w ((wr.setCell ⟨b, off + j, none⟩ (.int .u32 C)).alloc (.cells #[.int .u32 C] 61)) := ((hW.below (Nat.le_refl _)).setCell (Nat.le_refl _) _).alloc (by have := hW.size; simp; omega) _
        go_wp2
        go_ret
        refine ⟨⟨us ++ [C], _, rfl, hA.below (one_alloc _ _), by omega, by rw [pv_snoc hZ.len]; exact HS.out, fun i h1 h2 => ?_, fun o => ?_⟩, hB⟩
        · obtain ⟨y, hy⟩ := hroom i (by omega) h2
          refine ⟨y, cell_later (one_alloc _ _) ?_⟩
          rw [World.cell?_setCell_other _ _ _ _ (by intro e; injection e with _ e2 _; omega), hW.cell _ (by omega)]
          exact hy
        · rw [World.frozen?_alloc_old _ _ _ (by simp; omega), World.frozen?_setCell]
          exact (hW.frz _).trans (hfz _)
theorem two_pows (s : Nat) (hs : s < 32) : (2 : Int) ^ s * 2 ^ (32 - s) = 4294967296 ∧ 0 < (2 : Int) ^ s ∧ 0 < (2 : Int) ^ (32 - s) := by
  refine ⟨?_, Int.pow_pos (by omega), Int.pow_pos (by omega)⟩
  rw [← Int.pow_add, show s + (32 - s) = 32 by omega]
  decide

set_option maxHeartbeats 400000 in
theorem shlInto_any {a' : Option Addr} {b off n c c' s : Nat} {zs xs : List Int} {w : World} (h : Limbs w (some ⟨b, off, none⟩) n c zs) (h' : Limbs w a' n c' xs)
    (hf : ∀ x, a' = some x → x.block ≠ b) (hfz : ∀ o, w.frozen? ⟨b, o, none⟩ = false) (hs : s < 32) :
    Calls Tryd.prog 49 #[.slice (some ⟨b, off, none⟩) n c, .slice a' n c', .int .u64 (s : Int)] w fun e w' => (∃ us C, e = .returned (.int .u32 C) ∧ Limbs w' (some ⟨b, off, none⟩) n c us ∧ pv us n + C * Bp n = 2 ^ s * pv xs n ∧ 0 ≤ C ∧ C < 2 ^ s) ∧ Wrote b off (off + n) w w' := by
  have hb := h.big
  have hc := h.cap
  have hb' := h'.big
  have hc' := h'.cap
  obtain ⟨hmd, hm, hd⟩ := two_pows s hs
  have HM : Hid ((2 : Int) ^ s * 2 ^ (32 - s) = 4294967296) := hmd
  have hm32 : (2 : Int) ^ s ≤ 4294967296 := by
    rw [← hmd]
    have : (2 : Int) ^ s * 1 ≤ 2 ^ s * 2 ^ (32 - s) := Int.mul_le_mul_of_nonneg_left (by omega) (by omega)
    omega
  clear hmd
  go_enter Tryd.func49, Tryd.ntmps49
  go_wp2
  go_loopw [7, 12] (fun cy i wr => ∃ (j : Nat) (C : Int) (us : List Int), j ≤ n ∧ i = .int .i64 j ∧ cy = .int .u32 C ∧ 0 ≤ C ∧ C < 2 ^ s ∧ Limbs wr (some ⟨b, off, none⟩) n c us ∧ Wrote b off (off + n) w wr
      ∧ pv us j + C * Bp j = 2 ^ s * pv xs j) (fun _ i _ => n - (intOf i).toNat)
  case atStart => exact ⟨0, 0, _, Nat.zero_le _, rfl, rfl, by omega, hm, h, Wrote.refl _ _ _ _, by simp [pv]⟩
  case round =>
    obtain ⟨j, C, us, hj, rfl, rfl, hC0, hC2, hZ, hW, hsum⟩ := hrel
    have HS : Hid (pv us j + C * Bp j = 2 ^ s * pv xs j) := hsum
    clear hsum
    by_cases hlt : j < n
    · have hY := h'.far hW hf
      obtain ⟨b1, o1, rfl, hc1⟩ := hY.at hlt
      have hy := hc1 j hlt
      have ry := hY.rng j
      obtain ⟨_, _, he, hz⟩ := hZ.at (k := j) (by omega)
      cases he
      have hzj := hz j (by omega)
      have rz := hZ.rng j
      have hfj : wr.frozen? ⟨b, off + j, none⟩ = false := (hW.frz _).trans (hfz _)
      clear hz hc1
      have hlimb := shl_limb (x := xs[j]?.getD 0) hm hd HM.out
      have hr0 := Int.emod_nonneg (xs[j]?.getD 0) (b := (2 : Int) ^ (32 - s)) (by omega)
      have hr1 := Int.emod_lt_of_pos (xs[j]?.getD 0) hd
      have hL1 : 2 ^ s * (xs[j]?.getD 0 % 2 ^ (32 - s)) + C < 4294967296 := by
        rw [← HM.out]
        have : (2 : Int) ^ s * (xs[j]?.getD 0 % 2 ^ (32 - s) + 1) ≤ 2 ^ s * 2 ^ (32 - s) := Int.mul_le_mul_of_nonneg_left (by omega) (by omega)
        rw [Int.mul_add] at this
        omega
      have hL0 : 0 ≤ 2 ^ s * (xs[j]?.getD 0 % 2 ^ (32 - s)) := Int.mul_nonneg (by omega) hr0
      have hor := or_add_u32 (i := s) hr0 hC0 hC2 hL1
      have hst := shl_step hm hd HM.out (show j < us.length by rw [hZ.len]; exact hlt) ry HS.out rfl
      have HST : Hid (pv (us.set j (2 ^ s * (xs[j]?.getD 0 % 2 ^ (32 - s)) + C)) (j + 1) + xs[j]?.getD 0 / 2 ^ (32 - s) % 4294967296 * Bp (j + 1) = 2 ^ s * pv xs (j + 1)) := hst.1
      obtain ⟨_, hq0, hq1⟩ := hst
      have HLM : Hid (xs[j]?.getD 0 * 2 ^ s % 4294967296 = 2 ^ s * (xs[j]?.getD 0 % 2 ^ (32 - s))) := hlimb
      have HOR : Hid (bits BinOp.or IntKind.u32 (xs[j]?.getD 0 * 2 ^ s % 4294967296) C = 2 ^ s * (xs[j]?.getD 0 % 2 ^ (32 - s)) + C) := by
        show _ = _
        rw [hlimb, hor]
      have hset := hZ.set (k := j) hlt (v := 2 ^ s * (xs[j]?.getD 0 % 2 ^ (32 - s)) + C) (by omega) hL1
      clear hlimb hor
      go_wp2
      go_roundw
      case rel =>
        refine ⟨j + 1, _, _, by omega, by go_num, rfl, hq0, hq1, ?_, hW.setCell (by omega) (by omega) _, HST.out⟩
        rw [HOR.out]
        exact hset
      case measure => simp [intOf]; omega
    · have hjn : j = n := by omega
      subst hjn
      go_wp2
      go_ret
      exact ⟨⟨_, _, rfl, hZ, HS.out, hC0, hC2⟩, hW⟩

set_option maxHeartbeats 400000 in
theorem shrInto_any {b off n c s : Nat} {xs : List Int} {w : World} (h : Limbs w (some ⟨b, off, none⟩) n c xs)
    (hfz : ∀ o, w.frozen? ⟨b, o, none⟩ = false) (hs : s < 32) :
    Calls Tryd.prog 52 #[.slice (some ⟨b, off, none⟩) n c, .slice (some ⟨b, off, none⟩) n c, .int .u64 (s : Int)] w fun e w' => (e = .returned (.tuple #[]) ∧ ∃ us, Limbs w' (some ⟨b, off, none⟩) n c us ∧ Shr us xs (2 ^ s) (2 ^ (32 - s)) n 0) ∧ Wrote b off (off + n) w w' := by
  have hb := h.big
  have hc := h.cap
  obtain ⟨hmd, hm, hd⟩ := two_pows s hs
  have HM : Hid ((2 : Int) ^ s * 2 ^ (32 - s) = 4294967296) := hmd
  clear hmd
  go_enter Tryd.func52, Tryd.ntmps52
  go_wp2
  go_loopw [6, 7] (fun cy i wr => ∃ (k : Nat) (C : Int) (us : List Int), k ≤ n ∧ i = .int .i64 ((k : Int) - 1) ∧ cy = .int .u32 C ∧ C = 2 ^ (32 - s) * (nxt xs n k % 2 ^ s) ∧ Limbs wr (some ⟨b, off, none⟩) n c us ∧ Wrote b off (off + n) w wr
      ∧ (∀ i, i < k → us[i]?.getD 0 = xs[i]?.getD 0) ∧ Shr us xs (2 ^ s) (2 ^ (32 - s)) n k) (fun _ i _ => (intOf i + 1).toNat)
  case atStart => exact ⟨n, 0, _, Nat.le_refl _, rfl, rfl, by rw [nxt_end]; simp, h, Wrote.refl _ _ _ _, fun _ _ => rfl, fun i h1 h2 => by omega⟩
  case round =>
    obtain ⟨k, C, us, hk, rfl, rfl, hC, hZ, hW, hlo, hshr⟩ := hrel
    have HC : Hid (C = 2 ^ (32 - s) * (nxt xs n k % 2 ^ s)) := hC
    have HS : Hid (Shr us xs (2 ^ s) (2 ^ (32 - s)) n k) := hshr
    have HL : Hid (∀ i, i < k → us[i]?.getD 0 = xs[i]?.getD 0) := hlo
    clear hshr hlo hC
    cases k with
    | zero =>
      go_wp2
      go_end0
      exact ⟨⟨rfl, us, hZ, HS.out⟩, hW⟩
    | succ k =>
      obtain ⟨_, _, he, hz⟩ := hZ.at (k := k) (by omega)
      cases he
      have hzj := hz k (by omega)
      have rz := hZ.rng k
      have hfj : wr.frozen? ⟨b, off + k, none⟩ = false := (hW.frz _).trans (hfz _)
      clear hz
      have hus : us[k]?.getD 0 = xs[k]?.getD 0 := HL.out k (by omega)
      have HU : Hid (us[k]?.getD 0 = xs[k]?.getD 0) := hus
      have hb0 : 0 ≤ us[k]?.getD 0 / 2 ^ s := Int.ediv_nonneg rz.1 (by omega)
      have hb1 : us[k]?.getD 0 / 2 ^ s < 2 ^ (32 - s) := Int.ediv_lt_of_lt_mul hm (by rw [Int.mul_comm, HM.out]; exact rz.2)
      have hq0 := Int.emod_nonneg (nxt xs n (k + 1)) (b := (2 : Int) ^ s) (by omega)
      have hq1 := Int.emod_lt_of_pos (nxt xs n (k + 1)) hm
      have hL1 : 2 ^ (32 - s) * (nxt xs n (k + 1) % 2 ^ s) + us[k]?.getD 0 / 2 ^ s < 4294967296 := by
        rw [← HM.out, Int.mul_comm (2 ^ s)]
        have : (2 : Int) ^ (32 - s) * (nxt xs n (k + 1) % 2 ^ s + 1) ≤ 2 ^ (32 - s) * 2 ^ s := Int.mul_le_mul_of_nonneg_left (by omega) (by omega)
        rw [Int.mul_add] at this
        omega
      have hL0 : 0 ≤ 2 ^ (32 - s) * (nxt xs n (k + 1) % 2 ^ s) := Int.mul_nonneg (by omega) hq0
      have HOR : Hid (bits BinOp.or IntKind.u32 (us[k]?.getD 0 / 2 ^ s) C = us[k]?.getD 0 / 2 ^ s + 2 ^ (32 - s) * (nxt xs n (k + 1) % 2 ^ s)) := by
        show _ = _
        rw [HC.out]
        exact or_add_u32' hq0 hb0 hb1 hL1
      have HCN : Hid (IntKind.u64.wrap (us[k]?.getD 0 * 2 ^ (32 - s)) % 4294967296 = 2 ^ (32 - s) * (nxt xs n k % 2 ^ s)) := by
        show _ = _
        rw [IntKind.wrap_u64, Int.emod_emod_of_dvd _ (by decide), nxt_lt (by omega), ← hus]
        exact shl_limb hd hm (by rw [Int.mul_comm]; exact HM.out)
      have hset := hZ.set (k := k) (by omega) (v := us[k]?.getD 0 / 2 ^ s + 2 ^ (32 - s) * (nxt xs n (k + 1) % 2 ^ s)) (by omega) (by omega)
      clear hus
      go_wp2
      go_roundw
      case rel =>
        refine ⟨k, _, us.set k (us[k]?.getD 0 / 2 ^ s + 2 ^ (32 - s) * (nxt xs n (k + 1) % 2 ^ s)), by omega, by go_num, rfl, HCN.out, by rw [HOR.out]; exact hset, hW.setCell (by omega) (by omega) _, fun i hi => ?_, fun i h1 h2 => ?_⟩
        · rw [getD_set _ (by rw [hZ.len]; omega), if_neg (by omega)]
          exact HL.out i (by omega)
        · rw [getD_set _ (by rw [hZ.len]; omega)]
          by_cases hik : i = k
          · subst hik
            rw [if_pos rfl, HU.out]
          · rw [if_neg hik]
            exact HS.out i (by omega) h2
      case measure => simp [intOf]
end Go.Proofs.Qxb6500872aDoor
