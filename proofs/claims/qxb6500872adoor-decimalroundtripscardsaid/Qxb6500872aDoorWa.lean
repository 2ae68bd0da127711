import Derived.Test.Qxb6500872aDoorBase
namespace Go.Proofs.Qxb6500872aDoor
open Go.RowKit

set_option maxHeartbeats 400000 in
theorem isReg_any (i : Int) (w : World) :
    Calls Tryd.prog 31 #[.int .i64 i] w fun e w' => e = .returned (.bool (decide (0 ≤ i ∧ i < 8))) ∧ w' = w := by
  by_cases h0 : 0 ≤ i
  · go_enter Tryd.func31, Tryd.ntmps31
    go_wp2
    go_ret
    exact ⟨ret_bool (by simp [h0]), rfl⟩
  · go_enter Tryd.func31, Tryd.ntmps31
    go_wp2
    go_ret
    exact ⟨ret_bool (by simp; omega), rfl⟩

set_option maxHeartbeats 400000 in
theorem norm_any {a : Option Addr} {n c : Nat} {zs : List Int} {w : World} (h : Limbs w a n c zs) :
    Calls Tryd.prog 32 #[.slice a n c] w fun e w' => e = .returned (.slice a (nl zs n) (nl zs n)) ∧ w' = w := by
  have hb := h.big
  have hc := h.cap
  go_enter Tryd.func32, Tryd.ntmps32
  go_wp2
  go_loop [3] (fun i => ∃ k : Nat, k ≤ n ∧ i = .int .i64 k ∧ nl zs k = nl zs n) (fun i => (intOf i).toNat)
  case atStart => exact ⟨n, Nat.le_refl _, rfl, rfl⟩
  case round =>
    obtain ⟨k, hk, rfl, hnl⟩ := hrel
    cases k with
    | zero =>
      have HN : Hid (nl zs 0 = nl zs n) := hnl
      clear hnl
      go_wp2
      go_ret
      exact ⟨by rw [← HN.out]; rfl, rfl⟩
    | succ k =>
      obtain ⟨b, off, rfl, hcell⟩ := h.at (k := k) (by omega)
      have h1 := hcell k (by omega)
      have HN : Hid (nl zs (k+1) = nl zs n) := hnl
      clear hnl
      by_cases hz : zs[k]?.getD 0 = 0
      · go_wp2
        go_round
        case rel => exact ⟨k, by omega, by go_num, by rw [← HN.out, nl_zero hz]⟩
        case measure => simp [intOf]
      · go_wp2
        go_ret
        exact ⟨by rw [← HN.out, nl_pos hz]; rfl, rfl⟩

set_option maxHeartbeats 400000 in
theorem nlen_any {a : Option Addr} {n c : Nat} {zs : List Int} {w : World} (h : Limbs w a n c zs) :
    Calls Tryd.prog 13 #[.slice a n c] w fun e w' => e = .returned (.int .i64 (nl zs n)) ∧ w' = w := by
  go_enter Tryd.func13, Tryd.ntmps13
  go_wp2_with (go_at_call 32; refine (norm_any h).mono ?_; rintro e w' ⟨rfl, rfl⟩)
  go_ret
  exact ⟨rfl, rfl⟩

set_option maxHeartbeats 400000 in
theorem isZero_any {a : Option Addr} {n c : Nat} {zs : List Int} {w : World} (h : Limbs w a n c zs) :
    Calls Tryd.prog 44 #[.slice a n c] w fun e w' => e = .returned (.bool (decide (nl zs n = 0))) ∧ w' = w := by
  go_enter Tryd.func44, Tryd.ntmps44
  go_wp2_with (go_at_call 32; refine (norm_any h).mono ?_; rintro e w' ⟨rfl, rfl⟩)
  go_ret
  exact ⟨ret_bool (by rw [Bool.eq_iff_iff]; simp), rfl⟩

def sgn (m : Bool) (zs : List Int) : Int := if nl zs zs.length = 0 then 0 else if m then -1 else 1

set_option maxHeartbeats 400000 in
theorem sign_any {m : Bool} {a : Option Addr} {n c : Nat} {zs : List Int} {w : World} (h : Limbs w a n c zs) :
    Calls Tryd.prog 29 #[.agg #[.bool m, .slice a n c]] w fun e w' => e = .returned (.int .i64 (sgn m zs)) ∧ Below w.heap.size w w' := by
  go_enter Tryd.func29, Tryd.ntmps29
  go_wp2_with (go_at_call 44; refine (isZero_any (h.below ((Below.refl _ _).alloc (Nat.le_refl _) _))).mono ?_; rintro e w' ⟨rfl, rfl⟩)
  · go_ret
    exact ⟨ret_int (by have e := h.len; subst e; simp [sgn, *]), (Below.refl _ _).alloc (Nat.le_refl _) _⟩
  · go_ret
    exact ⟨ret_int (by have e := h.len; subst e; simp [sgn, *]), (Below.refl _ _).alloc (Nat.le_refl _) _⟩
  · go_ret
    exact ⟨ret_int (by have e := h.len; subst e; simp [sgn, *]), (Below.refl _ _).alloc (Nat.le_refl _) _⟩

set_option maxHeartbeats 400000 in
theorem makeInt_any {m : Bool} {a : Option Addr} {n c : Nat} {zs : List Int} {w : World} (h : Limbs w a n c zs) :
    Calls Tryd.prog 28 #[.bool m, .slice a n c] w fun e w' => e = .returned (.agg #[.bool (m && decide (0 < nl zs n)), .slice a (nl zs n) (nl zs n)]) ∧ Below w.heap.size w w' := by
  cases m
  · go_enter Tryd.func28, Tryd.ntmps28
    go_wp2_with (go_at_call 32; refine (norm_any (h.below ((Below.refl _ _).alloc (Nat.le_refl _) _))).mono ?_; rintro e w' ⟨rfl, rfl⟩)
    exact bodyPost_ret (v := .agg #[.bool false, .slice a (nl zs n) (nl zs n)]) (by simp [results, Tryd.results28, go_sem]) rfl ⟨by simp, ((Below.refl _ _).alloc (Nat.le_refl _) _)⟩
  · go_enter Tryd.func28, Tryd.ntmps28
    go_wp2_with (go_at_call 32; refine (norm_any (h.below ((Below.refl _ _).alloc (Nat.le_refl _) _))).mono ?_; rintro e w' ⟨rfl, rfl⟩)
    exact bodyPost_ret (v := .agg #[.bool (decide (0 < nl zs n)), .slice a (nl zs n) (nl zs n)]) (by simp [results, Tryd.results28, go_sem]) rfl ⟨by simp, ((Below.refl _ _).alloc (Nat.le_refl _) _)⟩

set_option maxHeartbeats 400000 in
theorem ilen_any {m : Bool} {a : Option Addr} {n c : Nat} {zs : List Int} {w : World} (h : Limbs w a n c zs) :
    Calls Tryd.prog 15 #[.agg #[.bool m, .slice a n c]] w fun e w' => e = .returned (.int .i64 (nl zs n)) ∧ Below w.heap.size w w' := by
  go_enter Tryd.func15, Tryd.ntmps15
  go_wp2_with (go_at_call 13; refine (nlen_any (h.below ((Below.refl _ _).alloc (Nat.le_refl _) _))).mono ?_; rintro e w' ⟨rfl, rfl⟩)
  go_ret
  exact ⟨rfl, (Below.refl _ _).alloc (Nat.le_refl _) _⟩


set_option maxHeartbeats 400000 in
theorem inorm_any {m : Bool} {a : Option Addr} {n c : Nat} {zs : List Int} {w : World} (h : Limbs w a n c zs) :
    Calls Tryd.prog 9 #[.agg #[.bool m, .slice a n c]] w fun e w' => e = .returned (.agg #[.bool (m && decide (0 < nl zs n)), .slice a (nl zs n) (nl zs n)]) ∧ Below w.heap.size w w' := by
  go_enter Tryd.func9, Tryd.ntmps9
  go_wp2_with (go_at_call 28; refine (makeInt_any (h.below (two_alloc _ _ _))).mono ?_; rintro e w1 ⟨rfl, hb⟩; obtain ⟨c0, c1, f0, f1⟩ := kept2 hb (b := w.heap.size + 1) (v0 := .bool false) (v1 := .slice none 0 0) (by simp) (by simp) (by simp) (by simp))
  exact bodyPost_ret (v := .agg #[.bool (m && decide (0 < nl zs n)), .slice a (nl zs n) (nl zs n)]) (by simp [results, Tryd.results9, go_sem, c0, c1]) rfl ⟨rfl, ((after2 hb).setCell (by simp) _).setCell (by simp) _⟩

set_option maxHeartbeats 400000 in
theorem neg_any {m : Bool} {a : Option Addr} {n c : Nat} {zs : List Int} {w : World} (h : Limbs w a n c zs) :
    Calls Tryd.prog 21 #[.agg #[.bool m, .slice a n c]] w fun e w' => e = .returned (.agg #[.bool (!m && decide (0 < nl zs n)), .slice a (nl zs n) (nl zs n)]) ∧ Below w.heap.size w w' := by
  go_enter Tryd.func21, Tryd.ntmps21
  go_wp2_with (go_at_call 28; refine (makeInt_any (h.below (two_alloc _ _ _))).mono ?_; rintro e w1 ⟨rfl, hb⟩; obtain ⟨c0, c1, f0, f1⟩ := kept2 hb (b := w.heap.size + 1) (v0 := .bool false) (v1 := .slice none 0 0) (by simp) (by simp) (by simp) (by simp))
  exact bodyPost_ret (v := .agg #[.bool (!m && decide (0 < nl zs n)), .slice a (nl zs n) (nl zs n)]) (by simp [results, Tryd.results21, go_sem, c0, c1]) rfl ⟨rfl, ((after2 hb).setCell (by simp) _).setCell (by simp) _⟩

set_option maxHeartbeats 400000 in
theorem abs_any {m : Bool} {a : Option Addr} {n c : Nat} {zs : List Int} {w : World} (h : Limbs w a n c zs) :
    Calls Tryd.prog 22 #[.agg #[.bool m, .slice a n c]] w fun e w' => e = .returned (.agg #[.bool false, .slice a (nl zs n) (nl zs n)]) ∧ Below w.heap.size w w' := by
  go_enter Tryd.func22, Tryd.ntmps22
  go_wp2_with (go_at_call 28; refine (makeInt_any (m := false) (h.below (two_alloc _ _ _))).mono ?_; rintro e w1 ⟨rfl, hb⟩; obtain ⟨c0, c1, f0, f1⟩ := kept2 hb (b := w.heap.size + 1) (v0 := .bool false) (v1 := .slice none 0 0) (by simp) (by simp) (by simp) (by simp))
  exact bodyPost_ret (v := .agg #[.bool false, .slice a (nl zs n) (nl zs n)]) (by simp [results, Tryd.results22, go_sem, c0, c1]) rfl ⟨rfl, ((after2 hb).setCell (by simp) _).setCell (by simp) _⟩

set_option maxHeartbeats 400000 in
theorem normal_any {m : Bool} {a : Option Addr} {n c : Nat} {zs : List Int} {w : World} (h : Limbs w a n c zs) :
    Calls Tryd.prog 10 #[.agg #[.bool m, .slice a n c]] w fun e w' => e = .returned (.bool (if n = 0 then !m else decide (zs[n-1]?.getD 0 ≠ 0))) ∧ Below w.heap.size w w' := by
  have hbig := h.big
  have hcap := h.cap
  by_cases h0 : n = 0
  · subst h0
    go_enter Tryd.func10, Tryd.ntmps10
    go_wp2
    go_ret
    exact ⟨rfl, (Below.refl _ _).alloc (Nat.le_refl _) _⟩
  · obtain ⟨b, off, rfl, hcell⟩ := h.at (k := n - 1) (by omega)
    have h1 : (w.alloc (.cells #[.bool m, .slice (some ⟨b, off, none⟩) n c] 28)).cell? ⟨b, off + (n - 1), none⟩ = some (.int .u32 (zs[n-1]?.getD 0)) := cell_later ((Below.refl _ _).alloc (Nat.le_refl _) _) (hcell (n-1) (by omega))
    go_enter Tryd.func10, Tryd.ntmps10
    go_wp2
    go_ret
    exact ⟨ret_bool (by rw [Bool.eq_iff_iff]; simp), (Below.refl _ _).alloc (Nat.le_refl _) _⟩
end Go.Proofs.Qxb6500872aDoor
