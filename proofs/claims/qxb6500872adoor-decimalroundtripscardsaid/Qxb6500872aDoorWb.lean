import Derived.Test.Qxb6500872aDoorWa
namespace Go.Proofs.Qxb6500872aDoor
open Go.RowKit

theorem ncmp_lt {xs ys : List Int} {n n' : Nat} (h : xs.length = n) (h' : ys.length = n') (hl : nl xs n < nl ys n') : ncmp xs ys = -1 := by
  subst h; subst h'; unfold ncmp; rw [if_neg (by omega), if_pos hl]
theorem ncmp_gt {xs ys : List Int} {n n' : Nat} (h : xs.length = n) (h' : ys.length = n') (hl : nl ys n' < nl xs n) : ncmp xs ys = 1 := by
  subst h; subst h'; unfold ncmp; rw [if_neg (by omega), if_neg (by omega)]
theorem ncmp_eq {xs ys : List Int} {n n' : Nat} (h : xs.length = n) (h' : ys.length = n') (hl : nl xs n = nl ys n') : ncmp xs ys = cmpFrom xs ys (nl xs n) := by
  subst h; subst h'; unfold ncmp; rw [if_pos hl]

set_option maxHeartbeats 400000 in
theorem cmp_any {a a' : Option Addr} {n c n' c' : Nat} {xs ys : List Int} {w : World} (h : Limbs w a n c xs) (h' : Limbs w a' n' c' ys) :
    Calls Tryd.prog 39 #[.slice a n c, .slice a' n' c'] w fun e w' => e = .returned (.int .i64 (ncmp xs ys)) ∧ ∃ m, w' = w.drewN m := by
  have hb := h.big
  have hc := h.cap
  have hb' := h'.big
  have hc' := h'.cap
  have hnl := nl_le xs n
  have hnl' := nl_le ys n'
  have hN := h.norm
  have hN' := h'.norm
  go_enter Tryd.func39, Tryd.ntmps39
  go_wp2_with (first | (go_at_call_of 32 (Value.slice a n c); refine (norm_any h).mono ?_; rintro e w ⟨rfl, rfl⟩) | (go_at_call_of 32 (Value.slice a' n' c'); refine (norm_any h').mono ?_; rintro e w ⟨rfl, rfl⟩))
  · have hl : nl xs n < nl ys n' := by omega
    go_ret
    exact ⟨ret_int (ncmp_lt h.len h'.len hl).symm, 0, rfl⟩
  · have hq : (((nl xs n : Nat) : Int) != ((nl ys n' : Nat) : Int)) = true := by assumption
    simp at hq
    have hl : nl ys n' < nl xs n := by omega
    go_ret
    exact ⟨ret_int (ncmp_gt h.len h'.len hl).symm, 0, rfl⟩
  · have HQ : Hid (nl xs n = nl ys n') := by
      have hq : (((nl xs n : Nat) : Int) != ((nl ys n' : Nat) : Int)) = false := by assumption
      simp at hq
      show nl xs n = nl ys n'
      omega
    go_loopw [5] (fun i wr => ∃ k : Nat, k ≤ nl xs n ∧ i = .int .i64 ((k : Int) - 1) ∧ cmpFrom xs ys k = cmpFrom xs ys (nl xs n) ∧ ∃ m, wr = w.drewN m) (fun i _ => (intOf i + 1).toNat)
    case atStart => exact ⟨nl xs n, Nat.le_refl _, rfl, rfl, 0, rfl⟩
    case round =>
      obtain ⟨k, hk, rfl, hcm, m, rfl⟩ := hrel
      have HC : Hid (cmpFrom xs ys k = cmpFrom xs ys (nl xs n)) := hcm
      clear hcm
      cases k with
      | zero =>
        go_wp2
        go_ret
        exact ⟨ret_int (by rw [ncmp_eq h.len h'.len HQ.out, ← HC.out]; rfl), m, rfl⟩
      | succ k =>
        obtain ⟨b, off, rfl, hcell⟩ := h.at (k := k) (by omega)
        obtain ⟨b', off', rfl, hcell'⟩ := h'.at (k := k) (by have := HQ.out; omega)
        have hk2 : k < nl ys n' := by have := HQ.out; omega
        have h1 := hcell k (by omega)
        have h2 := hcell' k (by omega)
        by_cases hz : xs[k]?.getD 0 = ys[k]?.getD 0
        · go_wp2
          go_quiet (fail)
          go_wp2
          go_roundw
          case rel => exact ⟨k, by omega, by go_num, by rw [← HC.out, cmpFrom_eq hz], _, rfl⟩
          case measure => simp [intOf]
        · go_wp2
          go_quiet (fail)
          go_wp2
          by_cases hlt : xs[k]?.getD 0 < ys[k]?.getD 0
          · go_quiet (fail)
            go_wp2
            go_ret
            exact ⟨ret_int (by rw [ncmp_eq h.len h'.len HQ.out, ← HC.out]; simp [cmpFrom, hz, hlt]), _, by first | rfl | (simp only [World.drewN_drewN]; rfl)⟩
          · go_quiet (fail)
            go_wp2
            go_ret
            exact ⟨ret_int (by rw [ncmp_eq h.len h'.len HQ.out, ← HC.out]; simp [cmpFrom, hz, hlt]), _, by first | rfl | (simp only [World.drewN_drewN]; rfl)⟩

theorem below_drewN {B : Nat} {a w : World} (h : Below B a w) (n : Nat) : Below B a (w.drewN n) := h.trans ⟨rfl, rfl, rfl, Nat.le_refl _, fun _ _ => rfl⟩
theorem Limbs.drewN {w : World} {a : Option Addr} {n c : Nat} {zs : List Int} (h : Limbs w a n c zs) (m : Nat) : Limbs (w.drewN m) a n c zs := ⟨h.len, h.cap, h.big, h.rng, h.mem⟩
theorem Limbs.drew {w : World} {a : Option Addr} {n c : Nat} {zs : List Int} (h : Limbs w a n c zs) : Limbs w.drew a n c zs := ⟨h.len, h.cap, h.big, h.rng, h.mem⟩

set_option maxHeartbeats 400000 in
theorem icmp_any {m m' : Bool} {a a' : Option Addr} {n c n' c' : Nat} {xs ys : List Int} {w : World} (h : Limbs w a n c xs) (h' : Limbs w a' n' c' ys) :
    Calls Tryd.prog 23 #[.agg #[.bool m, .slice a n c], .agg #[.bool m', .slice a' n' c']] w fun e w' => (∃ z : Int, e = .returned (.int .i64 z)) ∧ Below w.heap.size w w' := by
  have H := h.below (two_alloc w (.cells #[.bool m, .slice a n c] 28) (.cells #[.bool m', .slice a' n' c'] 28))
  have H' := h'.below (two_alloc w (.cells #[.bool m, .slice a n c] 28) (.cells #[.bool m', .slice a' n' c'] 28))
  go_enter Tryd.func23, Tryd.ntmps23
  go_wp2
  go_region_held3 (fun w' => w'.cell? ⟨w.heap.size, 0, none⟩ = some (.bool m) ∧ w'.cell? ⟨w.heap.size, 1, none⟩ = some (.slice a n c) ∧ w'.cell? ⟨w.heap.size + 1, 0, none⟩ = some (.bool m') ∧ w'.cell? ⟨w.heap.size + 1, 1, none⟩ = some (.slice a' n' c'))
    (first | go_keep | exact ⟨cell_later ‹Below _ _ _› (by simp [*]), cell_later ‹Below _ _ _› (by simp [*]), cell_later ‹Below _ _ _› (by simp [*]), cell_later ‹Below _ _ _› (by simp [*])⟩)
    (first
      | (go_at_call_of 29 (Value.bool m); refine (sign_any (H.drew)).mono ?_; rintro e w1 ⟨rfl, hb1⟩)
      | (go_at_call_of 29 (Value.bool m'); refine (sign_any (H'.drew.below hb1)).mono ?_; rintro e w2 ⟨rfl, hb2⟩))
  have L := H.drew.below hb1 |>.below hb2
  have L' := H'.drew.below hb1 |>.below hb2
  have hB : Below w.heap.size w w2 := ((two_alloc w _ _).drew.trans (hb1.mono (by simp; omega))).trans (hb2.mono (by have := hb1.size; simp at this; omega))
  clear hb1 hb2 H H' h h'
  go_wp2_with fail
  · go_ret
    exact ⟨⟨_, rfl⟩, hB⟩
  · go_ret
    exact ⟨⟨_, rfl⟩, hB⟩
  · refine (cmp_any L' L).mono ?_
    rintro e w3 ⟨rfl, k3, rfl⟩
    go_wp2
    go_ret
    exact ⟨⟨_, rfl⟩, below_drewN hB _⟩
  · refine (cmp_any L L').mono ?_
    rintro e w3 ⟨rfl, k3, rfl⟩
    go_wp2
    go_ret
    exact ⟨⟨_, rfl⟩, below_drewN hB _⟩
end Go.Proofs.Qxb6500872aDoor
