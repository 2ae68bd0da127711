import Derived.Test.Qxb6500872aDoorWi
set_option linter.unusedVariables false
namespace Go.Proofs.Qxb6500872aDoor
open Go.RowKit

theorem three_alloc (w : World) (o o' o'' : Obj) : Below w.heap.size w (((w.alloc o).alloc o').alloc o'') := (two_alloc w o o').alloc (by simp; omega) _

theorem third (w : World) (o o' : Obj) (v0 v1 : Value) (t : TypeId) : (((w.alloc o).alloc o').alloc (.cells #[v0, v1] t)).cell? ⟨w.heap.size + 2, 0, none⟩ = some v0 ∧ (((w.alloc o).alloc o').alloc (.cells #[v0, v1] t)).cell? ⟨w.heap.size + 2, 1, none⟩ = some v1 ∧
    (((w.alloc o).alloc o').alloc (.cells #[v0, v1] t)).frozen? ⟨w.heap.size + 2, 0, none⟩ = false ∧ (((w.alloc o).alloc o').alloc (.cells #[v0, v1] t)).frozen? ⟨w.heap.size + 2, 1, none⟩ = false := by
  refine ⟨?_, ?_, ?_, ?_⟩
  · rw [World.cell?_alloc_at _ _ _ _ (by simp)]; rfl
  · rw [World.cell?_alloc_at _ _ _ _ (by simp)]; rfl
  · exact World.frozen?_alloc_at _ _ _ _ (by simp)
  · exact World.frozen?_alloc_at _ _ _ _ (by simp)

theorem far2 {w : World} {p q a : Addr} {u v x : Value} (h : w.cell? a = some x) (hp : p.block ≠ a.block) (hq : q.block ≠ a.block) : ((w.setCell p u).setCell q v).cell? a = some x := by
  rw [World.cell?_setCell_far _ _ _ _ hq, World.cell?_setCell_far _ _ _ _ hp]; exact h

theorem makeInt_full {m : Bool} {a : Option Addr} {n c : Nat} {zs : List Int} {w : World} (h : Limbs w a n c zs) :
    Calls Tryd.prog 28 #[.bool m, .slice a n c] w fun e w' => (∃ m' k us, e = .returned (.agg #[.bool m', .slice a k k]) ∧ Limbs w' a k k us ∧ k ≤ n) ∧ Below w.heap.size w w' :=
  (makeInt_any h).mono fun e w' ⟨he, hb⟩ => ⟨⟨_, _, _, he, h.norm.below hb, nl_le _ _⟩, hb⟩

set_option maxHeartbeats 1000000 in
theorem signedDiff_any {m : Bool} {a a' : Option Addr} {n c n' c' : Nat} {xs ys : List Int} {w : World} {E : Value} (h : Limbs w a n c xs) (h' : Limbs w a' n' c' ys) (hE : w.cell? ⟨2, 0, none⟩ = some E) :
    Calls Tryd.prog 34 #[.bool m, .slice a n c, .slice a' n' c'] w fun e w' => RetInt (max n n') e w' ∧ Below w.heap.size w w' := by
  have hB0 := one_alloc w (.cells #[.bool false, .slice none 0 0] 28)
  have H := h.below hB0
  have H' := h'.below hB0
  have hE0 := cell_later hB0 hE
  have k0 : (w.alloc (.cells #[.bool false, .slice none 0 0] 28)).cell? ⟨w.heap.size, 0, none⟩ = some (.bool false) := by simp
  have k1 : (w.alloc (.cells #[.bool false, .slice none 0 0] 28)).cell? ⟨w.heap.size, 1, none⟩ = some (.slice none 0 0) := by simp
  have g0 : (w.alloc (.cells #[.bool false, .slice none 0 0] 28)).frozen? ⟨w.heap.size, 0, none⟩ = false := by simp
  have g1 : (w.alloc (.cells #[.bool false, .slice none 0 0] 28)).frozen? ⟨w.heap.size, 1, none⟩ = false := by simp
  go_enter Tryd.func34, Tryd.ntmps34
  go_upto_if 12 with (go_at_call 39; refine (cmp_any H H').mono ?_; rintro e w3 ⟨rfl, k3, rfl⟩)
  go_cut [0, 1, 2] (fun s0 s1 s2 wc => wc = (w.alloc (.cells #[.bool false, .slice none 0 0] 28)).drewN k3 ∧ ∃ (b : Bool) (p : Option Addr) (k l : Nat) (us : List Int) (q : Option Addr) (i j : Nat) (vs : List Int), s0 = .bool b ∧ s1 = .slice p k l ∧ s2 = .slice q i j ∧ Limbs wc p k l us ∧ Limbs wc q i j vs ∧ k ≤ max n n')
  case first =>
    go_wp2
    · go_meet
      case rel => exact ⟨rfl, !m, a', n', c', ys, a, n, c, xs, rfl, rfl, rfl, H'.drewN _, H.drewN _, by omega⟩
    · go_meet
      case rel => exact ⟨rfl, m, a, n, c, xs, a', n', c', ys, rfl, rfl, rfl, H.drewN _, H'.drewN _, by omega⟩
  case rest =>
    obtain ⟨rfl, b, p, k, l, us, q, i, j, vs, rfl, rfl, rfl, hP, hQ, hk⟩ := hcut
    clear h h' H H'
    have hnl := nl_le us k
    go_wp2_with fail
    refine (sub_any hP hQ hE0).mono ?_
    rintro e w4 ⟨⟨p4, k4, zs4, F, rfl, hZ4, hk4, hnz4⟩, hb4⟩
    clear hnz4
    go_wp2_with fail
    refine (makeInt_full hZ4).mono ?_
    rintro e w5 ⟨⟨m5, k5, us5, rfl, hZ5, hk5⟩, hb5⟩
    obtain ⟨c0, c1, f0, f1⟩ := kept2 (chain hb4 hb5) (b := w.heap.size) k0 k1 g0 g1
    go_wp2
    exact bodyPost_ret (v := .agg #[.bool m5, .slice p4 k5 k5]) (by simp [results, Tryd.results34, go_sem, c0, c1]) rfl
      ⟨⟨_, _, _, _, rfl, hZ5.store2 c0 c1 _ _, by omega⟩, ((chain (below_drewN hB0 k3) (chain hb4 hb5)).setCell (Nat.le_refl _) _).setCell (Nat.le_refl _) _⟩

set_option maxHeartbeats 1000000 in
theorem iadd_any {m m' : Bool} {a a' : Option Addr} {n c n' c' : Nat} {xs ys : List Int} {w : World} {E : Value} (h : Limbs w a n c xs) (h' : Limbs w a' n' c' ys) (hn : n ≤ 100000) (hn' : n' ≤ 100000) (hE : w.cell? ⟨2, 0, none⟩ = some E) :
    Calls Tryd.prog 16 #[.agg #[.bool m, .slice a n c], .agg #[.bool m', .slice a' n' c']] w fun e w' => RetInt (max n n' + 1) e w' ∧ Below w.heap.size w w' := by
  have hB0 := three_alloc w (.cells #[.bool m, .slice a n c] 28) (.cells #[.bool m', .slice a' n' c'] 28) (.cells #[.bool false, .slice none 0 0] 28)
  have H := h.below hB0
  have H' := h'.below hB0
  have hE0 := cell_later hB0 hE
  have hnl := nl_le xs n
  have hnl' := nl_le ys n'
  obtain ⟨k0, k1, g0, g1⟩ := third w (.cells #[.bool m, .slice a n c] 28) (.cells #[.bool m', .slice a' n' c'] 28) (.bool false) (.slice none 0 0) 28
  by_cases hm : m = m'
  · subst hm
    go_enter Tryd.func16, Tryd.ntmps16
    go_wp2
    go_region_held3 (fun w' => w'.cell? ⟨w.heap.size, 0, none⟩ = some (.bool m) ∧ w'.cell? ⟨w.heap.size, 1, none⟩ = some (.slice a n c) ∧ w'.cell? ⟨w.heap.size + 1, 1, none⟩ = some (.slice a' n' c'))
      (refine ⟨?_, ?_, ?_⟩ <;> (first | (go_keep; done) | exact cell_later ‹Below _ _ _› (by simp [*]) | exact far2 (by simp [*]) (by dsimp only; omega) (by dsimp only; omega)))
      (first
        | (go_at_call 33; refine (add_any H.drew H'.drew (by omega) (by omega)).mono ?_; rintro e w1 ⟨⟨b1, l1, zs1, rfl, hZ1, hk1, hnz1⟩, hb1⟩; clear hnz1)
        | (go_at_call 28; refine (makeInt_full hZ1).mono ?_; rintro e w2 ⟨⟨m2, k2, us2, rfl, hZ2, hk2⟩, hb2⟩; obtain ⟨c0, c1, f0, f1⟩ := kept2 (chain hb1 hb2) (b := w.heap.size + 2) k0 k1 g0 g1))
    go_wp2
    exact bodyPost_ret (v := .agg #[.bool m2, .slice (some ⟨b1, 0, none⟩) k2 k2]) (by simp [results, Tryd.results16, go_sem, c0, c1]) rfl
      ⟨⟨_, _, _, _, rfl, hZ2.store2 c0 c1 _ _, by omega⟩, ((chain hB0.drew (chain hb1 hb2)).setCell (by simp; omega) _).setCell (by simp; omega) _⟩
  · have hmf : (m == m') = false := by cases m <;> cases m' <;> simp_all
    clear hm
    go_enter Tryd.func16, Tryd.ntmps16
    go_wp2_with (go_at_call 34; refine (signedDiff_any H H' hE0).mono ?_; rintro e w2 ⟨⟨m2, p2, k2, us2, rfl, hZ2, hk2⟩, hb2⟩; obtain ⟨c0, c1, f0, f1⟩ := kept2 hb2 (b := w.heap.size + 2) k0 k1 g0 g1)
    exact bodyPost_ret (v := .agg #[.bool m2, .slice p2 k2 k2]) (by simp [results, Tryd.results16, go_sem, c0, c1]) rfl
      ⟨⟨_, _, _, _, rfl, hZ2.store2 c0 c1 _ _, by omega⟩, ((chain hB0 hb2).setCell (by simp; omega) _).setCell (by simp; omega) _⟩
set_option maxHeartbeats 1000000 in
theorem isub_any {m m' : Bool} {a a' : Option Addr} {n c n' c' : Nat} {xs ys : List Int} {w : World} {E : Value} (h : Limbs w a n c xs) (h' : Limbs w a' n' c' ys) (hn : n ≤ 100000) (hn' : n' ≤ 100000) (hE : w.cell? ⟨2, 0, none⟩ = some E) :
    Calls Tryd.prog 17 #[.agg #[.bool m, .slice a n c], .agg #[.bool m', .slice a' n' c']] w fun e w' => RetInt (max n n' + 1) e w' ∧ Below w.heap.size w w' := by
  have hB0 := three_alloc w (.cells #[.bool m, .slice a n c] 28) (.cells #[.bool m', .slice a' n' c'] 28) (.cells #[.bool false, .slice none 0 0] 28)
  have H := h.below hB0
  have H' := h'.below hB0
  have hE0 := cell_later hB0 hE
  have hnl := nl_le xs n
  have hnl' := nl_le ys n'
  obtain ⟨k0, k1, g0, g1⟩ := third w (.cells #[.bool m, .slice a n c] 28) (.cells #[.bool m', .slice a' n' c'] 28) (.bool false) (.slice none 0 0) 28
  by_cases hm : m = m'
  case neg =>
    have hmf : (m == m') = false := by cases m <;> cases m' <;> simp_all
    clear hm
    go_enter Tryd.func17, Tryd.ntmps17
    go_wp2
    go_region_held3 (fun w' => w'.cell? ⟨w.heap.size, 0, none⟩ = some (.bool m) ∧ w'.cell? ⟨w.heap.size, 1, none⟩ = some (.slice a n c) ∧ w'.cell? ⟨w.heap.size + 1, 1, none⟩ = some (.slice a' n' c'))
      (refine ⟨?_, ?_, ?_⟩ <;> (first | (go_keep; done) | exact cell_later ‹Below _ _ _› (by simp [*]) | exact far2 (by simp [*]) (by dsimp only; omega) (by dsimp only; omega)))
      (first
        | (go_at_call 33; refine (add_any H.drew H'.drew (by omega) (by omega)).mono ?_; rintro e w1 ⟨⟨b1, l1, zs1, rfl, hZ1, hk1, hnz1⟩, hb1⟩; clear hnz1)
        | (go_at_call 28; refine (makeInt_full hZ1).mono ?_; rintro e w2 ⟨⟨m2, k2, us2, rfl, hZ2, hk2⟩, hb2⟩; obtain ⟨c0, c1, f0, f1⟩ := kept2 (chain hb1 hb2) (b := w.heap.size + 2) k0 k1 g0 g1))
    go_wp2
    exact bodyPost_ret (v := .agg #[.bool m2, .slice (some ⟨b1, 0, none⟩) k2 k2]) (by simp [results, Tryd.results17, go_sem, c0, c1]) rfl
      ⟨⟨_, _, _, _, rfl, hZ2.store2 c0 c1 _ _, by omega⟩, ((chain hB0.drew (chain hb1 hb2)).setCell (by simp; omega) _).setCell (by simp; omega) _⟩
  case pos =>
    have hmf : (m == m') = true := by cases m <;> cases m' <;> simp_all
    clear hm
    go_enter Tryd.func17, Tryd.ntmps17
    go_wp2_with (go_at_call 34; refine (signedDiff_any H H' hE0).mono ?_; rintro e w2 ⟨⟨m2, p2, k2, us2, rfl, hZ2, hk2⟩, hb2⟩; obtain ⟨c0, c1, f0, f1⟩ := kept2 hb2 (b := w.heap.size + 2) k0 k1 g0 g1)
    exact bodyPost_ret (v := .agg #[.bool m2, .slice p2 k2 k2]) (by simp [results, Tryd.results17, go_sem, c0, c1]) rfl
      ⟨⟨_, _, _, _, rfl, hZ2.store2 c0 c1 _ _, by omega⟩, ((chain hB0 hb2).setCell (by simp; omega) _).setCell (by simp; omega) _⟩
set_option maxHeartbeats 1000000 in
theorem imul_any {m m' : Bool} {a a' : Option Addr} {n c n' c' : Nat} {xs ys : List Int} {w : World} (h : Limbs w a n c xs) (h' : Limbs w a' n' c' ys) (hn : n ≤ 100000) (hn' : n' ≤ 100000) :
    Calls Tryd.prog 18 #[.agg #[.bool m, .slice a n c], .agg #[.bool m', .slice a' n' c']] w fun e w' => RetInt (nl xs n + nl ys n') e w' ∧ Below w.heap.size w w' := by
  have hB0 := three_alloc w (.cells #[.bool m, .slice a n c] 28) (.cells #[.bool m', .slice a' n' c'] 28) (.cells #[.bool false, .slice none 0 0] 28)
  have H := h.below hB0
  have H' := h'.below hB0
  have hnl := nl_le xs n
  have hnl' := nl_le ys n'
  obtain ⟨k0, k1, g0, g1⟩ := third w (.cells #[.bool m, .slice a n c] 28) (.cells #[.bool m', .slice a' n' c'] 28) (.bool false) (.slice none 0 0) 28
  go_enter Tryd.func18, Tryd.ntmps18
  go_wp2
  go_region_held3 (fun w' => w'.cell? ⟨w.heap.size, 0, none⟩ = some (.bool m) ∧ w'.cell? ⟨w.heap.size, 1, none⟩ = some (.slice a n c) ∧ w'.cell? ⟨w.heap.size + 1, 0, none⟩ = some (.bool m') ∧ w'.cell? ⟨w.heap.size + 1, 1, none⟩ = some (.slice a' n' c'))
    (refine ⟨?_, ?_, ?_, ?_⟩ <;> (first | (go_keep; done) | exact cell_later ‹Below _ _ _› (by simp [*]) | exact far2 (by simp [*]) (by dsimp only; omega) (by dsimp only; omega)))
    (first
      | (go_at_call 35; refine (mul_any H.drew H'.drew (by omega) (by omega)).mono ?_; rintro e w1 ⟨⟨p1, l1, zs1, rfl, hZ1, hk1, hnz1⟩, hb1⟩; clear hnz1)
      | (go_at_call 28; refine (makeInt_full hZ1).mono ?_; rintro e w2 ⟨⟨m2, k2, us2, rfl, hZ2, hk2⟩, hb2⟩; obtain ⟨c0, c1, f0, f1⟩ := kept2 (chain hb1 hb2) (b := w.heap.size + 2) k0 k1 g0 g1))
  go_wp2
  exact bodyPost_ret (v := .agg #[.bool m2, .slice p1 k2 k2]) (by simp [results, Tryd.results18, go_sem, c0, c1]) rfl
    ⟨⟨_, _, _, _, rfl, hZ2.store2 c0 c1 _ _, by omega⟩, ((chain hB0.drew (chain hb1 hb2)).setCell (by simp; omega) _).setCell (by simp; omega) _⟩

set_option maxHeartbeats 1000000 in
theorem igcd_any {m m' : Bool} {a a' : Option Addr} {n c n' c' : Nat} {xs ys : List Int} {w : World} {E : Value} (h : Limbs w a n c xs) (h' : Limbs w a' n' c' ys) (hn : n ≤ 90000) (hn' : n' ≤ 90000) (hE : w.cell? ⟨0, 0, none⟩ = some E) :
    Calls Tryd.prog 20 #[.agg #[.bool m, .slice a n c], .agg #[.bool m', .slice a' n' c']] w fun e w' => RetInt (max (max n n') 2) e w' ∧ Below w.heap.size w w' := by
  have hB0 := three_alloc w (.cells #[.bool m, .slice a n c] 28) (.cells #[.bool m', .slice a' n' c'] 28) (.cells #[.bool false, .slice none 0 0] 28)
  have H := h.below hB0
  have H' := h'.below hB0
  have hE0 := cell_later hB0 hE
  have hnl := nl_le xs n
  have hnl' := nl_le ys n'
  obtain ⟨k0, k1, g0, g1⟩ := third w (.cells #[.bool m, .slice a n c] 28) (.cells #[.bool m', .slice a' n' c'] 28) (.bool false) (.slice none 0 0) 28
  go_enter Tryd.func20, Tryd.ntmps20
  go_wp2_with fail
  refine (gcd_any H H' (by omega) (by omega) hE0).mono ?_
  rintro e w1 ⟨⟨p1, l1, zs1, rfl, hZ1, hk1⟩, hb1⟩
  go_wp2_with fail
  refine (makeInt_full hZ1).mono ?_
  rintro e w2 ⟨⟨m2, k2, us2, rfl, hZ2, hk2⟩, hb2⟩
  obtain ⟨c0, c1, f0, f1⟩ := kept2 (chain hb1 hb2) (b := w.heap.size + 2) k0 k1 g0 g1
  go_wp2
  exact bodyPost_ret (v := .agg #[.bool m2, .slice p1 k2 k2]) (by simp [results, Tryd.results20, go_sem, c0, c1]) rfl
    ⟨⟨_, _, _, _, rfl, hZ2.store2 c0 c1 _ _, by omega⟩, ((chain hB0 (chain hb1 hb2)).setCell (by simp; omega) _).setCell (by simp; omega) _⟩

end Go.Proofs.Qxb6500872aDoor
