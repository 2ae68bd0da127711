import Derived.Test.Qxb6500872aDoorWj
set_option linter.unusedVariables false
namespace Go.Proofs.Qxb6500872aDoor
open Go.RowKit

theorem four_alloc (w : World) (o o' o'' o3 : Obj) : Below w.heap.size w ((((w.alloc o).alloc o').alloc o'').alloc o3) := (three_alloc w o o' o'').alloc (by simp; omega) _

/-- Of the cells that four new blocks hold. -/
theorem fours (w : World) (a0 a1 b0 b1 c0 c1 d0 d1 : Value) (t : TypeId) (W : World) (hW : W = (((w.alloc (.cells #[a0, a1] t)).alloc (.cells #[b0, b1] t)).alloc (.cells #[c0, c1] t)).alloc (.cells #[d0, d1] t)) :
    W.cell? ⟨w.heap.size, 0, none⟩ = some a0 ∧ W.cell? ⟨w.heap.size, 1, none⟩ = some a1 ∧ W.cell? ⟨w.heap.size + 1, 0, none⟩ = some b0 ∧ W.cell? ⟨w.heap.size + 1, 1, none⟩ = some b1 ∧
    W.cell? ⟨w.heap.size + 2, 0, none⟩ = some c0 ∧ W.cell? ⟨w.heap.size + 2, 1, none⟩ = some c1 ∧ W.cell? ⟨w.heap.size + 3, 0, none⟩ = some d0 ∧ W.cell? ⟨w.heap.size + 3, 1, none⟩ = some d1 ∧
    W.frozen? ⟨w.heap.size + 2, 0, none⟩ = false ∧ W.frozen? ⟨w.heap.size + 2, 1, none⟩ = false ∧ W.frozen? ⟨w.heap.size + 3, 0, none⟩ = false ∧ W.frozen? ⟨w.heap.size + 3, 1, none⟩ = false := by
  subst hW
  obtain ⟨x0, x1, y0, y1⟩ := third w (.cells #[a0, a1] t) (.cells #[b0, b1] t) c0 c1 t
  have hb := one_alloc (((w.alloc (.cells #[a0, a1] t)).alloc (.cells #[b0, b1] t)).alloc (.cells #[c0, c1] t)) (.cells #[d0, d1] t)
  refine ⟨?_, ?_, ?_, ?_, cell_later hb x0, cell_later hb x1, ?_, ?_, (hb.frozen (p := ⟨w.heap.size + 2, 0, none⟩) (by simp)).trans y0, (hb.frozen (p := ⟨w.heap.size + 2, 1, none⟩) (by simp)).trans y1, ?_, ?_⟩
  · exact cell_later hb (cell_later (one_alloc _ _) (by simp))
  · exact cell_later hb (cell_later (one_alloc _ _) (by simp))
  · exact cell_later hb (cell_later (one_alloc _ _) (by simp))
  · exact cell_later hb (cell_later (one_alloc _ _) (by simp))
  · rw [World.cell?_alloc_at _ _ _ _ (by simp)]; rfl
  · rw [World.cell?_alloc_at _ _ _ _ (by simp)]; rfl
  · exact World.frozen?_alloc_at _ _ _ _ (by simp)
  · exact World.frozen?_alloc_at _ _ _ _ (by simp)

theorem far2' {w : World} {p a : Addr} {u : Value} (hp : p.block ≠ a.block) : (w.setCell p u).cell? a = w.cell? a := World.cell?_setCell_far _ _ _ _ hp

theorem kept2' {W w1 : World} (hb : Below W.heap.size W w1) {b : Nat} {v0 v1 : Value} (h0 : W.cell? ⟨b, 0, none⟩ = some v0) (h1 : W.cell? ⟨b, 1, none⟩ = some v1) :
    w1.cell? ⟨b, 0, none⟩ = some v0 ∧ w1.cell? ⟨b, 1, none⟩ = some v1 ∧ True ∧ True := ⟨cell_later hb h0, cell_later hb h1, trivial, trivial⟩

/-- What Int's DivMod hands back. -/
def DivIRet (K : Nat) (E : Value) (e : Ending) (w' : World) : Prop :=
  ∃ m1 p1 k1 z1 m2 p2 k2 z2 F, e = .returned (.tuple #[.agg #[.bool m1, .slice p1 k1 k1], .agg #[.bool m2, .slice p2 k2 k2], F]) ∧ Limbs w' p1 k1 k1 z1 ∧ Limbs w' p2 k2 k2 z2 ∧ k1 ≤ K ∧ k2 ≤ K ∧ (F = .nilIface ∨ F = E)

set_option maxHeartbeats 1000000 in
theorem idivmod_any {m m' : Bool} {a a' : Option Addr} {n c n' c' : Nat} {xs ys : List Int} {w : World} {t : TypeId} {v E2 : Value} (h : Limbs w a n c xs) (h' : Limbs w a' n' c' ys) (hn : n ≤ 90000) (hn' : n' ≤ 90000) (hE : w.cell? ⟨0, 0, none⟩ = some (.iface t v)) (hE2 : w.cell? ⟨2, 0, none⟩ = some E2) :
    Calls Tryd.prog 19 #[.agg #[.bool m, .slice a n c], .agg #[.bool m', .slice a' n' c']] w fun e w' => DivIRet (max (max n n') 1 + 1) (.iface t v) e w' ∧ Below w.heap.size w w' := by
  generalize hW : (((w.alloc (.cells #[.bool m, .slice a n c] 28)).alloc (.cells #[.bool m', .slice a' n' c'] 28)).alloc (.cells #[.bool false, .slice none 0 0] 28)).alloc (.cells #[.bool false, .slice none 0 0] 28) = W
  have hB0 : Below w.heap.size w W := by rw [← hW]; exact four_alloc w _ _ _ _
  have H := h.below hB0
  have H' := h'.below hB0
  have hE0 := cell_later hB0 hE
  have hE20 := cell_later hB0 hE2
  have hnl := nl_le xs n
  have hnl' := nl_le ys n'
  obtain ⟨x0, x1, y0, y1, q0, q1, r0, r1, fq0, fq1, fr0, fr1⟩ := fours w _ _ _ _ _ _ _ _ 28 W hW.symm
  go_enter Tryd.func19, Tryd.ntmps19
  go_wp2_with fail
  clear hW
  refine (divmod_any H H' (by omega) hE0).mono ?_
  rintro e w1 ⟨⟨p1, k1, qs1, p2, k2, rs, F, rfl, hQ1, hR1, hk1, hk2, hnz2, hor⟩, hb1⟩
  clear hnz2
  have hb1' := chain hB0 hb1
  obtain ⟨x0', x1', _, _⟩ := kept2' hb1 x0 x1
  obtain ⟨y0', y1', _, _⟩ := kept2' hb1 y0 y1
  obtain ⟨q0', q1', fq0', fq1'⟩ := kept2 hb1 q0 q1 fq0 fq1
  obtain ⟨r0', r1', fr0', fr1'⟩ := kept2 hb1 r0 r1 fr0 fr1
  have hE21 := cell_later hb1 hE20
  have H1' := H'.below hb1
  clear x0 x1 y0 y1 q0 q1 r0 r1 fq0 fq1 fr0 fr1 hE0 hE20 H H' h h' hE hE2
  rcases hor with ⟨_, rfl⟩ | ⟨_, rfl, _⟩
  · go_wp2
    refine bodyPost_ret (v := .tuple #[.agg #[.bool false, .slice none 0 0], .agg #[.bool false, .slice none 0 0], .iface t v]) (by simp [results, Tryd.results19, go_sem, q0', q1', r0', r1', far2']) rfl ⟨⟨_, _, _, [], _, _, _, [], _, rfl, Limbs.nil _, Limbs.nil _, Nat.zero_le _, Nat.zero_le _, .inr rfl⟩, ?_⟩
    exact (((hb1'.setCell (by simp; omega) _).setCell (by simp; omega) _).setCell (by simp; omega) _).setCell (by simp; omega) _
  · cases m
    all_goals
      go_upto_if 29 with fail
      go_cut [7, 8] (fun s7 s8 wc => ∃ (p : Option Addr) (k : Nat) (us : List Int) (q : Option Addr) (l : Nat) (vs : List Int), s7 = .slice p k k ∧ s8 = .slice q l l ∧ Limbs wc p k k us ∧ Limbs wc q l l vs ∧ k ≤ max (max n n') 1 + 1 ∧ l ≤ max (max n n') 1 + 1 ∧ Below w1.heap.size w1 wc)
      case rest =>
        obtain ⟨p, k, us, q, l, vs, rfl, rfl, hP, hQ, hk, hl, hbc⟩ := hcut
        obtain ⟨x0, x1, _, _⟩ := kept2' hbc x0' x1'
        obtain ⟨y0, y1, _, _⟩ := kept2' hbc y0' y1'
        go_wp2_with fail
        refine (makeInt_full hP).mono ?_
        rintro e w4 ⟨⟨m4, k4, us4, rfl, hZ4, hk4⟩, hb4⟩
        go_wp2_with fail
        refine (makeInt_full (hQ.below hb4)).mono ?_
        rintro e w5 ⟨⟨m5, k5, us5, rfl, hZ5, hk5⟩, hb5⟩
        obtain ⟨q0, q1, fq0, fq1⟩ := kept2 (chain hbc (chain hb4 hb5)) q0' q1' fq0' fq1'
        obtain ⟨r0, r1, fr0, fr1⟩ := kept2 (chain hbc (chain hb4 hb5)) r0' r1' fr0' fr1'
        have hst := (hZ4.below hb5).store2 q0 q1 (.bool m4) (.slice p k4 k4)
        have hst5 := hZ5.store2 q0 q1 (.bool m4) (.slice p k4 k4)
        have r0s : ((w5.setCell ⟨w.heap.size + 2, 0, none⟩ (.bool m4)).setCell ⟨w.heap.size + 2, 1, none⟩ (.slice p k4 k4)).cell? ⟨w.heap.size + 3, 0, none⟩ = some (.bool false) := far2 r0 (by simp) (by simp)
        have r1s : ((w5.setCell ⟨w.heap.size + 2, 0, none⟩ (.bool m4)).setCell ⟨w.heap.size + 2, 1, none⟩ (.slice p k4 k4)).cell? ⟨w.heap.size + 3, 1, none⟩ = some (.slice none 0 0) := far2 r1 (by simp) (by simp)
        have hbb := chain hb1' (chain hbc (chain hb4 hb5))
        clear hbc hb4 hb5 hQ hP
        go_wp2
        refine bodyPost_ret (v := .tuple #[.agg #[.bool m4, .slice p k4 k4], .agg #[.bool m5, .slice q k5 k5], .nilIface]) (by simp [results, Tryd.results19, go_sem, q0, q1, r0, r1, far2']) rfl ⟨⟨_, _, _, _, _, _, _, _, _, rfl, hst.store2 r0s r1s _ _, hst5.store2 r0s r1s _ _, by omega, by omega, .inl rfl⟩, ?_⟩
        exact (((hbb.setCell (by simp; omega) _).setCell (by simp; omega) _).setCell (by simp; omega) _).setCell (by simp; omega) _
      case first =>
        first
        | (go_wp2
           go_meet
           case rel => exact ⟨p1, k1, qs1, p2, k2, rs, rfl, rfl, hQ1, hR1, by omega, by omega, Below.refl _ _⟩
           done)
        | (by_cases hk0 : 0 < k2
           · have hL := lit1_limbs w1 1 (by omega)
             have nl1 := nl_le [1] 1
             have nl2 := nl_le qs1 k1
             have nl3 := nl_le rs k2
             have nl4 := nl_le ys n'
             obtain ⟨y0a, y1a, _, _⟩ := kept2' (one_alloc w1 (.cells #[.int .u32 1] 61)) y0' y1'
             go_wp2_with fail
             refine (add_any (hQ1.below (one_alloc w1 _)) hL (by omega) (by omega)).mono ?_
             rintro e w3 ⟨⟨b3, k3, zs3, rfl, hZ3, hk3, hnz3⟩, hb3⟩
             obtain ⟨y0b, y1b, _, _⟩ := kept2' hb3 y0a y1a
             have hE3 := cell_later hb3 (cell_later (one_alloc w1 _) hE21)
             have hR3 := (hR1.below (one_alloc w1 _)).below hb3
             have hY3 := (H1'.below (one_alloc w1 _)).below hb3
             clear hnz3
             go_wp2_with fail
             refine (sub_any hY3 hR3 hE3).mono ?_
             rintro e w4 ⟨⟨p4, k4, zs4, F4, rfl, hZ4, hk4, hnz4⟩, hb4⟩
             clear hnz4
             go_wp2
             go_meet
             case rel => exact ⟨_, k3, zs3, p4, k4, zs4, rfl, rfl, hZ3.below hb4, hZ4, by omega, by omega, chain (one_alloc w1 _) (chain hb3 hb4)⟩
           · go_wp2
             go_meet
             case rel => exact ⟨p1, k1, qs1, p2, k2, rs, rfl, rfl, hQ1, hR1, by omega, by omega, Below.refl _ _⟩)
end Go.Proofs.Qxb6500872aDoor
