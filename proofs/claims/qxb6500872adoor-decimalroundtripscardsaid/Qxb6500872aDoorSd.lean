import Derived.Test.Qxb6500872aDoorWs2
set_option linter.unusedVariables false
namespace Go.Proofs.Qxb6500872aDoor
open Go.RowKit

/-- A register stored: the limbs stay. -/
theorem Regs.limbs {w : World} {B K r : Nat} {R : Nat → Reg} (h : Regs w B K R) (hr : r < 8) {a : Option Addr} {n c : Nat} {zs : List Int} (hl : Limbs w a n c zs) (u v : Value) :
    Limbs ((w.setCell ⟨B, r * 2, none⟩ u).setCell ⟨B, r * 2 + 1, none⟩ v) a n c zs := by
  obtain ⟨h0, h1, _, _, _, _⟩ := h r hr
  exact (hl.store h0 (fun _ e => by cases e) _).store (by rw [World.cell?_setCell_other _ _ _ _ (by simp)]; exact h1) (fun _ e => by cases e) _

/-- A struct's two cells, stored. -/
theorem pair_set {w4 : World} {b : Nat} {x : Bool} {q : Option Addr} {i j : Nat} (n0 : w4.cell? ⟨b, 0, none⟩ = some (.bool x)) (n1 : w4.cell? ⟨b, 1, none⟩ = some (.slice q i j)) (m : Bool) (p : Option Addr) (k : Nat) (V : World) (hV : V = (w4.setCell ⟨b, 0, none⟩ (.bool m)).setCell ⟨b, 1, none⟩ (.slice p k k)) :
    V.cell? ⟨b, 0, none⟩ = some (.bool m) ∧ V.cell? ⟨b, 1, none⟩ = some (.slice p k k) ∧ (∀ a n c zs, Limbs w4 a n c zs → Limbs V a n c zs) ∧ (∀ b' o v, b' ≠ b → w4.cell? ⟨b', o, none⟩ = some v → V.cell? ⟨b', o, none⟩ = some v) ∧ (∀ B, B ≤ b → Below B w4 V) := by
  subst hV
  have e1 : (w4.setCell ⟨b, 0, none⟩ (.bool m)).cell? ⟨b, 1, none⟩ = some (.slice q i j) := by rw [World.cell?_setCell_other _ _ _ _ (by simp)]; exact n1
  refine ⟨?_, World.cell?_setCell_same _ _ _ e1, fun a n c zs h => h.store2 n0 n1 _ _, fun b' o v hb h => far2 h (Ne.symm hb) (Ne.symm hb), fun B hB => ((Below.refl _ _).setCell hB _).setCell hB _⟩
  rw [World.cell?_setCell_other _ _ _ _ (by simp)]; exact World.cell?_setCell_same _ _ _ n0

set_option maxRecDepth 40000 in
set_option maxHeartbeats 8000000 in
theorem step_div {d d2 a b wd : Int} {ng : Bool} {lp : Option Addr} {ln lc : Nat} {s : ByteArray} {w : World} {B K : Nat} {R : Nat → Reg} {p0 p1 : Addr} {E2 : Value}
    (hR : Regs w B K R) (hK : K ≤ 80000) (hS : Sents w p0 p1 E2) (hK0 : 128 ≤ K) :
    Calls Tryd.prog 5 #[.pointer (some ⟨B, 0, none⟩), .agg #[.int .i64 5, .int .i64 d, .int .i64 d2, .int .i64 a, .int .i64 b, .bool ng, .slice lp ln lc, .string s, .int .i64 wd]] w fun e w' => StepPost w B K 5 d s e w' := by
  generalize hW : (w.alloc (.cells #[.int .i64 5, .int .i64 d, .int .i64 d2, .int .i64 a, .int .i64 b, .bool ng, .slice lp ln lc, .string s, .int .i64 wd] 34)).alloc (.cells #[.int .i64 0, .int .i64 0, .string ⟨#[]⟩, .int .i64 0, .bool false, .int .i64 0] 37) = W
  have hs := start_of w W 5 d d2 a b wd ng lp ln lc s hW.symm
  have hsz := hs.siz
  have hB0 := hs.bel
  have hlt : B < w.heap.size := World.block_lt_of_cell? _ _ (hR 0 (by omega)).1
  have q8 := hs.q8
  have q7 := hs.q7
  have q6 := hs.q6
  have q5 := hs.q5
  have q4 := hs.q4
  have q3 := hs.q3
  have q2 := hs.q2
  have q1 := hs.q1
  have q0 := hs.q0
  go_enter Tryd.func5, Tryd.ntmps5
  go_wp2_with fail
  clear q0 q1 q2 q3 q4 q5 q6 q7 q8 hW
  refine wellFormed_any.mono ?_
  rintro e w1 ⟨⟨r, rfl, hr⟩, hb1⟩
  obtain ⟨q0, q1, q2, q3, q4, q5, q6, q7, q8, z0, z1, z2, z3, z4, z5, fz⟩ := hs.below hb1
  have hb01 := chain hB0 hb1
  have hR1 := hR.below hb01
  have hS1 := hS.below hb01
  clear hR hS
  cases r with
  | false =>
    clear hr
    go_wp2
    obtain ⟨o1, o2⟩ := out_store (hR1.mono (Nat.le_succ K)) (But.of_below hb01) hlt z0 z1 z2 z3 z4 z5 (.int .i64 1) (.int .i64 0) (.string ⟨#[]⟩) (.int .i64 0) (.bool false) (.int .i64 0)
    exact bodyPost_ret (v := .agg #[.int .i64 1, .int .i64 0, .string ⟨#[]⟩, .int .i64 0, .bool false, .int .i64 0]) (by simp [results, Tryd.results5, go_sem, z0, z1, z2, z3, z4, z5]) rfl
      ⟨_, _, _, _, _, _, rfl, ⟨R, o1, fun h hc => by omega⟩, o2⟩
  | true =>
    have hwf := hr rfl
    clear hr
    obtain ⟨hd, hd2, ha, hb⟩ : RegNo d ∧ RegNo d2 ∧ RegNo a ∧ RegNo b := by
      rcases hwf with h | h | h | h | h | h
      · omega
      · omega
      · exact h.2
      · omega
      · omega
      · omega
    clear hwf
    obtain ⟨rd, rfl, hd'⟩ : ∃ r : Nat, d = r ∧ r < 8 := ⟨d.toNat, by have := hd.1; omega, by have := hd.1; have := hd.2; omega⟩
    have id0 : (0 : Int) ≤ rd := by omega
    have id1 : (rd : Int) < 8 := by omega
    clear hd
    obtain ⟨rd2, rfl, hd2'⟩ : ∃ r : Nat, d2 = r ∧ r < 8 := ⟨d2.toNat, by have := hd2.1; omega, by have := hd2.1; have := hd2.2; omega⟩
    have id20 : (0 : Int) ≤ rd2 := by omega
    have id21 : (rd2 : Int) < 8 := by omega
    clear hd2
    obtain ⟨ra, rfl, ha'⟩ : ∃ r : Nat, a = r ∧ r < 8 := ⟨a.toNat, by have := ha.1; omega, by have := ha.1; have := ha.2; omega⟩
    have ia0 : (0 : Int) ≤ ra := by omega
    have ia1 : (ra : Int) < 8 := by omega
    clear ha
    obtain ⟨rb, rfl, hb'⟩ : ∃ r : Nat, b = r ∧ r < 8 := ⟨b.toNat, by have := hb.1; omega, by have := hb.1; have := hb.2; omega⟩
    have ib0 : (0 : Int) ≤ rb := by omega
    have ib1 : (rb : Int) < 8 := by omega
    clear hb
    obtain ⟨ma, pa, na, ca, zas, a0, a1, aL, ak⟩ := hR1.get ha'
    obtain ⟨mb, pb, nb, cb, zbs, b0, b1, bL, bk⟩ := hR1.get hb'
    have g0 : w1.cell? ⟨w.heap.size, 3, none⟩ = some (.int .i64 (ra : Int)) := by assumption
    have g1 : w1.cell? ⟨w.heap.size, 4, none⟩ = some (.int .i64 (rb : Int)) := by assumption
    have g2 : w1.cell? ⟨B, ra * 2, none⟩ = some (.bool ma) := by assumption
    have g3 : w1.cell? ⟨B, ra * 2 + 1, none⟩ = some (.slice pa na ca) := by assumption
    have g4 : w1.cell? ⟨B, rb * 2, none⟩ = some (.bool mb) := by assumption
    have g5 : w1.cell? ⟨B, rb * 2 + 1, none⟩ = some (.slice pb nb cb) := by assumption
    have hws : w.heap.size + 2 ≤ w1.heap.size := by have := hb1.size; omega
    have hE0 := hS1.c0
    have hE2 := hS1.c2
    go_upto_region 33 with fail
    go_cut [12, 13, 14] (fun s12 s13 s14 wc => ∃ (b12 b13 : Nat) (F : Value) (m1 m2 : Bool) (x1 x2 : Option Addr) (k1 k2 : Nat) (u1 u2 : List Int), s12 = .pointer (some ⟨b12, 0, none⟩) ∧ s13 = .pointer (some ⟨b13, 0, none⟩) ∧ s14 = F ∧
      (F = .nilIface ∨ F = .iface 85 (.pointer (some p0))) ∧ wc.cell? ⟨b12, 0, none⟩ = some (.bool m1) ∧ wc.cell? ⟨b12, 1, none⟩ = some (.slice x1 k1 k1) ∧ wc.cell? ⟨b13, 0, none⟩ = some (.bool m2) ∧ wc.cell? ⟨b13, 1, none⟩ = some (.slice x2 k2 k2) ∧
      Limbs wc x1 k1 k1 u1 ∧ Limbs wc x2 k2 k2 u2 ∧ k1 ≤ K + 1 ∧ k2 ≤ K + 1 ∧ B < b12 ∧ B < b13 ∧ Below w1.heap.size w1 wc)
    case first =>
      go_region_held3 (fun w' => w'.cell? ⟨w.heap.size, 3, none⟩ = some (.int .i64 (ra : Int)) ∧ w'.cell? ⟨w.heap.size, 4, none⟩ = some (.int .i64 (rb : Int)) ∧ w'.cell? ⟨B, ra * 2, none⟩ = some (.bool ma) ∧ w'.cell? ⟨B, ra * 2 + 1, none⟩ = some (.slice pa na ca) ∧ w'.cell? ⟨B, rb * 2, none⟩ = some (.bool mb) ∧ w'.cell? ⟨B, rb * 2 + 1, none⟩ = some (.slice pb nb cb))
        (first | with_reducible exact ⟨s0, s1, s2, s3, s4, s5⟩ | with_reducible exact ⟨far2 s0 (by dsimp only; omega) (by dsimp only; omega), far2 s1 (by dsimp only; omega) (by dsimp only; omega), far2 s2 (by dsimp only; omega) (by dsimp only; omega), far2 s3 (by dsimp only; omega) (by dsimp only; omega), far2 s4 (by dsimp only; omega) (by dsimp only; omega), far2 s5 (by dsimp only; omega) (by dsimp only; omega)⟩ | with_reducible exact ⟨far2 (far2 s0 (by dsimp only; omega) (by dsimp only; omega)) (by dsimp only; omega) (by dsimp only; omega), far2 (far2 s1 (by dsimp only; omega) (by dsimp only; omega)) (by dsimp only; omega) (by dsimp only; omega), far2 (far2 s2 (by dsimp only; omega) (by dsimp only; omega)) (by dsimp only; omega) (by dsimp only; omega), far2 (far2 s3 (by dsimp only; omega) (by dsimp only; omega)) (by dsimp only; omega) (by dsimp only; omega), far2 (far2 s4 (by dsimp only; omega) (by dsimp only; omega)) (by dsimp only; omega) (by dsimp only; omega), far2 (far2 s5 (by dsimp only; omega) (by dsimp only; omega)) (by dsimp only; omega) (by dsimp only; omega)⟩ | with_reducible exact ⟨cell_later (one_alloc _ _) s0, cell_later (one_alloc _ _) s1, cell_later (one_alloc _ _) s2, cell_later (one_alloc _ _) s3, cell_later (one_alloc _ _) s4, cell_later (one_alloc _ _) s5⟩ | with_reducible exact ⟨cell_later (two_alloc _ _ _) s0, cell_later (two_alloc _ _ _) s1, cell_later (two_alloc _ _ _) s2, cell_later (two_alloc _ _ _) s3, cell_later (two_alloc _ _ _) s4, cell_later (two_alloc _ _ _) s5⟩ | with_reducible exact ⟨far2 (cell_later (one_alloc _ _) s0) (by dsimp only; omega) (by dsimp only; omega), far2 (cell_later (one_alloc _ _) s1) (by dsimp only; omega) (by dsimp only; omega), far2 (cell_later (one_alloc _ _) s2) (by dsimp only; omega) (by dsimp only; omega), far2 (cell_later (one_alloc _ _) s3) (by dsimp only; omega) (by dsimp only; omega), far2 (cell_later (one_alloc _ _) s4) (by dsimp only; omega) (by dsimp only; omega), far2 (cell_later (one_alloc _ _) s5) (by dsimp only; omega) (by dsimp only; omega)⟩ | with_reducible exact ⟨cell_later (one_alloc _ _) (far2 s0 (by dsimp only; omega) (by dsimp only; omega)), cell_later (one_alloc _ _) (far2 s1 (by dsimp only; omega) (by dsimp only; omega)), cell_later (one_alloc _ _) (far2 s2 (by dsimp only; omega) (by dsimp only; omega)), cell_later (one_alloc _ _) (far2 s3 (by dsimp only; omega) (by dsimp only; omega)), cell_later (one_alloc _ _) (far2 s4 (by dsimp only; omega) (by dsimp only; omega)), cell_later (one_alloc _ _) (far2 s5 (by dsimp only; omega) (by dsimp only; omega))⟩ | with_reducible exact ⟨far2 (far2 (cell_later (one_alloc _ _) s0) (by dsimp only; omega) (by dsimp only; omega)) (by dsimp only; omega) (by dsimp only; omega), far2 (far2 (cell_later (one_alloc _ _) s1) (by dsimp only; omega) (by dsimp only; omega)) (by dsimp only; omega) (by dsimp only; omega), far2 (far2 (cell_later (one_alloc _ _) s2) (by dsimp only; omega) (by dsimp only; omega)) (by dsimp only; omega) (by dsimp only; omega), far2 (far2 (cell_later (one_alloc _ _) s3) (by dsimp only; omega) (by dsimp only; omega)) (by dsimp only; omega) (by dsimp only; omega), far2 (far2 (cell_later (one_alloc _ _) s4) (by dsimp only; omega) (by dsimp only; omega)) (by dsimp only; omega) (by dsimp only; omega), far2 (far2 (cell_later (one_alloc _ _) s5) (by dsimp only; omega) (by dsimp only; omega)) (by dsimp only; omega) (by dsimp only; omega)⟩ | with_reducible exact ⟨cell_later (one_alloc _ _) (far2 (far2 s0 (by dsimp only; omega) (by dsimp only; omega)) (by dsimp only; omega) (by dsimp only; omega)), cell_later (one_alloc _ _) (far2 (far2 s1 (by dsimp only; omega) (by dsimp only; omega)) (by dsimp only; omega) (by dsimp only; omega)), cell_later (one_alloc _ _) (far2 (far2 s2 (by dsimp only; omega) (by dsimp only; omega)) (by dsimp only; omega) (by dsimp only; omega)), cell_later (one_alloc _ _) (far2 (far2 s3 (by dsimp only; omega) (by dsimp only; omega)) (by dsimp only; omega) (by dsimp only; omega)), cell_later (one_alloc _ _) (far2 (far2 s4 (by dsimp only; omega) (by dsimp only; omega)) (by dsimp only; omega) (by dsimp only; omega)), cell_later (one_alloc _ _) (far2 (far2 s5 (by dsimp only; omega) (by dsimp only; omega)) (by dsimp only; omega) (by dsimp only; omega))⟩ | exact ⟨g0, g1, g2, g3, g4, g5⟩ | exact ⟨cell_later (one_alloc w1 _).drew g0, cell_later (one_alloc w1 _).drew g1, cell_later (one_alloc w1 _).drew g2, cell_later (one_alloc w1 _).drew g3, cell_later (one_alloc w1 _).drew g4, cell_later (one_alloc w1 _).drew g5⟩ | exact ⟨cell_later (two_alloc w1 _ _).drew g0, cell_later (two_alloc w1 _ _).drew g1, cell_later (two_alloc w1 _ _).drew g2, cell_later (two_alloc w1 _ _).drew g3, cell_later (two_alloc w1 _ _).drew g4, cell_later (two_alloc w1 _ _).drew g5⟩ | exact ⟨cell_later (one_alloc w1.drew _) g0, cell_later (one_alloc w1.drew _) g1, cell_later (one_alloc w1.drew _) g2, cell_later (one_alloc w1.drew _) g3, cell_later (one_alloc w1.drew _) g4, cell_later (one_alloc w1.drew _) g5⟩ | exact ⟨cell_later (two_alloc w1.drew _ _) g0, cell_later (two_alloc w1.drew _ _) g1, cell_later (two_alloc w1.drew _ _) g2, cell_later (two_alloc w1.drew _ _) g3, cell_later (two_alloc w1.drew _ _) g4, cell_later (two_alloc w1.drew _ _) g5⟩)
        (first | (go_at_call 19; refine (idivmod_any (by first | exact aL.drew | exact (aL.below (one_alloc _ _)).drew | exact (aL.below (two_alloc _ _ _)).drew | exact aL.drew.below (one_alloc _ _) | exact aL.drew.below (two_alloc _ _ _)) (by first | exact bL.drew | exact (bL.below (one_alloc _ _)).drew | exact (bL.below (two_alloc _ _ _)).drew | exact bL.drew.below (one_alloc _ _) | exact bL.drew.below (two_alloc _ _ _)) (by omega) (by omega) (by first | exact hE0 | exact cell_later (one_alloc w1 _).drew hE0 | exact cell_later (two_alloc w1 _ _).drew hE0 | exact cell_later (one_alloc w1.drew _) hE0 | exact cell_later (two_alloc w1.drew _ _) hE0) (by first | exact hE2 | exact cell_later (one_alloc w1 _).drew hE2 | exact cell_later (two_alloc w1 _ _).drew hE2 | exact cell_later (one_alloc w1.drew _) hE2 | exact cell_later (two_alloc w1.drew _ _) hE2)).mono ?_; rintro e w4 ⟨⟨m4, p4, k4, us4, m5, p5, k5, us5, F, rfl, hZ4, hZ5, hk4, hk5, hF⟩, hb4⟩; have s0 : w4.cell? ⟨w.heap.size, 3, none⟩ = some (.int .i64 (ra : Int)) := cell_later hb4 (by first | exact g0 | exact cell_later (one_alloc w1 _).drew g0 | exact cell_later (two_alloc w1 _ _).drew g0 | exact cell_later (one_alloc w1.drew _) g0 | exact cell_later (two_alloc w1.drew _ _) g0); have s1 : w4.cell? ⟨w.heap.size, 4, none⟩ = some (.int .i64 (rb : Int)) := cell_later hb4 (by first | exact g1 | exact cell_later (one_alloc w1 _).drew g1 | exact cell_later (two_alloc w1 _ _).drew g1 | exact cell_later (one_alloc w1.drew _) g1 | exact cell_later (two_alloc w1.drew _ _) g1); have s2 : w4.cell? ⟨B, ra * 2, none⟩ = some (.bool ma) := cell_later hb4 (by first | exact g2 | exact cell_later (one_alloc w1 _).drew g2 | exact cell_later (two_alloc w1 _ _).drew g2 | exact cell_later (one_alloc w1.drew _) g2 | exact cell_later (two_alloc w1.drew _ _) g2); have s3 : w4.cell? ⟨B, ra * 2 + 1, none⟩ = some (.slice pa na ca) := cell_later hb4 (by first | exact g3 | exact cell_later (one_alloc w1 _).drew g3 | exact cell_later (two_alloc w1 _ _).drew g3 | exact cell_later (one_alloc w1.drew _) g3 | exact cell_later (two_alloc w1.drew _ _) g3); have s4 : w4.cell? ⟨B, rb * 2, none⟩ = some (.bool mb) := cell_later hb4 (by first | exact g4 | exact cell_later (one_alloc w1 _).drew g4 | exact cell_later (two_alloc w1 _ _).drew g4 | exact cell_later (one_alloc w1.drew _) g4 | exact cell_later (two_alloc w1.drew _ _) g4); have s5 : w4.cell? ⟨B, rb * 2 + 1, none⟩ = some (.slice pb nb cb) := cell_later hb4 (by first | exact g5 | exact cell_later (one_alloc w1 _).drew g5 | exact cell_later (two_alloc w1 _ _).drew g5 | exact cell_later (one_alloc w1.drew _) g5 | exact cell_later (two_alloc w1.drew _ _) g5); (first | (with_reducible have hkk := two_kept hb4; obtain ⟨n0, n1, n2, n3, o0, o1, o2, o3⟩ := hkk) | (with_reducible have hkk := one_kept hb4; obtain ⟨n0, n1, n2, n3, n4⟩ := hkk; have n5 : ¬ w1.heap.size = w4.heap.size := Nat.ne_of_lt n4; have n6 : ¬ w4.heap.size = w1.heap.size := Ne.symm n5) | skip)))
      · go_wp2
        go_meet
        case rel => exact ⟨_, _, _, m4, m5, p4, p5, k4, k5, us4, us5, rfl, rfl, rfl, hF, by simp, by simp, by simp, by simp, hZ4.below (two_alloc w4 _ _), hZ5.below (two_alloc w4 _ _), by omega, by omega, (by have h4 := hb4.size; simp at h4; omega), (by have h4 := hb4.size; simp at h4; omega), chain (Below.refl _ _).drew (chain hb4 (two_alloc w4 _ _))⟩
      · go_wp2
        go_meet
        case rel => exact ⟨_, _, _, m4, m5, p4, p5, k4, k5, us4, us5, rfl, rfl, rfl, hF, by simp, by simp, by simp, by simp, hZ4.below (two_alloc w4 _ _), hZ5.below (two_alloc w4 _ _), by omega, by omega, (by have h4 := hb4.size; simp at h4; omega), (by have h4 := hb4.size; simp at h4; omega), chain (Below.refl _ _).drew (chain hb4 (two_alloc w4 _ _))⟩
      · obtain ⟨v0, v1, vL, vC, vB⟩ := pair_set n0 n1 m4 p4 k4 _ rfl
        have hb14 : Below w1.heap.size w1 w4 := chain (one_alloc w1 _).drew hb4
        go_wp2
        go_meet
        case rel => exact ⟨_, _, _, m4, m5, p4, p5, k4, k5, us4, us5, rfl, rfl, rfl, hF, cell_later (one_alloc _ _) v0, cell_later (one_alloc _ _) v1, by rw [World.cell?_alloc_at _ _ _ _ (by simp)]; rfl, by rw [World.cell?_alloc_at _ _ _ _ (by simp)]; rfl, (vL _ _ _ _ hZ4).below (one_alloc _ _), (vL _ _ _ _ hZ5).below (one_alloc _ _), by omega, by omega, by omega, by omega, (hb14.trans (vB _ (Nat.le_refl _))).alloc (by simp; omega) _⟩
      · obtain ⟨v0, v1, vL, vC, vB⟩ := pair_set n0 n1 m4 p4 k4 _ rfl
        obtain ⟨v0', v1', vL', vC', vB'⟩ := pair_set (vC _ _ _ (by omega) o0) (vC _ _ _ (by omega) o1) m5 p5 k5 _ rfl
        have hb14 : Below w1.heap.size w1 w4 := chain (two_alloc w1 _ _).drew hb4
        go_wp2
        go_meet
        case rel => exact ⟨_, _, _, m4, m5, p4, p5, k4, k5, us4, us5, rfl, rfl, rfl, hF, vC' _ _ _ (by omega) v0, vC' _ _ _ (by omega) v1, v0', v1', vL' _ _ _ _ (vL _ _ _ _ hZ4), vL' _ _ _ _ (vL _ _ _ _ hZ5), by omega, by omega, by omega, by omega, (hb14.trans (vB _ (by omega))).trans (vB' _ (by omega))⟩
      · obtain ⟨v0, v1, vL, vC, vB⟩ := pair_set n0 n1 m5 p5 k5 _ rfl
        have hb14 : Below w1.heap.size w1 w4 := chain (one_alloc w1 _).drew hb4
        go_wp2
        go_meet
        case rel => exact ⟨_, _, _, m4, m5, p4, p5, k4, k5, us4, us5, rfl, rfl, rfl, hF, by rw [World.cell?_alloc_at _ _ _ _ (by simp)]; rfl, by rw [World.cell?_alloc_at _ _ _ _ (by simp)]; rfl, cell_later (one_alloc _ _) v0, cell_later (one_alloc _ _) v1, (vL _ _ _ _ hZ4).below (one_alloc _ _), (vL _ _ _ _ hZ5).below (one_alloc _ _), by omega, by omega, by omega, by omega, (hb14.trans (vB _ (Nat.le_refl _))).alloc (by simp; omega) _⟩
      · obtain ⟨v0, v1, vL, vC, vB⟩ := pair_set o0 o1 m4 p4 k4 _ rfl
        obtain ⟨v0', v1', vL', vC', vB'⟩ := pair_set (vC _ _ _ (by omega) n0) (vC _ _ _ (by omega) n1) m5 p5 k5 _ rfl
        have hb14 : Below w1.heap.size w1 w4 := chain (two_alloc w1 _ _).drew hb4
        go_wp2
        go_meet
        case rel => exact ⟨_, _, _, m4, m5, p4, p5, k4, k5, us4, us5, rfl, rfl, rfl, hF, vC' _ _ _ (by omega) v0, vC' _ _ _ (by omega) v1, v0', v1', vL' _ _ _ _ (vL _ _ _ _ hZ4), vL' _ _ _ _ (vL _ _ _ _ hZ5), by omega, by omega, by omega, by omega, (hb14.trans (vB _ (by omega))).trans (vB' _ (by omega))⟩
    case rest =>
      obtain ⟨b12, b13, F, m1, m2, x1, x2, k1, k2, u1, u2, rfl, rfl, rfl, hF, c0, c1, d0, d1, L1, L2, hk1, hk2, hB12, hB13, hbc⟩ := hcut
      have hRc := hR1.below hbc
      have hSc := hS1.below hbc
      have hb0c := chain hb01 hbc
      obtain ⟨y0, y1, y2, y3, y4, y5, y6, y7, y8, u0, u1', u2', u3, u4, u5, fu⟩ := hs.below (chain hb1 hbc)
      clear q0 q1 q2 q3 q4 q5 q6 q7 q8 z0 z1 z2 z3 z4 z5 fz hE0 hE2 a0 a1 b0 b1 aL bL
      rcases hF with rfl | rfl
      · obtain ⟨mx, px, kx, cx, e0, e1, f0, f1⟩ := hRc.free hd'
        go_wp2_with fail
        go_region_held3 (fun w' => w'.cell? ⟨w.heap.size, 1, none⟩ = some (.int .i64 (rd : Int)) ∧ w'.cell? ⟨b12, 0, none⟩ = some (.bool m1) ∧ w'.cell? ⟨b12, 1, none⟩ = some (.slice x1 k1 k1))
          (first | with_reducible exact ⟨far2d y1 (by dsimp only; omega) (by dsimp only; omega), far2d c0 (by dsimp only; omega) (by dsimp only; omega), far2d c1 (by dsimp only; omega) (by dsimp only; omega)⟩ | exact ⟨y1, c0, c1⟩)
          (fail)
        obtain ⟨V, hVe⟩ : ∃ V, V = ((wc.setCell ⟨B, rd * 2, none⟩ (.bool m1)).setCell ⟨B, rd * 2 + 1, none⟩ (.slice x1 k1 k1)).drew := ⟨_, rfl⟩
        obtain ⟨v0, v1, v2, v3, v4, v5, hP, hBt⟩ := put_end hs hlt hd' (w4 := wc.drew) (hRc.below (Below.refl _ _).drew) (But.of_below (chain hb0c (Below.refl _ _).drew)) u0 u1' u2' u3 u4 u5 m1 x1 k1 k1 u1 L1.drew (K' := K + 1) (by omega) (Nat.le_succ K) V (by rw [hVe]; rfl)
        have fv : ∀ i, V.frozen? ⟨w.heap.size + 1, i, none⟩ = false := fun i => by rw [hVe]; simpa using fu i
        have t2 : V.cell? ⟨w.heap.size, 2, none⟩ = some (.int .i64 (rd2 : Int)) := by rw [hVe]; exact far2d y2 (by dsimp only; omega) (by dsimp only; omega)
        have g0 : V.cell? ⟨b13, 0, none⟩ = some (.bool m2) := by rw [hVe]; exact far2d d0 (by dsimp only; omega) (by dsimp only; omega)
        have g1 : V.cell? ⟨b13, 1, none⟩ = some (.slice x2 k2 k2) := by rw [hVe]; exact far2d d1 (by dsimp only; omega) (by dsimp only; omega)
        have L2V : Limbs V x2 k2 k2 u2 := by rw [hVe]; exact (hRc.limbs hd' L2 _ _).drew
        rw [← hVe]
        clear hVe
        obtain ⟨mx, px, kx, cx, e0, e1, f0, f1⟩ := hP.free hd2'
        go_wp2_with fail
        go_region_held3 (fun w' => w'.cell? ⟨w.heap.size, 2, none⟩ = some (.int .i64 (rd2 : Int)) ∧ w'.cell? ⟨b13, 0, none⟩ = some (.bool m2) ∧ w'.cell? ⟨b13, 1, none⟩ = some (.slice x2 k2 k2))
          (first | with_reducible exact ⟨far2d t2 (by dsimp only; omega) (by dsimp only; omega), far2d g0 (by dsimp only; omega) (by dsimp only; omega), far2d g1 (by dsimp only; omega) (by dsimp only; omega)⟩ | exact ⟨t2, g0, g1⟩)
          (fail)
        obtain ⟨V2, hVe⟩ : ∃ V2, V2 = ((V.setCell ⟨B, rd2 * 2, none⟩ (.bool m2)).setCell ⟨B, rd2 * 2 + 1, none⟩ (.slice x2 k2 k2)).drew := ⟨_, rfl⟩
        obtain ⟨s0, s1, s2, s3, s4, s5, hP2, hBt2⟩ := put_end hs hlt hd2' (w4 := V.drew) (hP.below (Below.refl _ _).drew) (hBt.trans (But.of_below (Below.refl _ _).drew)) v0 v1 v2 v3 v4 v5 m2 x2 k2 k2 u2 L2V.drew (K' := K + 1) (by omega) (Nat.le_refl _) V2 (by rw [hVe]; rfl)
        have fv2 : ∀ i, V2.frozen? ⟨w.heap.size + 1, i, none⟩ = false := fun i => by rw [hVe]; simpa using fv i
        rw [← hVe]
        clear hVe
        go_wp2
        obtain ⟨o1, o2⟩ := out_store hP2 hBt2 hlt s0 s1 s2 s3 s4 s5 (.int .i64 0) (.int .i64 0) (.string ⟨#[]⟩) (.int .i64 0) (.bool false) (.int .i64 0)
        exact bodyPost_ret (v := .agg #[.int .i64 0, .int .i64 0, .string ⟨#[]⟩, .int .i64 0, .bool false, .int .i64 0]) (by simp [results, Tryd.results5, go_sem, s0, s1, s2, s3, s4, s5]) rfl
          ⟨_, _, _, _, _, _, rfl, ⟨_, o1, fun h hc => by omega⟩, o2⟩
      · obtain ⟨cq, tq, hq⟩ := hSc.b0
        go_wp2_with fail
        refine (fault_any hSc hq).mono ?_
        rintro e wf ⟨⟨cx, hcx, rfl⟩, hwf⟩
        subst hwf
        go_wp2
        obtain ⟨o1, o2⟩ := out_store (hRc.mono (Nat.le_succ K)) (But.of_below hb0c) hlt u0 u1' u2' u3 u4 u5 (.int .i64 cx) (.int .i64 0) (.string ⟨#[]⟩) (.int .i64 0) (.bool false) (.int .i64 0)
        exact bodyPost_ret (v := .agg #[.int .i64 cx, .int .i64 0, .string ⟨#[]⟩, .int .i64 0, .bool false, .int .i64 0]) (by simp [results, Tryd.results5, go_sem, u0, u1', u2', u3, u4, u5]) rfl
          ⟨_, _, _, _, _, _, rfl, ⟨R, o1, fun h hc => by omega⟩, o2⟩
end Go.Proofs.Qxb6500872aDoor
