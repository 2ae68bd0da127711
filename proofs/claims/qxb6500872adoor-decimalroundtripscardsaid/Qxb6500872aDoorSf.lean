import Derived.Test.Qxb6500872aDoorWs2
set_option linter.unusedVariables false
namespace Go.Proofs.Qxb6500872aDoor
open Go.RowKit

theorem copy_any {w1 : World} {lp : Option Addr} {ln lc : Nat} {zs : List Int} (h : Limbs w1 lp ln ln zs) (hn : ln ≤ 128) :
    ∃ Y us, (Builtin.copy_ #[26, 25] 3 #[.slice (some ⟨w1.heap.size, 0, none⟩) ln ln, .slice lp ln lc]).run Tryd.prog (w1.alloc (.cells (madeCells #[.int .u32 0] ln) 61)) = .ok (.int .i64 (ln : Int)) Y ∧
      Limbs Y (some ⟨w1.heap.size, 0, none⟩) ln ln us ∧ Below w1.heap.size w1 Y := by
  have hM := made_limbs w1 ln (by omega)
  have hb := one_alloc w1 (.cells (madeCells #[.int .u32 0] ln) 61)
  rcases h.mem with h0 | ⟨bx, ox, rfl, hcell⟩
  · refine ⟨_, _, ?_, hM, hb⟩
    have := run_copy_none (P := Tryd.prog) (w1.alloc (.cells (madeCells #[.int .u32 0] ln) 61)) 26 25 3 61 (some ⟨w1.heap.size, 0, none⟩) lp ln ln ln lc Tryd.underlying26 (by kernel_rfl) (by simp [h0])
    rw [this, h0]; rfl
  · have h' := h.below hb
    have hl := h'.len
    have hd : ∀ j, j < (zs.map (Value.int .u32)).length → ((w1.alloc (.cells (madeCells #[.int .u32 0] ln) 61)).cell? ⟨w1.heap.size, 0 + j, none⟩).isSome = true := by
      intro j hj
      rw [List.length_map, hl] at hj
      obtain ⟨_, _, he, hcell⟩ := hM.at hj
      cases he
      rw [hcell j hj]; rfl
    have hin := World.cell?_setCells_in w1.heap.size (zs.map (Value.int .u32)) 0 (w1.alloc (.cells (madeCells #[.int .u32 0] ln) 61)) hd
    have hW := Wrote.setCells (b := w1.heap.size) (lo := 0) (hi := ln) (zs.map (Value.int .u32)) 0 (Wrote.refl _ _ _ (w1.alloc (.cells (madeCells #[.int .u32 0] ln) 61))) (Nat.le_refl _) (by simp [hl])
    refine ⟨(w1.alloc (.cells (madeCells #[.int .u32 0] ln) 61)).setCells w1.heap.size 0 (zs.map (Value.int .u32)), zs, ?_, ⟨hl, Nat.le_refl _, by omega, h'.rng, .inr ⟨_, _, rfl, fun j hj => ?_⟩⟩, hb.trans (hW.below (Nat.le_refl _))⟩
    · have := run_copy_cells (P := Tryd.prog) (w1.alloc (.cells (madeCells #[.int .u32 0] ln) 61)) 26 25 3 61 w1.heap.size 0 ln ln ⟨bx, ox, none⟩ ln lc (zs.map (Value.int .u32)) Tryd.underlying26 (by kernel_rfl) (by simp [hl]) (fun j v hj => by
        rw [List.getElem?_map] at hj
        have hjl : j < ln := by
          rw [← hl]
          rcases Nat.lt_or_ge j zs.length with hc | hc
          · exact hc
          · rw [List.getElem?_eq_none hc] at hj; simp at hj
        obtain ⟨_, _, he, hcell⟩ := h'.at hjl
        cases he
        have hplain : (⟨bx, ox, none⟩ : Addr).add j = ⟨bx, ox + j, none⟩ := by unfold Addr.add; split <;> simp_all
        rw [hplain, hcell j hjl]
        rw [List.getElem?_eq_getElem (by omega)] at hj ⊢
        simpa using hj) hd (fun j _ => by simp) (ints_oneCell _ _)
      rw [this]
      simp [goInt, hl]
    · have hj' : j < (zs.map (Value.int .u32)).length := by rw [List.length_map, hl]; exact hj
      rw [hin j hj', List.getElem_map, List.getElem?_eq_getElem (by omega)]
      rfl

set_option maxRecDepth 40000 in
set_option maxHeartbeats 8000000 in
theorem step_load {d d2 a b wd : Int} {ng : Bool} {lp : Option Addr} {ln lc : Nat} {s : ByteArray} {w : World} {B K : Nat} {R : Nat → Reg} {p0 p1 : Addr} {E2 : Value}
    (hR : Regs w B K R) (hK : K ≤ 80000) (hS : Sents w p0 p1 E2) (hK0 : 128 ≤ K) (hL : ln ≤ 128 → ∃ zs, Limbs w lp ln ln zs) :
    Calls Tryd.prog 5 #[.pointer (some ⟨B, 0, none⟩), .agg #[.int .i64 0, .int .i64 d, .int .i64 d2, .int .i64 a, .int .i64 b, .bool ng, .slice lp ln lc, .string s, .int .i64 wd]] w fun e w' => StepPost w B K 0 d s e w' := by
  generalize hW : (w.alloc (.cells #[.int .i64 0, .int .i64 d, .int .i64 d2, .int .i64 a, .int .i64 b, .bool ng, .slice lp ln lc, .string s, .int .i64 wd] 34)).alloc (.cells #[.int .i64 0, .int .i64 0, .string ⟨#[]⟩, .int .i64 0, .bool false, .int .i64 0] 37) = W
  have hs := start_of w W 0 d d2 a b wd ng lp ln lc s hW.symm
  have hsz := hs.siz
  have hB0 := hs.bel
  have hlt : B < w.heap.size := World.block_lt_of_cell? _ _ (hR 0 (by omega)).1
  have q8 := hs.q8
  have q7 := hs.q7
  have q6 := hs.q6
  have q5 := hs.q5
  have q4 := hs.q4
  have q3 := hs.q3
  have q2 := hs.q2
  have q1 := hs.q1
  have q0 := hs.q0
  go_enter Tryd.func5, Tryd.ntmps5
  go_wp2_with fail
  clear q0 q1 q2 q3 q4 q5 q6 q7 q8 hW
  refine wellFormed_any.mono ?_
  rintro e w1 ⟨⟨r, rfl, hr⟩, hb1⟩
  obtain ⟨q0, q1, q2, q3, q4, q5, q6, q7, q8, z0, z1, z2, z3, z4, z5, fz⟩ := hs.below hb1
  have hb01 := chain hB0 hb1
  have hR1 := hR.below hb01
  have hS1 := hS.below hb01
  clear hR hS
  cases r with
  | false =>
    clear hr
    go_wp2
    obtain ⟨o1, o2⟩ := out_store (hR1.mono (Nat.le_succ K)) (But.of_below hb01) hlt z0 z1 z2 z3 z4 z5 (.int .i64 1) (.int .i64 0) (.string ⟨#[]⟩) (.int .i64 0) (.bool false) (.int .i64 0)
    exact bodyPost_ret (v := .agg #[.int .i64 1, .int .i64 0, .string ⟨#[]⟩, .int .i64 0, .bool false, .int .i64 0]) (by simp [results, Tryd.results5, go_sem, z0, z1, z2, z3, z4, z5]) rfl
      ⟨_, _, _, _, _, _, rfl, ⟨R, o1, fun h hc => by omega⟩, o2⟩
  | true =>
    have hwf := hr rfl
    clear hr
    have hd : RegNo d := by
      rcases hwf with h | h | h | h | h | h
      · exact h.2
      · omega
      · omega
      · omega
      · omega
      · omega
    clear hwf
    obtain ⟨rd, rfl, hd'⟩ : ∃ r : Nat, d = r ∧ r < 8 := ⟨d.toNat, by have := hd.1; omega, by have := hd.1; have := hd.2; omega⟩
    have id0 : (0 : Int) ≤ rd := by omega
    have id1 : (rd : Int) < 8 := by omega
    clear hd
    by_cases hln : ln ≤ 128
    case neg =>
      clear hL
      go_wp2
      obtain ⟨o1, o2⟩ := out_store (hR1.mono (Nat.le_succ K)) (But.of_below hb01) hlt z0 z1 z2 z3 z4 z5 (.int .i64 2) (.int .i64 0) (.string ⟨#[]⟩) (.int .i64 0) (.bool false) (.int .i64 0)
      exact bodyPost_ret (v := .agg #[.int .i64 2, .int .i64 0, .string ⟨#[]⟩, .int .i64 0, .bool false, .int .i64 0]) (by simp [results, Tryd.results5, go_sem, z0, z1, z2, z3, z4, z5]) rfl
        ⟨_, _, _, _, _, _, rfl, ⟨R, o1, fun h hc => by omega⟩, o2⟩
    case pos =>
      obtain ⟨zs, hL0⟩ := hL hln
      clear hL
      obtain ⟨Y, us, hcp, hY, hbY⟩ := copy_any (lc := lc) (hL0.below hb01) hln
      have hmk := make_nat0 ln (by omega)
      have hws : w.heap.size + 2 ≤ w1.heap.size := by have := hb1.size; omega
      have hRY := hR1.below hbY
      obtain ⟨mx, px, kx, cx, e0, e1, f0, f1⟩ := hRY.free hd'
      obtain ⟨y0, y1, y2, y3, y4, y5, y6, y7, y8, u0, u1, u2, u3, u4, u5, fu⟩ := hs.below (chain hb1 hbY)
      have q6a : (w1.alloc (.cells (madeCells #[.int .u32 0] ln) 61)).cell? ⟨w.heap.size, 6, none⟩ = some (.slice lp ln lc) := cell_later (one_alloc _ _) q6
      have nlu := nl_le us ln
      go_wp2_with (first | (go_at_call 13; refine (nlen_any hY).mono ?_; rintro e wY ⟨rfl, hwY⟩; subst hwY))
      case _ =>
        obtain ⟨o1, o2⟩ := out_store (hRY.mono (Nat.le_succ K)) (But.of_below (chain hb01 hbY)) hlt u0 u1 u2 u3 u4 u5 (.int .i64 2) (.int .i64 0) (.string ⟨#[]⟩) (.int .i64 0) (.bool false) (.int .i64 0)
        exact bodyPost_ret (v := .agg #[.int .i64 2, .int .i64 0, .string ⟨#[]⟩, .int .i64 0, .bool false, .int .i64 0]) (by simp [results, Tryd.results5, go_sem, u0, u1, u2, u3, u4, u5]) rfl
          ⟨_, _, _, _, _, _, rfl, ⟨R, o1, fun h hc => by omega⟩, o2⟩
      case _ =>
        go_region_held3 (fun w' => w'.cell? ⟨w.heap.size, 1, none⟩ = some (.int .i64 (rd : Int)) ∧ w'.cell? ⟨w.heap.size, 5, none⟩ = some (.bool ng))
          (first | with_reducible exact ⟨far2d y1 (by dsimp only; omega) (by dsimp only; omega), far2d y5 (by dsimp only; omega) (by dsimp only; omega)⟩ | exact ⟨y1, y5⟩)
          (fail)
        obtain ⟨V, hVe⟩ : ∃ V, V = ((wY.setCell ⟨B, rd * 2, none⟩ (.bool ng)).setCell ⟨B, rd * 2 + 1, none⟩ (.slice (some ⟨w1.heap.size, 0, none⟩) ln ln)).drew := ⟨_, rfl⟩
        obtain ⟨v0, v1, v2, v3, v4, v5, hP, hBt⟩ := put_end hs hlt hd' (w4 := wY.drew) (hRY.below (Below.refl _ _).drew) (But.of_below (chain hb01 (chain hbY (Below.refl _ _).drew))) u0 u1 u2 u3 u4 u5 ng (some ⟨w1.heap.size, 0, none⟩) ln ln us hY.drew (K' := K + 1) (by omega) (Nat.le_succ K) V (by rw [hVe]; rfl)
        have fv : ∀ i, V.frozen? ⟨w.heap.size + 1, i, none⟩ = false := fun i => by rw [hVe]; simpa using fu i
        rw [← hVe]
        clear hVe
        go_wp2
        obtain ⟨o1, o2⟩ := out_store hP hBt hlt v0 v1 v2 v3 v4 v5 (.int .i64 0) (.int .i64 0) (.string ⟨#[]⟩) (.int .i64 0) (.bool false) (.int .i64 0)
        exact bodyPost_ret (v := .agg #[.int .i64 0, .int .i64 0, .string ⟨#[]⟩, .int .i64 0, .bool false, .int .i64 0]) (by simp [results, Tryd.results5, go_sem, v0, v1, v2, v3, v4, v5]) rfl
          ⟨_, _, _, _, _, _, rfl, ⟨_, o1, fun h hc => by omega⟩, o2⟩
end Go.Proofs.Qxb6500872aDoor
