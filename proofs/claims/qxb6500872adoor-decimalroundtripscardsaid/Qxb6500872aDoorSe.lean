import Derived.Test.Qxb6500872aDoorWs2
set_option linter.unusedVariables false
namespace Go.Proofs.Qxb6500872aDoor
open Go.RowKit

set_option maxRecDepth 40000 in
set_option maxHeartbeats 8000000 in
theorem step_parse {d d2 a b wd : Int} {ng : Bool} {lp : Option Addr} {ln lc : Nat} {s : ByteArray} {w : World} {B K : Nat} {R : Nat → Reg} {p0 p1 : Addr} {E2 : Value}
    (hR : Regs w B K R) (hK : K ≤ 80000) (hS : Sents w p0 p1 E2) (hK0 : 128 ≤ K) :
    Calls Tryd.prog 5 #[.pointer (some ⟨B, 0, none⟩), .agg #[.int .i64 1, .int .i64 d, .int .i64 d2, .int .i64 a, .int .i64 b, .bool ng, .slice lp ln lc, .string s, .int .i64 wd]] w fun e w' => StepPost w B K 1 d s e w' := by
  generalize hW : (w.alloc (.cells #[.int .i64 1, .int .i64 d, .int .i64 d2, .int .i64 a, .int .i64 b, .bool ng, .slice lp ln lc, .string s, .int .i64 wd] 34)).alloc (.cells #[.int .i64 0, .int .i64 0, .string ⟨#[]⟩, .int .i64 0, .bool false, .int .i64 0] 37) = W
  have hs := start_of w W 1 d d2 a b wd ng lp ln lc s hW.symm
  have hsz := hs.siz
  have hB0 := hs.bel
  have hlt : B < w.heap.size := World.block_lt_of_cell? _ _ (hR 0 (by omega)).1
  have q8 := hs.q8
  have q7 := hs.q7
  have q6 := hs.q6
  have q5 := hs.q5
  have q4 := hs.q4
  have q3 := hs.q3
  have q2 := hs.q2
  have q1 := hs.q1
  have q0 := hs.q0
  go_enter Tryd.func5, Tryd.ntmps5
  go_wp2_with fail
  clear q0 q1 q2 q3 q4 q5 q6 q7 q8 hW
  refine wellFormed_any.mono ?_
  rintro e w1 ⟨⟨r, rfl, hr⟩, hb1⟩
  obtain ⟨q0, q1, q2, q3, q4, q5, q6, q7, q8, z0, z1, z2, z3, z4, z5, fz⟩ := hs.below hb1
  have hb01 := chain hB0 hb1
  have hR1 := hR.below hb01
  have hS1 := hS.below hb01
  clear hR hS
  cases r with
  | false =>
    clear hr
    go_wp2
    obtain ⟨o1, o2⟩ := out_store (hR1.mono (Nat.le_succ K)) (But.of_below hb01) hlt z0 z1 z2 z3 z4 z5 (.int .i64 1) (.int .i64 0) (.string ⟨#[]⟩) (.int .i64 0) (.bool false) (.int .i64 0)
    exact bodyPost_ret (v := .agg #[.int .i64 1, .int .i64 0, .string ⟨#[]⟩, .int .i64 0, .bool false, .int .i64 0]) (by simp [results, Tryd.results5, go_sem, z0, z1, z2, z3, z4, z5]) rfl
      ⟨_, _, _, _, _, _, rfl, ⟨R, o1, fun h hc => by omega⟩, o2⟩
  | true =>
    have hwf := hr rfl
    clear hr
    have hd : RegNo d := by
      rcases hwf with h | h | h | h | h | h
      · exact h.2
      · omega
      · omega
      · omega
      · omega
      · omega
    clear hwf
    obtain ⟨rd, rfl, hd'⟩ : ∃ r : Nat, d = r ∧ r < 8 := ⟨d.toNat, by have := hd.1; omega, by have := hd.1; have := hd.2; omega⟩
    have id0 : (0 : Int) ≤ rd := by omega
    have id1 : (rd : Int) < 8 := by omega
    clear hd
    by_cases hsz5 : s.size ≤ 576
    case neg =>
      go_wp2
      obtain ⟨o1, o2⟩ := out_store (hR1.mono (Nat.le_succ K)) (But.of_below hb01) hlt z0 z1 z2 z3 z4 z5 (.int .i64 2) (.int .i64 0) (.string ⟨#[]⟩) (.int .i64 0) (.bool false) (.int .i64 0)
      exact bodyPost_ret (v := .agg #[.int .i64 2, .int .i64 0, .string ⟨#[]⟩, .int .i64 0, .bool false, .int .i64 0]) (by simp [results, Tryd.results5, go_sem, z0, z1, z2, z3, z4, z5]) rfl
        ⟨_, _, _, _, _, _, rfl, ⟨R, o1, fun h hc => by omega⟩, o2⟩
    case pos =>
      have hE1 := hS1.c1
      have hws : w.heap.size + 2 ≤ w1.heap.size := by have := hb1.size; omega
      go_wp2_with fail
      refine (parseInt_any (by omega) hE1).mono ?_
      rintro e w2 ⟨hPI, hb2⟩
      have hws2 := hb2.size
      rcases hPI with ⟨hdg, m, p, k, zs, rfl, hZ, hnz, hpv, hmm, hk⟩ | ⟨hdg, rfl⟩
      · have HF : Hid (Digs (strip (tx s)).2 ∧ nl zs k = k ∧ pv zs k = dval (strip (tx s)).2 ∧ m = ((strip (tx s)).1 && decide (0 < k))) := ⟨hdg, hnz, hpv, hmm⟩
        clear hdg hnz hpv hmm
        rw [tx_len] at hk
        generalize hX : w2.alloc (.cells #[.bool m, .slice p k k] 28) = X
        have hbX : Below w2.heap.size w2 X := by rw [← hX]; exact one_alloc _ _
        have x0 : X.cell? ⟨w2.heap.size, 0, none⟩ = some (.bool m) := by rw [← hX]; simp
        have x1 : X.cell? ⟨w2.heap.size, 1, none⟩ = some (.slice p k k) := by rw [← hX]; simp
        have hb1X := chain hb2 hbX
        have hRX := hR1.below hb1X
        have hZX := hZ.below hbX
        obtain ⟨mx, px, kx, cx, e0, e1, f0, f1⟩ := hRX.free hd'
        obtain ⟨y0, y1, y2, y3, y4, y5, y6, y7, y8, u0, u1, u2, u3, u4, u5, fu⟩ := hs.below (chain hb1 hb1X)
        go_wp2_with fail
        clear hX
        go_region_held3 (fun w' => w'.cell? ⟨w.heap.size, 1, none⟩ = some (.int .i64 (rd : Int)) ∧ w'.cell? ⟨w2.heap.size, 0, none⟩ = some (.bool m) ∧ w'.cell? ⟨w2.heap.size, 1, none⟩ = some (.slice p k k))
          (first | with_reducible exact ⟨far2d y1 (by dsimp only; omega) (by dsimp only; omega), far2d x0 (by dsimp only; omega) (by dsimp only; omega), far2d x1 (by dsimp only; omega) (by dsimp only; omega)⟩ | exact ⟨y1, x0, x1⟩)
          (fail)
        obtain ⟨V, hVe⟩ : ∃ V, V = ((X.setCell ⟨B, rd * 2, none⟩ (.bool m)).setCell ⟨B, rd * 2 + 1, none⟩ (.slice p k k)).drew := ⟨_, rfl⟩
        obtain ⟨v0, v1, v2, v3, v4, v5, hP, hBt⟩ := put_end hs hlt hd' (w4 := X.drew) (hRX.below (Below.refl _ _).drew) (But.of_below (chain hb01 (chain hb1X (Below.refl _ _).drew))) u0 u1 u2 u3 u4 u5 m p k k zs hZX.drew (K' := K + 1) (by omega) (Nat.le_succ K) V (by rw [hVe]; rfl)
        have fv : ∀ i, V.frozen? ⟨w.heap.size + 1, i, none⟩ = false := fun i => by rw [hVe]; simpa using fu i
        rw [← hVe]
        clear hVe
        go_wp2
        obtain ⟨o1, o2⟩ := out_store hP hBt hlt v0 v1 v2 v3 v4 v5 (.int .i64 0) (.int .i64 0) (.string ⟨#[]⟩) (.int .i64 0) (.bool false) (.int .i64 0)
        exact bodyPost_ret (v := .agg #[.int .i64 0, .int .i64 0, .string ⟨#[]⟩, .int .i64 0, .bool false, .int .i64 0]) (by simp [results, Tryd.results5, go_sem, v0, v1, v2, v3, v4, v5]) rfl
          ⟨_, _, _, _, _, _, rfl, ⟨_, o1, fun _ _ => ⟨HF.out.1, hsz5, rd, rfl, hd', by simp only [putReg, if_pos]; exact HF.out.2⟩⟩, o2⟩
      · have HF : Hid (¬ Digs (strip (tx s)).2) := hdg
        clear hdg
        go_wp2_with fail
        generalize hX : w2.alloc (.cells #[.bool false, .slice none 0 0] 28) = X
        have hbX : Below w2.heap.size w2 X := by rw [← hX]; exact one_alloc _ _
        have hb1X := chain hb2 hbX
        have hRX := hR1.below hb1X
        have hSX := hS1.below hb1X
        obtain ⟨cq, tq, hq⟩ := hSX.b1
        obtain ⟨y0, y1, y2, y3, y4, y5, y6, y7, y8, u0, u1, u2, u3, u4, u5, fu⟩ := hs.below (chain hb1 hb1X)
        clear hX
        refine (fault_any hSX hq).mono ?_
        rintro e wf ⟨⟨cx, hcx, rfl⟩, rfl⟩
        have HX : Hid (cx ≠ 0) := hcx
        clear hcx
        go_wp2
        obtain ⟨o1, o2⟩ := out_store (hRX.mono (Nat.le_succ K)) (But.of_below (chain hb01 hb1X)) hlt u0 u1 u2 u3 u4 u5 (.int .i64 cx) (.int .i64 0) (.string ⟨#[]⟩) (.int .i64 0) (.bool false) (.int .i64 0)
        exact bodyPost_ret (v := .agg #[.int .i64 cx, .int .i64 0, .string ⟨#[]⟩, .int .i64 0, .bool false, .int .i64 0]) (by simp [results, Tryd.results5, go_sem, u0, u1, u2, u3, u4, u5]) rfl
          ⟨_, _, _, _, _, _, rfl, ⟨R, o1, fun _ hc => absurd hc HX.out⟩, o2⟩
end Go.Proofs.Qxb6500872aDoor
