import Derived.Test.Qxb6500872aDoorWs
set_option linter.unusedVariables false
namespace Go.Proofs.Qxb6500872aDoor
open Go.RowKit

set_option maxRecDepth 40000 in
set_option maxHeartbeats 8000000 in
theorem step_word {d d2 a b wd : Int} {ng : Bool} {lp : Option Addr} {ln lc : Nat} {s : ByteArray} {w : World} {B K : Nat} {R : Nat → Reg} {p0 p1 : Addr} {E2 : Value}
    (hR : Regs w B K R) (hK : K ≤ 80000) (hS : Sents w p0 p1 E2) (hK0 : 128 ≤ K) (hwd : -9223372036854775808 ≤ wd ∧ wd < 9223372036854775808) :
    Calls Tryd.prog 5 #[.pointer (some ⟨B, 0, none⟩), .agg #[.int .i64 11, .int .i64 d, .int .i64 d2, .int .i64 a, .int .i64 b, .bool ng, .slice lp ln lc, .string s, .int .i64 wd]] w fun e w' => StepPost w B K 11 d s e w' := by
  generalize hW : (w.alloc (.cells #[.int .i64 11, .int .i64 d, .int .i64 d2, .int .i64 a, .int .i64 b, .bool ng, .slice lp ln lc, .string s, .int .i64 wd] 34)).alloc (.cells #[.int .i64 0, .int .i64 0, .string ⟨#[]⟩, .int .i64 0, .bool false, .int .i64 0] 37) = W
  have hs := start_of w W 11 d d2 a b wd ng lp ln lc s hW.symm
  have hsz := hs.siz
  have hB0 := hs.bel
  have hlt : B < w.heap.size := World.block_lt_of_cell? _ _ (hR 0 (by omega)).1
  have q8 := hs.q8
  have q7 := hs.q7
  have q6 := hs.q6
  have q5 := hs.q5
  have q4 := hs.q4
  have q3 := hs.q3
  have q2 := hs.q2
  have q1 := hs.q1
  have q0 := hs.q0
  go_enter Tryd.func5, Tryd.ntmps5
  go_wp2_with fail
  clear q0 q1 q2 q3 q4 q5 q6 q7 q8 hW
  refine wellFormed_any.mono ?_
  rintro e w1 ⟨⟨r, rfl, hr⟩, hb1⟩
  obtain ⟨q0, q1, q2, q3, q4, q5, q6, q7, q8, z0, z1, z2, z3, z4, z5, fz⟩ := hs.below hb1
  have hb01 := chain hB0 hb1
  have hR1 := hR.below hb01
  have hS1 := hS.below hb01
  clear hR hS
  cases r with
  | false =>
    clear hr
    go_wp2
    obtain ⟨o1, o2⟩ := out_store (hR1.mono (Nat.le_succ K)) (But.of_below hb01) hlt z0 z1 z2 z3 z4 z5 (.int .i64 1) (.int .i64 0) (.string ⟨#[]⟩) (.int .i64 0) (.bool false) (.int .i64 0)
    exact bodyPost_ret (v := .agg #[.int .i64 1, .int .i64 0, .string ⟨#[]⟩, .int .i64 0, .bool false, .int .i64 0]) (by simp [results, Tryd.results5, go_sem, z0, z1, z2, z3, z4, z5]) rfl
      ⟨_, _, _, _, _, _, rfl, ⟨R, o1, fun h hc => by omega⟩, o2⟩
  | true =>
    have hwf := hr rfl
    clear hr
    have hd : RegNo d := by
      rcases hwf with h | h | h | h | h | h
      · exact h.2
      · omega
      · omega
      · omega
      · omega
      · omega
    clear hwf
    obtain ⟨rd, rfl, hd'⟩ : ∃ r : Nat, d = r ∧ r < 8 := ⟨d.toNat, by have := hd.1; omega, by have := hd.1; have := hd.2; omega⟩
    have id0 : (0 : Int) ≤ rd := by omega
    have id1 : (rd : Int) < 8 := by omega
    clear hd
    have hE0 := hS1.c0
    have hE2 := hS1.c2
    go_wp2_with fail
    go_region_held3 (fun w' => w'.cell? ⟨w.heap.size, 1, none⟩ = some (.int .i64 (rd : Int)) ∧ w'.cell? ⟨w.heap.size, 8, none⟩ = some (.int .i64 (wd : Int)))
      (refine ⟨?_, ?_⟩ <;> (first | (go_keep; done) | exact cell_later ‹Below _ _ _› (by simp [*]) | exact far2 (by simp [*]) (by dsimp only; omega) (by dsimp only; omega)))
      (first | (go_at_call 24; refine (fromI64_any wd hwd.1 hwd.2 _).mono ?_; rintro e w4 ⟨⟨m4, p4, k4, us4, rfl, hZ4, hk4⟩, hb4⟩; have hR4 := hR1.below (chain (Below.refl _ _).drew hb4); obtain ⟨mx, px, kx, cx, e0, e1, f0, f1⟩ := hR4.free hd'))
    have hbf := chain hb1 (chain (Below.refl _ _).drew hb4)
    obtain ⟨q0, q1, q2, q3, q4, q5, q6, q7, q8, z0, z1, z2, z3, z4, z5, fz⟩ := hs.below hbf
    go_wp2
    obtain ⟨y0, y1, y2, y3, y4, y5, hP, hBt⟩ := put_end hs hlt hd' hR4 (But.of_below (chain hB0 hbf)) z0 z1 z2 z3 z4 z5 m4 p4 k4 k4 us4 hZ4 (K' := K + 1) (by omega) (Nat.le_succ K) _ rfl
    obtain ⟨o1, o2⟩ := out_store hP hBt hlt y0 y1 y2 y3 y4 y5 (.int .i64 0) (.int .i64 0) (.string ⟨#[]⟩) (.int .i64 0) (.bool false) (.int .i64 0)
    exact bodyPost_ret (v := .agg #[.int .i64 0, .int .i64 0, .string ⟨#[]⟩, .int .i64 0, .bool false, .int .i64 0]) (by simp [results, Tryd.results5, go_sem, y0, y1, y2, y3, y4, y5]) rfl
      ⟨_, _, _, _, _, _, rfl, ⟨_, o1, fun h hc => by omega⟩, o2⟩
end Go.Proofs.Qxb6500872aDoor
