import Derived.Test.Qxb6500872aDoorWs2
set_option linter.unusedVariables false
namespace Go.Proofs.Qxb6500872aDoor
open Go.RowKit

set_option maxRecDepth 40000 in
set_option maxHeartbeats 8000000 in
theorem step_str {d d2 a b wd : Int} {ng : Bool} {lp : Option Addr} {ln lc : Nat} {s : ByteArray} {w : World} {B K : Nat} {R : Nat → Reg} {p0 p1 : Addr} {E2 : Value}
    (hR : Regs w B K R) (hK : K ≤ 80000) (hS : Sents w p0 p1 E2) :
    Calls Tryd.prog 5 #[.pointer (some ⟨B, 0, none⟩), .agg #[.int .i64 10, .int .i64 d, .int .i64 d2, .int .i64 a, .int .i64 b, .bool ng, .slice lp ln lc, .string s, .int .i64 wd]] w fun e w' => StepPost w B K 10 d s e w' := by
  generalize hW : (w.alloc (.cells #[.int .i64 10, .int .i64 d, .int .i64 d2, .int .i64 a, .int .i64 b, .bool ng, .slice lp ln lc, .string s, .int .i64 wd] 34)).alloc (.cells #[.int .i64 0, .int .i64 0, .string ⟨#[]⟩, .int .i64 0, .bool false, .int .i64 0] 37) = W
  have hs := start_of w W 10 d d2 a b wd ng lp ln lc s hW.symm
  have hsz := hs.siz
  have hB0 := hs.bel
  have hlt : B < w.heap.size := World.block_lt_of_cell? _ _ (hR 0 (by omega)).1
  have q8 := hs.q8
  have q7 := hs.q7
  have q6 := hs.q6
  have q5 := hs.q5
  have q4 := hs.q4
  have q3 := hs.q3
  have q2 := hs.q2
  have q1 := hs.q1
  have q0 := hs.q0
  go_enter Tryd.func5, Tryd.ntmps5
  go_wp2_with fail
  clear q0 q1 q2 q3 q4 q5 q6 q7 q8 hW
  refine wellFormed_any.mono ?_
  rintro e w1 ⟨⟨r, rfl, hr⟩, hb1⟩
  obtain ⟨q0, q1, q2, q3, q4, q5, q6, q7, q8, z0, z1, z2, z3, z4, z5, fz⟩ := hs.below hb1
  have hb01 := chain hB0 hb1
  have hR1 := hR.below hb01
  have hS1 := hS.below hb01
  clear hR hS
  cases r with
  | false =>
    clear hr
    go_wp2
    obtain ⟨o1, o2⟩ := out_store (hR1.mono (Nat.le_succ K)) (But.of_below hb01) hlt z0 z1 z2 z3 z4 z5 (.int .i64 1) (.int .i64 0) (.string ⟨#[]⟩) (.int .i64 0) (.bool false) (.int .i64 0)
    exact bodyPost_ret (v := .agg #[.int .i64 1, .int .i64 0, .string ⟨#[]⟩, .int .i64 0, .bool false, .int .i64 0]) (by simp [results, Tryd.results5, go_sem, z0, z1, z2, z3, z4, z5]) rfl
      ⟨_, _, _, _, _, _, rfl, ⟨R, o1, fun h hc => by omega⟩, o2⟩
  | true =>
    have hwf := hr rfl
    clear hr
    have ha : RegNo a := by
      rcases hwf with h | h | h | h | h | h
      · omega
      · omega
      · omega
      · omega
      · omega
      · exact h.2
    clear hwf
    obtain ⟨ra, rfl, ha'⟩ : ∃ r : Nat, a = r ∧ r < 8 := ⟨a.toNat, by have := ha.1; omega, by have := ha.1; have := ha.2; omega⟩
    have ia0 : (0 : Int) ≤ ra := by omega
    have ia1 : (ra : Int) < 8 := by omega
    clear ha
    obtain ⟨ma, pa, na, ca, zas, a0, a1, aL, ak⟩ := hR1.get ha'
    have g0 : w1.cell? ⟨w.heap.size, 3, none⟩ = some (.int .i64 (ra : Int)) := by assumption
    have g1 : w1.cell? ⟨B, ra * 2, none⟩ = some (.bool ma) := by assumption
    have g2 : w1.cell? ⟨B, ra * 2 + 1, none⟩ = some (.slice pa na ca) := by assumption
    go_wp2_with fail
    go_region_held3 (fun w' => w'.cell? ⟨w.heap.size, 3, none⟩ = some (.int .i64 (ra : Int)) ∧ w'.cell? ⟨B, ra * 2, none⟩ = some (.bool ma) ∧ w'.cell? ⟨B, ra * 2 + 1, none⟩ = some (.slice pa na ca))
      (first | with_reducible exact ⟨s0, s1, s2⟩ | with_reducible exact ⟨far6 s0 (by dsimp only; omega), far6 s1 (by dsimp only; omega), far6 s2 (by dsimp only; omega)⟩ | exact ⟨g0, g1, g2⟩)
      (first | (go_at_call 7; refine (istring_hid aL.drew (by omega)).mono ?_; rintro e w4 ⟨⟨tv, rfl⟩, hb4⟩; have hbz := chain (Below.refl _ _).drew hb4; have s0 : w4.cell? ⟨w.heap.size, 3, none⟩ = some (.int .i64 (ra : Int)) := cell_later hbz (by assumption); have s1 : w4.cell? ⟨B, ra * 2, none⟩ = some (.bool ma) := cell_later hbz (by assumption); have s2 : w4.cell? ⟨B, ra * 2 + 1, none⟩ = some (.slice pa na ca) := cell_later hbz (by assumption);  obtain ⟨y0, y1, y2, y3, y4, y5, y6, y7, y8, u0, u1, u2, u3, u4, u5, fu⟩ := hs.below (chain hb1 hbz)))
    all_goals
      go_wp2
      obtain ⟨o1, o2⟩ := out_store ((hR1.below hbz).mono (Nat.le_succ K)) (But.of_below (chain hb01 hbz)) hlt u0 u1 u2 u3 u4 u5 (.int .i64 0) (.int .i64 0) (.string tv) (.int .i64 0) (.bool false) (.int .i64 0)
      exact bodyPost_ret (v := .agg #[.int .i64 0, .int .i64 0, .string tv, .int .i64 0, .bool false, .int .i64 0]) (by simp [results, Tryd.results5, go_sem, u0, u1, u2, u3, u4, u5]) rfl
        ⟨_, _, _, _, _, _, rfl, ⟨R, o1, fun h hc => by omega⟩, o2⟩
set_option maxRecDepth 40000 in
set_option maxHeartbeats 8000000 in
theorem step_bits {d d2 a b wd : Int} {ng : Bool} {lp : Option Addr} {ln lc : Nat} {s : ByteArray} {w : World} {B K : Nat} {R : Nat → Reg} {p0 p1 : Addr} {E2 : Value}
    (hR : Regs w B K R) (hK : K ≤ 80000) (hS : Sents w p0 p1 E2) :
    Calls Tryd.prog 5 #[.pointer (some ⟨B, 0, none⟩), .agg #[.int .i64 13, .int .i64 d, .int .i64 d2, .int .i64 a, .int .i64 b, .bool ng, .slice lp ln lc, .string s, .int .i64 wd]] w fun e w' => StepPost w B K 13 d s e w' := by
  generalize hW : (w.alloc (.cells #[.int .i64 13, .int .i64 d, .int .i64 d2, .int .i64 a, .int .i64 b, .bool ng, .slice lp ln lc, .string s, .int .i64 wd] 34)).alloc (.cells #[.int .i64 0, .int .i64 0, .string ⟨#[]⟩, .int .i64 0, .bool false, .int .i64 0] 37) = W
  have hs := start_of w W 13 d d2 a b wd ng lp ln lc s hW.symm
  have hsz := hs.siz
  have hB0 := hs.bel
  have hlt : B < w.heap.size := World.block_lt_of_cell? _ _ (hR 0 (by omega)).1
  have q8 := hs.q8
  have q7 := hs.q7
  have q6 := hs.q6
  have q5 := hs.q5
  have q4 := hs.q4
  have q3 := hs.q3
  have q2 := hs.q2
  have q1 := hs.q1
  have q0 := hs.q0
  go_enter Tryd.func5, Tryd.ntmps5
  go_wp2_with fail
  clear q0 q1 q2 q3 q4 q5 q6 q7 q8 hW
  refine wellFormed_any.mono ?_
  rintro e w1 ⟨⟨r, rfl, hr⟩, hb1⟩
  obtain ⟨q0, q1, q2, q3, q4, q5, q6, q7, q8, z0, z1, z2, z3, z4, z5, fz⟩ := hs.below hb1
  have hb01 := chain hB0 hb1
  have hR1 := hR.below hb01
  have hS1 := hS.below hb01
  clear hR hS
  cases r with
  | false =>
    clear hr
    go_wp2
    obtain ⟨o1, o2⟩ := out_store (hR1.mono (Nat.le_succ K)) (But.of_below hb01) hlt z0 z1 z2 z3 z4 z5 (.int .i64 1) (.int .i64 0) (.string ⟨#[]⟩) (.int .i64 0) (.bool false) (.int .i64 0)
    exact bodyPost_ret (v := .agg #[.int .i64 1, .int .i64 0, .string ⟨#[]⟩, .int .i64 0, .bool false, .int .i64 0]) (by simp [results, Tryd.results5, go_sem, z0, z1, z2, z3, z4, z5]) rfl
      ⟨_, _, _, _, _, _, rfl, ⟨R, o1, fun h hc => by omega⟩, o2⟩
  | true =>
    have hwf := hr rfl
    clear hr
    have ha : RegNo a := by
      rcases hwf with h | h | h | h | h | h
      · omega
      · omega
      · omega
      · omega
      · omega
      · exact h.2
    clear hwf
    obtain ⟨ra, rfl, ha'⟩ : ∃ r : Nat, a = r ∧ r < 8 := ⟨a.toNat, by have := ha.1; omega, by have := ha.1; have := ha.2; omega⟩
    have ia0 : (0 : Int) ≤ ra := by omega
    have ia1 : (ra : Int) < 8 := by omega
    clear ha
    obtain ⟨ma, pa, na, ca, zas, a0, a1, aL, ak⟩ := hR1.get ha'
    have g0 : w1.cell? ⟨w.heap.size, 3, none⟩ = some (.int .i64 (ra : Int)) := by assumption
    have g1 : w1.cell? ⟨B, ra * 2 + 1, none⟩ = some (.slice pa na ca) := by assumption
    go_wp2_with fail
    go_region_held3 (fun w' => w'.cell? ⟨w.heap.size, 3, none⟩ = some (.int .i64 (ra : Int)) ∧ w'.cell? ⟨B, ra * 2 + 1, none⟩ = some (.slice pa na ca))
      (first | with_reducible exact ⟨s0, s1⟩ | with_reducible exact ⟨far6 s0 (by dsimp only; omega), far6 s1 (by dsimp only; omega)⟩ | exact ⟨g0, g1⟩)
      (first | (go_at_call 26; refine (bitLen_hid aL.drew).mono ?_; rintro e w4 ⟨⟨cv, rfl⟩, hb4⟩; have hbz := chain (Below.refl _ _).drew hb4; have s0 : w4.cell? ⟨w.heap.size, 3, none⟩ = some (.int .i64 (ra : Int)) := cell_later hbz (by assumption); have s1 : w4.cell? ⟨B, ra * 2 + 1, none⟩ = some (.slice pa na ca) := cell_later hbz (by assumption);  obtain ⟨y0, y1, y2, y3, y4, y5, y6, y7, y8, u0, u1, u2, u3, u4, u5, fu⟩ := hs.below (chain hb1 hbz)))
    all_goals
      go_wp2
      obtain ⟨o1, o2⟩ := out_store ((hR1.below hbz).mono (Nat.le_succ K)) (But.of_below (chain hb01 hbz)) hlt u0 u1 u2 u3 u4 u5 (.int .i64 0) (.int .i64 0) (.string ⟨#[]⟩) (.int .i64 0) (.bool false) (.int .i64 cv)
      exact bodyPost_ret (v := .agg #[.int .i64 0, .int .i64 0, .string ⟨#[]⟩, .int .i64 0, .bool false, .int .i64 cv]) (by simp [results, Tryd.results5, go_sem, u0, u1, u2, u3, u4, u5]) rfl
        ⟨_, _, _, _, _, _, rfl, ⟨R, o1, fun h hc => by omega⟩, o2⟩
end Go.Proofs.Qxb6500872aDoor
