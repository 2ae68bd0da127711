import Derived.Test.Qxb6500872aDoorWs
set_option linter.unusedVariables false
namespace Go.Proofs.Qxb6500872aDoor
open Go.RowKit

set_option maxRecDepth 40000 in
set_option maxHeartbeats 8000000 in
theorem step_bad {k d d2 a b wd : Int} {ng : Bool} {lp : Option Addr} {ln lc : Nat} {s : ByteArray} {w : World} {B K : Nat} {R : Nat → Reg} {p0 p1 : Addr} {E2 : Value}
    (hR : Regs w B K R) (hK : K ≤ 80000) (hS : Sents w p0 p1 E2) (hbad : k < 0 ∨ 13 < k) :
    Calls Tryd.prog 5 #[.pointer (some ⟨B, 0, none⟩), .agg #[.int .i64 k, .int .i64 d, .int .i64 d2, .int .i64 a, .int .i64 b, .bool ng, .slice lp ln lc, .string s, .int .i64 wd]] w fun e w' => StepPost w B K k d s e w' := by
  generalize hW : (w.alloc (.cells #[.int .i64 k, .int .i64 d, .int .i64 d2, .int .i64 a, .int .i64 b, .bool ng, .slice lp ln lc, .string s, .int .i64 wd] 34)).alloc (.cells #[.int .i64 0, .int .i64 0, .string ⟨#[]⟩, .int .i64 0, .bool false, .int .i64 0] 37) = W
  have hs := start_of w W k d d2 a b wd ng lp ln lc s hW.symm
  have hsz := hs.siz
  have hB0 := hs.bel
  have hlt : B < w.heap.size := World.block_lt_of_cell? _ _ (hR 0 (by omega)).1
  have q8 := hs.q8
  have q7 := hs.q7
  have q6 := hs.q6
  have q5 := hs.q5
  have q4 := hs.q4
  have q3 := hs.q3
  have q2 := hs.q2
  have q1 := hs.q1
  have q0 := hs.q0
  go_enter Tryd.func5, Tryd.ntmps5
  go_wp2_with fail
  clear q0 q1 q2 q3 q4 q5 q6 q7 q8 hW
  refine wellFormed_any.mono ?_
  rintro e w1 ⟨⟨r, rfl, hr⟩, hb1⟩
  obtain ⟨q0, q1, q2, q3, q4, q5, q6, q7, q8, z0, z1, z2, z3, z4, z5, fz⟩ := hs.below hb1
  have hb01 := chain hB0 hb1
  have hR1 := hR.below hb01
  have hS1 := hS.below hb01
  clear hR hS
  cases r with
  | false =>
    clear hr
    go_wp2
    obtain ⟨o1, o2⟩ := out_store (hR1.mono (Nat.le_succ K)) (But.of_below hb01) hlt z0 z1 z2 z3 z4 z5 (.int .i64 1) (.int .i64 0) (.string ⟨#[]⟩) (.int .i64 0) (.bool false) (.int .i64 0)
    exact bodyPost_ret (v := .agg #[.int .i64 1, .int .i64 0, .string ⟨#[]⟩, .int .i64 0, .bool false, .int .i64 0]) (by simp [results, Tryd.results5, go_sem, z0, z1, z2, z3, z4, z5]) rfl
      ⟨_, _, _, _, _, _, rfl, ⟨R, o1, fun h hc => by omega⟩, o2⟩
  | true =>
    have hwf := hr rfl
    clear hr
    exfalso
    rcases hwf with h | h | h | h | h | h <;> omega
end Go.Proofs.Qxb6500872aDoor
