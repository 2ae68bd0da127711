import Derived.Test.Qxb6500872aDoorWs
set_option linter.unusedVariables false
namespace Go.Proofs.Qxb6500872aDoor
open Go.RowKit

set_option maxRecDepth 40000 in
set_option maxHeartbeats 8000000 in
theorem step_mul {d d2 a b wd : Int} {ng : Bool} {lp : Option Addr} {ln lc : Nat} {s : ByteArray} {w : World} {B K : Nat} {R : Nat → Reg} {p0 p1 : Addr} {E2 : Value}
    (hR : Regs w B K R) (hK : K ≤ 80000) (hS : Sents w p0 p1 E2) (hK0 : 128 ≤ K) :
    Calls Tryd.prog 5 #[.pointer (some ⟨B, 0, none⟩), .agg #[.int .i64 4, .int .i64 d, .int .i64 d2, .int .i64 a, .int .i64 b, .bool ng, .slice lp ln lc, .string s, .int .i64 wd]] w fun e w' => StepPost w B K 4 d s e w' := by
  generalize hW : (w.alloc (.cells #[.int .i64 4, .int .i64 d, .int .i64 d2, .int .i64 a, .int .i64 b, .bool ng, .slice lp ln lc, .string s, .int .i64 wd] 34)).alloc (.cells #[.int .i64 0, .int .i64 0, .string ⟨#[]⟩, .int .i64 0, .bool false, .int .i64 0] 37) = W
  have hs := start_of w W 4 d d2 a b wd ng lp ln lc s hW.symm
  have hsz := hs.siz
  have hB0 := hs.bel
  have hlt : B < w.heap.size := World.block_lt_of_cell? _ _ (hR 0 (by omega)).1
  have q8 := hs.q8
  have q7 := hs.q7
  have q6 := hs.q6
  have q5 := hs.q5
  have q4 := hs.q4
  have q3 := hs.q3
  have q2 := hs.q2
  have q1 := hs.q1
  have q0 := hs.q0
  go_enter Tryd.func5, Tryd.ntmps5
  go_wp2_with fail
  clear q0 q1 q2 q3 q4 q5 q6 q7 q8 hW
  refine wellFormed_any.mono ?_
  rintro e w1 ⟨⟨r, rfl, hr⟩, hb1⟩
  obtain ⟨q0, q1, q2, q3, q4, q5, q6, q7, q8, z0, z1, z2, z3, z4, z5, fz⟩ := hs.below hb1
  have hb01 := chain hB0 hb1
  have hR1 := hR.below hb01
  have hS1 := hS.below hb01
  clear hR hS
  cases r with
  | false =>
    clear hr
    go_wp2
    obtain ⟨o1, o2⟩ := out_store (hR1.mono (Nat.le_succ K)) (But.of_below hb01) hlt z0 z1 z2 z3 z4 z5 (.int .i64 1) (.int .i64 0) (.string ⟨#[]⟩) (.int .i64 0) (.bool false) (.int .i64 0)
    exact bodyPost_ret (v := .agg #[.int .i64 1, .int .i64 0, .string ⟨#[]⟩, .int .i64 0, .bool false, .int .i64 0]) (by simp [results, Tryd.results5, go_sem, z0, z1, z2, z3, z4, z5]) rfl
      ⟨_, _, _, _, _, _, rfl, ⟨R, o1, fun h hc => by omega⟩, o2⟩
  | true =>
    have hwf := hr rfl
    clear hr
    obtain ⟨hd, ha, hb⟩ : RegNo d ∧ RegNo a ∧ RegNo b := by
      rcases hwf with h | h | h | h | h | h
      · omega
      · exact h.2
      · omega
      · omega
      · omega
      · omega
    clear hwf
    obtain ⟨rd, rfl, hd'⟩ : ∃ r : Nat, d = r ∧ r < 8 := ⟨d.toNat, by have := hd.1; omega, by have := hd.1; have := hd.2; omega⟩
    have id0 : (0 : Int) ≤ rd := by omega
    have id1 : (rd : Int) < 8 := by omega
    clear hd
    obtain ⟨ra, rfl, ha'⟩ : ∃ r : Nat, a = r ∧ r < 8 := ⟨a.toNat, by have := ha.1; omega, by have := ha.1; have := ha.2; omega⟩
    have ia0 : (0 : Int) ≤ ra := by omega
    have ia1 : (ra : Int) < 8 := by omega
    clear ha
    obtain ⟨rb, rfl, hb'⟩ : ∃ r : Nat, b = r ∧ r < 8 := ⟨b.toNat, by have := hb.1; omega, by have := hb.1; have := hb.2; omega⟩
    have ib0 : (0 : Int) ≤ rb := by omega
    have ib1 : (rb : Int) < 8 := by omega
    clear hb
    obtain ⟨ma, pa, na, ca, zas, a0, a1, aL, ak⟩ := hR1.get ha'
    obtain ⟨mb, pb, nb, cb, zbs, b0, b1, bL, bk⟩ := hR1.get hb'
    go_upto_region 28 with fail
    go_cut [10, 11] (fun s8 s9 wc => ∃ b8 b9 : Nat, s8 = .pointer (some ⟨b8, 0, none⟩) ∧ s9 = .pointer (some ⟨b9, 0, none⟩) ∧ wc.cell? ⟨b8, 0, none⟩ = some (.bool ma) ∧ wc.cell? ⟨b8, 1, none⟩ = some (.slice pa na ca) ∧ wc.cell? ⟨b9, 0, none⟩ = some (.bool mb) ∧ wc.cell? ⟨b9, 1, none⟩ = some (.slice pb nb cb) ∧ B < b8 ∧ B < b9 ∧ Below w1.heap.size w1 wc)
    case first =>
      go_region_held3 (fun w' => w'.cell? ⟨w.heap.size, 3, none⟩ = some (.int .i64 (ra : Int)) ∧ w'.cell? ⟨w.heap.size, 4, none⟩ = some (.int .i64 (rb : Int)) ∧ w'.cell? ⟨B, ra * 2, none⟩ = some (.bool ma) ∧ w'.cell? ⟨B, ra * 2 + 1, none⟩ = some (.slice pa na ca) ∧ w'.cell? ⟨B, rb * 2, none⟩ = some (.bool mb) ∧ w'.cell? ⟨B, rb * 2 + 1, none⟩ = some (.slice pb nb cb))
        (refine ⟨?_, ?_, ?_, ?_, ?_, ?_⟩ <;> (first | (go_keep; done) | exact cell_later ‹Below _ _ _› (by simp [*]) | exact far2 (by simp [*]) (by dsimp only; omega) (by dsimp only; omega)))
        (fail)
      · go_wp2
        go_meet
        case rel => have hz := hb01.size; exact ⟨_, _, rfl, rfl, by simp, by simp, by simp, by simp, by omega, by omega, (two_alloc w1 _ _).drew⟩
      · go_wp2
        go_meet
        case rel => have hz := hb01.size; exact ⟨_, _, rfl, rfl, by simp, by simp, by simp, by simp, by omega, by omega, (two_alloc w1 _ _).drew⟩
    case rest =>
      obtain ⟨b8, b9, rfl, rfl, c80, c81, c90, c91, hB8, hB9, hbc⟩ := hcut
      have nla := nl_le zas na
      have nlb := nl_le zbs nb
      have aLc := aL.below hbc
      have bLc := bL.below hbc
      go_upto_region 29 with fail
      go_cut [144] (fun s100 wd => ∃ t : Bool, s100 = .bool t ∧ Hid (t = false → nl zas na + nl zbs nb ≤ 64) ∧ Below wc.heap.size wc wd)
      case first =>
        go_region_held3 (fun w' => w'.cell? ⟨b8, 0, none⟩ = some (.bool ma) ∧ w'.cell? ⟨b8, 1, none⟩ = some (.slice pa na ca) ∧ w'.cell? ⟨b9, 0, none⟩ = some (.bool mb) ∧ w'.cell? ⟨b9, 1, none⟩ = some (.slice pb nb cb))
          (refine ⟨?_, ?_, ?_, ?_⟩ <;> (first | (go_keep; done) | exact cell_later ‹Below _ _ _› (by simp [*]) | exact far2 (by simp [*]) (by dsimp only; omega) (by dsimp only; omega)))
          (first
            | (go_at_call_of 15 (Value.slice pa na ca); refine (ilen_any aLc.drew).mono ?_; rintro e w2 ⟨rfl, hb2⟩)
            | (go_at_call_of 15 (Value.slice pb nb cb); refine (ilen_any (bLc.drew.below hb2)).mono ?_; rintro e w3 ⟨rfl, hb3⟩))
        all_goals go_wp2
        all_goals go_meet
        all_goals case rel => exact ⟨_, rfl, fun h => by simp at h; rw [wrap_small (by omega)] at h; omega, chain (Below.refl _ _).drew (chain hb2 hb3)⟩
      case rest =>
        obtain ⟨t, rfl, HT, hbd⟩ := hcut
        have hbe := chain hb1 (chain hbc hbd)
        obtain ⟨q0, q1, q2, q3, q4, q5, q6, q7, q8, z0, z1, z2, z3, z4, z5, fz⟩ := hs.below hbe
        have hb0e := chain hB0 hbe
        cases t with
        | true =>
          go_wp2
          obtain ⟨o1, o2⟩ := out_store ((hR1.below (chain hbc hbd)).mono (Nat.le_succ K)) (But.of_below hb0e) hlt z0 z1 z2 z3 z4 z5 (.int .i64 2) (.int .i64 0) (.string ⟨#[]⟩) (.int .i64 0) (.bool false) (.int .i64 0)
          exact bodyPost_ret (v := .agg #[.int .i64 2, .int .i64 0, .string ⟨#[]⟩, .int .i64 0, .bool false, .int .i64 0]) (by simp [results, Tryd.results5, go_sem, z0, z1, z2, z3, z4, z5]) rfl
            ⟨_, _, _, _, _, _, rfl, ⟨R, o1, fun h hc => by omega⟩, o2⟩
        | false =>
          have hT := HT.out rfl
          have aLd := aLc.below hbd
          have bLd := bLc.below hbd
          have c80d := cell_later hbd c80
          have c81d := cell_later hbd c81
          have c90d := cell_later hbd c90
          have c91d := cell_later hbd c91
          have hRd := hR1.below (chain hbc hbd)
          have hSd := hS1.below (chain hbc hbd)
          have hE2 := hSd.c2
          clear c80 c81 c90 c91 hbc aLc bLc aL bL
          go_wp2_with fail
          go_region_held3 (fun w' => w'.cell? ⟨w.heap.size, 1, none⟩ = some (.int .i64 (rd : Int)) ∧ w'.cell? ⟨b8, 0, none⟩ = some (.bool ma) ∧ w'.cell? ⟨b8, 1, none⟩ = some (.slice pa na ca) ∧ w'.cell? ⟨b9, 0, none⟩ = some (.bool mb) ∧ w'.cell? ⟨b9, 1, none⟩ = some (.slice pb nb cb))
            (refine ⟨?_, ?_, ?_, ?_, ?_⟩ <;> (first | (go_keep; done) | exact cell_later ‹Below _ _ _› (by simp [*]) | exact far2 (by simp [*]) (by dsimp only; omega) (by dsimp only; omega)))
            (first | (go_at_call 18; refine (imul_any aLd.drew bLd.drew (by omega) (by omega)).mono ?_; rintro e w4 ⟨⟨m4, p4, k4, us4, rfl, hZ4, hk4⟩, hb4⟩; have hR4 := hRd.below (chain (Below.refl _ _).drew hb4); obtain ⟨mx, px, kx, cx, e0, e1, f0, f1⟩ := hR4.free hd'))
          have hbf := chain hbe (chain (Below.refl _ _).drew hb4)
          obtain ⟨q0, q1, q2, q3, q4, q5, q6, q7, q8, z0, z1, z2, z3, z4, z5, fz⟩ := hs.below hbf
          go_wp2
          obtain ⟨y0, y1, y2, y3, y4, y5, hP, hBt⟩ := put_end hs hlt hd' hR4 (But.of_below (chain hB0 hbf)) z0 z1 z2 z3 z4 z5 m4 p4 k4 k4 us4 hZ4 (K' := K + 1) (by omega) (Nat.le_succ K) _ rfl
          obtain ⟨o1, o2⟩ := out_store hP hBt hlt y0 y1 y2 y3 y4 y5 (.int .i64 0) (.int .i64 0) (.string ⟨#[]⟩) (.int .i64 0) (.bool false) (.int .i64 0)
          exact bodyPost_ret (v := .agg #[.int .i64 0, .int .i64 0, .string ⟨#[]⟩, .int .i64 0, .bool false, .int .i64 0]) (by simp [results, Tryd.results5, go_sem, y0, y1, y2, y3, y4, y5]) rfl
            ⟨_, _, _, _, _, _, rfl, ⟨_, o1, fun h hc => by omega⟩, o2⟩
end Go.Proofs.Qxb6500872aDoor
