import Derived.Test.Qxb6500872aDoorWs
set_option linter.unusedVariables false
namespace Go.Proofs.Qxb6500872aDoor
open Go.RowKit

set_option maxRecDepth 40000 in
set_option maxHeartbeats 8000000 in
theorem step_gcd {d d2 a b wd : Int} {ng : Bool} {lp : Option Addr} {ln lc : Nat} {s : ByteArray} {w : World} {B K : Nat} {R : Nat → Reg} {p0 p1 : Addr} {E2 : Value}
    (hR : Regs w B K R) (hK : K ≤ 80000) (hS : Sents w p0 p1 E2) (hK0 : 128 ≤ K) :
    Calls Tryd.prog 5 #[.pointer (some ⟨B, 0, none⟩), .agg #[.int .i64 6, .int .i64 d, .int .i64 d2, .int .i64 a, .int .i64 b, .bool ng, .slice lp ln lc, .string s, .int .i64 wd]] w fun e w' => StepPost w B K 6 d s e w' := by
  generalize hW : (w.alloc (.cells #[.int .i64 6, .int .i64 d, .int .i64 d2, .int .i64 a, .int .i64 b, .bool ng, .slice lp ln lc, .string s, .int .i64 wd] 34)).alloc (.cells #[.int .i64 0, .int .i64 0, .string ⟨#[]⟩, .int .i64 0, .bool false, .int .i64 0] 37) = W
  have hs := start_of w W 6 d d2 a b wd ng lp ln lc s hW.symm
  have hsz := hs.siz
  have hB0 := hs.bel
  have hlt : B < w.heap.size := World.block_lt_of_cell? _ _ (hR 0 (by omega)).1
  have q8 := hs.q8
  have q7 := hs.q7
  have q6 := hs.q6
  have q5 := hs.q5
  have q4 := hs.q4
  have q3 := hs.q3
  have q2 := hs.q2
  have q1 := hs.q1
  have q0 := hs.q0
  go_enter Tryd.func5, Tryd.ntmps5
  go_wp2_with fail
  clear q0 q1 q2 q3 q4 q5 q6 q7 q8 hW
  refine wellFormed_any.mono ?_
  rintro e w1 ⟨⟨r, rfl, hr⟩, hb1⟩
  obtain ⟨q0, q1, q2, q3, q4, q5, q6, q7, q8, z0, z1, z2, z3, z4, z5, fz⟩ := hs.below hb1
  have hb01 := chain hB0 hb1
  have hR1 := hR.below hb01
  have hS1 := hS.below hb01
  clear hR hS
  cases r with
  | false =>
    clear hr
    go_wp2
    obtain ⟨o1, o2⟩ := out_store (hR1.mono (Nat.le_succ K)) (But.of_below hb01) hlt z0 z1 z2 z3 z4 z5 (.int .i64 1) (.int .i64 0) (.string ⟨#[]⟩) (.int .i64 0) (.bool false) (.int .i64 0)
    exact bodyPost_ret (v := .agg #[.int .i64 1, .int .i64 0, .string ⟨#[]⟩, .int .i64 0, .bool false, .int .i64 0]) (by simp [results, Tryd.results5, go_sem, z0, z1, z2, z3, z4, z5]) rfl
      ⟨_, _, _, _, _, _, rfl, ⟨R, o1, fun h hc => by omega⟩, o2⟩
  | true =>
    have hwf := hr rfl
    clear hr
    obtain ⟨hd, ha, hb⟩ : RegNo d ∧ RegNo a ∧ RegNo b := by
      rcases hwf with h | h | h | h | h | h
      · omega
      · exact h.2
      · omega
      · omega
      · omega
      · omega
    clear hwf
    obtain ⟨rd, rfl, hd'⟩ : ∃ r : Nat, d = r ∧ r < 8 := ⟨d.toNat, by have := hd.1; omega, by have := hd.1; have := hd.2; omega⟩
    have id0 : (0 : Int) ≤ rd := by omega
    have id1 : (rd : Int) < 8 := by omega
    clear hd
    obtain ⟨ra, rfl, ha'⟩ : ∃ r : Nat, a = r ∧ r < 8 := ⟨a.toNat, by have := ha.1; omega, by have := ha.1; have := ha.2; omega⟩
    have ia0 : (0 : Int) ≤ ra := by omega
    have ia1 : (ra : Int) < 8 := by omega
    clear ha
    obtain ⟨rb, rfl, hb'⟩ : ∃ r : Nat, b = r ∧ r < 8 := ⟨b.toNat, by have := hb.1; omega, by have := hb.1; have := hb.2; omega⟩
    have ib0 : (0 : Int) ≤ rb := by omega
    have ib1 : (rb : Int) < 8 := by omega
    clear hb
    obtain ⟨ma, pa, na, ca, zas, a0, a1, aL, ak⟩ := hR1.get ha'
    obtain ⟨mb, pb, nb, cb, zbs, b0, b1, bL, bk⟩ := hR1.get hb'
    have hE0 := hS1.c0
    have hE2 := hS1.c2
    go_upto_block 0 with fail
    go_cut [] (fun wc => ∃ (w4 : World) (m4 : Bool) (p4 : Option Addr) (k4 : Nat) (us4 : List Int), wc = (w4.setCell ⟨B, rd * 2, none⟩ (.bool m4)).setCell ⟨B, rd * 2 + 1, none⟩ (.slice p4 k4 k4) ∧ Limbs w4 p4 k4 k4 us4 ∧ k4 ≤ K + 1 ∧ Below w1.heap.size w1 w4)
    case first =>
      go_wp2_with fail
      refine wp_region_held_drew (S := (fun w' => w'.cell? ⟨w.heap.size, 1, none⟩ = some (.int .i64 (rd : Int)) ∧ w'.cell? ⟨w.heap.size, 3, none⟩ = some (.int .i64 (ra : Int)) ∧ w'.cell? ⟨w.heap.size, 4, none⟩ = some (.int .i64 (rb : Int)))) (by kernel_rfl) ⟨q1, q3, q4⟩ (fun hHeld => ?_)
      refine wpAnyH_take (i := 0) (oi := { dst := some 197, op := Op.move (Operand.tmp 0), type := 24, pos := _, after := #[], guard := none }) (v := ?vv1) rfl (by kernel_rfl) (by kernel_rfl) (by kernel_rfl) (fun _ _ _ h => h) (Or.inl ⟨by rfl, ?hy1⟩) (by assumption) ?tk1
      case hy1 => (intro w hSw; (try dsimp only at hSw); go_simp; (try with_reducible rfl))
      try simp only [Act.put, List.setIfInBounds_toArray, List.set_cons_zero, List.set_cons_succ]
      refine wpAnyH_take (i := 1) (oi := { dst := some 198, op := Op.fieldAddr 34 (Operand.tmp 3) 1, type := 0, pos := _, after := #[], guard := none }) (v := ?vv2) rfl (by kernel_rfl) (by kernel_rfl) (by kernel_rfl) (fun _ _ _ h => h) (Or.inl ⟨by rfl, ?hy2⟩) (by assumption) ?tk2
      case hy2 => (intro w hSw; (try dsimp only at hSw); go_simp; (try with_reducible rfl))
      try simp only [Act.put, List.setIfInBounds_toArray, List.set_cons_zero, List.set_cons_succ]
      refine wpAnyH_take (i := 2) (oi := { dst := some 199, op := Op.load 3 (Operand.tmp 198), type := 3, pos := _, after := #[{ on := 1, ground := Ground.data }], guard := none }) (v := ?vv3) rfl (by kernel_rfl) (by kernel_rfl) (by kernel_rfl) (fun _ _ _ h => h) (Or.inl ⟨by rfl, ?hy3⟩) (by assumption) ?tk3
      case hy3 => (intro w hSw; (try dsimp only at hSw); go_simp; (try with_reducible rfl))
      try simp only [Act.put, List.setIfInBounds_toArray, List.set_cons_zero, List.set_cons_succ]
      refine wpAnyH_take (i := 3) (oi := { dst := some 200, op := Op.move (Operand.tmp 0), type := 24, pos := _, after := #[], guard := none }) (v := ?vv4) rfl (by kernel_rfl) (by kernel_rfl) (by kernel_rfl) (fun _ _ _ h => h) (Or.inl ⟨by rfl, ?hy4⟩) (by assumption) ?tk4
      case hy4 => (intro w hSw; (try dsimp only at hSw); go_simp; (try with_reducible rfl))
      try simp only [Act.put, List.setIfInBounds_toArray, List.set_cons_zero, List.set_cons_succ]
      refine wpAnyH_take (i := 4) (oi := { dst := some 201, op := Op.fieldAddr 34 (Operand.tmp 3) 3, type := 0, pos := _, after := #[], guard := none }) (v := ?vv5) rfl (by kernel_rfl) (by kernel_rfl) (by kernel_rfl) (fun _ _ _ h => h) (Or.inl ⟨by rfl, ?hy5⟩) (by assumption) ?tk5
      case hy5 => (intro w hSw; (try dsimp only at hSw); go_simp; (try with_reducible rfl))
      try simp only [Act.put, List.setIfInBounds_toArray, List.set_cons_zero, List.set_cons_succ]
      refine wpAnyH_take (i := 5) (oi := { dst := some 202, op := Op.load 3 (Operand.tmp 201), type := 3, pos := _, after := #[{ on := 4, ground := Ground.data }], guard := none }) (v := ?vv6) rfl (by kernel_rfl) (by kernel_rfl) (by kernel_rfl) (fun _ _ _ h => h) (Or.inl ⟨by rfl, ?hy6⟩) (by assumption) ?tk6
      case hy6 => (intro w hSw; (try dsimp only at hSw); go_simp; (try with_reducible rfl))
      try simp only [Act.put, List.setIfInBounds_toArray, List.set_cons_zero, List.set_cons_succ]
      refine wpAnyH_take (i := 6) (oi := { dst := some 203, op := Op.nilCheck (Operand.tmp 200), type := 0, pos := _, after := #[{ on := 3, ground := Ground.data }], guard := none }) (v := ?vv7) rfl (by kernel_rfl) (by kernel_rfl) (by kernel_rfl) (fun _ _ _ h => h) (Or.inl ⟨by rfl, ?hy7⟩) (by assumption) ?tk7
      case hy7 => (intro w hSw; (try dsimp only at hSw); go_simp; (try with_reducible rfl))
      try simp only [Act.put, List.setIfInBounds_toArray, List.set_cons_zero, List.set_cons_succ]
      refine wpAnyH_take (i := 7) (oi := { dst := some 204, op := Op.fieldAddr 31 (Operand.tmp 203) 0, type := 0, pos := _, after := #[{ on := 6, ground := Ground.data }], guard := none }) (v := ?vv8) rfl (by kernel_rfl) (by kernel_rfl) (by kernel_rfl) (fun _ _ _ h => h) (Or.inl ⟨by rfl, ?hy8⟩) (by assumption) ?tk8
      case hy8 => (intro w hSw; (try dsimp only at hSw); go_simp; (try with_reducible rfl))
      try simp only [Act.put, List.setIfInBounds_toArray, List.set_cons_zero, List.set_cons_succ]
      refine wpAnyH_take (i := 8) (oi := { dst := some 205, op := Op.indexAddr 29 (Operand.tmp 204) (Operand.tmp 202), type := 0, pos := _, after := #[{ on := 7, ground := Ground.data }, { on := 5, ground := Ground.data }], guard := none }) (v := ?vv9) rfl (by kernel_rfl) (by kernel_rfl) (by kernel_rfl) (fun _ _ _ h => h) (Or.inl ⟨by rfl, ?hy9⟩) (by assumption) ?tk9
      case hy9 => (intro w hSw; (try dsimp only at hSw); go_simp; (try with_reducible rfl))
      try simp only [Act.put, List.setIfInBounds_toArray, List.set_cons_zero, List.set_cons_succ]
      refine wpAnyH_take (i := 10) (oi := { dst := some 207, op := Op.move (Operand.tmp 0), type := 24, pos := _, after := #[], guard := none }) (v := ?vv10) rfl (by kernel_rfl) (by kernel_rfl) (by kernel_rfl) (fun _ _ _ h => h) (Or.inl ⟨by rfl, ?hy10⟩) (by assumption) ?tk10
      case hy10 => (intro w hSw; (try dsimp only at hSw); go_simp; (try with_reducible rfl))
      try simp only [Act.put, List.setIfInBounds_toArray, List.set_cons_zero, List.set_cons_succ]
      refine wpAnyH_take (i := 11) (oi := { dst := some 208, op := Op.fieldAddr 34 (Operand.tmp 3) 4, type := 0, pos := _, after := #[], guard := none }) (v := ?vv11) rfl (by kernel_rfl) (by kernel_rfl) (by kernel_rfl) (fun _ _ _ h => h) (Or.inl ⟨by rfl, ?hy11⟩) (by assumption) ?tk11
      case hy11 => (intro w hSw; (try dsimp only at hSw); go_simp; (try with_reducible rfl))
      try simp only [Act.put, List.setIfInBounds_toArray, List.set_cons_zero, List.set_cons_succ]
      refine wpAnyH_take (i := 12) (oi := { dst := some 209, op := Op.load 3 (Operand.tmp 208), type := 3, pos := _, after := #[{ on := 11, ground := Ground.data }], guard := none }) (v := ?vv12) rfl (by kernel_rfl) (by kernel_rfl) (by kernel_rfl) (fun _ _ _ h => h) (Or.inl ⟨by rfl, ?hy12⟩) (by assumption) ?tk12
      case hy12 => (intro w hSw; (try dsimp only at hSw); go_simp; (try with_reducible rfl))
      try simp only [Act.put, List.setIfInBounds_toArray, List.set_cons_zero, List.set_cons_succ]
      refine wpAnyH_take (i := 13) (oi := { dst := some 210, op := Op.nilCheck (Operand.tmp 207), type := 0, pos := _, after := #[{ on := 10, ground := Ground.data }], guard := none }) (v := ?vv13) rfl (by kernel_rfl) (by kernel_rfl) (by kernel_rfl) (fun _ _ _ h => h) (Or.inl ⟨by rfl, ?hy13⟩) (by assumption) ?tk13
      case hy13 => (intro w hSw; (try dsimp only at hSw); go_simp; (try with_reducible rfl))
      try simp only [Act.put, List.setIfInBounds_toArray, List.set_cons_zero, List.set_cons_succ]
      refine wpAnyH_take (i := 14) (oi := { dst := some 211, op := Op.fieldAddr 31 (Operand.tmp 210) 0, type := 0, pos := _, after := #[{ on := 13, ground := Ground.data }], guard := none }) (v := ?vv14) rfl (by kernel_rfl) (by kernel_rfl) (by kernel_rfl) (fun _ _ _ h => h) (Or.inl ⟨by rfl, ?hy14⟩) (by assumption) ?tk14
      case hy14 => (intro w hSw; (try dsimp only at hSw); go_simp; (try with_reducible rfl))
      try simp only [Act.put, List.setIfInBounds_toArray, List.set_cons_zero, List.set_cons_succ]
      refine wpAnyH_take (i := 15) (oi := { dst := some 212, op := Op.indexAddr 29 (Operand.tmp 211) (Operand.tmp 209), type := 0, pos := _, after := #[{ on := 14, ground := Ground.data }, { on := 12, ground := Ground.data }], guard := none }) (v := ?vv15) rfl (by kernel_rfl) (by kernel_rfl) (by kernel_rfl) (fun _ _ _ h => h) (Or.inl ⟨by rfl, ?hy15⟩) (by assumption) ?tk15
      case hy15 => (intro w hSw; (try dsimp only at hSw); go_simp; (try with_reducible rfl))
      try simp only [Act.put, List.setIfInBounds_toArray, List.set_cons_zero, List.set_cons_succ]
      refine wpAnyH_take (i := 18) (oi := { dst := some 215, op := Op.nilCheck (Operand.tmp 197), type := 0, pos := _, after := #[{ on := 0, ground := Ground.data }], guard := none }) (v := ?vv16) rfl (by kernel_rfl) (by kernel_rfl) (by kernel_rfl) (fun _ _ _ h => h) (Or.inl ⟨by rfl, ?hy16⟩) (by assumption) ?tk16
      case hy16 => (intro w hSw; (try dsimp only at hSw); go_simp; (try with_reducible rfl))
      try simp only [Act.put, List.setIfInBounds_toArray, List.set_cons_zero, List.set_cons_succ]
      refine wpAnyH_take (i := 19) (oi := { dst := some 216, op := Op.fieldAddr 31 (Operand.tmp 215) 0, type := 0, pos := _, after := #[{ on := 18, ground := Ground.data }], guard := none }) (v := ?vv17) rfl (by kernel_rfl) (by kernel_rfl) (by kernel_rfl) (fun _ _ _ h => h) (Or.inl ⟨by rfl, ?hy17⟩) (by assumption) ?tk17
      case hy17 => (intro w hSw; (try dsimp only at hSw); go_simp; (try with_reducible rfl))
      try simp only [Act.put, List.setIfInBounds_toArray, List.set_cons_zero, List.set_cons_succ]
      refine wpAnyH_ready (rs := [9, 16]) (by kernel_rfl) (by simp) ?_
      refine AllReadyH.cons (o := { dst := some 206, op := Op.load 28 (Operand.tmp 205), type := 28, pos := _, after := #[{ on := 8, ground := Ground.data }], guard := none }) rfl (fun K' hK' => ?_) (AllReadyH.cons (o := { dst := some 213, op := Op.load 28 (Operand.tmp 212), type := 28, pos := _, after := #[{ on := 15, ground := Ground.data }], guard := none }) rfl (fun K' hK' => ?_) AllReadyH.nil)
      · go_simp
        clear hHeld
        refine hK'.out _ _ ⟨q1, q3, q4⟩ (fun hHeld => ?_)
        clear hK' K'
        try simp only [Act.put, List.setIfInBounds_toArray, List.set_cons_zero, List.set_cons_succ]
        refine wpAnyH_ready (rs := [16]) (by kernel_rfl) (by simp) ?_
        refine AllReadyH.cons (o := { dst := some 213, op := Op.load 28 (Operand.tmp 212), type := 28, pos := _, after := #[{ on := 15, ground := Ground.data }], guard := none }) rfl (fun K' hK' => ?_) AllReadyH.nil
        go_simp
        clear hHeld
        refine hK'.out _ _ ⟨q1, q3, q4⟩ (fun hHeld => ?_)
        clear hK' K'
        try simp only [Act.put, List.setIfInBounds_toArray, List.set_cons_zero, List.set_cons_succ]
        refine wpAnyH_ready (rs := [17]) (by kernel_rfl) (by simp) ?_
        refine AllReadyH.cons (o := { dst := some 214, op := Op.call { callee := Callee.value (Operand.func 20), args := #[Operand.tmp 206, Operand.tmp 213], argTypes := #[28, 28] }, type := 28, pos := _, after := #[{ on := 9, ground := Ground.data }, { on := 16, ground := Ground.data }], guard := none }) rfl (fun K' hK' => ?_) AllReadyH.nil
        go_simp
        refine (igcd_any aL.drew bL.drew (by omega) (by omega) hE0).mono ?_
        rintro e w4 ⟨⟨m4, p4, k4, us4, rfl, hZ4, hk4⟩, hb4⟩
        have hR4 := hR1.below (chain (Below.refl _ _).drew hb4)
        obtain ⟨mx, px, kx, cx, e0, e1, f0, f1⟩ := hR4.free hd'
        have q1' : w4.cell? ⟨w.heap.size, 1, none⟩ = some (.int .i64 (rd : Int)) := cell_later (chain (Below.refl _ _).drew hb4) q1
        have q3' : w4.cell? ⟨w.heap.size, 3, none⟩ = some (.int .i64 (ra : Int)) := cell_later (chain (Below.refl _ _).drew hb4) q3
        have q4' : w4.cell? ⟨w.heap.size, 4, none⟩ = some (.int .i64 (rb : Int)) := cell_later (chain (Below.refl _ _).drew hb4) q4
        go_wp2_with fail
        clear hHeld
        refine hK'.out _ _ ⟨q1', q3', q4'⟩ (fun hHeld => ?_)
        clear hK' K'
        try simp only [Act.put, List.setIfInBounds_toArray, List.set_cons_zero, List.set_cons_succ]
        refine wpAnyH_take (i := 20) (oi := { dst := some 217, op := Op.indexAddr 29 (Operand.tmp 216) (Operand.tmp 199), type := 0, pos := _, after := #[{ on := 19, ground := Ground.data }, { on := 2, ground := Ground.data }, { on := 0, ground := Ground.phase }, { on := 1, ground := Ground.phase }, { on := 2, ground := Ground.phase }, { on := 3, ground := Ground.phase }, { on := 4, ground := Ground.phase }, { on := 5, ground := Ground.phase }, { on := 6, ground := Ground.phase }, { on := 7, ground := Ground.phase }, { on := 8, ground := Ground.phase }, { on := 9, ground := Ground.phase }, { on := 10, ground := Ground.phase }, { on := 11, ground := Ground.phase }, { on := 12, ground := Ground.phase }, { on := 13, ground := Ground.phase }, { on := 14, ground := Ground.phase }, { on := 15, ground := Ground.phase }, { on := 16, ground := Ground.phase }, { on := 17, ground := Ground.phase }], guard := none }) (v := ?vv18) rfl (by kernel_rfl) (by kernel_rfl) (by kernel_rfl) (fun _ _ _ h => h) (Or.inl ⟨by rfl, ?hy18⟩) (by assumption) ?tk18
        case hy18 => (intro w hSw; (try dsimp only at hSw); go_simp; (try with_reducible rfl))
        try simp only [Act.put, List.setIfInBounds_toArray, List.set_cons_zero, List.set_cons_succ]
        refine wpAnyH_ready (rs := [21]) (by kernel_rfl) (by simp) ?_
        refine AllReadyH.cons (o := { dst := none, op := Op.store 28 (Operand.tmp 217) (Operand.tmp 214), type := 0, pos := _, after := #[{ on := 20, ground := Ground.data }, { on := 17, ground := Ground.data }, { on := 17, ground := Ground.chain }, { on := 0, ground := Ground.phase }, { on := 1, ground := Ground.phase }, { on := 2, ground := Ground.phase }, { on := 3, ground := Ground.phase }, { on := 4, ground := Ground.phase }, { on := 5, ground := Ground.phase }, { on := 6, ground := Ground.phase }, { on := 7, ground := Ground.phase }, { on := 8, ground := Ground.phase }, { on := 9, ground := Ground.phase }, { on := 10, ground := Ground.phase }, { on := 11, ground := Ground.phase }, { on := 12, ground := Ground.phase }, { on := 13, ground := Ground.phase }, { on := 14, ground := Ground.phase }, { on := 15, ground := Ground.phase }, { on := 16, ground := Ground.phase }, { on := 17, ground := Ground.phase }], guard := none }) rfl (fun K' hK' => ?_) AllReadyH.nil
        go_simp
        clear hHeld
        refine hK'.out _ _ ⟨far2 q1' (by dsimp only; omega) (by dsimp only; omega), far2 q3' (by dsimp only; omega) (by dsimp only; omega), far2 q4' (by dsimp only; omega) (by dsimp only; omega)⟩ (fun hHeld => ?_)
        clear hK' K'
        try simp only [Act.put, List.setIfInBounds_toArray, List.set_cons_zero, List.set_cons_succ]
        refine wpAnyH_done (by kernel_rfl) ?_ _
        go_wp2
        go_meet
        case rel => exact ⟨_, _, _, _, _, rfl, hZ4, by omega, chain (Below.refl _ _).drew hb4⟩
      · go_simp
        clear hHeld
        refine hK'.out _ _ ⟨q1, q3, q4⟩ (fun hHeld => ?_)
        clear hK' K'
        try simp only [Act.put, List.setIfInBounds_toArray, List.set_cons_zero, List.set_cons_succ]
        refine wpAnyH_ready (rs := [9]) (by kernel_rfl) (by simp) ?_
        refine AllReadyH.cons (o := { dst := some 206, op := Op.load 28 (Operand.tmp 205), type := 28, pos := _, after := #[{ on := 8, ground := Ground.data }], guard := none }) rfl (fun K' hK' => ?_) AllReadyH.nil
        go_simp
        clear hHeld
        refine hK'.out _ _ ⟨q1, q3, q4⟩ (fun hHeld => ?_)
        clear hK' K'
        try simp only [Act.put, List.setIfInBounds_toArray, List.set_cons_zero, List.set_cons_succ]
        refine wpAnyH_ready (rs := [17]) (by kernel_rfl) (by simp) ?_
        refine AllReadyH.cons (o := { dst := some 214, op := Op.call { callee := Callee.value (Operand.func 20), args := #[Operand.tmp 206, Operand.tmp 213], argTypes := #[28, 28] }, type := 28, pos := _, after := #[{ on := 9, ground := Ground.data }, { on := 16, ground := Ground.data }], guard := none }) rfl (fun K' hK' => ?_) AllReadyH.nil
        go_simp
        refine (igcd_any aL.drew bL.drew (by omega) (by omega) hE0).mono ?_
        rintro e w4 ⟨⟨m4, p4, k4, us4, rfl, hZ4, hk4⟩, hb4⟩
        have hR4 := hR1.below (chain (Below.refl _ _).drew hb4)
        obtain ⟨mx, px, kx, cx, e0, e1, f0, f1⟩ := hR4.free hd'
        have q1' : w4.cell? ⟨w.heap.size, 1, none⟩ = some (.int .i64 (rd : Int)) := cell_later (chain (Below.refl _ _).drew hb4) q1
        have q3' : w4.cell? ⟨w.heap.size, 3, none⟩ = some (.int .i64 (ra : Int)) := cell_later (chain (Below.refl _ _).drew hb4) q3
        have q4' : w4.cell? ⟨w.heap.size, 4, none⟩ = some (.int .i64 (rb : Int)) := cell_later (chain (Below.refl _ _).drew hb4) q4
        go_wp2_with fail
        clear hHeld
        refine hK'.out _ _ ⟨q1', q3', q4'⟩ (fun hHeld => ?_)
        clear hK' K'
        try simp only [Act.put, List.setIfInBounds_toArray, List.set_cons_zero, List.set_cons_succ]
        refine wpAnyH_take (i := 20) (oi := { dst := some 217, op := Op.indexAddr 29 (Operand.tmp 216) (Operand.tmp 199), type := 0, pos := _, after := #[{ on := 19, ground := Ground.data }, { on := 2, ground := Ground.data }, { on := 0, ground := Ground.phase }, { on := 1, ground := Ground.phase }, { on := 2, ground := Ground.phase }, { on := 3, ground := Ground.phase }, { on := 4, ground := Ground.phase }, { on := 5, ground := Ground.phase }, { on := 6, ground := Ground.phase }, { on := 7, ground := Ground.phase }, { on := 8, ground := Ground.phase }, { on := 9, ground := Ground.phase }, { on := 10, ground := Ground.phase }, { on := 11, ground := Ground.phase }, { on := 12, ground := Ground.phase }, { on := 13, ground := Ground.phase }, { on := 14, ground := Ground.phase }, { on := 15, ground := Ground.phase }, { on := 16, ground := Ground.phase }, { on := 17, ground := Ground.phase }], guard := none }) (v := ?vv19) rfl (by kernel_rfl) (by kernel_rfl) (by kernel_rfl) (fun _ _ _ h => h) (Or.inl ⟨by rfl, ?hy19⟩) (by assumption) ?tk19
        case hy19 => (intro w hSw; (try dsimp only at hSw); go_simp; (try with_reducible rfl))
        try simp only [Act.put, List.setIfInBounds_toArray, List.set_cons_zero, List.set_cons_succ]
        refine wpAnyH_ready (rs := [21]) (by kernel_rfl) (by simp) ?_
        refine AllReadyH.cons (o := { dst := none, op := Op.store 28 (Operand.tmp 217) (Operand.tmp 214), type := 0, pos := _, after := #[{ on := 20, ground := Ground.data }, { on := 17, ground := Ground.data }, { on := 17, ground := Ground.chain }, { on := 0, ground := Ground.phase }, { on := 1, ground := Ground.phase }, { on := 2, ground := Ground.phase }, { on := 3, ground := Ground.phase }, { on := 4, ground := Ground.phase }, { on := 5, ground := Ground.phase }, { on := 6, ground := Ground.phase }, { on := 7, ground := Ground.phase }, { on := 8, ground := Ground.phase }, { on := 9, ground := Ground.phase }, { on := 10, ground := Ground.phase }, { on := 11, ground := Ground.phase }, { on := 12, ground := Ground.phase }, { on := 13, ground := Ground.phase }, { on := 14, ground := Ground.phase }, { on := 15, ground := Ground.phase }, { on := 16, ground := Ground.phase }, { on := 17, ground := Ground.phase }], guard := none }) rfl (fun K' hK' => ?_) AllReadyH.nil
        go_simp
        clear hHeld
        refine hK'.out _ _ ⟨far2 q1' (by dsimp only; omega) (by dsimp only; omega), far2 q3' (by dsimp only; omega) (by dsimp only; omega), far2 q4' (by dsimp only; omega) (by dsimp only; omega)⟩ (fun hHeld => ?_)
        clear hK' K'
        try simp only [Act.put, List.setIfInBounds_toArray, List.set_cons_zero, List.set_cons_succ]
        refine wpAnyH_done (by kernel_rfl) ?_ _
        go_wp2
        go_meet
        case rel => exact ⟨_, _, _, _, _, rfl, hZ4, by omega, chain (Below.refl _ _).drew hb4⟩
    case rest =>
      obtain ⟨w4, m4, p4, k4, us4, hwc, hZ4, hk4, hb4⟩ := hcut
      have hR4 := hR1.below hb4
      have hbf := chain hb1 hb4
      obtain ⟨q0, q1, q2, q3, q4, q5, q6, q7, q8, z0, z1, z2, z3, z4, z5, fz⟩ := hs.below hbf
      obtain ⟨y0, y1, y2, y3, y4, y5, hP, hBt⟩ := put_end hs hlt hd' hR4 (But.of_below (chain hB0 hbf)) z0 z1 z2 z3 z4 z5 m4 p4 k4 k4 us4 hZ4 (K' := K + 1) (by omega) (Nat.le_succ K) wc hwc
      have fv : ∀ i, wc.frozen? ⟨w.heap.size + 1, i, none⟩ = false := by intro i; rw [hwc]; simpa using fz i
      clear hwc
      go_wp2
      obtain ⟨o1, o2⟩ := out_store hP hBt hlt y0 y1 y2 y3 y4 y5 (.int .i64 0) (.int .i64 0) (.string ⟨#[]⟩) (.int .i64 0) (.bool false) (.int .i64 0)
      exact bodyPost_ret (v := .agg #[.int .i64 0, .int .i64 0, .string ⟨#[]⟩, .int .i64 0, .bool false, .int .i64 0]) (by simp [results, Tryd.results5, go_sem, y0, y1, y2, y3, y4, y5]) rfl
        ⟨_, _, _, _, _, _, rfl, ⟨_, o1, fun h hc => by omega⟩, o2⟩
end Go.Proofs.Qxb6500872aDoor
