import Derived.Deep.CutBlock
import Derived.OwnWalk
import Derived.Maps.AppendAt
import Derived.Test.Qxb6500877aGreatDoorTwm
import Derived.Test.Qxb6500877aGreatDoorPSth
set_option linter.unusedVariables false
set_option linter.unusedSimpArgs false
namespace Go.Proofs.Qxb6500877aGreatDoor
open Go.RowKit

namespace W
set_option maxRecDepth 20000 in
set_option maxHeartbeats 8000000 in
theorem step_8 {w : World} {B mb t k : Nat} {ν : Net} {τ : TSt} {σ : Sg} {Λ : LS} (M : Mach w B mb t k ν τ σ Λ) (hl : Λ.l.length < 999999000) (hk : k < 800000) (o : OpS) (ho : o.ok) (hkd : o.kd = 8) :
    Calls Tryz.prog 19 #[.pointer (some ⟨B, 0, none⟩), opV o] w fun e w' => ∃ (z a c : Int) (τ' : TSt), ResE (tmRS z c a) e ∧ (∃ Λ', Done w w' B mb t (k + 4) ν τ' σ Λ Λ' ∧ Λ'.l = Λ.l ++ tellM t z (evM t 5 t c a)) ∧ RearmR τ o.x o.y a c z τ' := by
  have FL : ∀ q, w.heap.size ≤ q → Far Λ q := fun q hq => M.far hq
  have hB0 := M.lt
  have hM0 := M.mlt
  have h2 := M.hB
  have S0 := begun M o
  have hox := ho.x
  have hoy := ho.y
  have HK := hideIt hkd
  clear ho hkd
  generalize hW : (w.alloc (.cells #[.int .u8 o.kd, .int .i64 o.a, .int .i64 o.b, .int .i64 o.c, .int .u64 o.x, .int .u64 o.y] 32)).alloc (.cells #[.int .i64 0, .int .i64 0, .int .i64 0, .int .u64 0, .bool false, .int .i64 0, .int .i64 0, .int .u32 0, .int .u64 0, .int .u64 0, .int .u64 0, .int .u64 0, .int .u64 0, .int .u64 0, .slice none 0 0] 43) = W2 at *
  have s2 : W2.heap.size = w.heap.size + 2 := by rw [← hW]; simp
  unfold opV
  go_enter Tryz.func19, Tryz.ntmps19
  go_upto_region 1 with fail
  go_cut [5] (fun a5 wc => a5 = .pointer (some ⟨w.heap.size + 2, 0, none⟩) ∧ Begun w wc B mb t k ν τ σ Λ o)
  case first =>
    go_wp2
    go_meet
    case rel => exact ⟨rfl, S0⟩
  case rest =>
  obtain ⟨rfl, S1⟩ := hcut
  clear S0 hW s2
  obtain ⟨DW, hsz, OW, RA, RB⟩ := S1
  have OW' := OW
  obtain ⟨g0, g1, g2, g3, g4, g5⟩ := OW
  rw [HK.out] at g0
  go_upto_region 27 with fail
  go_cut [7] (fun a7 wd => a7 = .pointer (some ⟨w.heap.size + 3, 0, none⟩) ∧ Done w wd B mb t k ν τ σ Λ Λ ∧ ResAt wd (w.heap.size + 1) ∧ ResX wd (w.heap.size + 2) ⟨0, -1, -1, 0⟩ ∧ OpAt wd w.heap.size o ∧ Four wd (w.heap.size + 3) 0 0 0 0)
  case first =>
    go_wp2
    go_meet
    case rel =>
      have F3 := four_new wc 0 0 0 0 84
      rw [hsz] at F3
      exact ⟨rfl, DW.below (one_alloc _ _), RA.blk ((one_alloc wc _).block _ (by omega)), RB.blk ((one_alloc wc _).block _ (by omega)), OW'.blk ((one_alloc wc _).block _ (by omega)), F3⟩
  case rest =>
  clear RA RB DW g0 g1 g2 g3 g4 g5 OW' hsz
  obtain ⟨rfl, DW, RA, RB, OW', F3⟩ := hcut
  obtain ⟨g0, g1, g2, g3, g4, g5⟩ := OW'
  have hl3 := F3.lt
  go_upto_region 28 with fail
  go_cut [] (fun wd => ∃ (a c d q z : Int) (τ' : TSt) (Λ1 : LS), (Done w wd B mb t (k + 4) ν τ' σ Λ Λ1 ∧ (Far Λ1 (w.heap.size + 1) ∧ Far Λ1 (w.heap.size + 2)) ∧ Hid (Λ1.l = Λ.l ++ tellM t z (evM t 5 t c a))) ∧ ResAt wd (w.heap.size + 1) ∧ ResX wd (w.heap.size + 2) ⟨z, -1, -1, 0⟩ ∧ Four wd (w.heap.size + 3) a c d q ∧ wd.cell? ⟨w.heap.size + 2, 0, none⟩ = some (.int .i64 z) ∧ Hid (RearmR τ o.x o.y a c z τ'))
  case first =>
    go_wp2_with fail
    refine (rearm_m DW.m hl hoy _ (by omega) (by omega)).mono ?_
    rintro e w1 ⟨a, c, d, q, z, τ', rfl, ⟨Λ1, D1, he1⟩, hR⟩
    have HE1 := hideIt he1
    clear he1
    have FX1 := D1.f.row (w.heap.size + 1) (by omega) (FL _ (by omega))
    have FX2 := D1.f.row (w.heap.size + 2) (by omega) (FL _ (by omega))
    have FX3 := D1.f.row (w.heap.size + 3) (by omega) (FL _ (by omega))
    have HR := hideIt hR
    clear hR
    have RA1 := RA.blk (D1.f.block (w.heap.size + 1) (by omega) (by omega) (by omega) (FL _ (by omega)))
    have RB1 := RB.blk (D1.f.block (w.heap.size + 2) (by omega) (by omega) (by omega) (FL _ (by omega)))
    have F1 := F3.of_block (D1.f.block (w.heap.size + 3) (by omega) (by omega) (by omega) (FL _ (by omega)))
    have F1' := F1
    obtain ⟨f0, f1, f2, f3, ff⟩ := F1
    obtain ⟨v0, s0⟩ := RB1.code
    have fz := RB1.fz
    have n1 : ¬ (w.heap.size + 3 = w.heap.size + 2) := by omega
    have n2 : ¬ (w.heap.size + 2 = w.heap.size + 3) := by omega
    simp only [timerV]
    go_wp2
    go_meet
    case rel => exact ⟨a, c, d, q, z, τ', Λ1, ⟨(((((((DW.trans D1).mono (by omega)).fresh ⟨w.heap.size + 3, 0, none⟩ (by show w.heap.size ≤ w.heap.size + 3; omega) hB0 hM0 FX3 _).fresh ⟨w.heap.size + 3, 1, none⟩ (by show w.heap.size ≤ w.heap.size + 3; omega) hB0 hM0 FX3 _).fresh ⟨w.heap.size + 3, 2, none⟩ (by show w.heap.size ≤ w.heap.size + 3; omega) hB0 hM0 FX3 _).fresh ⟨w.heap.size + 3, 3, none⟩ (by show w.heap.size ≤ w.heap.size + 3; omega) hB0 hM0 FX3 _).fresh ⟨w.heap.size + 2, 0, none⟩ (by show w.heap.size ≤ w.heap.size + 2; omega) hB0 hM0 FX2 _), ⟨FX1, FX2⟩, HE1⟩, (((((RA1.other _ (show w.heap.size + 3 ≠ w.heap.size + 1 by omega) _).other _ (show w.heap.size + 3 ≠ w.heap.size + 1 by omega) _).other _ (show w.heap.size + 3 ≠ w.heap.size + 1 by omega) _).other _ (show w.heap.size + 3 ≠ w.heap.size + 1 by omega) _).other _ (show w.heap.size + 2 ≠ w.heap.size + 1 by omega) _), ((((RB1.other _ (show w.heap.size + 3 ≠ w.heap.size + 2 by omega) _).other _ (show w.heap.size + 3 ≠ w.heap.size + 2 by omega) _).other _ (show w.heap.size + 3 ≠ w.heap.size + 2 by omega) _).other _ (show w.heap.size + 3 ≠ w.heap.size + 2 by omega) _).set0 _, F1'.put.of_block (heap_set (show w.heap.size + 2 ≠ w.heap.size + 3 by omega)), World.cell?_setCell_same _ _ _ (((World.cell?_setCell_far _ _ _ _ (show w.heap.size + 3 ≠ w.heap.size + 2 by omega)).trans ((World.cell?_setCell_far _ _ _ _ (show w.heap.size + 3 ≠ w.heap.size + 2 by omega)).trans ((World.cell?_setCell_far _ _ _ _ (show w.heap.size + 3 ≠ w.heap.size + 2 by omega)).trans ((World.cell?_setCell_far _ _ _ _ (show w.heap.size + 3 ≠ w.heap.size + 2 by omega)).trans s0))))), HR⟩
  case rest =>
  clear RA RB DW F3 hl3 g0 g1 g2 g3 g4 g5
  obtain ⟨a, c, d, q, x0, τ', Λ1, ⟨D2, ⟨FX1, FX2⟩, HE1⟩, RA1, RB1, F3, hx0, HR⟩ := hcut
  obtain ⟨f0, f1, f2, f3, ff⟩ := F3
  obtain ⟨_, hx1, x1, ex1, rfl⟩ := RB1.cell 1 (by omega)
  obtain ⟨_, hx2, x2, ex2, rfl⟩ := RB1.cell 2 (by omega)
  obtain ⟨_, hx3, x3, ex3, rfl⟩ := RB1.cell 3 (by omega)
  obtain ⟨_, hx4, rfl⟩ := RB1.cell 4 (by omega)
  obtain ⟨_, hx5, x5, ex5, rfl⟩ := RB1.cell 5 (by omega)
  obtain ⟨_, hx6, x6, ex6, rfl⟩ := RB1.cell 6 (by omega)
  obtain ⟨_, hx7, x7, ex7, rfl⟩ := RB1.cell 7 (by omega)
  obtain ⟨_, hx8, x8, ex8, rfl⟩ := RB1.cell 8 (by omega)
  obtain ⟨_, hx9, x9, ex9, rfl⟩ := RB1.cell 9 (by omega)
  obtain ⟨_, hx10, x10, ex10, rfl⟩ := RB1.cell 10 (by omega)
  obtain ⟨_, hx11, x11, ex11, rfl⟩ := RB1.cell 11 (by omega)
  obtain ⟨_, hx12, x12, ex12, rfl⟩ := RB1.cell 12 (by omega)
  obtain ⟨_, hx13, x13, ex13, rfl⟩ := RB1.cell 13 (by omega)
  obtain ⟨_, hx14, rfl⟩ := RB1.cell 14 (by omega)
  obtain ⟨_, hy0, y0, rfl⟩ := RA1.cell 0 (by omega)
  obtain ⟨_, hy1, y1, rfl⟩ := RA1.cell 1 (by omega)
  obtain ⟨_, hy2, y2, rfl⟩ := RA1.cell 2 (by omega)
  obtain ⟨_, hy3, y3, rfl⟩ := RA1.cell 3 (by omega)
  obtain ⟨_, hy4, rfl⟩ := RA1.cell 4 (by omega)
  obtain ⟨_, hy5, y5, rfl⟩ := RA1.cell 5 (by omega)
  obtain ⟨_, hy6, y6, rfl⟩ := RA1.cell 6 (by omega)
  obtain ⟨_, hy7, y7, rfl⟩ := RA1.cell 7 (by omega)
  obtain ⟨_, hy8, y8, rfl⟩ := RA1.cell 8 (by omega)
  obtain ⟨_, hy9, y9, rfl⟩ := RA1.cell 9 (by omega)
  obtain ⟨_, hy10, y10, rfl⟩ := RA1.cell 10 (by omega)
  obtain ⟨_, hy11, y11, rfl⟩ := RA1.cell 11 (by omega)
  obtain ⟨_, hy12, y12, rfl⟩ := RA1.cell 12 (by omega)
  obtain ⟨_, hy13, y13, rfl⟩ := RA1.cell 13 (by omega)
  obtain ⟨_, hy14, rfl⟩ := RA1.cell 14 (by omega)
  have fa := RA1.fz
  have fb := RB1.fz
  have n12 : ¬ (w.heap.size + 1 = w.heap.size + 2) := by omega
  have n13 : ¬ (w.heap.size + 1 = w.heap.size + 3) := by omega
  have n21 : ¬ (w.heap.size + 2 = w.heap.size + 1) := by omega
  have n23 : ¬ (w.heap.size + 2 = w.heap.size + 3) := by omega
  have n31 : ¬ (w.heap.size + 3 = w.heap.size + 1) := by omega
  have n32 : ¬ (w.heap.size + 3 = w.heap.size + 2) := by omega
  have n01 : ¬ (w.heap.size = w.heap.size + 1) := by omega
  have n10 : ¬ (w.heap.size + 1 = w.heap.size) := by omega
  have n02 : ¬ (w.heap.size = w.heap.size + 2) := by omega
  have n20 : ¬ (w.heap.size + 2 = w.heap.size) := by omega
  have n03 : ¬ (w.heap.size = w.heap.size + 3) := by omega
  have n30 : ¬ (w.heap.size + 3 = w.heap.size) := by omega
  clear RA1 RB1
  by_cases hc : x0 = 0
  · subst hc
    go_wp2_with fail
    refine wp_region_held_drew (S := (fun w' => w'.cell? ⟨w.heap.size + 3, 1, none⟩ = some (.int .i64 c) ∧ w'.cell? ⟨w.heap.size + 3, 0, none⟩ = some (.int .u64 a))) (by kernel_rfl) ⟨f1, f0⟩ (fun hHeld => ?_)
    refine wpAnyH_take (i := 0) (oi := { dst := some 124, op := Go.Op.fieldAddr 84 (Go.Operand.tmp 7) 1, type := 0, pos := _, after := #[], guard := none }) (v := ?vv1) rfl (by kernel_rfl) (by kernel_rfl) (by kernel_rfl) (fun _ _ _ h => h) (Or.inl ⟨by rfl, ?hy1⟩) (by assumption) ?tk1
    case hy1 => (intro w hSw; (try dsimp only at hSw); go_simp; (try with_reducible rfl))
    try simp only [Act.put, List.setIfInBounds_toArray, List.set_cons_zero, List.set_cons_succ]
    refine wpAnyH_take (i := 1) (oi := { dst := some 125, op := Go.Op.load 34 (Go.Operand.tmp 124), type := 34, pos := _, after := #[{ on := 0, ground := Go.Ground.data }], guard := none }) (v := ?vv2) rfl (by kernel_rfl) (by kernel_rfl) (by kernel_rfl) (fun _ _ _ h => h) (Or.inl ⟨by rfl, ?hy2⟩) (by assumption) ?tk2
    case hy2 => (intro w hSw; (try dsimp only at hSw); go_simp; (try with_reducible rfl))
    try simp only [Act.put, List.setIfInBounds_toArray, List.set_cons_zero, List.set_cons_succ]
    refine wpAnyH_take (i := 2) (oi := { dst := some 126, op := Go.Op.fieldAddr 84 (Go.Operand.tmp 7) 0, type := 0, pos := _, after := #[{ on := 5, ground := Go.Ground.gcOnly Go.Departure.lateStores }], guard := none }) (v := ?vv3) rfl (by kernel_rfl) (by kernel_rfl) (by kernel_rfl) (fun _ _ _ h => h) (Or.inl ⟨by rfl, ?hy3⟩) (by assumption) ?tk3
    case hy3 => (intro w hSw; (try dsimp only at hSw); go_simp; (try with_reducible rfl))
    try simp only [Act.put, List.setIfInBounds_toArray, List.set_cons_zero, List.set_cons_succ]
    refine wpAnyH_take (i := 3) (oi := { dst := some 127, op := Go.Op.load 36 (Go.Operand.tmp 126), type := 36, pos := _, after := #[{ on := 2, ground := Go.Ground.data }, { on := 5, ground := Go.Ground.gcOnly Go.Departure.lateStores }], guard := none }) (v := ?vv4) rfl (by kernel_rfl) (by kernel_rfl) (by kernel_rfl) (fun _ _ _ h => h) (Or.inl ⟨by rfl, ?hy4⟩) (by assumption) ?tk4
    case hy4 => (intro w hSw; (try dsimp only at hSw); go_simp; (try with_reducible rfl))
    try simp only [Act.put, List.setIfInBounds_toArray, List.set_cons_zero, List.set_cons_succ]
    refine wpAnyH_take (i := 4) (oi := { dst := some 128, op := Go.Op.fieldAddr 43 (Go.Operand.tmp 5) 1, type := 0, pos := _, after := #[{ on := 0, ground := Go.Ground.phase }, { on := 1, ground := Go.Ground.phase }, { on := 2, ground := Go.Ground.textOnly Go.Departure.lateStores }, { on := 3, ground := Go.Ground.textOnly Go.Departure.lateStores }], guard := none }) (v := ?vv5) rfl (by kernel_rfl) (by kernel_rfl) (by kernel_rfl) (fun _ _ _ h => h) (Or.inl ⟨by rfl, ?hy5⟩) (by assumption) ?tk5
    case hy5 => (intro w hSw; (try dsimp only at hSw); go_simp; (try with_reducible rfl))
    try simp only [Act.put, List.setIfInBounds_toArray, List.set_cons_zero, List.set_cons_succ]
    refine wpAnyH_ready (rs := [5]) (by kernel_rfl) (by simp) ?_
    refine AllReadyH.cons (o := { dst := none, op := Go.Op.store 34 (Go.Operand.tmp 128) (Go.Operand.tmp 125), type := 0, pos := _, after := #[{ on := 4, ground := Go.Ground.data }, { on := 1, ground := Go.Ground.data }, { on := 0, ground := Go.Ground.phase }, { on := 1, ground := Go.Ground.phase }, { on := 2, ground := Go.Ground.textOnly Go.Departure.lateStores }, { on := 3, ground := Go.Ground.textOnly Go.Departure.lateStores }], guard := none }) rfl (fun K' hK' => ?_) AllReadyH.nil
    go_simp
    clear hHeld
    refine hK'.out _ _ (by refine ⟨?_, ?_⟩ <;> go_simp) (fun hHeld => ?_)
    clear hK' K'
    try simp only [Act.put, List.setIfInBounds_toArray, List.set_cons_zero, List.set_cons_succ]
    refine wpAnyH_take (i := 6) (oi := { dst := some 129, op := Go.Op.fieldAddr 43 (Go.Operand.tmp 5) 3, type := 0, pos := _, after := #[{ on := 0, ground := Go.Ground.phase }, { on := 1, ground := Go.Ground.phase }, { on := 2, ground := Go.Ground.phase }, { on := 3, ground := Go.Ground.phase }, { on := 4, ground := Go.Ground.phase }, { on := 5, ground := Go.Ground.phase }], guard := none }) (v := ?vv6) rfl (by kernel_rfl) (by kernel_rfl) (by kernel_rfl) (fun _ _ _ h => h) (Or.inl ⟨by rfl, ?hy6⟩) (by assumption) ?tk6
    case hy6 => (intro w hSw; (try dsimp only at hSw); go_simp; (try with_reducible rfl))
    try simp only [Act.put, List.setIfInBounds_toArray, List.set_cons_zero, List.set_cons_succ]
    refine wpAnyH_ready (rs := [7]) (by kernel_rfl) (by simp) ?_
    refine AllReadyH.cons (o := { dst := none, op := Go.Op.store 36 (Go.Operand.tmp 129) (Go.Operand.tmp 127), type := 0, pos := _, after := #[{ on := 6, ground := Go.Ground.data }, { on := 3, ground := Go.Ground.data }, { on := 5, ground := Go.Ground.chain }, { on := 0, ground := Go.Ground.phase }, { on := 1, ground := Go.Ground.phase }, { on := 2, ground := Go.Ground.phase }, { on := 3, ground := Go.Ground.phase }, { on := 4, ground := Go.Ground.phase }, { on := 5, ground := Go.Ground.phase }], guard := none }) rfl (fun K' hK' => ?_) AllReadyH.nil
    go_simp
    clear hHeld
    refine hK'.out _ _ (by refine ⟨?_, ?_⟩ <;> go_simp) (fun hHeld => ?_)
    clear hK' K'
    try simp only [Act.put, List.setIfInBounds_toArray, List.set_cons_zero, List.set_cons_succ]
    refine wpAnyH_done (by kernel_rfl) ?_ _
    go_wp2
    exact bodyPost_ret (v := .agg #[.int .i64 0, .int .i64 c, .int .i64 x2, .int .u64 a, .bool false, .int .i64 x5, .int .i64 x6, .int .u32 x7, .int .u64 x8, .int .u64 x9, .int .u64 x10, .int .u64 x11, .int .u64 x12, .int .u64 x13, .slice none 0 0]) (by simp [results, Tryz.results19, go_sem, hy0, hy1, hy2, hy3, hy4, hy5, hy6, hy7, hy8, hy9, hy10, hy11, hy12, hy13, hy14]) rfl (by first | exact ⟨0, a, c, τ', by rw [tmRS, if_pos rfl]; exact resE_mk (hideIt rfl) (hideIt rfl) ex2 (hideIt rfl) ex5 ex6 ex7 ex8 ex9 ex10 ex11 ex12 ex13, ⟨Λ1, (((((((((((((((((D2.fresh ⟨w.heap.size + 2, 1, none⟩ (by show w.heap.size ≤ w.heap.size + 2; omega) hB0 hM0 FX2 _).fresh ⟨w.heap.size + 2, 3, none⟩ (by show w.heap.size ≤ w.heap.size + 2; omega) hB0 hM0 FX2 _).fresh ⟨w.heap.size + 1, 0, none⟩ (by show w.heap.size ≤ w.heap.size + 1; omega) hB0 hM0 FX1 _).fresh ⟨w.heap.size + 1, 1, none⟩ (by show w.heap.size ≤ w.heap.size + 1; omega) hB0 hM0 FX1 _).fresh ⟨w.heap.size + 1, 2, none⟩ (by show w.heap.size ≤ w.heap.size + 1; omega) hB0 hM0 FX1 _).fresh ⟨w.heap.size + 1, 3, none⟩ (by show w.heap.size ≤ w.heap.size + 1; omega) hB0 hM0 FX1 _).fresh ⟨w.heap.size + 1, 4, none⟩ (by show w.heap.size ≤ w.heap.size + 1; omega) hB0 hM0 FX1 _).fresh ⟨w.heap.size + 1, 5, none⟩ (by show w.heap.size ≤ w.heap.size + 1; omega) hB0 hM0 FX1 _).fresh ⟨w.heap.size + 1, 6, none⟩ (by show w.heap.size ≤ w.heap.size + 1; omega) hB0 hM0 FX1 _).fresh ⟨w.heap.size + 1, 7, none⟩ (by show w.heap.size ≤ w.heap.size + 1; omega) hB0 hM0 FX1 _).fresh ⟨w.heap.size + 1, 8, none⟩ (by show w.heap.size ≤ w.heap.size + 1; omega) hB0 hM0 FX1 _).fresh ⟨w.heap.size + 1, 9, none⟩ (by show w.heap.size ≤ w.heap.size + 1; omega) hB0 hM0 FX1 _).fresh ⟨w.heap.size + 1, 10, none⟩ (by show w.heap.size ≤ w.heap.size + 1; omega) hB0 hM0 FX1 _).fresh ⟨w.heap.size + 1, 11, none⟩ (by show w.heap.size ≤ w.heap.size + 1; omega) hB0 hM0 FX1 _).fresh ⟨w.heap.size + 1, 12, none⟩ (by show w.heap.size ≤ w.heap.size + 1; omega) hB0 hM0 FX1 _).fresh ⟨w.heap.size + 1, 13, none⟩ (by show w.heap.size ≤ w.heap.size + 1; omega) hB0 hM0 FX1 _).fresh ⟨w.heap.size + 1, 14, none⟩ (by show w.heap.size ≤ w.heap.size + 1; omega) hB0 hM0 FX1 _).drew, HE1.out⟩, HR.out⟩ | exact ⟨0, a, c, by rw [tmRS, if_pos rfl]; exact resE_mk (hideIt rfl) (hideIt rfl) ex2 (hideIt rfl) ex5 ex6 ex7 ex8 ex9 ex10 ex11 ex12 ex13, τ', ⟨Λ1, (((((((((((((((((D2.fresh ⟨w.heap.size + 2, 1, none⟩ (by show w.heap.size ≤ w.heap.size + 2; omega) hB0 hM0 FX2 _).fresh ⟨w.heap.size + 2, 3, none⟩ (by show w.heap.size ≤ w.heap.size + 2; omega) hB0 hM0 FX2 _).fresh ⟨w.heap.size + 1, 0, none⟩ (by show w.heap.size ≤ w.heap.size + 1; omega) hB0 hM0 FX1 _).fresh ⟨w.heap.size + 1, 1, none⟩ (by show w.heap.size ≤ w.heap.size + 1; omega) hB0 hM0 FX1 _).fresh ⟨w.heap.size + 1, 2, none⟩ (by show w.heap.size ≤ w.heap.size + 1; omega) hB0 hM0 FX1 _).fresh ⟨w.heap.size + 1, 3, none⟩ (by show w.heap.size ≤ w.heap.size + 1; omega) hB0 hM0 FX1 _).fresh ⟨w.heap.size + 1, 4, none⟩ (by show w.heap.size ≤ w.heap.size + 1; omega) hB0 hM0 FX1 _).fresh ⟨w.heap.size + 1, 5, none⟩ (by show w.heap.size ≤ w.heap.size + 1; omega) hB0 hM0 FX1 _).fresh ⟨w.heap.size + 1, 6, none⟩ (by show w.heap.size ≤ w.heap.size + 1; omega) hB0 hM0 FX1 _).fresh ⟨w.heap.size + 1, 7, none⟩ (by show w.heap.size ≤ w.heap.size + 1; omega) hB0 hM0 FX1 _).fresh ⟨w.heap.size + 1, 8, none⟩ (by show w.heap.size ≤ w.heap.size + 1; omega) hB0 hM0 FX1 _).fresh ⟨w.heap.size + 1, 9, none⟩ (by show w.heap.size ≤ w.heap.size + 1; omega) hB0 hM0 FX1 _).fresh ⟨w.heap.size + 1, 10, none⟩ (by show w.heap.size ≤ w.heap.size + 1; omega) hB0 hM0 FX1 _).fresh ⟨w.heap.size + 1, 11, none⟩ (by show w.heap.size ≤ w.heap.size + 1; omega) hB0 hM0 FX1 _).fresh ⟨w.heap.size + 1, 12, none⟩ (by show w.heap.size ≤ w.heap.size + 1; omega) hB0 hM0 FX1 _).fresh ⟨w.heap.size + 1, 13, none⟩ (by show w.heap.size ≤ w.heap.size + 1; omega) hB0 hM0 FX1 _).fresh ⟨w.heap.size + 1, 14, none⟩ (by show w.heap.size ≤ w.heap.size + 1; omega) hB0 hM0 FX1 _).drew, HE1.out⟩, HR.out⟩)
  · have hcz : (x0 == 0) = false := by simpa using hc
    have HC0 := hideIt hc
    clear hc
    go_wp2
    exact bodyPost_ret (v := .agg #[.int .i64 x0, .int .i64 x1, .int .i64 x2, .int .u64 x3, .bool false, .int .i64 x5, .int .i64 x6, .int .u32 x7, .int .u64 x8, .int .u64 x9, .int .u64 x10, .int .u64 x11, .int .u64 x12, .int .u64 x13, .slice none 0 0]) (by simp [results, Tryz.results19, go_sem, hy0, hy1, hy2, hy3, hy4, hy5, hy6, hy7, hy8, hy9, hy10, hy11, hy12, hy13, hy14]) rfl (by first | exact ⟨x0, a, c, τ', by rw [tmRS, if_neg HC0.out]; exact resE_mk (hideIt rfl) ex1 ex2 ex3 ex5 ex6 ex7 ex8 ex9 ex10 ex11 ex12 ex13, ⟨Λ1, (((((((((((((((D2.fresh ⟨w.heap.size + 1, 0, none⟩ (by show w.heap.size ≤ w.heap.size + 1; omega) hB0 hM0 FX1 _).fresh ⟨w.heap.size + 1, 1, none⟩ (by show w.heap.size ≤ w.heap.size + 1; omega) hB0 hM0 FX1 _).fresh ⟨w.heap.size + 1, 2, none⟩ (by show w.heap.size ≤ w.heap.size + 1; omega) hB0 hM0 FX1 _).fresh ⟨w.heap.size + 1, 3, none⟩ (by show w.heap.size ≤ w.heap.size + 1; omega) hB0 hM0 FX1 _).fresh ⟨w.heap.size + 1, 4, none⟩ (by show w.heap.size ≤ w.heap.size + 1; omega) hB0 hM0 FX1 _).fresh ⟨w.heap.size + 1, 5, none⟩ (by show w.heap.size ≤ w.heap.size + 1; omega) hB0 hM0 FX1 _).fresh ⟨w.heap.size + 1, 6, none⟩ (by show w.heap.size ≤ w.heap.size + 1; omega) hB0 hM0 FX1 _).fresh ⟨w.heap.size + 1, 7, none⟩ (by show w.heap.size ≤ w.heap.size + 1; omega) hB0 hM0 FX1 _).fresh ⟨w.heap.size + 1, 8, none⟩ (by show w.heap.size ≤ w.heap.size + 1; omega) hB0 hM0 FX1 _).fresh ⟨w.heap.size + 1, 9, none⟩ (by show w.heap.size ≤ w.heap.size + 1; omega) hB0 hM0 FX1 _).fresh ⟨w.heap.size + 1, 10, none⟩ (by show w.heap.size ≤ w.heap.size + 1; omega) hB0 hM0 FX1 _).fresh ⟨w.heap.size + 1, 11, none⟩ (by show w.heap.size ≤ w.heap.size + 1; omega) hB0 hM0 FX1 _).fresh ⟨w.heap.size + 1, 12, none⟩ (by show w.heap.size ≤ w.heap.size + 1; omega) hB0 hM0 FX1 _).fresh ⟨w.heap.size + 1, 13, none⟩ (by show w.heap.size ≤ w.heap.size + 1; omega) hB0 hM0 FX1 _).fresh ⟨w.heap.size + 1, 14, none⟩ (by show w.heap.size ≤ w.heap.size + 1; omega) hB0 hM0 FX1 _), HE1.out⟩, HR.out⟩ | exact ⟨x0, a, c, by rw [tmRS, if_neg HC0.out]; exact resE_mk (hideIt rfl) ex1 ex2 ex3 ex5 ex6 ex7 ex8 ex9 ex10 ex11 ex12 ex13, τ', ⟨Λ1, (((((((((((((((D2.fresh ⟨w.heap.size + 1, 0, none⟩ (by show w.heap.size ≤ w.heap.size + 1; omega) hB0 hM0 FX1 _).fresh ⟨w.heap.size + 1, 1, none⟩ (by show w.heap.size ≤ w.heap.size + 1; omega) hB0 hM0 FX1 _).fresh ⟨w.heap.size + 1, 2, none⟩ (by show w.heap.size ≤ w.heap.size + 1; omega) hB0 hM0 FX1 _).fresh ⟨w.heap.size + 1, 3, none⟩ (by show w.heap.size ≤ w.heap.size + 1; omega) hB0 hM0 FX1 _).fresh ⟨w.heap.size + 1, 4, none⟩ (by show w.heap.size ≤ w.heap.size + 1; omega) hB0 hM0 FX1 _).fresh ⟨w.heap.size + 1, 5, none⟩ (by show w.heap.size ≤ w.heap.size + 1; omega) hB0 hM0 FX1 _).fresh ⟨w.heap.size + 1, 6, none⟩ (by show w.heap.size ≤ w.heap.size + 1; omega) hB0 hM0 FX1 _).fresh ⟨w.heap.size + 1, 7, none⟩ (by show w.heap.size ≤ w.heap.size + 1; omega) hB0 hM0 FX1 _).fresh ⟨w.heap.size + 1, 8, none⟩ (by show w.heap.size ≤ w.heap.size + 1; omega) hB0 hM0 FX1 _).fresh ⟨w.heap.size + 1, 9, none⟩ (by show w.heap.size ≤ w.heap.size + 1; omega) hB0 hM0 FX1 _).fresh ⟨w.heap.size + 1, 10, none⟩ (by show w.heap.size ≤ w.heap.size + 1; omega) hB0 hM0 FX1 _).fresh ⟨w.heap.size + 1, 11, none⟩ (by show w.heap.size ≤ w.heap.size + 1; omega) hB0 hM0 FX1 _).fresh ⟨w.heap.size + 1, 12, none⟩ (by show w.heap.size ≤ w.heap.size + 1; omega) hB0 hM0 FX1 _).fresh ⟨w.heap.size + 1, 13, none⟩ (by show w.heap.size ≤ w.heap.size + 1; omega) hB0 hM0 FX1 _).fresh ⟨w.heap.size + 1, 14, none⟩ (by show w.heap.size ≤ w.heap.size + 1; omega) hB0 hM0 FX1 _), HE1.out⟩, HR.out⟩)
end W
end Go.Proofs.Qxb6500877aGreatDoor
