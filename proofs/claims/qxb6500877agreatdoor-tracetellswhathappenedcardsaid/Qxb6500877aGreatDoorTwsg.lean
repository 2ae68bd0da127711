import Derived.Deep.CutBlock
import Derived.OwnWalk
import Derived.Maps.AppendAt
import Derived.Test.Qxb6500877aGreatDoorTwm
import Derived.Test.Qxb6500877aGreatDoorZg
set_option linter.unusedVariables false
set_option linter.unusedSimpArgs false
namespace Go.Proofs.Qxb6500877aGreatDoor
open Go.RowKit

namespace W
set_option maxRecDepth 20000 in
set_option maxHeartbeats 8000000 in
theorem step_7b {w : World} {B mb t k : Nat} {ν : Net} {τ : TSt} {σ : Sg} {Λ : LS} (M : Mach w B mb t k ν τ σ Λ) (hl : Λ.l.length < 999999000) (hk : k < 800000) (o : OpS) (ho : o.ok) (hkd : o.kd = 7) :
    Calls Tryz.prog 19 #[.pointer (some ⟨B, 0, none⟩), opV o] w fun e w' => ∃ (c tm : Int) (τ' : TSt) (σ' : Sg), ResE ⟨c, if c = 0 then o.a else -1, -1, tm⟩ e ∧ (∃ Λ', Done w w' B mb t (k + 4) ν τ' σ' Λ Λ' ∧ Λ'.l = Λ.l ++ tellM t c (evM t 4 t (argF 4 o.a) tm)) ∧ ArmR2 τ σ (argF 4 o.a) (afterF t o.x : Nat) o.y tm c τ' σ' := by
  have FL : ∀ q, w.heap.size ≤ q → Far Λ q := fun q hq => M.far hq
  have hB0 := M.lt
  have hM0 := M.mlt
  have h2 := M.hB
  have S0 := begun M o
  have hox := ho.x
  have hoy := ho.y
  have HK := hideIt hkd
  clear ho hkd
  generalize hW : (w.alloc (.cells #[.int .u8 o.kd, .int .i64 o.a, .int .i64 o.b, .int .i64 o.c, .int .u64 o.x, .int .u64 o.y] 32)).alloc (.cells #[.int .i64 0, .int .i64 0, .int .i64 0, .int .u64 0, .bool false, .int .i64 0, .int .i64 0, .int .u32 0, .int .u64 0, .int .u64 0, .int .u64 0, .int .u64 0, .int .u64 0, .int .u64 0, .slice none 0 0] 43) = W2 at *
  have s2 : W2.heap.size = w.heap.size + 2 := by rw [← hW]; simp
  unfold opV
  go_enter Tryz.func19, Tryz.ntmps19
  go_upto_region 1 with fail
  go_cut [5] (fun a5 wc => a5 = .pointer (some ⟨w.heap.size + 2, 0, none⟩) ∧ Begun w wc B mb t k ν τ σ Λ o)
  case first =>
    go_wp2
    go_meet
    case rel => exact ⟨rfl, S0⟩
  case rest =>
  obtain ⟨rfl, S1⟩ := hcut
  clear S0 hW s2
  obtain ⟨DW, hsz, OW, RA, RB⟩ := S1
  have OW' := OW
  obtain ⟨g0, g1, g2, g3, g4, g5⟩ := OW
  rw [HK.out] at g0
  have MD := DW.m.drew
  go_upto_region 23 with fail
  go_cut [] (fun wd => ∃ (z tm : Int) (τ' : TSt) (σ' : Sg) (Λ1 : LS), (Done w wd B mb t (k + 4) ν τ' σ' Λ Λ1 ∧ (Far Λ1 (w.heap.size + 1) ∧ Far Λ1 (w.heap.size + 2)) ∧ Hid (Λ1.l = Λ.l ++ tellM t z (evM t 4 t (argF 4 o.a) tm))) ∧ ResAt wd (w.heap.size + 1) ∧ ResX wd (w.heap.size + 2) ⟨z, -1, -1, tm⟩ ∧ OpAt wd w.heap.size o ∧ wd.cell? ⟨w.heap.size + 2, 0, none⟩ = some (.int .i64 z) ∧ wd.cell? ⟨w.heap.size + 2, 3, none⟩ = some (.int .u64 tm) ∧ Hid (ArmR2 τ σ (argF 4 o.a) (afterF t o.x : Nat) o.y tm z τ' σ'))
  case first =>
    have n1 : ¬ (w.heap.size + 2 = w.heap.size) := by omega
    have n2 : ¬ (w.heap.size = w.heap.size + 2) := by omega
    refine wp_region_held_drew (S := (fun w' => w'.cell? ⟨w.heap.size, 1, none⟩ = some (.int .i64 o.a) ∧ w'.cell? ⟨w.heap.size, 4, none⟩ = some (.int .u64 o.x) ∧ w'.cell? ⟨w.heap.size, 5, none⟩ = some (.int .u64 o.y))) (by kernel_rfl) ⟨g1, g4, g5⟩ (fun hHeld => ?_)
    refine wpAnyH_take (i := 0) (oi := { dst := some 90, op := Go.Op.move (Go.Operand.tmp 0), type := 24, pos := _, after := #[], guard := none }) (v := ?vv13) rfl (by kernel_rfl) (by kernel_rfl) (by kernel_rfl) (fun _ _ _ h => h) (Or.inl ⟨by rfl, ?hy13⟩) (by assumption) ?tk13
    case hy13 => (intro w hSw; (try dsimp only at hSw); go_simp; (try with_reducible rfl))
    try simp only [Act.put, List.setIfInBounds_toArray, List.set_cons_zero, List.set_cons_succ]
    refine wpAnyH_take (i := 1) (oi := { dst := some 91, op := Go.Op.fieldAddr 32 (Go.Operand.tmp 3) 1, type := 0, pos := _, after := #[], guard := none }) (v := ?vv14) rfl (by kernel_rfl) (by kernel_rfl) (by kernel_rfl) (fun _ _ _ h => h) (Or.inl ⟨by rfl, ?hy14⟩) (by assumption) ?tk14
    case hy14 => (intro w hSw; (try dsimp only at hSw); go_simp; (try with_reducible rfl))
    try simp only [Act.put, List.setIfInBounds_toArray, List.set_cons_zero, List.set_cons_succ]
    refine wpAnyH_take (i := 2) (oi := { dst := some 92, op := Go.Op.load 2 (Go.Operand.tmp 91), type := 2, pos := _, after := #[{ on := 1, ground := Go.Ground.data }], guard := none }) (v := ?vv15) rfl (by kernel_rfl) (by kernel_rfl) (by kernel_rfl) (fun _ _ _ h => h) (Or.inl ⟨by rfl, ?hy15⟩) (by assumption) ?tk15
    case hy15 => (intro w hSw; (try dsimp only at hSw); go_simp; (try with_reducible rfl))
    try simp only [Act.put, List.setIfInBounds_toArray, List.set_cons_zero, List.set_cons_succ]
    refine wpAnyH_take (i := 4) (oi := { dst := some 94, op := Go.Op.fieldAddr 32 (Go.Operand.tmp 3) 4, type := 0, pos := _, after := #[], guard := none }) (v := ?vv16) rfl (by kernel_rfl) (by kernel_rfl) (by kernel_rfl) (fun _ _ _ h => h) (Or.inl ⟨by rfl, ?hy16⟩) (by assumption) ?tk16
    case hy16 => (intro w hSw; (try dsimp only at hSw); go_simp; (try with_reducible rfl))
    try simp only [Act.put, List.setIfInBounds_toArray, List.set_cons_zero, List.set_cons_succ]
    refine wpAnyH_take (i := 5) (oi := { dst := some 95, op := Go.Op.load 28 (Go.Operand.tmp 94), type := 28, pos := _, after := #[{ on := 4, ground := Go.Ground.data }], guard := none }) (v := ?vv17) rfl (by kernel_rfl) (by kernel_rfl) (by kernel_rfl) (fun _ _ _ h => h) (Or.inl ⟨by rfl, ?hy17⟩) (by assumption) ?tk17
    case hy17 => (intro w hSw; (try dsimp only at hSw); go_simp; (try with_reducible rfl))
    try simp only [Act.put, List.setIfInBounds_toArray, List.set_cons_zero, List.set_cons_succ]
    refine wpAnyH_take (i := 6) (oi := { dst := some 96, op := Go.Op.fieldAddr 32 (Go.Operand.tmp 3) 5, type := 0, pos := _, after := #[], guard := none }) (v := ?vv18) rfl (by kernel_rfl) (by kernel_rfl) (by kernel_rfl) (fun _ _ _ h => h) (Or.inl ⟨by rfl, ?hy18⟩) (by assumption) ?tk18
    case hy18 => (intro w hSw; (try dsimp only at hSw); go_simp; (try with_reducible rfl))
    try simp only [Act.put, List.setIfInBounds_toArray, List.set_cons_zero, List.set_cons_succ]
    refine wpAnyH_take (i := 7) (oi := { dst := some 97, op := Go.Op.load 28 (Go.Operand.tmp 96), type := 28, pos := _, after := #[{ on := 6, ground := Go.Ground.data }], guard := none }) (v := ?vv19) rfl (by kernel_rfl) (by kernel_rfl) (by kernel_rfl) (fun _ _ _ h => h) (Or.inl ⟨by rfl, ?hy19⟩) (by assumption) ?tk19
    case hy19 => (intro w hSw; (try dsimp only at hSw); go_simp; (try with_reducible rfl))
    try simp only [Act.put, List.setIfInBounds_toArray, List.set_cons_zero, List.set_cons_succ]
    refine wpAnyH_ready (rs := [3]) (by kernel_rfl) (by simp) ?_
    refine AllReadyH.cons (o := { dst := some 93, op := Go.Op.call { callee := Go.Callee.value (Go.Operand.func 69), args := #[Go.Operand.tmp 92], argTypes := #[2] }, type := 34, pos := _, after := #[{ on := 2, ground := Go.Ground.data }], guard := none }) rfl (fun K' hK' => ?_) AllReadyH.nil
    go_simp
    go_at_call 69
    refine (coreArg_any _ _).mono ?_
    rintro e wq ⟨rfl, rfl⟩
    clear hHeld
    refine hK'.out _ _ ⟨g1, g4, g5⟩ (fun hHeld => ?_)
    clear hK' K'
    try simp only [Act.put, List.setIfInBounds_toArray, List.set_cons_zero, List.set_cons_succ]
    refine wpAnyH_ready (rs := [8]) (by kernel_rfl) (by simp) ?_
    refine AllReadyH.cons (o := { dst := some 98, op := Go.Op.call { callee := Go.Callee.value (Go.Operand.func 70), args := #[Go.Operand.tmp 90, Go.Operand.tmp 93, Go.Operand.tmp 95, Go.Operand.tmp 97], argTypes := #[24, 34, 28, 28] }, type := 142, pos := _, after := #[{ on := 0, ground := Go.Ground.data }, { on := 3, ground := Go.Ground.data }, { on := 5, ground := Go.Ground.data }, { on := 7, ground := Go.Ground.data }, { on := 3, ground := Go.Ground.chain }], guard := none }) rfl (fun K' hK' => ?_) AllReadyH.nil
    go_simp
    go_at_call 70
    refine (armAfter_m2 (w := World.drew wc) MD hl (by omega) _ hox _).mono ?_
    rintro e w1 ⟨a1, c1, τ', σ', rfl, ⟨Λ1, D1, he1⟩, hR⟩
    have HE1 := hideIt he1
    clear he1
    have FX1 := D1.f.row (w.heap.size + 1) (show w.heap.size + 1 < wc.heap.size by omega) (FL _ (by omega))
    have FX2 := D1.f.row (w.heap.size + 2) (show w.heap.size + 2 < wc.heap.size by omega) (FL _ (by omega))
    have HR := hideIt hR
    clear hR
    have RA1 := RA.drew.blk (D1.f.block (w.heap.size + 1) (show w.heap.size + 1 < wc.heap.size by omega) (by omega) (by omega) (FL _ (by omega)))
    have RB1 := RB.drew.blk (D1.f.block (w.heap.size + 2) (show w.heap.size + 2 < wc.heap.size by omega) (by omega) (by omega) (FL _ (by omega)))
    have OP1 := OW'.blk (w' := w1) (D1.f.block w.heap.size (show w.heap.size < wc.heap.size by omega) (by omega) (by omega) (FL _ (by omega)))
    obtain ⟨v0, s0⟩ := RB1.code
    obtain ⟨v3, s3⟩ := RB1.timer
    have fz := RB1.fz
    have p1 := OP1.c1
    have p4 := OP1.c4
    have p5 := OP1.c5
    clear hHeld
    refine hK'.out _ _ ⟨p1, p4, p5⟩ (fun hHeld => ?_)
    clear hK' K'
    try simp only [Act.put, List.setIfInBounds_toArray, List.set_cons_zero, List.set_cons_succ]
    refine wpAnyH_take (i := 9) (oi := { dst := some 89, op := Go.Op.move (Go.Operand.tmp 98), type := 142, pos := _, after := #[{ on := 8, ground := Go.Ground.data }], guard := none }) (v := ?vv20) rfl (by kernel_rfl) (by kernel_rfl) (by kernel_rfl) (fun _ _ _ h => h) (Or.inl ⟨by rfl, ?hy20⟩) (by assumption) ?tk20
    case hy20 => (intro w hSw; (try dsimp only at hSw); go_simp; (try with_reducible rfl))
    try simp only [Act.put, List.setIfInBounds_toArray, List.set_cons_zero, List.set_cons_succ]
    refine wpAnyH_take (i := 10) (oi := { dst := some 99, op := Go.Op.extract (Go.Operand.tmp 89) 0, type := 36, pos := _, after := #[{ on := 9, ground := Go.Ground.data }], guard := none }) (v := ?vv21) rfl (by kernel_rfl) (by kernel_rfl) (by kernel_rfl) (fun _ _ _ h => h) (Or.inl ⟨by rfl, ?hy21⟩) (by assumption) ?tk21
    case hy21 => (intro w hSw; (try dsimp only at hSw); go_simp; (try with_reducible rfl))
    try simp only [Act.put, List.setIfInBounds_toArray, List.set_cons_zero, List.set_cons_succ]
    refine wpAnyH_take (i := 11) (oi := { dst := some 100, op := Go.Op.extract (Go.Operand.tmp 89) 1, type := 33, pos := _, after := #[{ on := 9, ground := Go.Ground.data }, { on := 13, ground := Go.Ground.gcOnly Go.Departure.lateStores }], guard := none }) (v := ?vv22) rfl (by kernel_rfl) (by kernel_rfl) (by kernel_rfl) (fun _ _ _ h => h) (Or.inl ⟨by rfl, ?hy22⟩) (by assumption) ?tk22
    case hy22 => (intro w hSw; (try dsimp only at hSw); go_simp; (try with_reducible rfl))
    try simp only [Act.put, List.setIfInBounds_toArray, List.set_cons_zero, List.set_cons_succ]
    refine wpAnyH_take (i := 12) (oi := { dst := some 101, op := Go.Op.fieldAddr 43 (Go.Operand.tmp 5) 3, type := 0, pos := _, after := #[{ on := 0, ground := Go.Ground.phase }, { on := 1, ground := Go.Ground.phase }, { on := 2, ground := Go.Ground.phase }, { on := 3, ground := Go.Ground.phase }, { on := 4, ground := Go.Ground.phase }, { on := 5, ground := Go.Ground.phase }, { on := 6, ground := Go.Ground.phase }, { on := 7, ground := Go.Ground.phase }, { on := 8, ground := Go.Ground.phase }, { on := 9, ground := Go.Ground.phase }, { on := 10, ground := Go.Ground.phase }, { on := 11, ground := Go.Ground.textOnly Go.Departure.lateStores }], guard := none }) (v := ?vv23) rfl (by kernel_rfl) (by kernel_rfl) (by kernel_rfl) (fun _ _ _ h => h) (Or.inl ⟨by rfl, ?hy23⟩) (by assumption) ?tk23
    case hy23 => (intro w hSw; (try dsimp only at hSw); go_simp; (try with_reducible rfl))
    try simp only [Act.put, List.setIfInBounds_toArray, List.set_cons_zero, List.set_cons_succ]
    refine wpAnyH_ready (rs := [13]) (by kernel_rfl) (by simp) ?_
    refine AllReadyH.cons (o := { dst := none, op := Go.Op.store 36 (Go.Operand.tmp 101) (Go.Operand.tmp 99), type := 0, pos := _, after := #[{ on := 12, ground := Go.Ground.data }, { on := 10, ground := Go.Ground.data }, { on := 8, ground := Go.Ground.chain }, { on := 0, ground := Go.Ground.phase }, { on := 1, ground := Go.Ground.phase }, { on := 2, ground := Go.Ground.phase }, { on := 3, ground := Go.Ground.phase }, { on := 4, ground := Go.Ground.phase }, { on := 5, ground := Go.Ground.phase }, { on := 6, ground := Go.Ground.phase }, { on := 7, ground := Go.Ground.phase }, { on := 8, ground := Go.Ground.phase }, { on := 9, ground := Go.Ground.phase }, { on := 10, ground := Go.Ground.phase }, { on := 11, ground := Go.Ground.textOnly Go.Departure.lateStores }], guard := none }) rfl (fun K' hK' => ?_) AllReadyH.nil
    go_simp
    clear hHeld
    refine hK'.out _ _ (by refine ⟨?_, ?_, ?_⟩ <;> go_simp) (fun hHeld => ?_)
    clear hK' K'
    try simp only [Act.put, List.setIfInBounds_toArray, List.set_cons_zero, List.set_cons_succ]
    refine wpAnyH_take (i := 14) (oi := { dst := some 102, op := Go.Op.fieldAddr 43 (Go.Operand.tmp 5) 0, type := 0, pos := _, after := #[{ on := 0, ground := Go.Ground.phase }, { on := 1, ground := Go.Ground.phase }, { on := 2, ground := Go.Ground.phase }, { on := 3, ground := Go.Ground.phase }, { on := 4, ground := Go.Ground.phase }, { on := 5, ground := Go.Ground.phase }, { on := 6, ground := Go.Ground.phase }, { on := 7, ground := Go.Ground.phase }, { on := 8, ground := Go.Ground.phase }, { on := 9, ground := Go.Ground.phase }, { on := 10, ground := Go.Ground.phase }, { on := 11, ground := Go.Ground.phase }, { on := 12, ground := Go.Ground.phase }, { on := 13, ground := Go.Ground.phase }], guard := none }) (v := ?vv24) rfl (by kernel_rfl) (by kernel_rfl) (by kernel_rfl) (fun _ _ _ h => h) (Or.inl ⟨by rfl, ?hy24⟩) (by assumption) ?tk24
    case hy24 => (intro w hSw; (try dsimp only at hSw); go_simp; (try with_reducible rfl))
    try simp only [Act.put, List.setIfInBounds_toArray, List.set_cons_zero, List.set_cons_succ]
    refine wpAnyH_ready (rs := [15]) (by kernel_rfl) (by simp) ?_
    refine AllReadyH.cons (o := { dst := none, op := Go.Op.store 33 (Go.Operand.tmp 102) (Go.Operand.tmp 100), type := 0, pos := _, after := #[{ on := 14, ground := Go.Ground.data }, { on := 11, ground := Go.Ground.data }, { on := 13, ground := Go.Ground.chain }, { on := 0, ground := Go.Ground.phase }, { on := 1, ground := Go.Ground.phase }, { on := 2, ground := Go.Ground.phase }, { on := 3, ground := Go.Ground.phase }, { on := 4, ground := Go.Ground.phase }, { on := 5, ground := Go.Ground.phase }, { on := 6, ground := Go.Ground.phase }, { on := 7, ground := Go.Ground.phase }, { on := 8, ground := Go.Ground.phase }, { on := 9, ground := Go.Ground.phase }, { on := 10, ground := Go.Ground.phase }, { on := 11, ground := Go.Ground.phase }, { on := 12, ground := Go.Ground.phase }, { on := 13, ground := Go.Ground.phase }], guard := none }) rfl (fun K' hK' => ?_) AllReadyH.nil
    go_simp
    clear hHeld
    refine hK'.out _ _ (by refine ⟨?_, ?_, ?_⟩ <;> go_simp) (fun hHeld => ?_)
    clear hK' K'
    try simp only [Act.put, List.setIfInBounds_toArray, List.set_cons_zero, List.set_cons_succ]
    refine wpAnyH_done (by kernel_rfl) ?_ _
    go_wp2
    go_meet
    case rel => exact ⟨c1, a1, τ', σ', Λ1, ⟨((((DW.drew.trans D1).mono (by omega)).fresh ⟨w.heap.size + 2, 3, none⟩ (by show w.heap.size ≤ w.heap.size + 2; omega) hB0 hM0 FX2 _).fresh ⟨w.heap.size + 2, 0, none⟩ (by show w.heap.size ≤ w.heap.size + 2; omega) hB0 hM0 FX2 _), ⟨FX1, FX2⟩, HE1⟩, (RA1.other _ (show w.heap.size + 2 ≠ w.heap.size + 1 by omega) _).other _ (show w.heap.size + 2 ≠ w.heap.size + 1 by omega) _, (RB1.set3 _).set0 _, OP1.blk ((heap_set (show w.heap.size + 2 ≠ w.heap.size by omega)).trans (heap_set (show w.heap.size + 2 ≠ w.heap.size by omega))), World.cell?_setCell_same _ _ _ ((World.cell?_setCell_other _ _ _ _ (by simp)).trans s0), (World.cell?_setCell_other _ _ _ _ (by simp)).trans (World.cell?_setCell_same _ _ _ s3), HR⟩
  case rest =>
  clear RA RB DW MD g0 g1 g2 g3 g4 g5 OW'
  obtain ⟨x0, x3, τ', σ', Λ1, ⟨D2, ⟨FX1, FX2⟩, HE1⟩, RA1, RB1, OP1, hx0, hx3, HR⟩ := hcut
  obtain ⟨g0, g1, g2, g3, g4, g5⟩ := OP1
  obtain ⟨_, hx1, x1, ex1, rfl⟩ := RB1.cell 1 (by omega)
  obtain ⟨_, hx2, x2, ex2, rfl⟩ := RB1.cell 2 (by omega)
  obtain ⟨_, hx4, rfl⟩ := RB1.cell 4 (by omega)
  obtain ⟨_, hx5, x5, ex5, rfl⟩ := RB1.cell 5 (by omega)
  obtain ⟨_, hx6, x6, ex6, rfl⟩ := RB1.cell 6 (by omega)
  obtain ⟨_, hx7, x7, ex7, rfl⟩ := RB1.cell 7 (by omega)
  obtain ⟨_, hx8, x8, ex8, rfl⟩ := RB1.cell 8 (by omega)
  obtain ⟨_, hx9, x9, ex9, rfl⟩ := RB1.cell 9 (by omega)
  obtain ⟨_, hx10, x10, ex10, rfl⟩ := RB1.cell 10 (by omega)
  obtain ⟨_, hx11, x11, ex11, rfl⟩ := RB1.cell 11 (by omega)
  obtain ⟨_, hx12, x12, ex12, rfl⟩ := RB1.cell 12 (by omega)
  obtain ⟨_, hx13, x13, ex13, rfl⟩ := RB1.cell 13 (by omega)
  obtain ⟨_, hx14, rfl⟩ := RB1.cell 14 (by omega)
  obtain ⟨_, hy0, y0, rfl⟩ := RA1.cell 0 (by omega)
  obtain ⟨_, hy1, y1, rfl⟩ := RA1.cell 1 (by omega)
  obtain ⟨_, hy2, y2, rfl⟩ := RA1.cell 2 (by omega)
  obtain ⟨_, hy3, y3, rfl⟩ := RA1.cell 3 (by omega)
  obtain ⟨_, hy4, rfl⟩ := RA1.cell 4 (by omega)
  obtain ⟨_, hy5, y5, rfl⟩ := RA1.cell 5 (by omega)
  obtain ⟨_, hy6, y6, rfl⟩ := RA1.cell 6 (by omega)
  obtain ⟨_, hy7, y7, rfl⟩ := RA1.cell 7 (by omega)
  obtain ⟨_, hy8, y8, rfl⟩ := RA1.cell 8 (by omega)
  obtain ⟨_, hy9, y9, rfl⟩ := RA1.cell 9 (by omega)
  obtain ⟨_, hy10, y10, rfl⟩ := RA1.cell 10 (by omega)
  obtain ⟨_, hy11, y11, rfl⟩ := RA1.cell 11 (by omega)
  obtain ⟨_, hy12, y12, rfl⟩ := RA1.cell 12 (by omega)
  obtain ⟨_, hy13, y13, rfl⟩ := RA1.cell 13 (by omega)
  obtain ⟨_, hy14, rfl⟩ := RA1.cell 14 (by omega)
  have fa := RA1.fz
  have fb := RB1.fz
  have n12 : ¬ (w.heap.size + 1 = w.heap.size + 2) := by omega
  have n13 : ¬ (w.heap.size + 1 = w.heap.size + 3) := by omega
  have n21 : ¬ (w.heap.size + 2 = w.heap.size + 1) := by omega
  have n23 : ¬ (w.heap.size + 2 = w.heap.size + 3) := by omega
  have n31 : ¬ (w.heap.size + 3 = w.heap.size + 1) := by omega
  have n32 : ¬ (w.heap.size + 3 = w.heap.size + 2) := by omega
  have n01 : ¬ (w.heap.size = w.heap.size + 1) := by omega
  have n10 : ¬ (w.heap.size + 1 = w.heap.size) := by omega
  have n02 : ¬ (w.heap.size = w.heap.size + 2) := by omega
  have n20 : ¬ (w.heap.size + 2 = w.heap.size) := by omega
  have n03 : ¬ (w.heap.size = w.heap.size + 3) := by omega
  have n30 : ¬ (w.heap.size + 3 = w.heap.size) := by omega
  clear RA1 RB1
  by_cases hc : x0 = 0
  · subst hc
    go_wp2
    exact bodyPost_ret (v := .agg #[.int .i64 0, .int .i64 o.a, .int .i64 x2, .int .u64 x3, .bool false, .int .i64 x5, .int .i64 x6, .int .u32 x7, .int .u64 x8, .int .u64 x9, .int .u64 x10, .int .u64 x11, .int .u64 x12, .int .u64 x13, .slice none 0 0]) (by simp [results, Tryz.results19, go_sem, hy0, hy1, hy2, hy3, hy4, hy5, hy6, hy7, hy8, hy9, hy10, hy11, hy12, hy13, hy14]) rfl (by first | exact ⟨0, x3, τ', σ', by rw [if_pos rfl]; exact resE_mk (hideIt rfl) (hideIt rfl) ex2 (hideIt rfl) ex5 ex6 ex7 ex8 ex9 ex10 ex11 ex12 ex13, ⟨Λ1, ((((((((((((((((D2.fresh ⟨w.heap.size + 2, 1, none⟩ (by show w.heap.size ≤ w.heap.size + 2; omega) hB0 hM0 FX2 _).fresh ⟨w.heap.size + 1, 0, none⟩ (by show w.heap.size ≤ w.heap.size + 1; omega) hB0 hM0 FX1 _).fresh ⟨w.heap.size + 1, 1, none⟩ (by show w.heap.size ≤ w.heap.size + 1; omega) hB0 hM0 FX1 _).fresh ⟨w.heap.size + 1, 2, none⟩ (by show w.heap.size ≤ w.heap.size + 1; omega) hB0 hM0 FX1 _).fresh ⟨w.heap.size + 1, 3, none⟩ (by show w.heap.size ≤ w.heap.size + 1; omega) hB0 hM0 FX1 _).fresh ⟨w.heap.size + 1, 4, none⟩ (by show w.heap.size ≤ w.heap.size + 1; omega) hB0 hM0 FX1 _).fresh ⟨w.heap.size + 1, 5, none⟩ (by show w.heap.size ≤ w.heap.size + 1; omega) hB0 hM0 FX1 _).fresh ⟨w.heap.size + 1, 6, none⟩ (by show w.heap.size ≤ w.heap.size + 1; omega) hB0 hM0 FX1 _).fresh ⟨w.heap.size + 1, 7, none⟩ (by show w.heap.size ≤ w.heap.size + 1; omega) hB0 hM0 FX1 _).fresh ⟨w.heap.size + 1, 8, none⟩ (by show w.heap.size ≤ w.heap.size + 1; omega) hB0 hM0 FX1 _).fresh ⟨w.heap.size + 1, 9, none⟩ (by show w.heap.size ≤ w.heap.size + 1; omega) hB0 hM0 FX1 _).fresh ⟨w.heap.size + 1, 10, none⟩ (by show w.heap.size ≤ w.heap.size + 1; omega) hB0 hM0 FX1 _).fresh ⟨w.heap.size + 1, 11, none⟩ (by show w.heap.size ≤ w.heap.size + 1; omega) hB0 hM0 FX1 _).fresh ⟨w.heap.size + 1, 12, none⟩ (by show w.heap.size ≤ w.heap.size + 1; omega) hB0 hM0 FX1 _).fresh ⟨w.heap.size + 1, 13, none⟩ (by show w.heap.size ≤ w.heap.size + 1; omega) hB0 hM0 FX1 _).fresh ⟨w.heap.size + 1, 14, none⟩ (by show w.heap.size ≤ w.heap.size + 1; omega) hB0 hM0 FX1 _), HE1.out⟩, HR.out⟩ | exact ⟨0, x3, by rw [if_pos rfl]; exact resE_mk (hideIt rfl) (hideIt rfl) ex2 (hideIt rfl) ex5 ex6 ex7 ex8 ex9 ex10 ex11 ex12 ex13, τ', σ', ⟨Λ1, ((((((((((((((((D2.fresh ⟨w.heap.size + 2, 1, none⟩ (by show w.heap.size ≤ w.heap.size + 2; omega) hB0 hM0 FX2 _).fresh ⟨w.heap.size + 1, 0, none⟩ (by show w.heap.size ≤ w.heap.size + 1; omega) hB0 hM0 FX1 _).fresh ⟨w.heap.size + 1, 1, none⟩ (by show w.heap.size ≤ w.heap.size + 1; omega) hB0 hM0 FX1 _).fresh ⟨w.heap.size + 1, 2, none⟩ (by show w.heap.size ≤ w.heap.size + 1; omega) hB0 hM0 FX1 _).fresh ⟨w.heap.size + 1, 3, none⟩ (by show w.heap.size ≤ w.heap.size + 1; omega) hB0 hM0 FX1 _).fresh ⟨w.heap.size + 1, 4, none⟩ (by show w.heap.size ≤ w.heap.size + 1; omega) hB0 hM0 FX1 _).fresh ⟨w.heap.size + 1, 5, none⟩ (by show w.heap.size ≤ w.heap.size + 1; omega) hB0 hM0 FX1 _).fresh ⟨w.heap.size + 1, 6, none⟩ (by show w.heap.size ≤ w.heap.size + 1; omega) hB0 hM0 FX1 _).fresh ⟨w.heap.size + 1, 7, none⟩ (by show w.heap.size ≤ w.heap.size + 1; omega) hB0 hM0 FX1 _).fresh ⟨w.heap.size + 1, 8, none⟩ (by show w.heap.size ≤ w.heap.size + 1; omega) hB0 hM0 FX1 _).fresh ⟨w.heap.size + 1, 9, none⟩ (by show w.heap.size ≤ w.heap.size + 1; omega) hB0 hM0 FX1 _).fresh ⟨w.heap.size + 1, 10, none⟩ (by show w.heap.size ≤ w.heap.size + 1; omega) hB0 hM0 FX1 _).fresh ⟨w.heap.size + 1, 11, none⟩ (by show w.heap.size ≤ w.heap.size + 1; omega) hB0 hM0 FX1 _).fresh ⟨w.heap.size + 1, 12, none⟩ (by show w.heap.size ≤ w.heap.size + 1; omega) hB0 hM0 FX1 _).fresh ⟨w.heap.size + 1, 13, none⟩ (by show w.heap.size ≤ w.heap.size + 1; omega) hB0 hM0 FX1 _).fresh ⟨w.heap.size + 1, 14, none⟩ (by show w.heap.size ≤ w.heap.size + 1; omega) hB0 hM0 FX1 _), HE1.out⟩, HR.out⟩ | exact ⟨0, x3, resE_mk (hideIt rfl) (hideIt rfl) ex2 (hideIt rfl) ex5 ex6 ex7 ex8 ex9 ex10 ex11 ex12 ex13, τ', σ', ⟨Λ1, ((((((((((((((((D2.fresh ⟨w.heap.size + 2, 1, none⟩ (by show w.heap.size ≤ w.heap.size + 2; omega) hB0 hM0 FX2 _).fresh ⟨w.heap.size + 1, 0, none⟩ (by show w.heap.size ≤ w.heap.size + 1; omega) hB0 hM0 FX1 _).fresh ⟨w.heap.size + 1, 1, none⟩ (by show w.heap.size ≤ w.heap.size + 1; omega) hB0 hM0 FX1 _).fresh ⟨w.heap.size + 1, 2, none⟩ (by show w.heap.size ≤ w.heap.size + 1; omega) hB0 hM0 FX1 _).fresh ⟨w.heap.size + 1, 3, none⟩ (by show w.heap.size ≤ w.heap.size + 1; omega) hB0 hM0 FX1 _).fresh ⟨w.heap.size + 1, 4, none⟩ (by show w.heap.size ≤ w.heap.size + 1; omega) hB0 hM0 FX1 _).fresh ⟨w.heap.size + 1, 5, none⟩ (by show w.heap.size ≤ w.heap.size + 1; omega) hB0 hM0 FX1 _).fresh ⟨w.heap.size + 1, 6, none⟩ (by show w.heap.size ≤ w.heap.size + 1; omega) hB0 hM0 FX1 _).fresh ⟨w.heap.size + 1, 7, none⟩ (by show w.heap.size ≤ w.heap.size + 1; omega) hB0 hM0 FX1 _).fresh ⟨w.heap.size + 1, 8, none⟩ (by show w.heap.size ≤ w.heap.size + 1; omega) hB0 hM0 FX1 _).fresh ⟨w.heap.size + 1, 9, none⟩ (by show w.heap.size ≤ w.heap.size + 1; omega) hB0 hM0 FX1 _).fresh ⟨w.heap.size + 1, 10, none⟩ (by show w.heap.size ≤ w.heap.size + 1; omega) hB0 hM0 FX1 _).fresh ⟨w.heap.size + 1, 11, none⟩ (by show w.heap.size ≤ w.heap.size + 1; omega) hB0 hM0 FX1 _).fresh ⟨w.heap.size + 1, 12, none⟩ (by show w.heap.size ≤ w.heap.size + 1; omega) hB0 hM0 FX1 _).fresh ⟨w.heap.size + 1, 13, none⟩ (by show w.heap.size ≤ w.heap.size + 1; omega) hB0 hM0 FX1 _).fresh ⟨w.heap.size + 1, 14, none⟩ (by show w.heap.size ≤ w.heap.size + 1; omega) hB0 hM0 FX1 _), HE1.out⟩, HR.out⟩)
  · have hcz : (x0 == 0) = false := by simpa using hc
    have HC0 := hideIt hc
    clear hc
    go_wp2
    exact bodyPost_ret (v := .agg #[.int .i64 x0, .int .i64 x1, .int .i64 x2, .int .u64 x3, .bool false, .int .i64 x5, .int .i64 x6, .int .u32 x7, .int .u64 x8, .int .u64 x9, .int .u64 x10, .int .u64 x11, .int .u64 x12, .int .u64 x13, .slice none 0 0]) (by simp [results, Tryz.results19, go_sem, hy0, hy1, hy2, hy3, hy4, hy5, hy6, hy7, hy8, hy9, hy10, hy11, hy12, hy13, hy14]) rfl (by first | exact ⟨x0, x3, τ', σ', by rw [if_neg HC0.out]; exact resE_mk (hideIt rfl) ex1 ex2 (hideIt rfl) ex5 ex6 ex7 ex8 ex9 ex10 ex11 ex12 ex13, ⟨Λ1, (((((((((((((((D2.fresh ⟨w.heap.size + 1, 0, none⟩ (by show w.heap.size ≤ w.heap.size + 1; omega) hB0 hM0 FX1 _).fresh ⟨w.heap.size + 1, 1, none⟩ (by show w.heap.size ≤ w.heap.size + 1; omega) hB0 hM0 FX1 _).fresh ⟨w.heap.size + 1, 2, none⟩ (by show w.heap.size ≤ w.heap.size + 1; omega) hB0 hM0 FX1 _).fresh ⟨w.heap.size + 1, 3, none⟩ (by show w.heap.size ≤ w.heap.size + 1; omega) hB0 hM0 FX1 _).fresh ⟨w.heap.size + 1, 4, none⟩ (by show w.heap.size ≤ w.heap.size + 1; omega) hB0 hM0 FX1 _).fresh ⟨w.heap.size + 1, 5, none⟩ (by show w.heap.size ≤ w.heap.size + 1; omega) hB0 hM0 FX1 _).fresh ⟨w.heap.size + 1, 6, none⟩ (by show w.heap.size ≤ w.heap.size + 1; omega) hB0 hM0 FX1 _).fresh ⟨w.heap.size + 1, 7, none⟩ (by show w.heap.size ≤ w.heap.size + 1; omega) hB0 hM0 FX1 _).fresh ⟨w.heap.size + 1, 8, none⟩ (by show w.heap.size ≤ w.heap.size + 1; omega) hB0 hM0 FX1 _).fresh ⟨w.heap.size + 1, 9, none⟩ (by show w.heap.size ≤ w.heap.size + 1; omega) hB0 hM0 FX1 _).fresh ⟨w.heap.size + 1, 10, none⟩ (by show w.heap.size ≤ w.heap.size + 1; omega) hB0 hM0 FX1 _).fresh ⟨w.heap.size + 1, 11, none⟩ (by show w.heap.size ≤ w.heap.size + 1; omega) hB0 hM0 FX1 _).fresh ⟨w.heap.size + 1, 12, none⟩ (by show w.heap.size ≤ w.heap.size + 1; omega) hB0 hM0 FX1 _).fresh ⟨w.heap.size + 1, 13, none⟩ (by show w.heap.size ≤ w.heap.size + 1; omega) hB0 hM0 FX1 _).fresh ⟨w.heap.size + 1, 14, none⟩ (by show w.heap.size ≤ w.heap.size + 1; omega) hB0 hM0 FX1 _), HE1.out⟩, HR.out⟩ | exact ⟨x0, x3, by rw [if_neg HC0.out]; exact resE_mk (hideIt rfl) ex1 ex2 (hideIt rfl) ex5 ex6 ex7 ex8 ex9 ex10 ex11 ex12 ex13, τ', σ', ⟨Λ1, (((((((((((((((D2.fresh ⟨w.heap.size + 1, 0, none⟩ (by show w.heap.size ≤ w.heap.size + 1; omega) hB0 hM0 FX1 _).fresh ⟨w.heap.size + 1, 1, none⟩ (by show w.heap.size ≤ w.heap.size + 1; omega) hB0 hM0 FX1 _).fresh ⟨w.heap.size + 1, 2, none⟩ (by show w.heap.size ≤ w.heap.size + 1; omega) hB0 hM0 FX1 _).fresh ⟨w.heap.size + 1, 3, none⟩ (by show w.heap.size ≤ w.heap.size + 1; omega) hB0 hM0 FX1 _).fresh ⟨w.heap.size + 1, 4, none⟩ (by show w.heap.size ≤ w.heap.size + 1; omega) hB0 hM0 FX1 _).fresh ⟨w.heap.size + 1, 5, none⟩ (by show w.heap.size ≤ w.heap.size + 1; omega) hB0 hM0 FX1 _).fresh ⟨w.heap.size + 1, 6, none⟩ (by show w.heap.size ≤ w.heap.size + 1; omega) hB0 hM0 FX1 _).fresh ⟨w.heap.size + 1, 7, none⟩ (by show w.heap.size ≤ w.heap.size + 1; omega) hB0 hM0 FX1 _).fresh ⟨w.heap.size + 1, 8, none⟩ (by show w.heap.size ≤ w.heap.size + 1; omega) hB0 hM0 FX1 _).fresh ⟨w.heap.size + 1, 9, none⟩ (by show w.heap.size ≤ w.heap.size + 1; omega) hB0 hM0 FX1 _).fresh ⟨w.heap.size + 1, 10, none⟩ (by show w.heap.size ≤ w.heap.size + 1; omega) hB0 hM0 FX1 _).fresh ⟨w.heap.size + 1, 11, none⟩ (by show w.heap.size ≤ w.heap.size + 1; omega) hB0 hM0 FX1 _).fresh ⟨w.heap.size + 1, 12, none⟩ (by show w.heap.size ≤ w.heap.size + 1; omega) hB0 hM0 FX1 _).fresh ⟨w.heap.size + 1, 13, none⟩ (by show w.heap.size ≤ w.heap.size + 1; omega) hB0 hM0 FX1 _).fresh ⟨w.heap.size + 1, 14, none⟩ (by show w.heap.size ≤ w.heap.size + 1; omega) hB0 hM0 FX1 _), HE1.out⟩, HR.out⟩)
end W
end Go.Proofs.Qxb6500877aGreatDoor
