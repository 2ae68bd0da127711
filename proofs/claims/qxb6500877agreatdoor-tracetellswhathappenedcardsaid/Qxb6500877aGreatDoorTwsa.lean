import Derived.Deep.CutBlock
import Derived.OwnWalk
import Derived.Maps.AppendAt
import Derived.Test.Qxb6500877aGreatDoorTwm
import Derived.Test.Qxb6500877aGreatDoorPSta
set_option linter.unusedVariables false
set_option linter.unusedSimpArgs false
namespace Go.Proofs.Qxb6500877aGreatDoor
open Go.RowKit

namespace W
set_option maxRecDepth 20000 in
set_option maxHeartbeats 8000000 in
theorem step_0 {w : World} {B mb t k : Nat} {ν : Net} {τ : TSt} {σ : Sg} {Λ : LS} (M : Mach w B mb t k ν τ σ Λ) (hl : Λ.l.length < 999999000) (hk : k < 800000) (o : OpS) (ho : o.ok) (hkd : o.kd = 0) :
    Calls Tryz.prog 19 #[.pointer (some ⟨B, 0, none⟩), opV o] w fun e w' => ∃ c : Nat, c < 4 ∧ o.a % 4 = (c : Int) ∧ ResE ⟨(pickRes σ c).c, c, (pickRes σ c).tk, 0⟩ e ∧ (∃ Λ', Done w w' B mb t (k + 4) ν τ (pickRes σ c).σ Λ Λ' ∧ Λ'.l = Λ.l ++ tellP t σ c) := by
  have FL : ∀ q, w.heap.size ≤ q → Far Λ q := fun q hq => M.far hq
  have hB0 := M.lt
  have hM0 := M.mlt
  have h2 := M.hB
  have S0 := begun M o
  have hox := ho.x
  have hoy := ho.y
  have HK := hideIt hkd
  clear ho hkd
  generalize hW : (w.alloc (.cells #[.int .u8 o.kd, .int .i64 o.a, .int .i64 o.b, .int .i64 o.c, .int .u64 o.x, .int .u64 o.y] 32)).alloc (.cells #[.int .i64 0, .int .i64 0, .int .i64 0, .int .u64 0, .bool false, .int .i64 0, .int .i64 0, .int .u32 0, .int .u64 0, .int .u64 0, .int .u64 0, .int .u64 0, .int .u64 0, .int .u64 0, .slice none 0 0] 43) = W2 at *
  have s2 : W2.heap.size = w.heap.size + 2 := by rw [← hW]; simp
  unfold opV
  go_enter Tryz.func19, Tryz.ntmps19
  go_upto_region 1 with fail
  go_cut [5] (fun a5 wc => a5 = .pointer (some ⟨w.heap.size + 2, 0, none⟩) ∧ Begun w wc B mb t k ν τ σ Λ o)
  case first =>
    go_wp2
    go_meet
    case rel => exact ⟨rfl, S0⟩
  case rest =>
  obtain ⟨rfl, S1⟩ := hcut
  clear S0 hW s2
  obtain ⟨DW, hsz, OW, RA, RB⟩ := S1
  have OW' := OW
  obtain ⟨g0, g1, g2, g3, g4, g5⟩ := OW
  rw [HK.out] at g0
  go_wp2_with fail
  refine (pick_m DW.m hl _).mono ?_
  rintro e w1 ⟨c, hcc, ec, rfl, Λ1, D1, he1⟩
  have HE1 := hideIt he1
  clear he1
  obtain ⟨⟨b1, c1, σ1⟩, HP⟩ : ∃ r, Hid (pickRes σ c = r) := ⟨_, hideIt rfl⟩
  rw [HP.out] at D1 ⊢
  dsimp only at D1 ⊢
  have EC := hideIt ec
  clear ec
  have RA1 := RA.blk (D1.f.block (w.heap.size + 1) (by omega) (by omega) (by omega) (FL _ (by omega)))
  have RB1 := RB.blk (D1.f.block (w.heap.size + 2) (by omega) (by omega) (by omega) (FL _ (by omega)))
  obtain ⟨_, hx0, x0, ex0, rfl⟩ := RB1.cell 0 (by omega)
  obtain ⟨_, hx1, x1, ex1, rfl⟩ := RB1.cell 1 (by omega)
  obtain ⟨_, hx2, x2, ex2, rfl⟩ := RB1.cell 2 (by omega)
  obtain ⟨_, hx3, x3, ex3, rfl⟩ := RB1.cell 3 (by omega)
  obtain ⟨_, hx4, rfl⟩ := RB1.cell 4 (by omega)
  obtain ⟨_, hx5, x5, ex5, rfl⟩ := RB1.cell 5 (by omega)
  obtain ⟨_, hx6, x6, ex6, rfl⟩ := RB1.cell 6 (by omega)
  obtain ⟨_, hx7, x7, ex7, rfl⟩ := RB1.cell 7 (by omega)
  obtain ⟨_, hx8, x8, ex8, rfl⟩ := RB1.cell 8 (by omega)
  obtain ⟨_, hx9, x9, ex9, rfl⟩ := RB1.cell 9 (by omega)
  obtain ⟨_, hx10, x10, ex10, rfl⟩ := RB1.cell 10 (by omega)
  obtain ⟨_, hx11, x11, ex11, rfl⟩ := RB1.cell 11 (by omega)
  obtain ⟨_, hx12, x12, ex12, rfl⟩ := RB1.cell 12 (by omega)
  obtain ⟨_, hx13, x13, ex13, rfl⟩ := RB1.cell 13 (by omega)
  obtain ⟨_, hx14, rfl⟩ := RB1.cell 14 (by omega)
  obtain ⟨_, hy0, y0, rfl⟩ := RA1.cell 0 (by omega)
  obtain ⟨_, hy1, y1, rfl⟩ := RA1.cell 1 (by omega)
  obtain ⟨_, hy2, y2, rfl⟩ := RA1.cell 2 (by omega)
  obtain ⟨_, hy3, y3, rfl⟩ := RA1.cell 3 (by omega)
  obtain ⟨_, hy4, rfl⟩ := RA1.cell 4 (by omega)
  obtain ⟨_, hy5, y5, rfl⟩ := RA1.cell 5 (by omega)
  obtain ⟨_, hy6, y6, rfl⟩ := RA1.cell 6 (by omega)
  obtain ⟨_, hy7, y7, rfl⟩ := RA1.cell 7 (by omega)
  obtain ⟨_, hy8, y8, rfl⟩ := RA1.cell 8 (by omega)
  obtain ⟨_, hy9, y9, rfl⟩ := RA1.cell 9 (by omega)
  obtain ⟨_, hy10, y10, rfl⟩ := RA1.cell 10 (by omega)
  obtain ⟨_, hy11, y11, rfl⟩ := RA1.cell 11 (by omega)
  obtain ⟨_, hy12, y12, rfl⟩ := RA1.cell 12 (by omega)
  obtain ⟨_, hy13, y13, rfl⟩ := RA1.cell 13 (by omega)
  obtain ⟨_, hy14, rfl⟩ := RA1.cell 14 (by omega)
  have fa := RA1.fz
  have fb := RB1.fz
  have n12 : ¬ (w.heap.size + 1 = w.heap.size + 2) := by omega
  have n13 : ¬ (w.heap.size + 1 = w.heap.size + 3) := by omega
  have n21 : ¬ (w.heap.size + 2 = w.heap.size + 1) := by omega
  have n23 : ¬ (w.heap.size + 2 = w.heap.size + 3) := by omega
  have n31 : ¬ (w.heap.size + 3 = w.heap.size + 1) := by omega
  have n32 : ¬ (w.heap.size + 3 = w.heap.size + 2) := by omega
  have n01 : ¬ (w.heap.size = w.heap.size + 1) := by omega
  have n10 : ¬ (w.heap.size + 1 = w.heap.size) := by omega
  have n02 : ¬ (w.heap.size = w.heap.size + 2) := by omega
  have n20 : ¬ (w.heap.size + 2 = w.heap.size) := by omega
  have n03 : ¬ (w.heap.size = w.heap.size + 3) := by omega
  have n30 : ¬ (w.heap.size + 3 = w.heap.size) := by omega
  have FX1 := D1.f.row (w.heap.size + 1) (by omega) (FL _ (by omega))
  have FX2 := D1.f.row (w.heap.size + 2) (by omega) (FL _ (by omega))
  have D2 : Done w w1 B mb t (k + 4) ν τ σ1 Λ Λ1 := (DW.trans D1).mono (by omega)
  clear RA RB RA1 RB1 DW D1 g0 g1 g2 g3 g4 g5 OW'
  go_wp2
  exact bodyPost_ret (v := .agg #[.int .i64 c1, .int .i64 (c : Int), .int .i64 b1, .int .u64 x3, .bool false, .int .i64 x5, .int .i64 x6, .int .u32 x7, .int .u64 x8, .int .u64 x9, .int .u64 x10, .int .u64 x11, .int .u64 x12, .int .u64 x13, .slice none 0 0]) (by simp [results, Tryz.results19, go_sem, hy0, hy1, hy2, hy3, hy4, hy5, hy6, hy7, hy8, hy9, hy10, hy11, hy12, hy13, hy14]) rfl ⟨c, hcc, EC.out, by rw [HP.out]; exact resE_mk (hideIt rfl) (hideIt rfl) (hideIt rfl) ex3 ex5 ex6 ex7 ex8 ex9 ex10 ex11 ex12 ex13, by rw [HP.out]; exact ⟨Λ1, ((((((((((((((((((D2.fresh ⟨w.heap.size + 2, 1, none⟩ (by show w.heap.size ≤ w.heap.size + 2; omega) hB0 hM0 FX2 _).fresh ⟨w.heap.size + 2, 2, none⟩ (by show w.heap.size ≤ w.heap.size + 2; omega) hB0 hM0 FX2 _).fresh ⟨w.heap.size + 2, 0, none⟩ (by show w.heap.size ≤ w.heap.size + 2; omega) hB0 hM0 FX2 _).fresh ⟨w.heap.size + 1, 0, none⟩ (by show w.heap.size ≤ w.heap.size + 1; omega) hB0 hM0 FX1 _).fresh ⟨w.heap.size + 1, 1, none⟩ (by show w.heap.size ≤ w.heap.size + 1; omega) hB0 hM0 FX1 _).fresh ⟨w.heap.size + 1, 2, none⟩ (by show w.heap.size ≤ w.heap.size + 1; omega) hB0 hM0 FX1 _).fresh ⟨w.heap.size + 1, 3, none⟩ (by show w.heap.size ≤ w.heap.size + 1; omega) hB0 hM0 FX1 _).fresh ⟨w.heap.size + 1, 4, none⟩ (by show w.heap.size ≤ w.heap.size + 1; omega) hB0 hM0 FX1 _).fresh ⟨w.heap.size + 1, 5, none⟩ (by show w.heap.size ≤ w.heap.size + 1; omega) hB0 hM0 FX1 _).fresh ⟨w.heap.size + 1, 6, none⟩ (by show w.heap.size ≤ w.heap.size + 1; omega) hB0 hM0 FX1 _).fresh ⟨w.heap.size + 1, 7, none⟩ (by show w.heap.size ≤ w.heap.size + 1; omega) hB0 hM0 FX1 _).fresh ⟨w.heap.size + 1, 8, none⟩ (by show w.heap.size ≤ w.heap.size + 1; omega) hB0 hM0 FX1 _).fresh ⟨w.heap.size + 1, 9, none⟩ (by show w.heap.size ≤ w.heap.size + 1; omega) hB0 hM0 FX1 _).fresh ⟨w.heap.size + 1, 10, none⟩ (by show w.heap.size ≤ w.heap.size + 1; omega) hB0 hM0 FX1 _).fresh ⟨w.heap.size + 1, 11, none⟩ (by show w.heap.size ≤ w.heap.size + 1; omega) hB0 hM0 FX1 _).fresh ⟨w.heap.size + 1, 12, none⟩ (by show w.heap.size ≤ w.heap.size + 1; omega) hB0 hM0 FX1 _).fresh ⟨w.heap.size + 1, 13, none⟩ (by show w.heap.size ≤ w.heap.size + 1; omega) hB0 hM0 FX1 _).fresh ⟨w.heap.size + 1, 14, none⟩ (by show w.heap.size ≤ w.heap.size + 1; omega) hB0 hM0 FX1 _), HE1.out⟩⟩
set_option maxRecDepth 20000 in
set_option maxHeartbeats 8000000 in
theorem step_2 {w : World} {B mb t k : Nat} {ν : Net} {τ : TSt} {σ : Sg} {Λ : LS} (M : Mach w B mb t k ν τ σ Λ) (hl : Λ.l.length < 999999000) (hk : k < 800000) (o : OpS) (ho : o.ok) (hkd : o.kd = 2) :
    Calls Tryz.prog 19 #[.pointer (some ⟨B, 0, none⟩), opV o] w fun e w' => ∃ (v : Value) (l : List FiredS) (τ' : TSt), ResL v e ∧ FiredAt w' w.heap.size v l ∧ (∃ Λ', Done w w' B mb (afterF t 1) (k + 4) ν τ' (firedSg σ l) Λ Λ' ∧ Λ'.l = Λ.l ++ tellC (afterF t 1) 1 l) ∧ AdvanceR τ τ' t 1 l := by
  have FL : ∀ q, w.heap.size ≤ q → Far Λ q := fun q hq => M.far hq
  have hB0 := M.lt
  have hM0 := M.mlt
  have h2 := M.hB
  have S0 := begun M o
  have hox := ho.x
  have hoy := ho.y
  have HK := hideIt hkd
  clear ho hkd
  generalize hW : (w.alloc (.cells #[.int .u8 o.kd, .int .i64 o.a, .int .i64 o.b, .int .i64 o.c, .int .u64 o.x, .int .u64 o.y] 32)).alloc (.cells #[.int .i64 0, .int .i64 0, .int .i64 0, .int .u64 0, .bool false, .int .i64 0, .int .i64 0, .int .u32 0, .int .u64 0, .int .u64 0, .int .u64 0, .int .u64 0, .int .u64 0, .int .u64 0, .slice none 0 0] 43) = W2 at *
  have s2 : W2.heap.size = w.heap.size + 2 := by rw [← hW]; simp
  unfold opV
  go_enter Tryz.func19, Tryz.ntmps19
  go_upto_region 1 with fail
  go_cut [5] (fun a5 wc => a5 = .pointer (some ⟨w.heap.size + 2, 0, none⟩) ∧ Begun w wc B mb t k ν τ σ Λ o)
  case first =>
    go_wp2
    go_meet
    case rel => exact ⟨rfl, S0⟩
  case rest =>
  obtain ⟨rfl, S1⟩ := hcut
  clear S0 hW s2
  obtain ⟨DW, hsz, OW, RA, RB⟩ := S1
  have OW' := OW
  obtain ⟨g0, g1, g2, g3, g4, g5⟩ := OW
  rw [HK.out] at g0
  go_wp2_with fail
  refine (tick_m DW.m hl).mono ?_
  rintro e w1 ⟨v, l, τ', rfl, hF, ⟨Λ1, D1, he1⟩, hR⟩
  have HE1 := hideIt he1
  clear he1
  have HR := hideIt hR
  obtain ⟨p1, b1, hv⟩ := fired_shape hF
  subst hv
  have HF : Hid (FiredAt w1 wc.heap.size (.slice p1 l.length b1) l) := hideIt hF
  clear hR hF
  have RA1 := RA.blk (D1.f.block (w.heap.size + 1) (by omega) (by omega) (by omega) (FL _ (by omega)))
  have RB1 := RB.blk (D1.f.block (w.heap.size + 2) (by omega) (by omega) (by omega) (FL _ (by omega)))
  obtain ⟨_, hx0, x0, ex0, rfl⟩ := RB1.cell 0 (by omega)
  obtain ⟨_, hx1, x1, ex1, rfl⟩ := RB1.cell 1 (by omega)
  obtain ⟨_, hx2, x2, ex2, rfl⟩ := RB1.cell 2 (by omega)
  obtain ⟨_, hx3, x3, ex3, rfl⟩ := RB1.cell 3 (by omega)
  obtain ⟨_, hx4, rfl⟩ := RB1.cell 4 (by omega)
  obtain ⟨_, hx5, x5, ex5, rfl⟩ := RB1.cell 5 (by omega)
  obtain ⟨_, hx6, x6, ex6, rfl⟩ := RB1.cell 6 (by omega)
  obtain ⟨_, hx7, x7, ex7, rfl⟩ := RB1.cell 7 (by omega)
  obtain ⟨_, hx8, x8, ex8, rfl⟩ := RB1.cell 8 (by omega)
  obtain ⟨_, hx9, x9, ex9, rfl⟩ := RB1.cell 9 (by omega)
  obtain ⟨_, hx10, x10, ex10, rfl⟩ := RB1.cell 10 (by omega)
  obtain ⟨_, hx11, x11, ex11, rfl⟩ := RB1.cell 11 (by omega)
  obtain ⟨_, hx12, x12, ex12, rfl⟩ := RB1.cell 12 (by omega)
  obtain ⟨_, hx13, x13, ex13, rfl⟩ := RB1.cell 13 (by omega)
  obtain ⟨_, hx14, rfl⟩ := RB1.cell 14 (by omega)
  obtain ⟨_, hy0, y0, rfl⟩ := RA1.cell 0 (by omega)
  obtain ⟨_, hy1, y1, rfl⟩ := RA1.cell 1 (by omega)
  obtain ⟨_, hy2, y2, rfl⟩ := RA1.cell 2 (by omega)
  obtain ⟨_, hy3, y3, rfl⟩ := RA1.cell 3 (by omega)
  obtain ⟨_, hy4, rfl⟩ := RA1.cell 4 (by omega)
  obtain ⟨_, hy5, y5, rfl⟩ := RA1.cell 5 (by omega)
  obtain ⟨_, hy6, y6, rfl⟩ := RA1.cell 6 (by omega)
  obtain ⟨_, hy7, y7, rfl⟩ := RA1.cell 7 (by omega)
  obtain ⟨_, hy8, y8, rfl⟩ := RA1.cell 8 (by omega)
  obtain ⟨_, hy9, y9, rfl⟩ := RA1.cell 9 (by omega)
  obtain ⟨_, hy10, y10, rfl⟩ := RA1.cell 10 (by omega)
  obtain ⟨_, hy11, y11, rfl⟩ := RA1.cell 11 (by omega)
  obtain ⟨_, hy12, y12, rfl⟩ := RA1.cell 12 (by omega)
  obtain ⟨_, hy13, y13, rfl⟩ := RA1.cell 13 (by omega)
  obtain ⟨_, hy14, rfl⟩ := RA1.cell 14 (by omega)
  have fa := RA1.fz
  have fb := RB1.fz
  have n12 : ¬ (w.heap.size + 1 = w.heap.size + 2) := by omega
  have n13 : ¬ (w.heap.size + 1 = w.heap.size + 3) := by omega
  have n21 : ¬ (w.heap.size + 2 = w.heap.size + 1) := by omega
  have n23 : ¬ (w.heap.size + 2 = w.heap.size + 3) := by omega
  have n31 : ¬ (w.heap.size + 3 = w.heap.size + 1) := by omega
  have n32 : ¬ (w.heap.size + 3 = w.heap.size + 2) := by omega
  have n01 : ¬ (w.heap.size = w.heap.size + 1) := by omega
  have n10 : ¬ (w.heap.size + 1 = w.heap.size) := by omega
  have n02 : ¬ (w.heap.size = w.heap.size + 2) := by omega
  have n20 : ¬ (w.heap.size + 2 = w.heap.size) := by omega
  have n03 : ¬ (w.heap.size = w.heap.size + 3) := by omega
  have n30 : ¬ (w.heap.size + 3 = w.heap.size) := by omega
  have FX1 := D1.f.row (w.heap.size + 1) (by omega) (FL _ (by omega))
  have FX2 := D1.f.row (w.heap.size + 2) (by omega) (FL _ (by omega))
  have D2 : Done w w1 B mb (afterF t 1) (k + 4) ν τ' (firedSg σ l) Λ Λ1 := (DW.trans D1).mono (by omega)
  clear RA RB RA1 RB1 DW D1 g0 g1 g2 g3 g4 g5 OW'
  go_wp2
  exact bodyPost_ret (v := .agg #[.int .i64 x0, .int .i64 x1, .int .i64 x2, .int .u64 x3, .bool false, .int .i64 x5, .int .i64 x6, .int .u32 x7, .int .u64 x8, .int .u64 x9, .int .u64 x10, .int .u64 x11, .int .u64 x12, .int .u64 x13, .slice p1 l.length b1]) (by simp [results, Tryz.results19, go_sem, hy0, hy1, hy2, hy3, hy4, hy5, hy6, hy7, hy8, hy9, hy10, hy11, hy12, hy13, hy14]) rfl ⟨_, l, τ', resL_mk ex0 ex1 ex2 ex3 ex5 ex6 ex7 ex8 ex9 ex10 ex11 ex12 ex13, (((((((((((((((((HF.out.set ⟨w.heap.size + 2, 14, none⟩ (by show w.heap.size + 2 < wc.heap.size; omega) _).set ⟨w.heap.size + 1, 0, none⟩ (by show w.heap.size + 1 < wc.heap.size; omega) _).set ⟨w.heap.size + 1, 1, none⟩ (by show w.heap.size + 1 < wc.heap.size; omega) _).set ⟨w.heap.size + 1, 2, none⟩ (by show w.heap.size + 1 < wc.heap.size; omega) _).set ⟨w.heap.size + 1, 3, none⟩ (by show w.heap.size + 1 < wc.heap.size; omega) _).set ⟨w.heap.size + 1, 4, none⟩ (by show w.heap.size + 1 < wc.heap.size; omega) _).set ⟨w.heap.size + 1, 5, none⟩ (by show w.heap.size + 1 < wc.heap.size; omega) _).set ⟨w.heap.size + 1, 6, none⟩ (by show w.heap.size + 1 < wc.heap.size; omega) _).set ⟨w.heap.size + 1, 7, none⟩ (by show w.heap.size + 1 < wc.heap.size; omega) _).set ⟨w.heap.size + 1, 8, none⟩ (by show w.heap.size + 1 < wc.heap.size; omega) _).set ⟨w.heap.size + 1, 9, none⟩ (by show w.heap.size + 1 < wc.heap.size; omega) _).set ⟨w.heap.size + 1, 10, none⟩ (by show w.heap.size + 1 < wc.heap.size; omega) _).set ⟨w.heap.size + 1, 11, none⟩ (by show w.heap.size + 1 < wc.heap.size; omega) _).set ⟨w.heap.size + 1, 12, none⟩ (by show w.heap.size + 1 < wc.heap.size; omega) _).set ⟨w.heap.size + 1, 13, none⟩ (by show w.heap.size + 1 < wc.heap.size; omega) _).set ⟨w.heap.size + 1, 14, none⟩ (by show w.heap.size + 1 < wc.heap.size; omega) _)).wide (by omega), ⟨Λ1, ((((((((((((((((D2.fresh ⟨w.heap.size + 2, 14, none⟩ (by show w.heap.size ≤ w.heap.size + 2; omega) hB0 hM0 FX2 _).fresh ⟨w.heap.size + 1, 0, none⟩ (by show w.heap.size ≤ w.heap.size + 1; omega) hB0 hM0 FX1 _).fresh ⟨w.heap.size + 1, 1, none⟩ (by show w.heap.size ≤ w.heap.size + 1; omega) hB0 hM0 FX1 _).fresh ⟨w.heap.size + 1, 2, none⟩ (by show w.heap.size ≤ w.heap.size + 1; omega) hB0 hM0 FX1 _).fresh ⟨w.heap.size + 1, 3, none⟩ (by show w.heap.size ≤ w.heap.size + 1; omega) hB0 hM0 FX1 _).fresh ⟨w.heap.size + 1, 4, none⟩ (by show w.heap.size ≤ w.heap.size + 1; omega) hB0 hM0 FX1 _).fresh ⟨w.heap.size + 1, 5, none⟩ (by show w.heap.size ≤ w.heap.size + 1; omega) hB0 hM0 FX1 _).fresh ⟨w.heap.size + 1, 6, none⟩ (by show w.heap.size ≤ w.heap.size + 1; omega) hB0 hM0 FX1 _).fresh ⟨w.heap.size + 1, 7, none⟩ (by show w.heap.size ≤ w.heap.size + 1; omega) hB0 hM0 FX1 _).fresh ⟨w.heap.size + 1, 8, none⟩ (by show w.heap.size ≤ w.heap.size + 1; omega) hB0 hM0 FX1 _).fresh ⟨w.heap.size + 1, 9, none⟩ (by show w.heap.size ≤ w.heap.size + 1; omega) hB0 hM0 FX1 _).fresh ⟨w.heap.size + 1, 10, none⟩ (by show w.heap.size ≤ w.heap.size + 1; omega) hB0 hM0 FX1 _).fresh ⟨w.heap.size + 1, 11, none⟩ (by show w.heap.size ≤ w.heap.size + 1; omega) hB0 hM0 FX1 _).fresh ⟨w.heap.size + 1, 12, none⟩ (by show w.heap.size ≤ w.heap.size + 1; omega) hB0 hM0 FX1 _).fresh ⟨w.heap.size + 1, 13, none⟩ (by show w.heap.size ≤ w.heap.size + 1; omega) hB0 hM0 FX1 _).fresh ⟨w.heap.size + 1, 14, none⟩ (by show w.heap.size ≤ w.heap.size + 1; omega) hB0 hM0 FX1 _), HE1.out⟩, HR.out⟩
set_option maxRecDepth 20000 in
set_option maxHeartbeats 8000000 in
theorem step_3 {w : World} {B mb t k : Nat} {ν : Net} {τ : TSt} {σ : Sg} {Λ : LS} (M : Mach w B mb t k ν τ σ Λ) (hl : Λ.l.length < 999999000) (hk : k < 800000) (o : OpS) (ho : o.ok) (hkd : o.kd = 3) :
    Calls Tryz.prog 19 #[.pointer (some ⟨B, 0, none⟩), opV o] w fun e w' => ∃ (v : Value) (l : List FiredS) (τ' : TSt), ResL v e ∧ FiredAt w' w.heap.size v l ∧ (∃ Λ', Done w w' B mb (afterF t o.x) (k + 4) ν τ' (firedSg σ l) Λ Λ' ∧ Λ'.l = Λ.l ++ tellC (afterF t o.x) o.x l) ∧ AdvanceR τ τ' t o.x l := by
  have FL : ∀ q, w.heap.size ≤ q → Far Λ q := fun q hq => M.far hq
  have hB0 := M.lt
  have hM0 := M.mlt
  have h2 := M.hB
  have S0 := begun M o
  have hox := ho.x
  have hoy := ho.y
  have HK := hideIt hkd
  clear ho hkd
  generalize hW : (w.alloc (.cells #[.int .u8 o.kd, .int .i64 o.a, .int .i64 o.b, .int .i64 o.c, .int .u64 o.x, .int .u64 o.y] 32)).alloc (.cells #[.int .i64 0, .int .i64 0, .int .i64 0, .int .u64 0, .bool false, .int .i64 0, .int .i64 0, .int .u32 0, .int .u64 0, .int .u64 0, .int .u64 0, .int .u64 0, .int .u64 0, .int .u64 0, .slice none 0 0] 43) = W2 at *
  have s2 : W2.heap.size = w.heap.size + 2 := by rw [← hW]; simp
  unfold opV
  go_enter Tryz.func19, Tryz.ntmps19
  go_upto_region 1 with fail
  go_cut [5] (fun a5 wc => a5 = .pointer (some ⟨w.heap.size + 2, 0, none⟩) ∧ Begun w wc B mb t k ν τ σ Λ o)
  case first =>
    go_wp2
    go_meet
    case rel => exact ⟨rfl, S0⟩
  case rest =>
  obtain ⟨rfl, S1⟩ := hcut
  clear S0 hW s2
  obtain ⟨DW, hsz, OW, RA, RB⟩ := S1
  have OW' := OW
  obtain ⟨g0, g1, g2, g3, g4, g5⟩ := OW
  rw [HK.out] at g0
  go_wp2_with fail
  refine (advance_m DW.m hl hox).mono ?_
  rintro e w1 ⟨v, l, τ', rfl, hF, ⟨Λ1, D1, he1⟩, hR⟩
  have HE1 := hideIt he1
  clear he1
  have HR := hideIt hR
  obtain ⟨p1, b1, hv⟩ := fired_shape hF
  subst hv
  have HF : Hid (FiredAt w1 wc.heap.size (.slice p1 l.length b1) l) := hideIt hF
  clear hR hF
  have RA1 := RA.blk (D1.f.block (w.heap.size + 1) (by omega) (by omega) (by omega) (FL _ (by omega)))
  have RB1 := RB.blk (D1.f.block (w.heap.size + 2) (by omega) (by omega) (by omega) (FL _ (by omega)))
  obtain ⟨_, hx0, x0, ex0, rfl⟩ := RB1.cell 0 (by omega)
  obtain ⟨_, hx1, x1, ex1, rfl⟩ := RB1.cell 1 (by omega)
  obtain ⟨_, hx2, x2, ex2, rfl⟩ := RB1.cell 2 (by omega)
  obtain ⟨_, hx3, x3, ex3, rfl⟩ := RB1.cell 3 (by omega)
  obtain ⟨_, hx4, rfl⟩ := RB1.cell 4 (by omega)
  obtain ⟨_, hx5, x5, ex5, rfl⟩ := RB1.cell 5 (by omega)
  obtain ⟨_, hx6, x6, ex6, rfl⟩ := RB1.cell 6 (by omega)
  obtain ⟨_, hx7, x7, ex7, rfl⟩ := RB1.cell 7 (by omega)
  obtain ⟨_, hx8, x8, ex8, rfl⟩ := RB1.cell 8 (by omega)
  obtain ⟨_, hx9, x9, ex9, rfl⟩ := RB1.cell 9 (by omega)
  obtain ⟨_, hx10, x10, ex10, rfl⟩ := RB1.cell 10 (by omega)
  obtain ⟨_, hx11, x11, ex11, rfl⟩ := RB1.cell 11 (by omega)
  obtain ⟨_, hx12, x12, ex12, rfl⟩ := RB1.cell 12 (by omega)
  obtain ⟨_, hx13, x13, ex13, rfl⟩ := RB1.cell 13 (by omega)
  obtain ⟨_, hx14, rfl⟩ := RB1.cell 14 (by omega)
  obtain ⟨_, hy0, y0, rfl⟩ := RA1.cell 0 (by omega)
  obtain ⟨_, hy1, y1, rfl⟩ := RA1.cell 1 (by omega)
  obtain ⟨_, hy2, y2, rfl⟩ := RA1.cell 2 (by omega)
  obtain ⟨_, hy3, y3, rfl⟩ := RA1.cell 3 (by omega)
  obtain ⟨_, hy4, rfl⟩ := RA1.cell 4 (by omega)
  obtain ⟨_, hy5, y5, rfl⟩ := RA1.cell 5 (by omega)
  obtain ⟨_, hy6, y6, rfl⟩ := RA1.cell 6 (by omega)
  obtain ⟨_, hy7, y7, rfl⟩ := RA1.cell 7 (by omega)
  obtain ⟨_, hy8, y8, rfl⟩ := RA1.cell 8 (by omega)
  obtain ⟨_, hy9, y9, rfl⟩ := RA1.cell 9 (by omega)
  obtain ⟨_, hy10, y10, rfl⟩ := RA1.cell 10 (by omega)
  obtain ⟨_, hy11, y11, rfl⟩ := RA1.cell 11 (by omega)
  obtain ⟨_, hy12, y12, rfl⟩ := RA1.cell 12 (by omega)
  obtain ⟨_, hy13, y13, rfl⟩ := RA1.cell 13 (by omega)
  obtain ⟨_, hy14, rfl⟩ := RA1.cell 14 (by omega)
  have fa := RA1.fz
  have fb := RB1.fz
  have n12 : ¬ (w.heap.size + 1 = w.heap.size + 2) := by omega
  have n13 : ¬ (w.heap.size + 1 = w.heap.size + 3) := by omega
  have n21 : ¬ (w.heap.size + 2 = w.heap.size + 1) := by omega
  have n23 : ¬ (w.heap.size + 2 = w.heap.size + 3) := by omega
  have n31 : ¬ (w.heap.size + 3 = w.heap.size + 1) := by omega
  have n32 : ¬ (w.heap.size + 3 = w.heap.size + 2) := by omega
  have n01 : ¬ (w.heap.size = w.heap.size + 1) := by omega
  have n10 : ¬ (w.heap.size + 1 = w.heap.size) := by omega
  have n02 : ¬ (w.heap.size = w.heap.size + 2) := by omega
  have n20 : ¬ (w.heap.size + 2 = w.heap.size) := by omega
  have n03 : ¬ (w.heap.size = w.heap.size + 3) := by omega
  have n30 : ¬ (w.heap.size + 3 = w.heap.size) := by omega
  have FX1 := D1.f.row (w.heap.size + 1) (by omega) (FL _ (by omega))
  have FX2 := D1.f.row (w.heap.size + 2) (by omega) (FL _ (by omega))
  have D2 : Done w w1 B mb (afterF t o.x) (k + 4) ν τ' (firedSg σ l) Λ Λ1 := (DW.trans D1).mono (by omega)
  clear RA RB RA1 RB1 DW D1 g0 g1 g2 g3 g4 g5 OW'
  go_wp2
  exact bodyPost_ret (v := .agg #[.int .i64 x0, .int .i64 x1, .int .i64 x2, .int .u64 x3, .bool false, .int .i64 x5, .int .i64 x6, .int .u32 x7, .int .u64 x8, .int .u64 x9, .int .u64 x10, .int .u64 x11, .int .u64 x12, .int .u64 x13, .slice p1 l.length b1]) (by simp [results, Tryz.results19, go_sem, hy0, hy1, hy2, hy3, hy4, hy5, hy6, hy7, hy8, hy9, hy10, hy11, hy12, hy13, hy14]) rfl ⟨_, l, τ', resL_mk ex0 ex1 ex2 ex3 ex5 ex6 ex7 ex8 ex9 ex10 ex11 ex12 ex13, (((((((((((((((((HF.out.set ⟨w.heap.size + 2, 14, none⟩ (by show w.heap.size + 2 < wc.heap.size; omega) _).set ⟨w.heap.size + 1, 0, none⟩ (by show w.heap.size + 1 < wc.heap.size; omega) _).set ⟨w.heap.size + 1, 1, none⟩ (by show w.heap.size + 1 < wc.heap.size; omega) _).set ⟨w.heap.size + 1, 2, none⟩ (by show w.heap.size + 1 < wc.heap.size; omega) _).set ⟨w.heap.size + 1, 3, none⟩ (by show w.heap.size + 1 < wc.heap.size; omega) _).set ⟨w.heap.size + 1, 4, none⟩ (by show w.heap.size + 1 < wc.heap.size; omega) _).set ⟨w.heap.size + 1, 5, none⟩ (by show w.heap.size + 1 < wc.heap.size; omega) _).set ⟨w.heap.size + 1, 6, none⟩ (by show w.heap.size + 1 < wc.heap.size; omega) _).set ⟨w.heap.size + 1, 7, none⟩ (by show w.heap.size + 1 < wc.heap.size; omega) _).set ⟨w.heap.size + 1, 8, none⟩ (by show w.heap.size + 1 < wc.heap.size; omega) _).set ⟨w.heap.size + 1, 9, none⟩ (by show w.heap.size + 1 < wc.heap.size; omega) _).set ⟨w.heap.size + 1, 10, none⟩ (by show w.heap.size + 1 < wc.heap.size; omega) _).set ⟨w.heap.size + 1, 11, none⟩ (by show w.heap.size + 1 < wc.heap.size; omega) _).set ⟨w.heap.size + 1, 12, none⟩ (by show w.heap.size + 1 < wc.heap.size; omega) _).set ⟨w.heap.size + 1, 13, none⟩ (by show w.heap.size + 1 < wc.heap.size; omega) _).set ⟨w.heap.size + 1, 14, none⟩ (by show w.heap.size + 1 < wc.heap.size; omega) _)).wide (by omega), ⟨Λ1, ((((((((((((((((D2.fresh ⟨w.heap.size + 2, 14, none⟩ (by show w.heap.size ≤ w.heap.size + 2; omega) hB0 hM0 FX2 _).fresh ⟨w.heap.size + 1, 0, none⟩ (by show w.heap.size ≤ w.heap.size + 1; omega) hB0 hM0 FX1 _).fresh ⟨w.heap.size + 1, 1, none⟩ (by show w.heap.size ≤ w.heap.size + 1; omega) hB0 hM0 FX1 _).fresh ⟨w.heap.size + 1, 2, none⟩ (by show w.heap.size ≤ w.heap.size + 1; omega) hB0 hM0 FX1 _).fresh ⟨w.heap.size + 1, 3, none⟩ (by show w.heap.size ≤ w.heap.size + 1; omega) hB0 hM0 FX1 _).fresh ⟨w.heap.size + 1, 4, none⟩ (by show w.heap.size ≤ w.heap.size + 1; omega) hB0 hM0 FX1 _).fresh ⟨w.heap.size + 1, 5, none⟩ (by show w.heap.size ≤ w.heap.size + 1; omega) hB0 hM0 FX1 _).fresh ⟨w.heap.size + 1, 6, none⟩ (by show w.heap.size ≤ w.heap.size + 1; omega) hB0 hM0 FX1 _).fresh ⟨w.heap.size + 1, 7, none⟩ (by show w.heap.size ≤ w.heap.size + 1; omega) hB0 hM0 FX1 _).fresh ⟨w.heap.size + 1, 8, none⟩ (by show w.heap.size ≤ w.heap.size + 1; omega) hB0 hM0 FX1 _).fresh ⟨w.heap.size + 1, 9, none⟩ (by show w.heap.size ≤ w.heap.size + 1; omega) hB0 hM0 FX1 _).fresh ⟨w.heap.size + 1, 10, none⟩ (by show w.heap.size ≤ w.heap.size + 1; omega) hB0 hM0 FX1 _).fresh ⟨w.heap.size + 1, 11, none⟩ (by show w.heap.size ≤ w.heap.size + 1; omega) hB0 hM0 FX1 _).fresh ⟨w.heap.size + 1, 12, none⟩ (by show w.heap.size ≤ w.heap.size + 1; omega) hB0 hM0 FX1 _).fresh ⟨w.heap.size + 1, 13, none⟩ (by show w.heap.size ≤ w.heap.size + 1; omega) hB0 hM0 FX1 _).fresh ⟨w.heap.size + 1, 14, none⟩ (by show w.heap.size ≤ w.heap.size + 1; omega) hB0 hM0 FX1 _), HE1.out⟩, HR.out⟩
end W
end Go.Proofs.Qxb6500877aGreatDoor
