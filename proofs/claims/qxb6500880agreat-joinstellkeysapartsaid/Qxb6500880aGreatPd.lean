import Derived.Deep.CutBlock
import Derived.OwnWalk
import Derived.Maps.AppendAt
import Derived.Maps.OwnSet
import Derived.Maps.OwnOps
import Derived.Laws.ResultCell
import Derived.Test.Qxb6500880aGreatPc
set_option linter.unusedVariables false
set_option linter.unusedSimpArgs false
namespace Go.Proofs.Qxb6500880aGreat
open Go.RowKit

set_option maxRecDepth 20000 in
set_option maxHeartbeats 8000000 in
theorem open1_any {w : World} {Q : RP} {x : RX} {p : RunP} (X : RAt w Q x) (S : RunS Q p) (h0 : ∃ a, x.cu 6 = .int .i64 a) (h1 : ∃ a, x.cu 7 = .int .i64 a) (h3 : ∃ a, x.cu 9 = .int .i32 a) (hv : x.r p.fs < 64 ∧ x.r p.sn < 64) :
    Calls Tryz.prog 66 #[.pointer (some ⟨Q.E, 0, none⟩), .pointer (some ⟨p.gs, 8, none⟩), .pointer (some ⟨Q.GC, 6, none⟩)] w fun e w' => e = .returned (.tuple #[]) ∧ ∃ x', RAt w' Q x' ∧ x'.c = x.c ∧ x'.r = x.r ∧ x'.kn = 2 ∧ x'.kx = symL (fun t => x.r (p.cf t)) 2 ∧ x'.s = x.s ∧ x'.d = x.d ∧ x'.prn = x.prn ∧ x'.cu 6 = .int .i64 0 ∧ x'.cu 7 = .int .i64 (p.sc.rows : Int) ∧ x'.cu 9 = .int .i32 (p.hd (hashN (fun t => x.r (p.cf t)) 2 % 16) : Int) ∧ ∀ k, k ≠ 6 → k ≠ 7 → k ≠ 9 → k ≠ 11 → x'.cu k = x.cu k := by
  obtain ⟨v0, h0⟩ := h0
  obtain ⟨v1, h1⟩ := h1
  obtain ⟨v3, h3⟩ := h3
  obtain ⟨sP, sgs, sRB, sgj, seb, scb, sg0, sg1, sgk, sIX, sgc, sgh, sgo, sgq⟩ := S.S
  have hkv : ∀ t, t < 2 → x.r (p.cf t) < 64 := fun t ht => by
    unfold RunP.cf
    split
    · exact hv.1
    · exact hv.2
  have hcf : ∀ t, t < 2 → p.cf t < 3 := fun t ht => by
    unfold RunP.cf
    have := S.o
    split <;> omega
  have hbd := bounds_any (X.rel scb S.rc)
  rw [S.cR.2.2] at hbd
  have s0 := X.cell sgs S.s8
  have s2 := X.cell sgs S.s10
  have j0 := X.cell sgj S.j3
  have c0 := X.cu 6 (by omega)
  have c1 := X.cu 7 (by omega)
  rw [h0] at c0
  rw [h1] at c1
  have cf := X.cf
  have HX := hideIt (And.intro X (And.intro S (And.intro hkv hcf)))
  clear X S hkv hcf hv
  go_enter Tryz.func66, Tryz.ntmps66
  go_wp2_with fail
  refine hbd.mono ?_
  rintro e w1 ⟨rfl, ew⟩
  clear hbd
  obtain ⟨X, S, hkv, hcf⟩ := HX.out
  have X1 : RAt w1 Q x := by rw [ew]; exact X.drew
  have X2 := (X1.put_u (k := 6) (by omega) (by omega) (.int .i64 0)).put_u (k := 7) (by omega) (by omega) (.int .i64 (p.sc.rows : Int))
  have c0 := X1.cu 6 (by omega)
  have c1 := X1.cu 7 (by omega)
  rw [h0] at c0
  rw [h1] at c1
  have cf := X1.cf
  have HX2 := hideIt X2
  clear ew X X1 X2 s0 s2 j0
  go_upto_region 2 with fail
  generalize (w1.setCell ⟨Q.GC, 6, none⟩ (.int .i64 0)).setCell ⟨Q.GC, 7, none⟩ (.int .i64 (p.sc.rows : Int)) = w2 at *
  have X2 := HX2.out
  obtain ⟨pk, ck0, hk0, own0, hpn⟩ := own_cut X2.ky
  have hk0 : x.key = .slice pk x.kn ck0 := hk0
  have eb0 : (Value.slice pk 0 ck0).ownBlock = x.key.ownBlock := by rw [hk0]; cases pk <;> rfl
  have c5 : w2.cell? ⟨Q.GC, 11, none⟩ = some (.slice pk x.kn ck0) := (X2.cu 11 (by omega)).trans (congrArg some (X2.k11.trans hk0))
  have e5 := X2.cell sgs S.s13
  have ff := X2.cf
  have hGl : Q.GC < w2.drew.heap.size := X2.flt 2 _ (by omega) rfl
  have hgl : p.gs < w2.drew.heap.size := (X2.st _ sgs).1
  have far : ∀ k q, k < 8 → k ≠ 3 → fpX Q x k q → ¬ ((Value.slice pk 0 ck0).ownBlock = some q) := fun k q hk h3 hq z => h3 (HX.out.1.dj k 3 q hk (by omega) hq (eb0.symm.trans z))
  have hnGC : ¬ ((Value.slice pk 0 ck0).ownBlock = some Q.GC) := far 2 _ (by omega) (by omega) rfl
  have hngs : ¬ ((Value.slice pk 0 ck0).ownBlock = some p.gs) := far 7 _ (by omega) (by omega) sgs
  have hga := gather_any (w := w2.drew) (k := 2) (pb := pk) (cb := ck0) (X2.drew.e.get X2.c21 (by omega)) X2.drew.rg (X2.drew.ops sgk S.k) (fun j hj => hcf j hj) own0 ⟨far 0 _ (by omega) (by omega) rfl, far 1 _ (by omega) (by omega) rfl, fun q hq => far 7 q (by omega) (by omega) (by
    have e : p.gk = q := Option.some.inj hq
    exact e ▸ sgk)⟩ (by omega) (by omega)
  have HS2 := slice0 (n := x.kn) (c := ck0) (p := pk)
  have HB0 := hideIt (And.intro own0 (And.intro eb0 (And.intro hk0 far)))
  clear c0 c1 cf X2 S own0 eb0 hk0 hpn far hkv hcf
  refine wp_region_l (l := 14) (S := (fun w' => w'.cell? ⟨Q.GC, 11, none⟩ = some (.slice pk x.kn ck0) ∧ w'.cell? ⟨p.gs, 13, none⟩ = some (.slice (some ⟨p.gk, 0, none⟩) 2 p.ck))) (by kernel_rfl) ⟨c5, e5⟩ (fun hHeld => ?_)
  refine AnyL.take2 (i := 0) (oi := { dst := some 29, op := Go.Op.move (Go.Operand.tmp 2), type := 201, pos := _, after := #[], guard := none }) (v := ?vv36512) (by kernel_rfl) (by kernel_rfl) rfl (by kernel_rfl) (by kernel_rfl) (by kernel_rfl) (fun _ _ _ h => h) (Or.inl ⟨by rfl, ?hy36512⟩) (by assumption) ?tk36512
  case hy36512 => (intro w hSw; (try dsimp only at hSw); go_simp; (try with_reducible rfl))
  try simp only [Act.put, List.setIfInBounds_toArray, List.set_cons_zero, List.set_cons_succ]
  refine AnyL.take2 (i := 1) (oi := { dst := some 30, op := Go.Op.move (Go.Operand.tmp 0), type := 58, pos := _, after := #[], guard := none }) (v := ?vv36513) (by kernel_rfl) (by kernel_rfl) rfl (by kernel_rfl) (by kernel_rfl) (by kernel_rfl) (fun _ _ _ h => h) (Or.inl ⟨by rfl, ?hy36513⟩) (by assumption) ?tk36513
  case hy36513 => (intro w hSw; (try dsimp only at hSw); go_simp; (try with_reducible rfl))
  try simp only [Act.put, List.setIfInBounds_toArray, List.set_cons_zero, List.set_cons_succ]
  refine AnyL.take2 (i := 2) (oi := { dst := some 31, op := Go.Op.move (Go.Operand.tmp 2), type := 201, pos := _, after := #[], guard := none }) (v := ?vv36514) (by kernel_rfl) (by kernel_rfl) rfl (by kernel_rfl) (by kernel_rfl) (by kernel_rfl) (fun _ _ _ h => h) (Or.inl ⟨by rfl, ?hy36514⟩) (by assumption) ?tk36514
  case hy36514 => (intro w hSw; (try dsimp only at hSw); go_simp; (try with_reducible rfl))
  try simp only [Act.put, List.setIfInBounds_toArray, List.set_cons_zero, List.set_cons_succ]
  refine AnyL.take2 (i := 3) (oi := { dst := some 32, op := Go.Op.nilCheck (Go.Operand.tmp 31), type := 0, pos := _, after := #[{ on := 2, ground := Go.Ground.data }], guard := none }) (v := ?vv36515) (by kernel_rfl) (by kernel_rfl) rfl (by kernel_rfl) (by kernel_rfl) (by kernel_rfl) (fun _ _ _ h => h) (Or.inl ⟨by rfl, ?hy36515⟩) (by assumption) ?tk36515
  case hy36515 => (intro w hSw; (try dsimp only at hSw); go_simp; (try with_reducible rfl))
  try simp only [Act.put, List.setIfInBounds_toArray, List.set_cons_zero, List.set_cons_succ]
  refine AnyL.take2 (i := 4) (oi := { dst := some 33, op := Go.Op.fieldAddr 112 (Go.Operand.tmp 32) 5, type := 0, pos := _, after := #[{ on := 3, ground := Go.Ground.data }], guard := none }) (v := ?vv36516) (by kernel_rfl) (by kernel_rfl) rfl (by kernel_rfl) (by kernel_rfl) (by kernel_rfl) (fun _ _ _ h => h) (Or.inl ⟨by rfl, ?hy36516⟩) (by assumption) ?tk36516
  case hy36516 => (intro w hSw; (try dsimp only at hSw); go_simp; (try with_reducible rfl))
  try simp only [Act.put, List.setIfInBounds_toArray, List.set_cons_zero, List.set_cons_succ]
  refine AnyL.take2 (i := 5) (oi := { dst := some 34, op := Go.Op.load 83 (Go.Operand.tmp 33), type := 83, pos := _, after := #[{ on := 4, ground := Go.Ground.data }], guard := none }) (v := ?vv36517) (by kernel_rfl) (by kernel_rfl) rfl (by kernel_rfl) (by kernel_rfl) (by kernel_rfl) (fun _ _ _ h => h) (Or.inl ⟨by rfl, ?hy36517⟩) (by assumption) ?tk36517
  case hy36517 => (intro w hSw; (try dsimp only at hSw); go_simp; (try with_reducible rfl))
  try simp only [Act.put, List.setIfInBounds_toArray, List.set_cons_zero, List.set_cons_succ]
  refine AnyL.take2 (i := 6) (oi := { dst := some 35, op := Go.Op.slice 83 (Go.Operand.tmp 34) none (some (Go.Operand.const (Go.Value.int Go.IntKind.i64 0))) none, type := 83, pos := _, after := #[{ on := 5, ground := Go.Ground.data }], guard := none }) (v := ?vv36518) (by kernel_rfl) (by kernel_rfl) rfl (by kernel_rfl) (by kernel_rfl) (by kernel_rfl) (fun _ _ _ h => h) (Or.inl ⟨by rfl, ?hy36518⟩) (by assumption) ?tk36518
  case hy36518 => (intro w hSw; (try dsimp only at hSw); go_simp; (try with_reducible rfl))
  try simp only [Act.put, List.setIfInBounds_toArray, List.set_cons_zero, List.set_cons_succ]
  refine AnyL.take2 (i := 7) (oi := { dst := some 36, op := Go.Op.move (Go.Operand.tmp 1), type := 200, pos := _, after := #[], guard := none }) (v := ?vv36519) (by kernel_rfl) (by kernel_rfl) rfl (by kernel_rfl) (by kernel_rfl) (by kernel_rfl) (fun _ _ _ h => h) (Or.inl ⟨by rfl, ?hy36519⟩) (by assumption) ?tk36519
  case hy36519 => (intro w hSw; (try dsimp only at hSw); go_simp; (try with_reducible rfl))
  try simp only [Act.put, List.setIfInBounds_toArray, List.set_cons_zero, List.set_cons_succ]
  refine AnyL.take2 (i := 8) (oi := { dst := some 37, op := Go.Op.nilCheck (Go.Operand.tmp 36), type := 0, pos := _, after := #[{ on := 7, ground := Go.Ground.data }], guard := none }) (v := ?vv36520) (by kernel_rfl) (by kernel_rfl) rfl (by kernel_rfl) (by kernel_rfl) (by kernel_rfl) (fun _ _ _ h => h) (Or.inl ⟨by rfl, ?hy36520⟩) (by assumption) ?tk36520
  case hy36520 => (intro w hSw; (try dsimp only at hSw); go_simp; (try with_reducible rfl))
  try simp only [Act.put, List.setIfInBounds_toArray, List.set_cons_zero, List.set_cons_succ]
  refine AnyL.take2 (i := 9) (oi := { dst := some 38, op := Go.Op.fieldAddr 191 (Go.Operand.tmp 37) 5, type := 0, pos := _, after := #[{ on := 8, ground := Go.Ground.data }], guard := none }) (v := ?vv36521) (by kernel_rfl) (by kernel_rfl) rfl (by kernel_rfl) (by kernel_rfl) (by kernel_rfl) (fun _ _ _ h => h) (Or.inl ⟨by rfl, ?hy36521⟩) (by assumption) ?tk36521
  case hy36521 => (intro w hSw; (try dsimp only at hSw); go_simp; (try with_reducible rfl))
  try simp only [Act.put, List.setIfInBounds_toArray, List.set_cons_zero, List.set_cons_succ]
  refine AnyL.take2 (i := 10) (oi := { dst := some 39, op := Go.Op.load 100 (Go.Operand.tmp 38), type := 100, pos := _, after := #[{ on := 9, ground := Go.Ground.data }], guard := none }) (v := ?vv36522) (by kernel_rfl) (by kernel_rfl) rfl (by kernel_rfl) (by kernel_rfl) (by kernel_rfl) (fun _ _ _ h => h) (Or.inl ⟨by rfl, ?hy36522⟩) (by assumption) ?tk36522
  case hy36522 => (intro w hSw; (try dsimp only at hSw); go_simp; (try with_reducible rfl))
  try simp only [Act.put, List.setIfInBounds_toArray, List.set_cons_zero, List.set_cons_succ]
  refine AnyL.one (i := 11) (o := { dst := some 40, op := Go.Op.call { callee := Go.Callee.value (Go.Operand.func 83), args := #[Go.Operand.tmp 30, Go.Operand.tmp 35, Go.Operand.tmp 39], argTypes := #[58, 83, 100] }, type := 83, pos := _, after := #[{ on := 1, ground := Go.Ground.data }, { on := 6, ground := Go.Ground.data }, { on := 10, ground := Go.Ground.data }], guard := none }) (by kernel_rfl) rfl rfl (fun K' hK' => ?_)
  go_simp
  go_at_call 83
  refine hga.mono ?_
  rintro e w5 ⟨v5, rfl, own5, hv5, hv0, W5⟩
  obtain ⟨p5, n5, rfl⟩ := own_shape own5
  have eGC := W5.block Q.GC hGl hnGC
  have egs := W5.block p.gs hgl hngs
  have x5 : w5.cell? ⟨Q.GC, 11, none⟩ = some (.slice pk x.kn ck0) := (World.cell?_of_block (a := ⟨Q.GC, 11, none⟩) eGC).trans c5
  have x6 : w5.cell? ⟨p.gs, 13, none⟩ = some (.slice (some ⟨p.gk, 0, none⟩) 2 p.ck) := (World.cell?_of_block (a := ⟨p.gs, 13, none⟩) egs).trans e5
  have xf : ∀ o, w5.frozen? ⟨Q.GC, o, none⟩ = false := fun o => (World.frozen?_of_block (a := ⟨Q.GC, o, none⟩) eGC).trans (ff o)
  have HX5 := hideIt (And.intro own5 (And.intro hv5 (And.intro hv0 W5)))
  clear own5 hv5 hv0 W5 hga eGC egs
  clear hHeld
  refine hK'.out _ _ ⟨x5, x6⟩ (fun hHeld => ?_)
  clear hK' K'
  try simp only [Act.put, List.setIfInBounds_toArray, List.set_cons_zero, List.set_cons_succ]
  refine AnyL.take2 (i := 12) (oi := { dst := some 41, op := Go.Op.nilCheck (Go.Operand.tmp 29), type := 0, pos := _, after := #[{ on := 0, ground := Go.Ground.data }, { on := 0, ground := Go.Ground.phase }, { on := 1, ground := Go.Ground.phase }, { on := 2, ground := Go.Ground.phase }, { on := 3, ground := Go.Ground.phase }, { on := 4, ground := Go.Ground.phase }, { on := 5, ground := Go.Ground.phase }, { on := 6, ground := Go.Ground.phase }, { on := 7, ground := Go.Ground.phase }, { on := 8, ground := Go.Ground.phase }, { on := 9, ground := Go.Ground.phase }, { on := 10, ground := Go.Ground.phase }, { on := 11, ground := Go.Ground.phase }], guard := none }) (v := ?vv36523) (by kernel_rfl) (by kernel_rfl) rfl (by kernel_rfl) (by kernel_rfl) (by kernel_rfl) (fun _ _ _ h => h) (Or.inl ⟨by rfl, ?hy36523⟩) (by assumption) ?tk36523
  case hy36523 => (intro w hSw; (try dsimp only at hSw); go_simp; (try with_reducible rfl))
  try simp only [Act.put, List.setIfInBounds_toArray, List.set_cons_zero, List.set_cons_succ]
  refine AnyL.take2 (i := 13) (oi := { dst := some 42, op := Go.Op.fieldAddr 112 (Go.Operand.tmp 41) 5, type := 0, pos := _, after := #[{ on := 12, ground := Go.Ground.data }, { on := 0, ground := Go.Ground.phase }, { on := 1, ground := Go.Ground.phase }, { on := 2, ground := Go.Ground.phase }, { on := 3, ground := Go.Ground.phase }, { on := 4, ground := Go.Ground.phase }, { on := 5, ground := Go.Ground.phase }, { on := 6, ground := Go.Ground.phase }, { on := 7, ground := Go.Ground.phase }, { on := 8, ground := Go.Ground.phase }, { on := 9, ground := Go.Ground.phase }, { on := 10, ground := Go.Ground.phase }, { on := 11, ground := Go.Ground.phase }], guard := none }) (v := ?vv36524) (by kernel_rfl) (by kernel_rfl) rfl (by kernel_rfl) (by kernel_rfl) (by kernel_rfl) (fun _ _ _ h => h) (Or.inl ⟨by rfl, ?hy36524⟩) (by assumption) ?tk36524
  case hy36524 => (intro w hSw; (try dsimp only at hSw); go_simp; (try with_reducible rfl))
  try simp only [Act.put, List.setIfInBounds_toArray, List.set_cons_zero, List.set_cons_succ]
  refine AnyL.last (o := { dst := none, op := Go.Op.store 83 (Go.Operand.tmp 42) (Go.Operand.tmp 40), type := 0, pos := _, after := #[{ on := 13, ground := Go.Ground.data }, { on := 11, ground := Go.Ground.data }, { on := 11, ground := Go.Ground.chain }, { on := 0, ground := Go.Ground.phase }, { on := 1, ground := Go.Ground.phase }, { on := 2, ground := Go.Ground.phase }, { on := 3, ground := Go.Ground.phase }, { on := 4, ground := Go.Ground.phase }, { on := 5, ground := Go.Ground.phase }, { on := 6, ground := Go.Ground.phase }, { on := 7, ground := Go.Ground.phase }, { on := 8, ground := Go.Ground.phase }, { on := 9, ground := Go.Ground.phase }, { on := 10, ground := Go.Ground.phase }, { on := 11, ground := Go.Ground.phase }], guard := none }) (by kernel_rfl) rfl (by kernel_rfl) (fun K' hK' => ?_)
  go_simp
  clear hHeld
  refine hK'.out _ _ ?_
  clear hK' K'
  try simp only [Act.put, List.setIfInBounds_toArray, List.set_cons_zero, List.set_cons_succ]
  obtain ⟨own5, hv5, hv0, W5⟩ := HX5.out
  obtain ⟨own0, eb0, hk0, far⟩ := HB0.out
  have X5 := HX2.out.drew.put_key own5 (fun q hq => (hv5 q hq).imp (fun z => eb0.symm.trans z) id) (W5.mono (fun q _ hq => eb0.symm.trans hq))
  have HX6 := hideIt X5
  obtain ⟨_, S, hkv, hcf⟩ := HX.out
  have e3 := X5.cell sgs S.s11
  have e4 := X5.cell sgs S.s12
  have d5 : (w5.setCell ⟨Q.GC, 11, none⟩ (.slice p5 2 n5)).cell? ⟨Q.GC, 11, none⟩ = some (.slice p5 2 n5) := X5.cu 11 (by omega)
  have d3 : (w5.setCell ⟨Q.GC, 11, none⟩ (.slice p5 2 n5)).cell? ⟨Q.GC, 9, none⟩ = some (.int .i32 v3) := (X5.cu 9 (by omega)).trans (congrArg some h3)
  have df := X5.cf
  have hsy : SymR (w5.setCell ⟨Q.GC, 11, none⟩ (.slice p5 2 n5)) (.slice p5 2 n5) 2 (fun t => x.r (p.cf t)) := SymR.of_own X5.ky
  have hiw : IxW (w5.setCell ⟨Q.GC, 11, none⟩ (.slice p5 2 n5)) p.IX p.gh p.go p.co p.sc.rows p.sc.rows p.hd p.ol := S.iw.keep (X5.st _ sIX).2 (X5.st _ sgh).2 (X5.st _ sgo).2
  clear own5 hv5 hv0 W5 X5 S HX5 x5 x6 xf c5 e5 ff hkv hcf own0 eb0 far HS2 HX2 HB0 hk0
  generalize w5.setCell ⟨Q.GC, 11, none⟩ (.slice p5 2 n5) = w6 at *
  go_upto_region 7 with fail
  have hch := chain_any (w := w6.drew) hiw.c1 hiw.h (hsy.below (below_dr (Below.refl _ _))) (by omega) HX.out.2.2.1
  clear hiw hsy
  refine wp_region_l (l := 12) (S := (fun w' => w'.cell? ⟨p.gs, 12, none⟩ = some (.pointer (some ⟨p.IX, 0, none⟩)) ∧ w'.cell? ⟨Q.GC, 11, none⟩ = some (.slice p5 2 n5) ∧ w'.cell? ⟨Q.GC, 9, none⟩ = some (.int .i32 v3) ∧ ∀ o, w'.frozen? ⟨Q.GC, o, none⟩ = false)) (by kernel_rfl) ⟨e4, d5, d3, df⟩ (fun hHeld => ?_)
  refine AnyL.take2 (i := 0) (oi := { dst := some 58, op := Go.Op.move (Go.Operand.tmp 2), type := 201, pos := _, after := #[], guard := none }) (v := ?vv36501) (by kernel_rfl) (by kernel_rfl) rfl (by kernel_rfl) (by kernel_rfl) (by kernel_rfl) (fun _ _ _ h => h) (Or.inl ⟨by rfl, ?hy36501⟩) (by assumption) ?tk36501
  case hy36501 => (intro w hSw; (try dsimp only at hSw); go_simp; (try with_reducible rfl))
  try simp only [Act.put, List.setIfInBounds_toArray, List.set_cons_zero, List.set_cons_succ]
  refine AnyL.take2 (i := 1) (oi := { dst := some 59, op := Go.Op.move (Go.Operand.tmp 1), type := 200, pos := _, after := #[], guard := none }) (v := ?vv36502) (by kernel_rfl) (by kernel_rfl) rfl (by kernel_rfl) (by kernel_rfl) (by kernel_rfl) (fun _ _ _ h => h) (Or.inl ⟨by rfl, ?hy36502⟩) (by assumption) ?tk36502
  case hy36502 => (intro w hSw; (try dsimp only at hSw); go_simp; (try with_reducible rfl))
  try simp only [Act.put, List.setIfInBounds_toArray, List.set_cons_zero, List.set_cons_succ]
  refine AnyL.take2 (i := 2) (oi := { dst := some 60, op := Go.Op.nilCheck (Go.Operand.tmp 59), type := 0, pos := _, after := #[{ on := 1, ground := Go.Ground.data }], guard := none }) (v := ?vv36503) (by kernel_rfl) (by kernel_rfl) rfl (by kernel_rfl) (by kernel_rfl) (by kernel_rfl) (fun _ _ _ h => h) (Or.inl ⟨by rfl, ?hy36503⟩) (by assumption) ?tk36503
  case hy36503 => (intro w hSw; (try dsimp only at hSw); go_simp; (try with_reducible rfl))
  try simp only [Act.put, List.setIfInBounds_toArray, List.set_cons_zero, List.set_cons_succ]
  refine AnyL.take2 (i := 3) (oi := { dst := some 61, op := Go.Op.fieldAddr 191 (Go.Operand.tmp 60) 4, type := 0, pos := _, after := #[{ on := 2, ground := Go.Ground.data }], guard := none }) (v := ?vv36504) (by kernel_rfl) (by kernel_rfl) rfl (by kernel_rfl) (by kernel_rfl) (by kernel_rfl) (fun _ _ _ h => h) (Or.inl ⟨by rfl, ?hy36504⟩) (by assumption) ?tk36504
  case hy36504 => (intro w hSw; (try dsimp only at hSw); go_simp; (try with_reducible rfl))
  try simp only [Act.put, List.setIfInBounds_toArray, List.set_cons_zero, List.set_cons_succ]
  refine AnyL.take2 (i := 4) (oi := { dst := some 62, op := Go.Op.load 188 (Go.Operand.tmp 61), type := 188, pos := _, after := #[{ on := 3, ground := Go.Ground.data }], guard := none }) (v := ?vv36505) (by kernel_rfl) (by kernel_rfl) rfl (by kernel_rfl) (by kernel_rfl) (by kernel_rfl) (fun _ _ _ h => h) (Or.inl ⟨by rfl, ?hy36505⟩) (by assumption) ?tk36505
  case hy36505 => (intro w hSw; (try dsimp only at hSw); go_simp; (try with_reducible rfl))
  try simp only [Act.put, List.setIfInBounds_toArray, List.set_cons_zero, List.set_cons_succ]
  refine AnyL.take2 (i := 5) (oi := { dst := some 63, op := Go.Op.move (Go.Operand.tmp 2), type := 201, pos := _, after := #[], guard := none }) (v := ?vv36506) (by kernel_rfl) (by kernel_rfl) rfl (by kernel_rfl) (by kernel_rfl) (by kernel_rfl) (fun _ _ _ h => h) (Or.inl ⟨by rfl, ?hy36506⟩) (by assumption) ?tk36506
  case hy36506 => (intro w hSw; (try dsimp only at hSw); go_simp; (try with_reducible rfl))
  try simp only [Act.put, List.setIfInBounds_toArray, List.set_cons_zero, List.set_cons_succ]
  refine AnyL.take2 (i := 6) (oi := { dst := some 64, op := Go.Op.nilCheck (Go.Operand.tmp 63), type := 0, pos := _, after := #[{ on := 5, ground := Go.Ground.data }], guard := none }) (v := ?vv36507) (by kernel_rfl) (by kernel_rfl) rfl (by kernel_rfl) (by kernel_rfl) (by kernel_rfl) (fun _ _ _ h => h) (Or.inl ⟨by rfl, ?hy36507⟩) (by assumption) ?tk36507
  case hy36507 => (intro w hSw; (try dsimp only at hSw); go_simp; (try with_reducible rfl))
  try simp only [Act.put, List.setIfInBounds_toArray, List.set_cons_zero, List.set_cons_succ]
  refine AnyL.take2 (i := 7) (oi := { dst := some 65, op := Go.Op.fieldAddr 112 (Go.Operand.tmp 64) 5, type := 0, pos := _, after := #[{ on := 6, ground := Go.Ground.data }], guard := none }) (v := ?vv36508) (by kernel_rfl) (by kernel_rfl) rfl (by kernel_rfl) (by kernel_rfl) (by kernel_rfl) (fun _ _ _ h => h) (Or.inl ⟨by rfl, ?hy36508⟩) (by assumption) ?tk36508
  case hy36508 => (intro w hSw; (try dsimp only at hSw); go_simp; (try with_reducible rfl))
  try simp only [Act.put, List.setIfInBounds_toArray, List.set_cons_zero, List.set_cons_succ]
  refine AnyL.take2 (i := 8) (oi := { dst := some 66, op := Go.Op.load 83 (Go.Operand.tmp 65), type := 83, pos := _, after := #[{ on := 7, ground := Go.Ground.data }], guard := none }) (v := ?vv36509) (by kernel_rfl) (by kernel_rfl) rfl (by kernel_rfl) (by kernel_rfl) (by kernel_rfl) (fun _ _ _ h => h) (Or.inl ⟨by rfl, ?hy36509⟩) (by assumption) ?tk36509
  case hy36509 => (intro w hSw; (try dsimp only at hSw); go_simp; (try with_reducible rfl))
  try simp only [Act.put, List.setIfInBounds_toArray, List.set_cons_zero, List.set_cons_succ]
  refine AnyL.one (i := 9) (o := { dst := some 67, op := Go.Op.call { callee := Go.Callee.value (Go.Operand.func 85), args := #[Go.Operand.tmp 62, Go.Operand.tmp 66], argTypes := #[188, 83] }, type := 21, pos := _, after := #[{ on := 4, ground := Go.Ground.data }, { on := 8, ground := Go.Ground.data }], guard := none }) (by kernel_rfl) rfl rfl (fun K' hK' => ?_)
  go_simp
  go_at_call 85
  refine hch.mono ?_
  rintro e w7 ⟨rfl, ew⟩
  rw [ew]
  clear hch ew
  clear hHeld
  refine hK'.out _ _ ⟨e4, d5, d3, df⟩ (fun hHeld => ?_)
  clear hK' K'
  try simp only [Act.put, List.setIfInBounds_toArray, List.set_cons_zero, List.set_cons_succ]
  refine AnyL.take2 (i := 10) (oi := { dst := some 68, op := Go.Op.nilCheck (Go.Operand.tmp 58), type := 0, pos := _, after := #[{ on := 0, ground := Go.Ground.data }, { on := 0, ground := Go.Ground.phase }, { on := 1, ground := Go.Ground.phase }, { on := 2, ground := Go.Ground.phase }, { on := 3, ground := Go.Ground.phase }, { on := 4, ground := Go.Ground.phase }, { on := 5, ground := Go.Ground.phase }, { on := 6, ground := Go.Ground.phase }, { on := 7, ground := Go.Ground.phase }, { on := 8, ground := Go.Ground.phase }, { on := 9, ground := Go.Ground.phase }], guard := none }) (v := ?vv36510) (by kernel_rfl) (by kernel_rfl) rfl (by kernel_rfl) (by kernel_rfl) (by kernel_rfl) (fun _ _ _ h => h) (Or.inl ⟨by rfl, ?hy36510⟩) (by assumption) ?tk36510
  case hy36510 => (intro w hSw; (try dsimp only at hSw); go_simp; (try with_reducible rfl))
  try simp only [Act.put, List.setIfInBounds_toArray, List.set_cons_zero, List.set_cons_succ]
  refine AnyL.take2 (i := 11) (oi := { dst := some 69, op := Go.Op.fieldAddr 112 (Go.Operand.tmp 68) 3, type := 0, pos := _, after := #[{ on := 10, ground := Go.Ground.data }, { on := 0, ground := Go.Ground.phase }, { on := 1, ground := Go.Ground.phase }, { on := 2, ground := Go.Ground.phase }, { on := 3, ground := Go.Ground.phase }, { on := 4, ground := Go.Ground.phase }, { on := 5, ground := Go.Ground.phase }, { on := 6, ground := Go.Ground.phase }, { on := 7, ground := Go.Ground.phase }, { on := 8, ground := Go.Ground.phase }, { on := 9, ground := Go.Ground.phase }], guard := none }) (v := ?vv36511) (by kernel_rfl) (by kernel_rfl) rfl (by kernel_rfl) (by kernel_rfl) (by kernel_rfl) (fun _ _ _ h => h) (Or.inl ⟨by rfl, ?hy36511⟩) (by assumption) ?tk36511
  case hy36511 => (intro w hSw; (try dsimp only at hSw); go_simp; (try with_reducible rfl))
  try simp only [Act.put, List.setIfInBounds_toArray, List.set_cons_zero, List.set_cons_succ]
  refine AnyL.last (o := { dst := none, op := Go.Op.store 21 (Go.Operand.tmp 69) (Go.Operand.tmp 67), type := 0, pos := _, after := #[{ on := 11, ground := Go.Ground.data }, { on := 9, ground := Go.Ground.data }, { on := 9, ground := Go.Ground.chain }, { on := 0, ground := Go.Ground.phase }, { on := 1, ground := Go.Ground.phase }, { on := 2, ground := Go.Ground.phase }, { on := 3, ground := Go.Ground.phase }, { on := 4, ground := Go.Ground.phase }, { on := 5, ground := Go.Ground.phase }, { on := 6, ground := Go.Ground.phase }, { on := 7, ground := Go.Ground.phase }, { on := 8, ground := Go.Ground.phase }, { on := 9, ground := Go.Ground.phase }], guard := none }) (by kernel_rfl) rfl (by kernel_rfl) (fun K' hK' => ?_)
  go_simp
  clear hHeld
  refine hK'.out _ _ ?_
  clear hK' K'
  try simp only [Act.put, List.setIfInBounds_toArray, List.set_cons_zero, List.set_cons_succ]
  go_wp2
  go_end0
  refine ⟨rfl, _, HX6.out.drew.drew.put_u (k := 9) (by omega) (by omega) (.int .i32 (p.hd (hashN (fun t => x.r (p.cf t)) 2 % 16) : Int)), rfl, rfl, rfl, rfl, rfl, rfl, rfl, rfl, rfl, rfl, fun k h1 h2 h3 h4 => ?_⟩
  show updV (updV (updV (updV x.cu 6 _) 7 _) 11 _) 9 _ k = x.cu k
  rw [updV_other _ _ h3, updV_other _ _ h4, updV_other _ _ h2, updV_other _ _ h1]
end Go.Proofs.Qxb6500880aGreat
