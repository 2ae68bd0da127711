import Derived.Deep.CutBlock
import Derived.OwnWalk
import Derived.Maps.AppendAt
import Derived.Maps.OwnSet
import Derived.Maps.OwnOps
import Derived.Laws.ResultCell
import Derived.Lib.AppendZerosOnto
import Derived.Test.Qxb6500880aGreatPi
set_option linter.unusedVariables false
set_option linter.unusedSimpArgs false
namespace Go.Proofs.Qxb6500880aGreat
open Go.RowKit

/-- What a conclusion keeps. -/
structure Cn (x x' : RX) : Prop where
  c : ∀ k, k ≠ 14 → k ≠ 16 → k ≠ 18 → k ≠ 23 → x'.c k = x.c k
  cu : x'.cu = x.cu
  r : x'.r = x.r
  kn : x'.kn = x.kn
  kx : x'.kx = x.kx
theorem Cn.trans {x x' x'' : RX} (h : Cn x x') (h' : Cn x' x'') : Cn x x'' := ⟨fun k a b c d => (h'.c k a b c d).trans (h.c k a b c d), h'.cu.trans h.cu, h'.r.trans h.r, h'.kn.trans h.kn, h'.kx.trans h.kx⟩
/-- What a conclusion leaves. -/
def CoP (w' : World) (Q : RP) (x : RX) (T : Nat) : Prop := ∃ x' b, RAt w' Q x' ∧ Cn x x' ∧ InsOut x.s x'.s x.d x'.d x.r b ∧ (∃ a, x'.c 18 = .int .i64 a) ∧ (b = true → x'.c 16 = .int .i64 ((T + 1 : Nat) : Int) ∧ x'.prn = x.prn + 3) ∧ (b = false → x'.c 16 = x.c 16 ∧ x'.prn = x.prn)
set_option maxRecDepth 20000 in
set_option maxHeartbeats 8000000 in
theorem conclude_any {w : World} {Q : RP} {x : RX} {p : RunP} {T B : Nat} (X : RAt w Q x) (S : RunS Q p) (c18 : ∃ a, x.c 18 = .int .i64 a) (c16 : x.c 16 = .int .i64 (T : Int)) (c0 : x.c 0 = .int .i64 (B : Int)) (hTB : T + 1 ≤ B) (hB : B ≤ 100000) (h4 : ∃ a, x.cu 4 = .int .i64 a) (h10 : ∃ a, x.cu 10 = .int .i64 a) (hv : ∀ t, t < 3 → x.r t < 64) (hA : x.s.A = 3) (hrow : x.s.rows < 100) (hpr : x.prn ≤ 1000) :
    Calls Tryz.prog 65 #[.pointer (some ⟨Q.E, 0, none⟩), .pointer (some ⟨p.P, 0, none⟩)] w fun e w' => e = .returned (.bool true) ∧ CoP w' Q x T := by
  obtain ⟨i2, hi2, hw0, hw1, hw2⟩ := info_parts info21
  obtain ⟨sP, sgs, sRB, sgj, seb, scb, sg0, sg1, sgk, sIX, sgc, sgh, sgo, sgq⟩ := S.S
  obtain ⟨a, c18⟩ := c18
  have e18 := X.e.get c18 (by omega)
  have ef := X.e.fz
  have HX := hideIt X
  have HS := hideIt S
  have HV := hideIt (And.intro hv (And.intro hA hrow))
  clear X S hv hA hrow
  obtain ⟨a', ha'⟩ : ∃ a', IntKind.i64.wrap (a + 1) = a' := ⟨_, rfl⟩
  go_enter Tryz.func65, Tryz.ntmps65
  go_upto_region 2 with fail
  obtain ⟨x1, X1, C1, e118, hs1, hd1, hpn1, hpr1, e116⟩ : ∃ x1, RAt (w.setCell ⟨Q.E, 18, none⟩ (.int .i64 a')) Q x1 ∧ Cn x x1 ∧ x1.c 18 = .int .i64 a' ∧ x1.s = x.s ∧ x1.d = x.d ∧ (x1.pn = x.pn ∧ x1.probe = x.probe) ∧ x1.prn = x.prn ∧ x1.c 16 = x.c 16 := ⟨_, HX.out.put_c (k := 18) (by omega) (.int .i64 a') (by omega) (by omega) (by omega) (by omega), ⟨fun k _ _ h _ => updV_other x.c (.int .i64 a') h, rfl, rfl, rfl, rfl⟩, updV_same x.c 18 (.int .i64 a'), rfl, rfl, ⟨rfl, rfl⟩, rfl, updV_other x.c (.int .i64 a') (show (16 : Nat) ≠ 18 by omega)⟩
  clear e18 ef
  generalize w.setCell ⟨Q.E, 18, none⟩ (.int .i64 a') = w1 at *
  obtain ⟨pp, pc, hk0, own0, hpn⟩ := own_cut X1.po
  have eb0 : (Value.slice pp 0 pc).ownBlock = x1.probe.ownBlock := by rw [hk0]; cases pp <;> rfl
  have a23 := X1.e.get (X1.c23.trans hk0) (by omega)
  rw [hpn1.1] at a23
  have aP0 := X1.cell sP HS.out.P0
  have aR2 := X1.cell sRB HS.out.r2
  have ef := X1.e.fz
  have far : ∀ k q, k < 8 → k ≠ 4 → fpX Q x1 k q → ¬ ((Value.slice pp 0 pc).ownBlock = some q) := fun k q hk h3 hq z => h3 (X1.dj k 4 q hk (by omega) hq (eb0.symm.trans z))
  have hEl : Q.E < w1.drew.heap.size := X1.flt 0 _ (by omega) rfl
  have hPl : p.P < w1.drew.heap.size := (X1.st _ sP).1
  have hRl : p.RB < w1.drew.heap.size := (X1.st _ sRB).1
  have hnE := far 0 Q.E (by omega) (by omega) rfl
  have hnP := far 7 p.P (by omega) (by omega) sP
  have hnR := far 7 p.RB (by omega) (by omega) sRB
  have hga := gather_any (w := w1.drew) (k := 3) (pb := pp) (cb := pc) (X1.drew.e.get X1.c21 (by omega)) X1.drew.rg (X1.drew.ops sgq HS.out.q) (fun j hj => hj) own0 ⟨hnE, far 1 _ (by omega) (by omega) rfl, fun q hq => far 7 q (by omega) (by omega) (by
    have e : p.gq = q := Option.some.inj hq
    exact e ▸ sgq)⟩ (by omega) (by omega)
  have HSL := slice0 (n := x.pn) (c := pc) (p := pp)
  have H1 := hideIt (And.intro X1 (And.intro C1 (And.intro e118 (And.intro hs1 (And.intro hd1 (And.intro hpr1 (And.intro e116 eb0)))))))
  clear X1 C1 e118 hs1 hd1 hpn1 hpr1 e116 eb0 hk0 own0 hpn far
  refine wp_region_l (l := 18) (S := (fun w' => w'.cell? ⟨Q.E, 23, none⟩ = some (.slice pp x.pn pc) ∧ w'.cell? ⟨p.P, 0, none⟩ = some (.pointer (some ⟨p.RB, 0, none⟩)) ∧ w'.cell? ⟨p.RB, 2, none⟩ = some (.slice (some ⟨p.gq, 0, none⟩) 3 p.cq))) (by kernel_rfl) ⟨a23, aP0, aR2⟩ (fun hHeld => ?_)
  refine AnyL.take2 (i := 0) (oi := { dst := some 16, op := Go.Op.move (Go.Operand.tmp 0), type := 58, pos := _, after := #[], guard := none }) (v := ?vv39001) (by kernel_rfl) (by kernel_rfl) rfl (by kernel_rfl) (by kernel_rfl) (by kernel_rfl) (fun _ _ _ h => h) (Or.inl ⟨by rfl, ?hy39001⟩) (by assumption) ?tk39001
  case hy39001 => (intro w hSw; (try dsimp only at hSw); go_simp; (try with_reducible rfl))
  try simp only [Act.put, List.setIfInBounds_toArray, List.set_cons_zero, List.set_cons_succ]
  refine AnyL.take2 (i := 1) (oi := { dst := some 17, op := Go.Op.move (Go.Operand.tmp 0), type := 58, pos := _, after := #[], guard := none }) (v := ?vv39002) (by kernel_rfl) (by kernel_rfl) rfl (by kernel_rfl) (by kernel_rfl) (by kernel_rfl) (fun _ _ _ h => h) (Or.inl ⟨by rfl, ?hy39002⟩) (by assumption) ?tk39002
  case hy39002 => (intro w hSw; (try dsimp only at hSw); go_simp; (try with_reducible rfl))
  try simp only [Act.put, List.setIfInBounds_toArray, List.set_cons_zero, List.set_cons_succ]
  refine AnyL.take2 (i := 2) (oi := { dst := some 18, op := Go.Op.move (Go.Operand.tmp 0), type := 58, pos := _, after := #[], guard := none }) (v := ?vv39003) (by kernel_rfl) (by kernel_rfl) rfl (by kernel_rfl) (by kernel_rfl) (by kernel_rfl) (fun _ _ _ h => h) (Or.inl ⟨by rfl, ?hy39003⟩) (by assumption) ?tk39003
  case hy39003 => (intro w hSw; (try dsimp only at hSw); go_simp; (try with_reducible rfl))
  try simp only [Act.put, List.setIfInBounds_toArray, List.set_cons_zero, List.set_cons_succ]
  refine AnyL.take2 (i := 3) (oi := { dst := some 19, op := Go.Op.nilCheck (Go.Operand.tmp 18), type := 0, pos := _, after := #[{ on := 2, ground := Go.Ground.data }], guard := none }) (v := ?vv39004) (by kernel_rfl) (by kernel_rfl) rfl (by kernel_rfl) (by kernel_rfl) (by kernel_rfl) (fun _ _ _ h => h) (Or.inl ⟨by rfl, ?hy39004⟩) (by assumption) ?tk39004
  case hy39004 => (intro w hSw; (try dsimp only at hSw); go_simp; (try with_reducible rfl))
  try simp only [Act.put, List.setIfInBounds_toArray, List.set_cons_zero, List.set_cons_succ]
  refine AnyL.take2 (i := 4) (oi := { dst := some 20, op := Go.Op.fieldAddr 86 (Go.Operand.tmp 19) 13, type := 0, pos := _, after := #[{ on := 3, ground := Go.Ground.data }], guard := none }) (v := ?vv39005) (by kernel_rfl) (by kernel_rfl) rfl (by kernel_rfl) (by kernel_rfl) (by kernel_rfl) (fun _ _ _ h => h) (Or.inl ⟨by rfl, ?hy39005⟩) (by assumption) ?tk39005
  case hy39005 => (intro w hSw; (try dsimp only at hSw); go_simp; (try with_reducible rfl))
  try simp only [Act.put, List.setIfInBounds_toArray, List.set_cons_zero, List.set_cons_succ]
  refine AnyL.take2 (i := 5) (oi := { dst := some 21, op := Go.Op.load 83 (Go.Operand.tmp 20), type := 83, pos := _, after := #[{ on := 4, ground := Go.Ground.data }], guard := none }) (v := ?vv39006) (by kernel_rfl) (by kernel_rfl) rfl (by kernel_rfl) (by kernel_rfl) (by kernel_rfl) (fun _ _ _ h => h) (Or.inl ⟨by rfl, ?hy39006⟩) (by assumption) ?tk39006
  case hy39006 => (intro w hSw; (try dsimp only at hSw); go_simp; (try with_reducible rfl))
  try simp only [Act.put, List.setIfInBounds_toArray, List.set_cons_zero, List.set_cons_succ]
  refine AnyL.take2 (i := 6) (oi := { dst := some 22, op := Go.Op.slice 83 (Go.Operand.tmp 21) none (some (Go.Operand.const (Go.Value.int Go.IntKind.i64 0))) none, type := 83, pos := _, after := #[{ on := 5, ground := Go.Ground.data }], guard := none }) (v := ?vv39007) (by kernel_rfl) (by kernel_rfl) rfl (by kernel_rfl) (by kernel_rfl) (by kernel_rfl) (fun _ _ _ h => h) (Or.inl ⟨by rfl, ?hy39007⟩) (by assumption) ?tk39007
  case hy39007 => (intro w hSw; (try dsimp only at hSw); go_simp; (try with_reducible rfl))
  try simp only [Act.put, List.setIfInBounds_toArray, List.set_cons_zero, List.set_cons_succ]
  refine AnyL.take2 (i := 7) (oi := { dst := some 23, op := Go.Op.move (Go.Operand.tmp 1), type := 166, pos := _, after := #[], guard := none }) (v := ?vv39008) (by kernel_rfl) (by kernel_rfl) rfl (by kernel_rfl) (by kernel_rfl) (by kernel_rfl) (fun _ _ _ h => h) (Or.inl ⟨by rfl, ?hy39008⟩) (by assumption) ?tk39008
  case hy39008 => (intro w hSw; (try dsimp only at hSw); go_simp; (try with_reducible rfl))
  try simp only [Act.put, List.setIfInBounds_toArray, List.set_cons_zero, List.set_cons_succ]
  refine AnyL.take2 (i := 8) (oi := { dst := some 24, op := Go.Op.nilCheck (Go.Operand.tmp 23), type := 0, pos := _, after := #[{ on := 7, ground := Go.Ground.data }], guard := none }) (v := ?vv39009) (by kernel_rfl) (by kernel_rfl) rfl (by kernel_rfl) (by kernel_rfl) (by kernel_rfl) (fun _ _ _ h => h) (Or.inl ⟨by rfl, ?hy39009⟩) (by assumption) ?tk39009
  case hy39009 => (intro w hSw; (try dsimp only at hSw); go_simp; (try with_reducible rfl))
  try simp only [Act.put, List.setIfInBounds_toArray, List.set_cons_zero, List.set_cons_succ]
  refine AnyL.take2 (i := 9) (oi := { dst := some 25, op := Go.Op.fieldAddr 182 (Go.Operand.tmp 24) 0, type := 0, pos := _, after := #[{ on := 8, ground := Go.Ground.data }], guard := none }) (v := ?vv39010) (by kernel_rfl) (by kernel_rfl) rfl (by kernel_rfl) (by kernel_rfl) (by kernel_rfl) (fun _ _ _ h => h) (Or.inl ⟨by rfl, ?hy39010⟩) (by assumption) ?tk39010
  case hy39010 => (intro w hSw; (try dsimp only at hSw); go_simp; (try with_reducible rfl))
  try simp only [Act.put, List.setIfInBounds_toArray, List.set_cons_zero, List.set_cons_succ]
  refine AnyL.take2 (i := 10) (oi := { dst := some 26, op := Go.Op.load 92 (Go.Operand.tmp 25), type := 92, pos := _, after := #[{ on := 9, ground := Go.Ground.data }], guard := none }) (v := ?vv39011) (by kernel_rfl) (by kernel_rfl) rfl (by kernel_rfl) (by kernel_rfl) (by kernel_rfl) (fun _ _ _ h => h) (Or.inl ⟨by rfl, ?hy39011⟩) (by assumption) ?tk39011
  case hy39011 => (intro w hSw; (try dsimp only at hSw); go_simp; (try with_reducible rfl))
  try simp only [Act.put, List.setIfInBounds_toArray, List.set_cons_zero, List.set_cons_succ]
  refine AnyL.take2 (i := 11) (oi := { dst := some 27, op := Go.Op.nilCheck (Go.Operand.tmp 26), type := 0, pos := _, after := #[{ on := 10, ground := Go.Ground.data }], guard := none }) (v := ?vv39012) (by kernel_rfl) (by kernel_rfl) rfl (by kernel_rfl) (by kernel_rfl) (by kernel_rfl) (fun _ _ _ h => h) (Or.inl ⟨by rfl, ?hy39012⟩) (by assumption) ?tk39012
  case hy39012 => (intro w hSw; (try dsimp only at hSw); go_simp; (try with_reducible rfl))
  try simp only [Act.put, List.setIfInBounds_toArray, List.set_cons_zero, List.set_cons_succ]
  refine AnyL.take2 (i := 12) (oi := { dst := some 28, op := Go.Op.fieldAddr 106 (Go.Operand.tmp 27) 1, type := 0, pos := _, after := #[{ on := 11, ground := Go.Ground.data }], guard := none }) (v := ?vv39013) (by kernel_rfl) (by kernel_rfl) rfl (by kernel_rfl) (by kernel_rfl) (by kernel_rfl) (fun _ _ _ h => h) (Or.inl ⟨by rfl, ?hy39013⟩) (by assumption) ?tk39013
  case hy39013 => (intro w hSw; (try dsimp only at hSw); go_simp; (try with_reducible rfl))
  try simp only [Act.put, List.setIfInBounds_toArray, List.set_cons_zero, List.set_cons_succ]
  refine AnyL.take2 (i := 13) (oi := { dst := some 29, op := Go.Op.fieldAddr 102 (Go.Operand.tmp 28) 1, type := 0, pos := _, after := #[{ on := 12, ground := Go.Ground.data }], guard := none }) (v := ?vv39014) (by kernel_rfl) (by kernel_rfl) rfl (by kernel_rfl) (by kernel_rfl) (by kernel_rfl) (fun _ _ _ h => h) (Or.inl ⟨by rfl, ?hy39014⟩) (by assumption) ?tk39014
  case hy39014 => (intro w hSw; (try dsimp only at hSw); go_simp; (try with_reducible rfl))
  try simp only [Act.put, List.setIfInBounds_toArray, List.set_cons_zero, List.set_cons_succ]
  refine AnyL.take2 (i := 14) (oi := { dst := some 30, op := Go.Op.load 100 (Go.Operand.tmp 29), type := 100, pos := _, after := #[{ on := 13, ground := Go.Ground.data }], guard := none }) (v := ?vv39015) (by kernel_rfl) (by kernel_rfl) rfl (by kernel_rfl) (by kernel_rfl) (by kernel_rfl) (fun _ _ _ h => h) (Or.inl ⟨by rfl, ?hy39015⟩) (by assumption) ?tk39015
  case hy39015 => (intro w hSw; (try dsimp only at hSw); go_simp; (try with_reducible rfl))
  try simp only [Act.put, List.setIfInBounds_toArray, List.set_cons_zero, List.set_cons_succ]
  refine AnyL.one (i := 15) (o := { dst := some 31, op := Go.Op.call { callee := Go.Callee.value (Go.Operand.func 83), args := #[Go.Operand.tmp 17, Go.Operand.tmp 22, Go.Operand.tmp 30], argTypes := #[58, 83, 100] }, type := 83, pos := _, after := #[{ on := 1, ground := Go.Ground.data }, { on := 6, ground := Go.Ground.data }, { on := 14, ground := Go.Ground.data }], guard := none }) (by kernel_rfl) rfl rfl (fun K' hK' => ?_)
  go_simp
  go_at_call 83
  refine hga.mono ?_
  rintro e w5 ⟨v5, rfl, own5, hv5, hv0, W5⟩
  obtain ⟨p5, n5, rfl⟩ := own_shape own5
  have yy1 := (World.cell?_of_block (a := ⟨Q.E, 23, none⟩) (W5.block Q.E hEl hnE)).trans a23
  have yy2 := (World.cell?_of_block (a := ⟨p.P, 0, none⟩) (W5.block p.P hPl hnP)).trans aP0
  have yy3 := (World.cell?_of_block (a := ⟨p.RB, 2, none⟩) (W5.block p.RB hRl hnR)).trans aR2
  have xf : ∀ o, w5.frozen? ⟨Q.E, o, none⟩ = false := fun o => (World.frozen?_of_block (a := ⟨Q.E, o, none⟩) (W5.block Q.E hEl hnE)).trans (ef o)
  have HX5 := hideIt (And.intro own5 (And.intro hv5 W5))
  clear own5 hv5 hv0 W5 hga
  clear hHeld
  refine hK'.out _ _ ⟨yy1, yy2, yy3⟩ (fun hHeld => ?_)
  clear hK' K'
  try simp only [Act.put, List.setIfInBounds_toArray, List.set_cons_zero, List.set_cons_succ]
  refine AnyL.take2 (i := 16) (oi := { dst := some 32, op := Go.Op.nilCheck (Go.Operand.tmp 16), type := 0, pos := _, after := #[{ on := 0, ground := Go.Ground.data }, { on := 0, ground := Go.Ground.phase }, { on := 1, ground := Go.Ground.phase }, { on := 2, ground := Go.Ground.phase }, { on := 3, ground := Go.Ground.phase }, { on := 4, ground := Go.Ground.phase }, { on := 5, ground := Go.Ground.phase }, { on := 6, ground := Go.Ground.phase }, { on := 7, ground := Go.Ground.phase }, { on := 8, ground := Go.Ground.phase }, { on := 9, ground := Go.Ground.phase }, { on := 10, ground := Go.Ground.phase }, { on := 11, ground := Go.Ground.phase }, { on := 12, ground := Go.Ground.phase }, { on := 13, ground := Go.Ground.phase }, { on := 14, ground := Go.Ground.phase }, { on := 15, ground := Go.Ground.phase }], guard := none }) (v := ?vv39016) (by kernel_rfl) (by kernel_rfl) rfl (by kernel_rfl) (by kernel_rfl) (by kernel_rfl) (fun _ _ _ h => h) (Or.inl ⟨by rfl, ?hy39016⟩) (by assumption) ?tk39016
  case hy39016 => (intro w hSw; (try dsimp only at hSw); go_simp; (try with_reducible rfl))
  try simp only [Act.put, List.setIfInBounds_toArray, List.set_cons_zero, List.set_cons_succ]
  refine AnyL.take2 (i := 17) (oi := { dst := some 33, op := Go.Op.fieldAddr 86 (Go.Operand.tmp 32) 13, type := 0, pos := _, after := #[{ on := 16, ground := Go.Ground.data }, { on := 0, ground := Go.Ground.phase }, { on := 1, ground := Go.Ground.phase }, { on := 2, ground := Go.Ground.phase }, { on := 3, ground := Go.Ground.phase }, { on := 4, ground := Go.Ground.phase }, { on := 5, ground := Go.Ground.phase }, { on := 6, ground := Go.Ground.phase }, { on := 7, ground := Go.Ground.phase }, { on := 8, ground := Go.Ground.phase }, { on := 9, ground := Go.Ground.phase }, { on := 10, ground := Go.Ground.phase }, { on := 11, ground := Go.Ground.phase }, { on := 12, ground := Go.Ground.phase }, { on := 13, ground := Go.Ground.phase }, { on := 14, ground := Go.Ground.phase }, { on := 15, ground := Go.Ground.phase }], guard := none }) (v := ?vv39017) (by kernel_rfl) (by kernel_rfl) rfl (by kernel_rfl) (by kernel_rfl) (by kernel_rfl) (fun _ _ _ h => h) (Or.inl ⟨by rfl, ?hy39017⟩) (by assumption) ?tk39017
  case hy39017 => (intro w hSw; (try dsimp only at hSw); go_simp; (try with_reducible rfl))
  try simp only [Act.put, List.setIfInBounds_toArray, List.set_cons_zero, List.set_cons_succ]
  refine AnyL.last (o := { dst := none, op := Go.Op.store 83 (Go.Operand.tmp 33) (Go.Operand.tmp 31), type := 0, pos := _, after := #[{ on := 17, ground := Go.Ground.data }, { on := 15, ground := Go.Ground.data }, { on := 15, ground := Go.Ground.chain }, { on := 0, ground := Go.Ground.phase }, { on := 1, ground := Go.Ground.phase }, { on := 2, ground := Go.Ground.phase }, { on := 3, ground := Go.Ground.phase }, { on := 4, ground := Go.Ground.phase }, { on := 5, ground := Go.Ground.phase }, { on := 6, ground := Go.Ground.phase }, { on := 7, ground := Go.Ground.phase }, { on := 8, ground := Go.Ground.phase }, { on := 9, ground := Go.Ground.phase }, { on := 10, ground := Go.Ground.phase }, { on := 11, ground := Go.Ground.phase }, { on := 12, ground := Go.Ground.phase }, { on := 13, ground := Go.Ground.phase }, { on := 14, ground := Go.Ground.phase }, { on := 15, ground := Go.Ground.phase }], guard := none }) (by kernel_rfl) rfl (by kernel_rfl) (fun K' hK' => ?_)
  go_simp
  clear hHeld
  refine hK'.out _ _ ?_
  clear hK' K'
  try simp only [Act.put, List.setIfInBounds_toArray, List.set_cons_zero, List.set_cons_succ]
  obtain ⟨X1, C1, e118, hs1, hd1, hpr1, e116, eb0⟩ := H1.out
  obtain ⟨own5, hv5, W5⟩ := HX5.out
  obtain ⟨x2, X2, C2, e218, hs2, hd2, hp2, hpr2, e216, hpn2⟩ : ∃ x2, RAt (w5.setCell ⟨Q.E, 23, none⟩ (.slice p5 3 n5)) Q x2 ∧ Cn x x2 ∧ x2.c 18 = .int .i64 a' ∧ x2.s = x.s ∧ x2.d = x.d ∧ x2.probe = .slice p5 3 n5 ∧ x2.prn = x.prn ∧ x2.c 16 = x.c 16 ∧ x2.pn = 3 ∧ x2.px = symL (fun t => x1.r t) 3 := ⟨_, X1.drew.put_probe own5 (fun q hq => (hv5 q hq).imp (fun z => eb0.symm.trans z) id) (W5.mono (fun q _ hq => eb0.symm.trans hq)), C1.trans ⟨fun k _ _ _ h => updV_other x1.c (.slice p5 3 n5) h, rfl, rfl, rfl, rfl⟩, (updV_other x1.c (.slice p5 3 n5) (show (18 : Nat) ≠ 23 by omega)).trans e118, hs1, hd1, rfl, hpr1, (updV_other x1.c (.slice p5 3 n5) (show (16 : Nat) ≠ 23 by omega)).trans e116, rfl, rfl⟩
  rw [C1.r] at hpn2
  clear X1 C1 e118 hs1 hd1 hpr1 e116 eb0 own5 hv5 W5 H1 HX5 yy1 yy2 yy3 xf a23 aP0 aR2 ef hEl hPl hRl hnE hnP hnR HSL
  generalize w5.setCell ⟨Q.E, 23, none⟩ (.slice p5 3 n5) = w2 at *
  obtain ⟨n, hn⟩ : ∃ n, x.prn = n := ⟨_, rfl⟩
  rw [hn] at hpr hpr2
  have HN := hideIt hn
  clear hn
  obtain ⟨pr0, cr0, hr0⟩ := own_shape X2.pf
  rw [hpr2] at hr0
  have a14 := X2.e.get (X2.c14.trans hr0) (by omega)
  have aP0 := X2.cell sP HS.out.P0
  have aR1 := X2.cell sRB HS.out.r1
  have a23 := X2.e.get (X2.c23.trans hp2) (by omega)
  have hsy : SymR w2 (.slice p5 3 n5) 3 x.r := by
    have t0 := X2.po
    rw [hp2, hpn2.1, hpn2.2] at t0
    exact SymR.of_own t0
  obtain ⟨hv, hA, hrow⟩ := HV.out
  have hins := insert_any (w := w2.drew) (v := .slice p5 3 n5) (r := x.r) X2.drew.re (by rw [hs2, hA]; exact hsy.below (below_dr (Below.refl _ _))) (by rw [hs2, hA]; exact hv) (fun q hq z => by
    have := X2.dj 4 6 q (by omega) (by omega) (show x2.probe.ownBlock = some q by rw [hp2]; exact hq) z
    omega) (by rw [hs2]; omega) (IntKind.i32.wrap (n : Int))
  have HX2 := hideIt X2
  have HP2 := hideIt hp2
  have HC2 := hideIt (And.intro C2 (And.intro e218 (And.intro hs2 (And.intro hd2 (And.intro e216 (And.intro hr0 hpr2))))))
  clear X2 C2 e218 hs2 hd2 hp2 e216 hpn2 hsy hv hA hrow hr0 hpr2
  go_upto_region 4 with fail
  clear a14
  refine wp_region_held_drew (S := (fun w' => w'.cell? ⟨p.P, 0, none⟩ = some (.pointer (some ⟨p.RB, 0, none⟩)) ∧ w'.cell? ⟨p.RB, 1, none⟩ = some (.pointer (some ⟨Q.hb, 0, none⟩)) ∧ w'.cell? ⟨Q.E, 23, none⟩ = some (.slice p5 3 n5))) (by kernel_rfl) ⟨aP0, aR1, a23⟩ (fun hHeld => ?_)
  refine wpAnyH_take (i := 0) (oi := { dst := some 39, op := Go.Op.move (Go.Operand.tmp 1), type := 166, pos := _, after := #[], guard := none }) (v := ?vv39018) rfl (by kernel_rfl) (by kernel_rfl) (by kernel_rfl) (fun _ _ _ h => h) (Or.inl ⟨by rfl, ?hy39018⟩) (by assumption) ?tk39018
  case hy39018 => (intro w hSw; (try dsimp only at hSw); go_simp; (try with_reducible rfl))
  try simp only [Act.put, List.setIfInBounds_toArray, List.set_cons_zero, List.set_cons_succ]
  refine wpAnyH_take (i := 1) (oi := { dst := some 40, op := Go.Op.nilCheck (Go.Operand.tmp 39), type := 0, pos := _, after := #[{ on := 0, ground := Go.Ground.data }], guard := none }) (v := ?vv39019) rfl (by kernel_rfl) (by kernel_rfl) (by kernel_rfl) (fun _ _ _ h => h) (Or.inl ⟨by rfl, ?hy39019⟩) (by assumption) ?tk39019
  case hy39019 => (intro w hSw; (try dsimp only at hSw); go_simp; (try with_reducible rfl))
  try simp only [Act.put, List.setIfInBounds_toArray, List.set_cons_zero, List.set_cons_succ]
  refine wpAnyH_take (i := 2) (oi := { dst := some 41, op := Go.Op.fieldAddr 182 (Go.Operand.tmp 40) 0, type := 0, pos := _, after := #[{ on := 1, ground := Go.Ground.data }], guard := none }) (v := ?vv39020) rfl (by kernel_rfl) (by kernel_rfl) (by kernel_rfl) (fun _ _ _ h => h) (Or.inl ⟨by rfl, ?hy39020⟩) (by assumption) ?tk39020
  case hy39020 => (intro w hSw; (try dsimp only at hSw); go_simp; (try with_reducible rfl))
  try simp only [Act.put, List.setIfInBounds_toArray, List.set_cons_zero, List.set_cons_succ]
  refine wpAnyH_take (i := 3) (oi := { dst := some 42, op := Go.Op.load 92 (Go.Operand.tmp 41), type := 92, pos := _, after := #[{ on := 2, ground := Go.Ground.data }], guard := none }) (v := ?vv39021) rfl (by kernel_rfl) (by kernel_rfl) (by kernel_rfl) (fun _ _ _ h => h) (Or.inl ⟨by rfl, ?hy39021⟩) (by assumption) ?tk39021
  case hy39021 => (intro w hSw; (try dsimp only at hSw); go_simp; (try with_reducible rfl))
  try simp only [Act.put, List.setIfInBounds_toArray, List.set_cons_zero, List.set_cons_succ]
  refine wpAnyH_take (i := 4) (oi := { dst := some 43, op := Go.Op.nilCheck (Go.Operand.tmp 42), type := 0, pos := _, after := #[{ on := 3, ground := Go.Ground.data }], guard := none }) (v := ?vv39022) rfl (by kernel_rfl) (by kernel_rfl) (by kernel_rfl) (fun _ _ _ h => h) (Or.inl ⟨by rfl, ?hy39022⟩) (by assumption) ?tk39022
  case hy39022 => (intro w hSw; (try dsimp only at hSw); go_simp; (try with_reducible rfl))
  try simp only [Act.put, List.setIfInBounds_toArray, List.set_cons_zero, List.set_cons_succ]
  refine wpAnyH_take (i := 5) (oi := { dst := some 44, op := Go.Op.fieldAddr 106 (Go.Operand.tmp 43) 1, type := 0, pos := _, after := #[{ on := 4, ground := Go.Ground.data }], guard := none }) (v := ?vv39023) rfl (by kernel_rfl) (by kernel_rfl) (by kernel_rfl) (fun _ _ _ h => h) (Or.inl ⟨by rfl, ?hy39023⟩) (by assumption) ?tk39023
  case hy39023 => (intro w hSw; (try dsimp only at hSw); go_simp; (try with_reducible rfl))
  try simp only [Act.put, List.setIfInBounds_toArray, List.set_cons_zero, List.set_cons_succ]
  refine wpAnyH_take (i := 6) (oi := { dst := some 45, op := Go.Op.fieldAddr 102 (Go.Operand.tmp 44) 0, type := 0, pos := _, after := #[{ on := 5, ground := Go.Ground.data }], guard := none }) (v := ?vv39024) rfl (by kernel_rfl) (by kernel_rfl) (by kernel_rfl) (fun _ _ _ h => h) (Or.inl ⟨by rfl, ?hy39024⟩) (by assumption) ?tk39024
  case hy39024 => (intro w hSw; (try dsimp only at hSw); go_simp; (try with_reducible rfl))
  try simp only [Act.put, List.setIfInBounds_toArray, List.set_cons_zero, List.set_cons_succ]
  refine wpAnyH_take (i := 7) (oi := { dst := some 46, op := Go.Op.load 99 (Go.Operand.tmp 45), type := 99, pos := _, after := #[{ on := 6, ground := Go.Ground.data }], guard := none }) (v := ?vv39025) rfl (by kernel_rfl) (by kernel_rfl) (by kernel_rfl) (fun _ _ _ h => h) (Or.inl ⟨by rfl, ?hy39025⟩) (by assumption) ?tk39025
  case hy39025 => (intro w hSw; (try dsimp only at hSw); go_simp; (try with_reducible rfl))
  try simp only [Act.put, List.setIfInBounds_toArray, List.set_cons_zero, List.set_cons_succ]
  refine wpAnyH_take (i := 8) (oi := { dst := some 47, op := Go.Op.move (Go.Operand.tmp 0), type := 58, pos := _, after := #[], guard := none }) (v := ?vv39026) rfl (by kernel_rfl) (by kernel_rfl) (by kernel_rfl) (fun _ _ _ h => h) (Or.inl ⟨by rfl, ?hy39026⟩) (by assumption) ?tk39026
  case hy39026 => (intro w hSw; (try dsimp only at hSw); go_simp; (try with_reducible rfl))
  try simp only [Act.put, List.setIfInBounds_toArray, List.set_cons_zero, List.set_cons_succ]
  refine wpAnyH_take (i := 9) (oi := { dst := some 48, op := Go.Op.nilCheck (Go.Operand.tmp 47), type := 0, pos := _, after := #[{ on := 8, ground := Go.Ground.data }], guard := none }) (v := ?vv39027) rfl (by kernel_rfl) (by kernel_rfl) (by kernel_rfl) (fun _ _ _ h => h) (Or.inl ⟨by rfl, ?hy39027⟩) (by assumption) ?tk39027
  case hy39027 => (intro w hSw; (try dsimp only at hSw); go_simp; (try with_reducible rfl))
  try simp only [Act.put, List.setIfInBounds_toArray, List.set_cons_zero, List.set_cons_succ]
  refine wpAnyH_take (i := 10) (oi := { dst := some 49, op := Go.Op.fieldAddr 86 (Go.Operand.tmp 48) 13, type := 0, pos := _, after := #[{ on := 9, ground := Go.Ground.data }], guard := none }) (v := ?vv39028) rfl (by kernel_rfl) (by kernel_rfl) (by kernel_rfl) (fun _ _ _ h => h) (Or.inl ⟨by rfl, ?hy39028⟩) (by assumption) ?tk39028
  case hy39028 => (intro w hSw; (try dsimp only at hSw); go_simp; (try with_reducible rfl))
  try simp only [Act.put, List.setIfInBounds_toArray, List.set_cons_zero, List.set_cons_succ]
  refine wpAnyH_take (i := 11) (oi := { dst := some 50, op := Go.Op.load 83 (Go.Operand.tmp 49), type := 83, pos := _, after := #[{ on := 10, ground := Go.Ground.data }], guard := none }) (v := ?vv39029) rfl (by kernel_rfl) (by kernel_rfl) (by kernel_rfl) (fun _ _ _ h => h) (Or.inl ⟨by rfl, ?hy39029⟩) (by assumption) ?tk39029
  case hy39029 => (intro w hSw; (try dsimp only at hSw); go_simp; (try with_reducible rfl))
  try simp only [Act.put, List.setIfInBounds_toArray, List.set_cons_zero, List.set_cons_succ]
  refine wpAnyH_take (i := 12) (oi := { dst := some 51, op := Go.Op.move (Go.Operand.tmp 5), type := 3, pos := _, after := #[], guard := none }) (v := ?vv39030) rfl (by kernel_rfl) (by kernel_rfl) (by kernel_rfl) (fun _ _ _ h => h) (Or.inl ⟨by rfl, ?hy39030⟩) (by assumption) ?tk39030
  case hy39030 => (intro w hSw; (try dsimp only at hSw); go_simp; (try with_reducible rfl))
  try simp only [Act.put, List.setIfInBounds_toArray, List.set_cons_zero, List.set_cons_succ]
  refine wpAnyH_take (i := 13) (oi := { dst := some 52, op := Go.Op.convert 3 21 (Go.Operand.tmp 51), type := 21, pos := _, after := #[{ on := 12, ground := Go.Ground.data }], guard := none }) (v := ?vv39031) rfl (by kernel_rfl) (by kernel_rfl) (by kernel_rfl) (fun _ _ _ h => h) (Or.inl ⟨by rfl, ?hy39031⟩) (by assumption) ?tk39031
  case hy39031 => (intro w hSw; (try dsimp only at hSw); go_simp; (try with_reducible rfl))
  try simp only [Act.put, List.setIfInBounds_toArray, List.set_cons_zero, List.set_cons_succ]
  refine wpAnyH_ready (rs := [14]) (by kernel_rfl) (by simp) ?_
  refine AllReadyH.cons (o := { dst := some 53, op := Go.Op.call { callee := Go.Callee.value (Go.Operand.func 33), args := #[Go.Operand.tmp 46, Go.Operand.tmp 50, Go.Operand.tmp 52], argTypes := #[99, 83, 21] }, type := 4, pos := _, after := #[{ on := 7, ground := Go.Ground.data }, { on := 11, ground := Go.Ground.data }, { on := 13, ground := Go.Ground.data }], guard := none }) rfl (fun K' hK' => ?_) AllReadyH.nil
  go_simp
  go_at_call 33
  refine hins.mono ?_
  rintro e w6 ⟨s', d', N', f', b, rfl, HR6, io5, W6, hv6⟩
  have X6 := HX2.out.drew.ins HR6 hv6 W6
  have yy1 := X6.cell sP HS.out.P0
  have yy2 := X6.cell sRB HS.out.r1
  have yy3 : w6.cell? ⟨Q.E, 23, none⟩ = some (.slice p5 3 n5) := X6.e.get (X6.c23.trans HP2.out) (by omega)
  have HX6 := hideIt (And.intro X6 io5)
  clear HR6 W6 hv6 X6 io5 hins
  clear hHeld
  refine hK'.out _ _ ⟨yy1, yy2, yy3⟩ (fun hHeld => ?_)
  clear hK' K'
  try simp only [Act.put, List.setIfInBounds_toArray, List.set_cons_zero, List.set_cons_succ]
  refine wpAnyH_take (i := 15) (oi := { dst := some 54, op := Go.Op.unOp Go.UnOp.not 4 (Go.Operand.tmp 53), type := 4, pos := _, after := #[{ on := 14, ground := Go.Ground.data }], guard := none }) (v := ?vv39032) rfl (by kernel_rfl) (by kernel_rfl) (by kernel_rfl) (fun _ _ _ h => h) (Or.inl ⟨by rfl, ?hy39032⟩) (by assumption) ?tk39032
  case hy39032 => (intro w hSw; (try dsimp only at hSw); go_simp; (try with_reducible rfl))
  try simp only [Act.put, List.setIfInBounds_toArray, List.set_cons_zero, List.set_cons_succ]
  refine wpAnyH_done (by kernel_rfl) ?_ _
  clear hHeld
  cases b
  · go_wp2
    go_ret
    obtain ⟨X6, io5⟩ := HX6.out
    obtain ⟨C2, e218, hs2, hd2, e216, hr0, hpr2⟩ := HC2.out
    rw [hs2, hd2] at io5
    exact ⟨rfl, _, false, X6, ⟨C2.c, C2.cu, C2.r, C2.kn, C2.kx⟩, io5, ⟨a', e218⟩, (fun (h : false = true) => by cases h), fun _ => ⟨e216, hpr2.trans HN.out.symm⟩⟩
  · obtain ⟨X6, io5⟩ := HX6.out
    obtain ⟨C2, e218, hs2, hd2, e216, hr0, hpr2⟩ := HC2.out
    rw [hs2, hd2] at io5
    obtain ⟨x3, X3, C3, e318, IO3, hr3, hn3, e316⟩ : ∃ x3, RAt w6 Q x3 ∧ Cn x x3 ∧ x3.c 18 = .int .i64 a' ∧ InsOut x.s x3.s x.d x3.d x.r true ∧ x3.pr = .slice pr0 n cr0 ∧ x3.prn = n ∧ x3.c 16 = x.c 16 := ⟨_, X6, ⟨C2.c, C2.cu, C2.r, C2.kn, C2.kx⟩, e218, io5, hr0, hpr2, e216⟩
    clear X6 io5 C2 e218 hs2 hd2 e216 hr0 hpr2 HX6 HC2 HX2 HP2 yy1 yy2 yy3 aP0 aR1 a23
    obtain ⟨wd, hwd⟩ : ∃ wd, wd = w6 := ⟨_, rfl⟩
    subst hwd
    have a14 := X3.e.get (X3.c14.trans hr3) (by omega)
    have aP0 := X3.cell sP HS.out.P0
    have aR0 := X3.cell sRB HS.out.r0
    have efd := X3.e.fz
    have hEd := X3.e.lt
    have far : ∀ k q, k < 8 → k ≠ 5 → fpX Q x3 k q → some q ≠ (Value.slice pr0 n cr0).ownBlock := fun k q hk h5 hq z => h5 (X3.dj k 5 q hk (by omega) hq (show x3.pr.ownBlock = some q by rw [hr3]; exact z.symm))
    have hrE := far 0 Q.E (by omega) (by omega) rfl
    have hrP := far 7 p.P (by omega) (by omega) sP
    have hrR := far 7 p.RB (by omega) (by omega) sRB
    obtain ⟨prx, hpx⟩ : ∃ prx, x3.prx = prx := ⟨_, rfl⟩
    have HOWN : Hid (wd.ownsRow 0 21 1 (.slice pr0 n cr0) n prx) := hideIt (by
      have t0 := X3.pf
      rw [hr3, hn3, hpx] at t0
      exact t0)
    have HX3 := hideIt (And.intro X3 (And.intro C3 (And.intro e318 (And.intro IO3 (And.intro hr3 (And.intro e316 far))))))
    clear X3 C3 e318 IO3 hr3 hn3 e316 far hpx
    go_upto_region 6 with fail
    refine wp_region_l (l := 17) (S := (fun w' => w'.cell? ⟨Q.E, 14, none⟩ = some (.slice pr0 n cr0) ∧ w'.cell? ⟨p.P, 0, none⟩ = some (.pointer (some ⟨p.RB, 0, none⟩)) ∧ w'.cell? ⟨p.RB, 0, none⟩ = some (.int .i64 0))) (by kernel_rfl) ⟨a14, aP0, aR0⟩ (fun hHeld => ?_)
    refine AnyL.take2 (i := 0) (oi := { dst := some 55, op := Go.Op.move (Go.Operand.tmp 0), type := 58, pos := _, after := #[], guard := none }) (v := ?vv39033) (by kernel_rfl) (by kernel_rfl) rfl (by kernel_rfl) (by kernel_rfl) (by kernel_rfl) (fun _ _ _ h => h) (Or.inl ⟨by rfl, ?hy39033⟩) (by assumption) ?tk39033
    case hy39033 => (intro w hSw; (try dsimp only at hSw); go_simp; (try with_reducible rfl))
    try simp only [Act.put, List.setIfInBounds_toArray, List.set_cons_zero, List.set_cons_succ]
    refine AnyL.take2 (i := 1) (oi := { dst := some 56, op := Go.Op.move (Go.Operand.tmp 0), type := 58, pos := _, after := #[], guard := none }) (v := ?vv39034) (by kernel_rfl) (by kernel_rfl) rfl (by kernel_rfl) (by kernel_rfl) (by kernel_rfl) (fun _ _ _ h => h) (Or.inl ⟨by rfl, ?hy39034⟩) (by assumption) ?tk39034
    case hy39034 => (intro w hSw; (try dsimp only at hSw); go_simp; (try with_reducible rfl))
    try simp only [Act.put, List.setIfInBounds_toArray, List.set_cons_zero, List.set_cons_succ]
    refine AnyL.take2 (i := 2) (oi := { dst := some 57, op := Go.Op.nilCheck (Go.Operand.tmp 56), type := 0, pos := _, after := #[{ on := 1, ground := Go.Ground.data }], guard := none }) (v := ?vv39035) (by kernel_rfl) (by kernel_rfl) rfl (by kernel_rfl) (by kernel_rfl) (by kernel_rfl) (fun _ _ _ h => h) (Or.inl ⟨by rfl, ?hy39035⟩) (by assumption) ?tk39035
    case hy39035 => (intro w hSw; (try dsimp only at hSw); go_simp; (try with_reducible rfl))
    try simp only [Act.put, List.setIfInBounds_toArray, List.set_cons_zero, List.set_cons_succ]
    refine AnyL.take2 (i := 3) (oi := { dst := some 58, op := Go.Op.fieldAddr 86 (Go.Operand.tmp 57) 9, type := 0, pos := _, after := #[{ on := 2, ground := Go.Ground.data }], guard := none }) (v := ?vv39036) (by kernel_rfl) (by kernel_rfl) rfl (by kernel_rfl) (by kernel_rfl) (by kernel_rfl) (fun _ _ _ h => h) (Or.inl ⟨by rfl, ?hy39036⟩) (by assumption) ?tk39036
    case hy39036 => (intro w hSw; (try dsimp only at hSw); go_simp; (try with_reducible rfl))
    try simp only [Act.put, List.setIfInBounds_toArray, List.set_cons_zero, List.set_cons_succ]
    refine AnyL.take2 (i := 4) (oi := { dst := some 59, op := Go.Op.load 80 (Go.Operand.tmp 58), type := 80, pos := _, after := #[{ on := 3, ground := Go.Ground.data }], guard := none }) (v := ?vv39037) (by kernel_rfl) (by kernel_rfl) rfl (by kernel_rfl) (by kernel_rfl) (by kernel_rfl) (fun _ _ _ h => h) (Or.inl ⟨by rfl, ?hy39037⟩) (by assumption) ?tk39037
    case hy39037 => (intro w hSw; (try dsimp only at hSw); go_simp; (try with_reducible rfl))
    try simp only [Act.put, List.setIfInBounds_toArray, List.set_cons_zero, List.set_cons_succ]
    refine AnyL.take2 (i := 5) (oi := { dst := some 60, op := Go.Op.move (Go.Operand.tmp 1), type := 166, pos := _, after := #[], guard := none }) (v := ?vv39038) (by kernel_rfl) (by kernel_rfl) rfl (by kernel_rfl) (by kernel_rfl) (by kernel_rfl) (fun _ _ _ h => h) (Or.inl ⟨by rfl, ?hy39038⟩) (by assumption) ?tk39038
    case hy39038 => (intro w hSw; (try dsimp only at hSw); go_simp; (try with_reducible rfl))
    try simp only [Act.put, List.setIfInBounds_toArray, List.set_cons_zero, List.set_cons_succ]
    refine AnyL.take2 (i := 6) (oi := { dst := some 61, op := Go.Op.nilCheck (Go.Operand.tmp 60), type := 0, pos := _, after := #[{ on := 5, ground := Go.Ground.data }], guard := none }) (v := ?vv39039) (by kernel_rfl) (by kernel_rfl) rfl (by kernel_rfl) (by kernel_rfl) (by kernel_rfl) (fun _ _ _ h => h) (Or.inl ⟨by rfl, ?hy39039⟩) (by assumption) ?tk39039
    case hy39039 => (intro w hSw; (try dsimp only at hSw); go_simp; (try with_reducible rfl))
    try simp only [Act.put, List.setIfInBounds_toArray, List.set_cons_zero, List.set_cons_succ]
    refine AnyL.take2 (i := 7) (oi := { dst := some 62, op := Go.Op.fieldAddr 182 (Go.Operand.tmp 61) 0, type := 0, pos := _, after := #[{ on := 6, ground := Go.Ground.data }], guard := none }) (v := ?vv39040) (by kernel_rfl) (by kernel_rfl) rfl (by kernel_rfl) (by kernel_rfl) (by kernel_rfl) (fun _ _ _ h => h) (Or.inl ⟨by rfl, ?hy39040⟩) (by assumption) ?tk39040
    case hy39040 => (intro w hSw; (try dsimp only at hSw); go_simp; (try with_reducible rfl))
    try simp only [Act.put, List.setIfInBounds_toArray, List.set_cons_zero, List.set_cons_succ]
    refine AnyL.take2 (i := 8) (oi := { dst := some 63, op := Go.Op.load 92 (Go.Operand.tmp 62), type := 92, pos := _, after := #[{ on := 7, ground := Go.Ground.data }], guard := none }) (v := ?vv39041) (by kernel_rfl) (by kernel_rfl) rfl (by kernel_rfl) (by kernel_rfl) (by kernel_rfl) (fun _ _ _ h => h) (Or.inl ⟨by rfl, ?hy39041⟩) (by assumption) ?tk39041
    case hy39041 => (intro w hSw; (try dsimp only at hSw); go_simp; (try with_reducible rfl))
    try simp only [Act.put, List.setIfInBounds_toArray, List.set_cons_zero, List.set_cons_succ]
    refine AnyL.take2 (i := 9) (oi := { dst := some 64, op := Go.Op.nilCheck (Go.Operand.tmp 63), type := 0, pos := _, after := #[{ on := 8, ground := Go.Ground.data }], guard := none }) (v := ?vv39042) (by kernel_rfl) (by kernel_rfl) rfl (by kernel_rfl) (by kernel_rfl) (by kernel_rfl) (fun _ _ _ h => h) (Or.inl ⟨by rfl, ?hy39042⟩) (by assumption) ?tk39042
    case hy39042 => (intro w hSw; (try dsimp only at hSw); go_simp; (try with_reducible rfl))
    try simp only [Act.put, List.setIfInBounds_toArray, List.set_cons_zero, List.set_cons_succ]
    refine AnyL.take2 (i := 10) (oi := { dst := some 65, op := Go.Op.fieldAddr 106 (Go.Operand.tmp 64) 0, type := 0, pos := _, after := #[{ on := 9, ground := Go.Ground.data }], guard := none }) (v := ?vv39043) (by kernel_rfl) (by kernel_rfl) rfl (by kernel_rfl) (by kernel_rfl) (by kernel_rfl) (fun _ _ _ h => h) (Or.inl ⟨by rfl, ?hy39043⟩) (by assumption) ?tk39043
    case hy39043 => (intro w hSw; (try dsimp only at hSw); go_simp; (try with_reducible rfl))
    try simp only [Act.put, List.setIfInBounds_toArray, List.set_cons_zero, List.set_cons_succ]
    refine AnyL.take2 (i := 11) (oi := { dst := some 66, op := Go.Op.load 3 (Go.Operand.tmp 65), type := 3, pos := _, after := #[{ on := 10, ground := Go.Ground.data }], guard := none }) (v := ?vv39044) (by kernel_rfl) (by kernel_rfl) rfl (by kernel_rfl) (by kernel_rfl) (by kernel_rfl) (fun _ _ _ h => h) (Or.inl ⟨by rfl, ?hy39044⟩) (by assumption) ?tk39044
    case hy39044 => (intro w hSw; (try dsimp only at hSw); go_simp; (try with_reducible rfl))
    try simp only [Act.put, List.setIfInBounds_toArray, List.set_cons_zero, List.set_cons_succ]
    refine AnyL.take2 (i := 12) (oi := { dst := some 67, op := Go.Op.convert 3 21 (Go.Operand.tmp 66), type := 21, pos := _, after := #[{ on := 11, ground := Go.Ground.data }], guard := none }) (v := ?vv39045) (by kernel_rfl) (by kernel_rfl) rfl (by kernel_rfl) (by kernel_rfl) (by kernel_rfl) (fun _ _ _ h => h) (Or.inl ⟨by rfl, ?hy39045⟩) (by assumption) ?tk39045
    case hy39045 => (intro w hSw; (try dsimp only at hSw); go_simp; (try with_reducible rfl))
    try simp only [Act.put, List.setIfInBounds_toArray, List.set_cons_zero, List.set_cons_succ]
    refine AnyL.one (i := 13) (o := { dst := some 68, op := Go.Op.buildSlice 80 1 #[(0, Go.Operand.tmp 67)], type := 80, pos := _, after := #[{ on := 12, ground := Go.Ground.data }], guard := none }) (by kernel_rfl) rfl rfl (fun K' hK' => ?_)
    go_simp
    clear hHeld
    refine hK'.out _ _ ⟨cell_later (below_dr (one_alloc _ _)) a14, cell_later (below_dr (one_alloc _ _)) aP0, cell_later (below_dr (one_alloc _ _)) aR0⟩ (fun hHeld => ?_)
    clear hK' K'
    try simp only [Act.put, List.setIfInBounds_toArray, List.set_cons_zero, List.set_cons_succ]
    refine AnyL.one (i := 14) (o := { dst := some 69, op := Go.Op.call { callee := Go.Callee.builtin Go.Builtin.append, args := #[Go.Operand.tmp 59, Go.Operand.tmp 68], argTypes := #[80, 80] }, type := 80, pos := _, after := #[{ on := 4, ground := Go.Ground.data }, { on := 13, ground := Go.Ground.data }], guard := none }) (by kernel_rfl) rfl rfl (fun K' hK' => ?_)
    refine ite_take (by rfl) ?_
    refine wp_append_own_at (.tmp 59) (.tmp 68) 80 rfl 0 21 i2 ((.int .i32 0)) 1 4 Tryz.underlying80 hi2 hw0 hw1 hw2 rfl (by decide) (.slice pr0 n cr0) n prx rfl (HOWN.out.alloc _) ⟨wd.heap.size, 0, none⟩ 1 1 [.int .i32 0] rfl rfl (cell_new1 _ _ _) (by simp [Value.oneCell']) (by unfold maxLen; omega) (by omega) (by simp <;> omega) ?_
    intro v' w3 hown' hgrow hblk
    obtain ⟨p', c', rfl⟩ := own_shape hown'
    have kk0 := hgrow.cell (a := ⟨Q.E, 14, none⟩) (hHeld.1) hrE
    have kk1 := hgrow.cell (a := ⟨p.P, 0, none⟩) (hHeld.2.1) hrP
    have kk2 := hgrow.cell (a := ⟨p.RB, 0, none⟩) (hHeld.2.2) hrR
    have fz3 : ∀ o, w3.frozen? ⟨Q.E, o, none⟩ = false := fun o => ((World.frozen?_of_block (a := ⟨Q.E, o, none⟩) (hgrow.block Q.E (by simp; omega) hrE)).trans (World.frozen?_of_block (a := ⟨Q.E, o, none⟩) ((one_alloc wd _).block Q.E hEd))).trans (efd o)
    have HG := hideIt (And.intro hown' (And.intro hgrow hblk))
    clear hown' hgrow hblk
    clear hHeld
    refine hK'.out _ _ ⟨kk0, kk1, kk2⟩ (fun hHeld => ?_)
    clear hK' K'
    try simp only [Act.put, List.setIfInBounds_toArray, List.set_cons_zero, List.set_cons_succ]
    refine AnyL.take2 (i := 15) (oi := { dst := some 70, op := Go.Op.nilCheck (Go.Operand.tmp 55), type := 0, pos := _, after := #[{ on := 0, ground := Go.Ground.data }, { on := 0, ground := Go.Ground.phase }, { on := 1, ground := Go.Ground.phase }, { on := 2, ground := Go.Ground.phase }, { on := 3, ground := Go.Ground.phase }, { on := 4, ground := Go.Ground.phase }, { on := 5, ground := Go.Ground.phase }, { on := 6, ground := Go.Ground.phase }, { on := 7, ground := Go.Ground.phase }, { on := 8, ground := Go.Ground.phase }, { on := 9, ground := Go.Ground.phase }, { on := 10, ground := Go.Ground.phase }, { on := 11, ground := Go.Ground.phase }, { on := 12, ground := Go.Ground.phase }, { on := 13, ground := Go.Ground.phase }, { on := 14, ground := Go.Ground.phase }], guard := none }) (v := ?vv39046) (by kernel_rfl) (by kernel_rfl) rfl (by kernel_rfl) (by kernel_rfl) (by kernel_rfl) (fun _ _ _ h => h) (Or.inl ⟨by rfl, ?hy39046⟩) (by assumption) ?tk39046
    case hy39046 => (intro w hSw; (try dsimp only at hSw); go_simp; (try with_reducible rfl))
    try simp only [Act.put, List.setIfInBounds_toArray, List.set_cons_zero, List.set_cons_succ]
    refine AnyL.take2 (i := 16) (oi := { dst := some 71, op := Go.Op.fieldAddr 86 (Go.Operand.tmp 70) 9, type := 0, pos := _, after := #[{ on := 15, ground := Go.Ground.data }, { on := 0, ground := Go.Ground.phase }, { on := 1, ground := Go.Ground.phase }, { on := 2, ground := Go.Ground.phase }, { on := 3, ground := Go.Ground.phase }, { on := 4, ground := Go.Ground.phase }, { on := 5, ground := Go.Ground.phase }, { on := 6, ground := Go.Ground.phase }, { on := 7, ground := Go.Ground.phase }, { on := 8, ground := Go.Ground.phase }, { on := 9, ground := Go.Ground.phase }, { on := 10, ground := Go.Ground.phase }, { on := 11, ground := Go.Ground.phase }, { on := 12, ground := Go.Ground.phase }, { on := 13, ground := Go.Ground.phase }, { on := 14, ground := Go.Ground.phase }], guard := none }) (v := ?vv39047) (by kernel_rfl) (by kernel_rfl) rfl (by kernel_rfl) (by kernel_rfl) (by kernel_rfl) (fun _ _ _ h => h) (Or.inl ⟨by rfl, ?hy39047⟩) (by assumption) ?tk39047
    case hy39047 => (intro w hSw; (try dsimp only at hSw); go_simp; (try with_reducible rfl))
    try simp only [Act.put, List.setIfInBounds_toArray, List.set_cons_zero, List.set_cons_succ]
    refine AnyL.last (o := { dst := none, op := Go.Op.store 80 (Go.Operand.tmp 71) (Go.Operand.tmp 69), type := 0, pos := _, after := #[{ on := 16, ground := Go.Ground.data }, { on := 14, ground := Go.Ground.data }, { on := 14, ground := Go.Ground.chain }, { on := 0, ground := Go.Ground.phase }, { on := 1, ground := Go.Ground.phase }, { on := 2, ground := Go.Ground.phase }, { on := 3, ground := Go.Ground.phase }, { on := 4, ground := Go.Ground.phase }, { on := 5, ground := Go.Ground.phase }, { on := 6, ground := Go.Ground.phase }, { on := 7, ground := Go.Ground.phase }, { on := 8, ground := Go.Ground.phase }, { on := 9, ground := Go.Ground.phase }, { on := 10, ground := Go.Ground.phase }, { on := 11, ground := Go.Ground.phase }, { on := 12, ground := Go.Ground.phase }, { on := 13, ground := Go.Ground.phase }, { on := 14, ground := Go.Ground.phase }], guard := none }) (by kernel_rfl) rfl (by kernel_rfl) (fun K' hK' => ?_)
    go_simp
    clear hHeld
    refine hK'.out _ _ ?_
    clear hK' K'
    try simp only [Act.put, List.setIfInBounds_toArray, List.set_cons_zero, List.set_cons_succ]
    obtain ⟨X3, C3, e318, IO3, hr3, e316, far⟩ := HX3.out
    obtain ⟨hown', hgrow, hblk⟩ := HG.out
    have bN := below_dr (one_alloc wd (.cells #[.int .i32 (IntKind.i32.wrap 0)] 21))
    have W4 : Ws (fun q => x3.pr.ownBlock = some q) wd w3 := ((Ws.refl _ wd).below bN).grow hgrow (fun q hq => .inl (by rw [hr3]; exact hq))
    have hv4 : ∀ q, (Value.slice p' (n + 1) c').ownBlock = some q → x3.pr.ownBlock = some q ∨ wd.heap.size ≤ q := fun q hq => by
      rcases hblk with z | z
      · exact .inl (by rw [hr3, ← z]; exact hq)
      · rw [z] at hq
        have z2 := Option.some.inj hq
        refine .inr ?_
        rw [← z2]
        simp
    obtain ⟨x4, X4, C4, e418, IO4, hr4, hn4, e416, hx4⟩ : ∃ x4, RAt (w3.setCell ⟨Q.E, 14, none⟩ (.slice p' (n + 1) c')) Q x4 ∧ Cn x x4 ∧ x4.c 18 = .int .i64 a' ∧ InsOut x.s x4.s x.d x4.d x.r true ∧ x4.pr = .slice p' (n + 1) c' ∧ x4.prn = n + 1 ∧ x4.c 16 = x.c 16 ∧ True := ⟨_, X3.put_pr hown' hv4 W4, C3.trans ⟨fun k h _ _ _ => updV_other x3.c (.slice p' (n + 1) c') h, rfl, rfl, rfl, rfl⟩, (updV_other x3.c (.slice p' (n + 1) c') (show (18 : Nat) ≠ 14 by omega)).trans e318, IO3, rfl, rfl, (updV_other x3.c (.slice p' (n + 1) c') (show (16 : Nat) ≠ 14 by omega)).trans e316, trivial⟩
    clear X3 C3 e318 IO3 hr3 e316 far HX3 HG HOWN hown' hgrow hblk bN W4 hv4 a14 aP0 aR0 efd hEd hrE hrP hrR kk0 kk1 kk2 fz3 hx4
    obtain ⟨gp, cp, ep, hcp, _, hgpl, _, _⟩ := own_full (hn4 ▸ X4.pf) (by omega)
    rw [hr4] at ep
    simp only [Value.slice.injEq] at ep
    obtain ⟨e1, _, e2⟩ := ep
    subst e1
    replace e2 := e2.symm
    subst e2
    obtain ⟨n1, hn1⟩ : ∃ n1, n + 1 = n1 := ⟨_, rfl⟩
    rw [hn1] at X4 hr4 hn4 ⊢
    generalize w3.setCell ⟨Q.E, 14, none⟩ (.slice (some ⟨gp, 0, none⟩) n1 cp) = we at *
    have a14 := X4.e.get (X4.c14.trans hr4) (by omega)
    have aP3 := X4.cell sP HS.out.P3
    have efe := X4.e.fz
    have hEe := X4.e.lt
    have ownp : we.drew.ownsRow 0 21 1 (.slice (some ⟨gp, 0, none⟩) n1 cp) n1 x4.prx := by
      have t0 := X4.pf
      rw [hr4, hn4] at t0
      exact t0.drew
    have far : ∀ k q, k < 8 → k ≠ 5 → fpX Q x4 k q → some q ≠ some gp := fun k q hk h5 hq z => h5 (X4.dj k 5 q hk (by omega) hq (show x4.pr.ownBlock = some q by rw [hr4]; exact z.symm))
    have hrE := far 0 Q.E (by omega) (by omega) rfl
    have hrP := far 7 p.P (by omega) (by omega) sP
    have HX4 := hideIt (And.intro X4 (And.intro C4 (And.intro e418 (And.intro IO4 (And.intro hr4 (And.intro e416 hn1))))))
    clear X4 C4 e418 IO4 hr4 hn4 e416 far hgpl
    have hn1' : n1 ≤ 1001 := by omega
    clear hn1
    go_upto_region 7 with fail
    refine wp_region_l (l := 13) (S := (fun w' => w'.cell? ⟨Q.E, 14, none⟩ = some (.slice (some ⟨gp, 0, none⟩) n1 cp) ∧ w'.cell? ⟨p.P, 3, none⟩ = some (.slice (some ⟨p.gs, 0, none⟩) 2 p.cs))) (by kernel_rfl) ⟨a14, aP3⟩ (fun hHeld => ?_)
    refine AnyL.take2 (i := 0) (oi := { dst := some 72, op := Go.Op.move (Go.Operand.tmp 0), type := 58, pos := _, after := #[], guard := none }) (v := ?vv39048) (by kernel_rfl) (by kernel_rfl) rfl (by kernel_rfl) (by kernel_rfl) (by kernel_rfl) (fun _ _ _ h => h) (Or.inl ⟨by rfl, ?hy39048⟩) (by assumption) ?tk39048
    case hy39048 => (intro w hSw; (try dsimp only at hSw); go_simp; (try with_reducible rfl))
    try simp only [Act.put, List.setIfInBounds_toArray, List.set_cons_zero, List.set_cons_succ]
    refine AnyL.take2 (i := 1) (oi := { dst := some 73, op := Go.Op.move (Go.Operand.tmp 0), type := 58, pos := _, after := #[], guard := none }) (v := ?vv39049) (by kernel_rfl) (by kernel_rfl) rfl (by kernel_rfl) (by kernel_rfl) (by kernel_rfl) (fun _ _ _ h => h) (Or.inl ⟨by rfl, ?hy39049⟩) (by assumption) ?tk39049
    case hy39049 => (intro w hSw; (try dsimp only at hSw); go_simp; (try with_reducible rfl))
    try simp only [Act.put, List.setIfInBounds_toArray, List.set_cons_zero, List.set_cons_succ]
    refine AnyL.take2 (i := 2) (oi := { dst := some 74, op := Go.Op.nilCheck (Go.Operand.tmp 73), type := 0, pos := _, after := #[{ on := 1, ground := Go.Ground.data }], guard := none }) (v := ?vv39050) (by kernel_rfl) (by kernel_rfl) rfl (by kernel_rfl) (by kernel_rfl) (by kernel_rfl) (fun _ _ _ h => h) (Or.inl ⟨by rfl, ?hy39050⟩) (by assumption) ?tk39050
    case hy39050 => (intro w hSw; (try dsimp only at hSw); go_simp; (try with_reducible rfl))
    try simp only [Act.put, List.setIfInBounds_toArray, List.set_cons_zero, List.set_cons_succ]
    refine AnyL.take2 (i := 3) (oi := { dst := some 75, op := Go.Op.fieldAddr 86 (Go.Operand.tmp 74) 9, type := 0, pos := _, after := #[{ on := 2, ground := Go.Ground.data }], guard := none }) (v := ?vv39051) (by kernel_rfl) (by kernel_rfl) rfl (by kernel_rfl) (by kernel_rfl) (by kernel_rfl) (fun _ _ _ h => h) (Or.inl ⟨by rfl, ?hy39051⟩) (by assumption) ?tk39051
    case hy39051 => (intro w hSw; (try dsimp only at hSw); go_simp; (try with_reducible rfl))
    try simp only [Act.put, List.setIfInBounds_toArray, List.set_cons_zero, List.set_cons_succ]
    refine AnyL.take2 (i := 4) (oi := { dst := some 76, op := Go.Op.load 80 (Go.Operand.tmp 75), type := 80, pos := _, after := #[{ on := 3, ground := Go.Ground.data }], guard := none }) (v := ?vv39052) (by kernel_rfl) (by kernel_rfl) rfl (by kernel_rfl) (by kernel_rfl) (by kernel_rfl) (fun _ _ _ h => h) (Or.inl ⟨by rfl, ?hy39052⟩) (by assumption) ?tk39052
    case hy39052 => (intro w hSw; (try dsimp only at hSw); go_simp; (try with_reducible rfl))
    try simp only [Act.put, List.setIfInBounds_toArray, List.set_cons_zero, List.set_cons_succ]
    refine AnyL.take2 (i := 5) (oi := { dst := some 77, op := Go.Op.move (Go.Operand.tmp 1), type := 166, pos := _, after := #[], guard := none }) (v := ?vv39053) (by kernel_rfl) (by kernel_rfl) rfl (by kernel_rfl) (by kernel_rfl) (by kernel_rfl) (fun _ _ _ h => h) (Or.inl ⟨by rfl, ?hy39053⟩) (by assumption) ?tk39053
    case hy39053 => (intro w hSw; (try dsimp only at hSw); go_simp; (try with_reducible rfl))
    try simp only [Act.put, List.setIfInBounds_toArray, List.set_cons_zero, List.set_cons_succ]
    refine AnyL.take2 (i := 6) (oi := { dst := some 78, op := Go.Op.nilCheck (Go.Operand.tmp 77), type := 0, pos := _, after := #[{ on := 5, ground := Go.Ground.data }], guard := none }) (v := ?vv39054) (by kernel_rfl) (by kernel_rfl) rfl (by kernel_rfl) (by kernel_rfl) (by kernel_rfl) (fun _ _ _ h => h) (Or.inl ⟨by rfl, ?hy39054⟩) (by assumption) ?tk39054
    case hy39054 => (intro w hSw; (try dsimp only at hSw); go_simp; (try with_reducible rfl))
    try simp only [Act.put, List.setIfInBounds_toArray, List.set_cons_zero, List.set_cons_succ]
    refine AnyL.take2 (i := 7) (oi := { dst := some 79, op := Go.Op.fieldAddr 182 (Go.Operand.tmp 78) 3, type := 0, pos := _, after := #[{ on := 6, ground := Go.Ground.data }], guard := none }) (v := ?vv39055) (by kernel_rfl) (by kernel_rfl) rfl (by kernel_rfl) (by kernel_rfl) (by kernel_rfl) (fun _ _ _ h => h) (Or.inl ⟨by rfl, ?hy39055⟩) (by assumption) ?tk39055
    case hy39055 => (intro w hSw; (try dsimp only at hSw); go_simp; (try with_reducible rfl))
    try simp only [Act.put, List.setIfInBounds_toArray, List.set_cons_zero, List.set_cons_succ]
    refine AnyL.take2 (i := 8) (oi := { dst := some 80, op := Go.Op.load 180 (Go.Operand.tmp 79), type := 180, pos := _, after := #[{ on := 7, ground := Go.Ground.data }], guard := none }) (v := ?vv39056) (by kernel_rfl) (by kernel_rfl) rfl (by kernel_rfl) (by kernel_rfl) (by kernel_rfl) (fun _ _ _ h => h) (Or.inl ⟨by rfl, ?hy39056⟩) (by assumption) ?tk39056
    case hy39056 => (intro w hSw; (try dsimp only at hSw); go_simp; (try with_reducible rfl))
    try simp only [Act.put, List.setIfInBounds_toArray, List.set_cons_zero, List.set_cons_succ]
    refine AnyL.take2 (i := 9) (oi := { dst := some 81, op := Go.Op.call { callee := Go.Callee.builtin Go.Builtin.len, args := #[Go.Operand.tmp 80], argTypes := #[180] }, type := 3, pos := _, after := #[{ on := 8, ground := Go.Ground.data }], guard := none }) (v := ?vv39057) (by kernel_rfl) (by kernel_rfl) rfl (by kernel_rfl) (by kernel_rfl) (by kernel_rfl) (fun _ _ _ h => h) (Or.inl ⟨by rfl, ?hy39057⟩) (by assumption) ?tk39057
    case hy39057 => (intro w hSw; (try dsimp only at hSw); go_simp; (try with_reducible rfl))
    try simp only [Act.put, List.setIfInBounds_toArray, List.set_cons_zero, List.set_cons_succ]
    refine AnyL.one (i := 10) (o := { dst := some 82, op := Go.Op.call { callee := Go.Callee.builtin Go.Builtin.append, args := #[Go.Operand.tmp 76, Go.Operand.tmp 81], argTypes := #[80, 3] }, type := 80, pos := _, after := #[{ on := 4, ground := Go.Ground.data }, { on := 9, ground := Go.Ground.data }], guard := none }) (by kernel_rfl) rfl rfl (fun K' hK' => ?_)
    refine ite_take (by rfl) ?_
    obtain ⟨p7, c7, w7, hrun7, own7, grow7, hp7⟩ := append_zeros (n := n1) (m := 2) (w := we.drew) (base := 0) ownp (by omega) (by omega) (Nat.zero_le _) 80
    refine Go.Lib.wp_append_run _ (.tmp 76) (.tmp 81) 80 3 rfl _ _ rfl rfl _ _ hrun7 ?_
    have x1 := grow7.cell (a := ⟨Q.E, 14, none⟩) hHeld.1 hrE
    have x2 := grow7.cell (a := ⟨p.P, 3, none⟩) hHeld.2 hrP
    have xf : ∀ o, w7.frozen? ⟨Q.E, o, none⟩ = false := fun o => (World.frozen?_of_block (a := ⟨Q.E, o, none⟩) (grow7.block Q.E hEe hrE)).trans (efe o)
    have HX7 := hideIt (And.intro own7 (And.intro grow7 hp7))
    clear own7 grow7 hrun7 hp7
    clear hHeld
    refine hK'.out _ _ ⟨x1, x2⟩ (fun hHeld => ?_)
    clear hK' K'
    try simp only [Act.put, List.setIfInBounds_toArray, List.set_cons_zero, List.set_cons_succ]
    refine AnyL.take2 (i := 11) (oi := { dst := some 83, op := Go.Op.nilCheck (Go.Operand.tmp 72), type := 0, pos := _, after := #[{ on := 0, ground := Go.Ground.data }, { on := 0, ground := Go.Ground.phase }, { on := 1, ground := Go.Ground.phase }, { on := 2, ground := Go.Ground.phase }, { on := 3, ground := Go.Ground.phase }, { on := 4, ground := Go.Ground.phase }, { on := 5, ground := Go.Ground.phase }, { on := 6, ground := Go.Ground.phase }, { on := 7, ground := Go.Ground.phase }, { on := 8, ground := Go.Ground.phase }, { on := 9, ground := Go.Ground.phase }, { on := 10, ground := Go.Ground.phase }], guard := none }) (v := ?vv39058) (by kernel_rfl) (by kernel_rfl) rfl (by kernel_rfl) (by kernel_rfl) (by kernel_rfl) (fun _ _ _ h => h) (Or.inl ⟨by rfl, ?hy39058⟩) (by assumption) ?tk39058
    case hy39058 => (intro w hSw; (try dsimp only at hSw); go_simp; (try with_reducible rfl))
    try simp only [Act.put, List.setIfInBounds_toArray, List.set_cons_zero, List.set_cons_succ]
    refine AnyL.take2 (i := 12) (oi := { dst := some 84, op := Go.Op.fieldAddr 86 (Go.Operand.tmp 83) 9, type := 0, pos := _, after := #[{ on := 11, ground := Go.Ground.data }, { on := 0, ground := Go.Ground.phase }, { on := 1, ground := Go.Ground.phase }, { on := 2, ground := Go.Ground.phase }, { on := 3, ground := Go.Ground.phase }, { on := 4, ground := Go.Ground.phase }, { on := 5, ground := Go.Ground.phase }, { on := 6, ground := Go.Ground.phase }, { on := 7, ground := Go.Ground.phase }, { on := 8, ground := Go.Ground.phase }, { on := 9, ground := Go.Ground.phase }, { on := 10, ground := Go.Ground.phase }], guard := none }) (v := ?vv39059) (by kernel_rfl) (by kernel_rfl) rfl (by kernel_rfl) (by kernel_rfl) (by kernel_rfl) (fun _ _ _ h => h) (Or.inl ⟨by rfl, ?hy39059⟩) (by assumption) ?tk39059
    case hy39059 => (intro w hSw; (try dsimp only at hSw); go_simp; (try with_reducible rfl))
    try simp only [Act.put, List.setIfInBounds_toArray, List.set_cons_zero, List.set_cons_succ]
    refine AnyL.last (o := { dst := none, op := Go.Op.store 80 (Go.Operand.tmp 84) (Go.Operand.tmp 82), type := 0, pos := _, after := #[{ on := 12, ground := Go.Ground.data }, { on := 10, ground := Go.Ground.data }, { on := 10, ground := Go.Ground.chain }, { on := 0, ground := Go.Ground.phase }, { on := 1, ground := Go.Ground.phase }, { on := 2, ground := Go.Ground.phase }, { on := 3, ground := Go.Ground.phase }, { on := 4, ground := Go.Ground.phase }, { on := 5, ground := Go.Ground.phase }, { on := 6, ground := Go.Ground.phase }, { on := 7, ground := Go.Ground.phase }, { on := 8, ground := Go.Ground.phase }, { on := 9, ground := Go.Ground.phase }, { on := 10, ground := Go.Ground.phase }], guard := none }) (by kernel_rfl) rfl (by kernel_rfl) (fun K' hK' => ?_)
    go_simp
    clear hHeld
    refine hK'.out _ _ ?_
    clear hK' K'
    try simp only [Act.put, List.setIfInBounds_toArray, List.set_cons_zero, List.set_cons_succ]
    obtain ⟨X4, C4, e418, IO4, hr4, e416, hn1⟩ := HX4.out
    obtain ⟨own7, grow7, hp7⟩ := HX7.out
    have W7 : Ws (fun q => x4.pr.ownBlock = some q) we w7 := ((Ws.refl _ we).drew).grow grow7 (fun q hq => .inl (by rw [hr4]; exact hq))
    have hv7 : ∀ q, (Value.slice p7 (n1 + 2) c7).ownBlock = some q → x4.pr.ownBlock = some q ∨ we.heap.size ≤ q := fun q hq => by
      rcases hp7 with z | z
      · rw [z] at hq
        exact .inl (by rw [hr4]; exact hq)
      · rw [z] at hq
        have z2 : we.heap.size = q := Option.some.inj hq
        exact .inr (by omega)
    obtain ⟨x5, X5, C5, e518, IO5, hr5, hn5, e516⟩ : ∃ x5, RAt (w7.setCell ⟨Q.E, 14, none⟩ (.slice p7 (n1 + 2) c7)) Q x5 ∧ Cn x x5 ∧ x5.c 18 = .int .i64 a' ∧ InsOut x.s x5.s x.d x5.d x.r true ∧ x5.pr = .slice p7 (n1 + 2) c7 ∧ x5.prn = n1 + 2 ∧ x5.c 16 = x.c 16 := ⟨_, X4.put_pr own7 hv7 W7, C4.trans ⟨fun k h _ _ _ => updV_other x4.c (.slice p7 (n1 + 2) c7) h, rfl, rfl, rfl, rfl⟩, (updV_other x4.c (.slice p7 (n1 + 2) c7) (show (18 : Nat) ≠ 14 by omega)).trans e418, IO4, rfl, rfl, (updV_other x4.c (.slice p7 (n1 + 2) c7) (show (16 : Nat) ≠ 14 by omega)).trans e416⟩
    clear X4 C4 e418 IO4 hr4 e416 HX4 HX7 own7 grow7 hp7 W7 hv7 a14 aP3 efe hEe hrE hrP ownp x1 x2 xf
    obtain ⟨gz, cz, ep, hcz, _, hgzl, hzc, hzf⟩ := own_full (hn5 ▸ X5.pf) (by omega)
    rw [hr5] at ep
    simp only [Value.slice.injEq] at ep
    obtain ⟨e1, _, e2⟩ := ep
    subst e1
    replace e2 := e2.symm
    subst e2
    clear hgzl hzc hzf
    obtain ⟨n3, hn3⟩ : ∃ n3, n1 + 2 = n3 := ⟨_, rfl⟩
    rw [hn3] at X5 hr5 hn5 ⊢
    generalize w7.setCell ⟨Q.E, 14, none⟩ (.slice (some ⟨gz, 0, none⟩) n3 cz) = w8 at *
    have aP3 := X5.cell sP HS.out.P3
    have HX5 := hideIt (And.intro X5 (And.intro C5 (And.intro e518 (And.intro IO5 (And.intro hr5 (And.intro hn5 e516))))))
    have HNN := hideIt (And.intro hn1 hn3)
    clear X5 C5 e518 IO5 hr5 hn5 e516 hn1 hn3
    go_wp2_with fail
    go_loopg [90] 2 (fun gg v wr => ∃ (i : Nat) (y : RX), i + gg = 2 ∧ v = .int .i64 (i : Int) ∧ RAt wr Q y ∧ Cn x y ∧ y.c 18 = .int .i64 a' ∧ InsOut x.s y.s x.d y.d x.r true ∧ y.pr = .slice (some ⟨gz, 0, none⟩) n3 cz ∧ y.prn = n3 ∧ y.c 16 = x.c 16)
    case atStart => exact ⟨0, x5, by omega, rfl, HX5.out⟩
    case round =>
      clear aP3
      obtain ⟨i, y, hi, rfl, Y, C, f18, io5, hr, hn, f16⟩ := hrel
      by_cases hin : i < 2
      · have i0 : (0 : Int) ≤ i := by omega
        have i1 : (i : Int) < 2 := by omega
        obtain ⟨xx, hx⟩ : ∃ xx, n1 + i = xx := ⟨_, rfl⟩
        obtain ⟨hn1, hn3⟩ := HNN.out
        have z0 : (0 : Int) ≤ xx := by omega
        have z1 : (xx : Int) < (n3 : Int) := by omega
        have hwa : IntKind.i64.wrap ((n : Int) + 1) = (n1 : Int) := by rw [IntKind.wrap_i64]; omega
        have hwb : IntKind.i64.wrap ((n1 : Int) + (i : Int)) = (xx : Int) := by rw [IntKind.wrap_i64]; omega
        have y1 := Y.e.get (Y.c14.trans hr) (by omega)
        have y2 := Y.cell sP HS.out.P3
        have y3 : wr.cell? ⟨p.gs, i * 8 + 1, none⟩ = some (.int .i64 (i : Int)) := by
          rcases (by omega : i = 0 ∨ i = 1) with e | e
          · subst e; exact Y.cell sgs HS.out.s1
          · subst e; exact Y.cell sgs HS.out.s9
        have y4 := Y.e.get Y.c22 (by omega)
        obtain ⟨ai, y5⟩ : ∃ ai, wr.cell? ⟨Q.GC, i * 6 + 4, none⟩ = some (.int .i64 ai) := by
          rcases (by omega : i = 0 ∨ i = 1) with e | e
          · subst e
            obtain ⟨a, h4⟩ := h4
            exact ⟨a, (Y.cu 4 (by omega)).trans (congrArg some ((congrFun C.cu 4).trans h4))⟩
          · subst e
            obtain ⟨a, h4⟩ := h10
            exact ⟨a, (Y.cu 10 (by omega)).trans (congrArg some ((congrFun C.cu 10).trans h4))⟩
        obtain ⟨gz2, cz2, ep, hcz2, _, hgzl, hzc, hzf⟩ := own_full (hn ▸ Y.pf) (by omega)
        rw [hr] at ep
        simp only [Value.slice.injEq, Option.some.injEq, Addr.mk.injEq, true_and, and_true] at ep
        obtain ⟨e1, e2⟩ := ep
        subst e1
        subst e2
        obtain ⟨uz, z2⟩ : ∃ uz, wr.cell? ⟨gz, xx, none⟩ = some uz := by
          have hl := Y.pf.1
          rw [hn] at hl
          refine ⟨y.prx[xx]'(by omega), ?_⟩
          rw [hzc xx (by omega)]
          exact List.getElem?_eq_getElem _
        have zf := hzf
        have HY := hideIt (And.intro Y (And.intro C (And.intro f18 (And.intro io5 (And.intro hr (And.intro hn f16))))))
        clear Y C f18 io5 hr hn f16 hx hn1 hn3 hgzl hzc hzf hcz2
        go_upto_region 11 with fail
        refine wp_region_l (l := 25) (S := (fun w' => w'.cell? ⟨Q.E, 14, none⟩ = some (.slice (some ⟨gz, 0, none⟩) n3 cz) ∧ w'.cell? ⟨p.P, 3, none⟩ = some (.slice (some ⟨p.gs, 0, none⟩) 2 p.cs) ∧ w'.cell? ⟨p.gs, i * 8 + 1, none⟩ = some (.int .i64 (i : Int)) ∧ w'.cell? ⟨Q.E, 22, none⟩ = some (.slice (some ⟨Q.GC, 0, none⟩) 2 2) ∧ w'.cell? ⟨Q.GC, i * 6 + 4, none⟩ = some (.int .i64 ai))) (by kernel_rfl) ⟨y1, y2, y3, y4, y5⟩ (fun hHeld => ?_)
        refine AnyL.take2 (i := 0) (oi := { dst := some 93, op := Go.Op.move (Go.Operand.tmp 0), type := 58, pos := _, after := #[], guard := none }) (v := ?vv39060) (by kernel_rfl) (by kernel_rfl) rfl (by kernel_rfl) (by kernel_rfl) (by kernel_rfl) (fun _ _ _ h => h) (Or.inl ⟨by rfl, ?hy39060⟩) (by assumption) ?tk39060
        case hy39060 => (intro w hSw; (try dsimp only at hSw); go_simp; (try with_reducible rfl))
        try simp only [Act.put, List.setIfInBounds_toArray, List.set_cons_zero, List.set_cons_succ]
        refine AnyL.take2 (i := 1) (oi := { dst := some 94, op := Go.Op.nilCheck (Go.Operand.tmp 93), type := 0, pos := _, after := #[{ on := 0, ground := Go.Ground.data }], guard := none }) (v := ?vv39061) (by kernel_rfl) (by kernel_rfl) rfl (by kernel_rfl) (by kernel_rfl) (by kernel_rfl) (fun _ _ _ h => h) (Or.inl ⟨by rfl, ?hy39061⟩) (by assumption) ?tk39061
        case hy39061 => (intro w hSw; (try dsimp only at hSw); go_simp; (try with_reducible rfl))
        try simp only [Act.put, List.setIfInBounds_toArray, List.set_cons_zero, List.set_cons_succ]
        refine AnyL.take2 (i := 2) (oi := { dst := some 95, op := Go.Op.fieldAddr 86 (Go.Operand.tmp 94) 9, type := 0, pos := _, after := #[{ on := 1, ground := Go.Ground.data }], guard := none }) (v := ?vv39062) (by kernel_rfl) (by kernel_rfl) rfl (by kernel_rfl) (by kernel_rfl) (by kernel_rfl) (fun _ _ _ h => h) (Or.inl ⟨by rfl, ?hy39062⟩) (by assumption) ?tk39062
        case hy39062 => (intro w hSw; (try dsimp only at hSw); go_simp; (try with_reducible rfl))
        try simp only [Act.put, List.setIfInBounds_toArray, List.set_cons_zero, List.set_cons_succ]
        refine AnyL.take2 (i := 3) (oi := { dst := some 96, op := Go.Op.load 80 (Go.Operand.tmp 95), type := 80, pos := _, after := #[{ on := 2, ground := Go.Ground.data }], guard := none }) (v := ?vv39063) (by kernel_rfl) (by kernel_rfl) rfl (by kernel_rfl) (by kernel_rfl) (by kernel_rfl) (fun _ _ _ h => h) (Or.inl ⟨by rfl, ?hy39063⟩) (by assumption) ?tk39063
        case hy39063 => (intro w hSw; (try dsimp only at hSw); go_simp; (try with_reducible rfl))
        try simp only [Act.put, List.setIfInBounds_toArray, List.set_cons_zero, List.set_cons_succ]
        refine AnyL.take2 (i := 4) (oi := { dst := some 97, op := Go.Op.move (Go.Operand.tmp 5), type := 3, pos := _, after := #[], guard := none }) (v := ?vv39064) (by kernel_rfl) (by kernel_rfl) rfl (by kernel_rfl) (by kernel_rfl) (by kernel_rfl) (fun _ _ _ h => h) (Or.inl ⟨by rfl, ?hy39064⟩) (by assumption) ?tk39064
        case hy39064 => (intro w hSw; (try dsimp only at hSw); go_simp; (try with_reducible rfl))
        try simp only [Act.put, List.setIfInBounds_toArray, List.set_cons_zero, List.set_cons_succ]
        refine AnyL.take2 (i := 5) (oi := { dst := some 98, op := Go.Op.binOp Go.BinOp.add 3 (Go.Operand.tmp 97) (Go.Operand.const (Go.Value.int Go.IntKind.i64 1)) 3, type := 3, pos := _, after := #[{ on := 4, ground := Go.Ground.data }], guard := none }) (v := ?vv39065) (by kernel_rfl) (by kernel_rfl) rfl (by kernel_rfl) (by kernel_rfl) (by kernel_rfl) (fun _ _ _ h => h) (Or.inl ⟨by rfl, ?hy39065⟩) (by assumption) ?tk39065
        case hy39065 => (intro w hSw; (try dsimp only at hSw); go_simp; (try with_reducible rfl))
        try simp only [Act.put, List.setIfInBounds_toArray, List.set_cons_zero, List.set_cons_succ]
        refine AnyL.take2 (i := 6) (oi := { dst := some 99, op := Go.Op.move (Go.Operand.tmp 1), type := 166, pos := _, after := #[], guard := none }) (v := ?vv39066) (by kernel_rfl) (by kernel_rfl) rfl (by kernel_rfl) (by kernel_rfl) (by kernel_rfl) (fun _ _ _ h => h) (Or.inl ⟨by rfl, ?hy39066⟩) (by assumption) ?tk39066
        case hy39066 => (intro w hSw; (try dsimp only at hSw); go_simp; (try with_reducible rfl))
        try simp only [Act.put, List.setIfInBounds_toArray, List.set_cons_zero, List.set_cons_succ]
        refine AnyL.take2 (i := 7) (oi := { dst := some 100, op := Go.Op.nilCheck (Go.Operand.tmp 99), type := 0, pos := _, after := #[{ on := 6, ground := Go.Ground.data }], guard := none }) (v := ?vv39067) (by kernel_rfl) (by kernel_rfl) rfl (by kernel_rfl) (by kernel_rfl) (by kernel_rfl) (fun _ _ _ h => h) (Or.inl ⟨by rfl, ?hy39067⟩) (by assumption) ?tk39067
        case hy39067 => (intro w hSw; (try dsimp only at hSw); go_simp; (try with_reducible rfl))
        try simp only [Act.put, List.setIfInBounds_toArray, List.set_cons_zero, List.set_cons_succ]
        refine AnyL.take2 (i := 8) (oi := { dst := some 101, op := Go.Op.fieldAddr 182 (Go.Operand.tmp 100) 3, type := 0, pos := _, after := #[{ on := 7, ground := Go.Ground.data }], guard := none }) (v := ?vv39068) (by kernel_rfl) (by kernel_rfl) rfl (by kernel_rfl) (by kernel_rfl) (by kernel_rfl) (fun _ _ _ h => h) (Or.inl ⟨by rfl, ?hy39068⟩) (by assumption) ?tk39068
        case hy39068 => (intro w hSw; (try dsimp only at hSw); go_simp; (try with_reducible rfl))
        try simp only [Act.put, List.setIfInBounds_toArray, List.set_cons_zero, List.set_cons_succ]
        refine AnyL.take2 (i := 9) (oi := { dst := some 102, op := Go.Op.load 180 (Go.Operand.tmp 101), type := 180, pos := _, after := #[{ on := 8, ground := Go.Ground.data }], guard := none }) (v := ?vv39069) (by kernel_rfl) (by kernel_rfl) rfl (by kernel_rfl) (by kernel_rfl) (by kernel_rfl) (fun _ _ _ h => h) (Or.inl ⟨by rfl, ?hy39069⟩) (by assumption) ?tk39069
        case hy39069 => (intro w hSw; (try dsimp only at hSw); go_simp; (try with_reducible rfl))
        try simp only [Act.put, List.setIfInBounds_toArray, List.set_cons_zero, List.set_cons_succ]
        refine AnyL.take2 (i := 10) (oi := { dst := some 103, op := Go.Op.move (Go.Operand.tmp 6), type := 3, pos := _, after := #[], guard := none }) (v := ?vv39070) (by kernel_rfl) (by kernel_rfl) rfl (by kernel_rfl) (by kernel_rfl) (by kernel_rfl) (fun _ _ _ h => h) (Or.inl ⟨by rfl, ?hy39070⟩) (by assumption) ?tk39070
        case hy39070 => (intro w hSw; (try dsimp only at hSw); go_simp; (try with_reducible rfl))
        try simp only [Act.put, List.setIfInBounds_toArray, List.set_cons_zero, List.set_cons_succ]
        refine AnyL.take2 (i := 11) (oi := { dst := some 104, op := Go.Op.indexAddr 180 (Go.Operand.tmp 102) (Go.Operand.tmp 103), type := 0, pos := _, after := #[{ on := 9, ground := Go.Ground.data }, { on := 10, ground := Go.Ground.data }], guard := none }) (v := ?vv39071) (by kernel_rfl) (by kernel_rfl) rfl (by kernel_rfl) (by kernel_rfl) (by kernel_rfl) (fun _ _ _ h => h) (Or.inl ⟨by rfl, ?hy39071⟩) (by assumption) ?tk39071
        case hy39071 => (intro w hSw; (try dsimp only at hSw); go_simp; (try with_reducible rfl))
        try simp only [Act.put, List.setIfInBounds_toArray, List.set_cons_zero, List.set_cons_succ]
        refine AnyL.take2 (i := 12) (oi := { dst := some 105, op := Go.Op.fieldAddr 191 (Go.Operand.tmp 104) 1, type := 0, pos := _, after := #[{ on := 11, ground := Go.Ground.data }], guard := none }) (v := ?vv39072) (by kernel_rfl) (by kernel_rfl) rfl (by kernel_rfl) (by kernel_rfl) (by kernel_rfl) (fun _ _ _ h => h) (Or.inl ⟨by rfl, ?hy39072⟩) (by assumption) ?tk39072
        case hy39072 => (intro w hSw; (try dsimp only at hSw); go_simp; (try with_reducible rfl))
        try simp only [Act.put, List.setIfInBounds_toArray, List.set_cons_zero, List.set_cons_succ]
        refine AnyL.take2 (i := 13) (oi := { dst := some 106, op := Go.Op.load 3 (Go.Operand.tmp 105), type := 3, pos := _, after := #[{ on := 12, ground := Go.Ground.data }], guard := none }) (v := ?vv39073) (by kernel_rfl) (by kernel_rfl) rfl (by kernel_rfl) (by kernel_rfl) (by kernel_rfl) (fun _ _ _ h => h) (Or.inl ⟨by rfl, ?hy39073⟩) (by assumption) ?tk39073
        case hy39073 => (intro w hSw; (try dsimp only at hSw); go_simp; (try with_reducible rfl))
        try simp only [Act.put, List.setIfInBounds_toArray, List.set_cons_zero, List.set_cons_succ]
        refine AnyL.take2 (i := 14) (oi := { dst := some 107, op := Go.Op.binOp Go.BinOp.add 3 (Go.Operand.tmp 98) (Go.Operand.tmp 106) 3, type := 3, pos := _, after := #[{ on := 5, ground := Go.Ground.data }, { on := 13, ground := Go.Ground.data }], guard := none }) (v := ?vv39074) (by kernel_rfl) (by kernel_rfl) rfl (by kernel_rfl) (by kernel_rfl) (by kernel_rfl) (fun _ _ _ h => h) (Or.inl ⟨by rfl, ?hy39074⟩) (by assumption) ?tk39074
        case hy39074 => (intro w hSw; (try dsimp only at hSw); go_simp; (try with_reducible rfl))
        try simp only [Act.put, List.setIfInBounds_toArray, List.set_cons_zero, List.set_cons_succ]
        refine AnyL.take2 (i := 15) (oi := { dst := some 108, op := Go.Op.move (Go.Operand.tmp 0), type := 58, pos := _, after := #[], guard := none }) (v := ?vv39075) (by kernel_rfl) (by kernel_rfl) rfl (by kernel_rfl) (by kernel_rfl) (by kernel_rfl) (fun _ _ _ h => h) (Or.inl ⟨by rfl, ?hy39075⟩) (by assumption) ?tk39075
        case hy39075 => (intro w hSw; (try dsimp only at hSw); go_simp; (try with_reducible rfl))
        try simp only [Act.put, List.setIfInBounds_toArray, List.set_cons_zero, List.set_cons_succ]
        refine AnyL.take2 (i := 16) (oi := { dst := some 109, op := Go.Op.nilCheck (Go.Operand.tmp 108), type := 0, pos := _, after := #[{ on := 15, ground := Go.Ground.data }], guard := none }) (v := ?vv39076) (by kernel_rfl) (by kernel_rfl) rfl (by kernel_rfl) (by kernel_rfl) (by kernel_rfl) (fun _ _ _ h => h) (Or.inl ⟨by rfl, ?hy39076⟩) (by assumption) ?tk39076
        case hy39076 => (intro w hSw; (try dsimp only at hSw); go_simp; (try with_reducible rfl))
        try simp only [Act.put, List.setIfInBounds_toArray, List.set_cons_zero, List.set_cons_succ]
        refine AnyL.take2 (i := 17) (oi := { dst := some 110, op := Go.Op.fieldAddr 86 (Go.Operand.tmp 109) 12, type := 0, pos := _, after := #[{ on := 16, ground := Go.Ground.data }], guard := none }) (v := ?vv39077) (by kernel_rfl) (by kernel_rfl) rfl (by kernel_rfl) (by kernel_rfl) (by kernel_rfl) (fun _ _ _ h => h) (Or.inl ⟨by rfl, ?hy39077⟩) (by assumption) ?tk39077
        case hy39077 => (intro w hSw; (try dsimp only at hSw); go_simp; (try with_reducible rfl))
        try simp only [Act.put, List.setIfInBounds_toArray, List.set_cons_zero, List.set_cons_succ]
        refine AnyL.take2 (i := 18) (oi := { dst := some 111, op := Go.Op.load 84 (Go.Operand.tmp 110), type := 84, pos := _, after := #[{ on := 17, ground := Go.Ground.data }], guard := none }) (v := ?vv39078) (by kernel_rfl) (by kernel_rfl) rfl (by kernel_rfl) (by kernel_rfl) (by kernel_rfl) (fun _ _ _ h => h) (Or.inl ⟨by rfl, ?hy39078⟩) (by assumption) ?tk39078
        case hy39078 => (intro w hSw; (try dsimp only at hSw); go_simp; (try with_reducible rfl))
        try simp only [Act.put, List.setIfInBounds_toArray, List.set_cons_zero, List.set_cons_succ]
        refine AnyL.take2 (i := 19) (oi := { dst := some 112, op := Go.Op.move (Go.Operand.tmp 6), type := 3, pos := _, after := #[], guard := none }) (v := ?vv39079) (by kernel_rfl) (by kernel_rfl) rfl (by kernel_rfl) (by kernel_rfl) (by kernel_rfl) (fun _ _ _ h => h) (Or.inl ⟨by rfl, ?hy39079⟩) (by assumption) ?tk39079
        case hy39079 => (intro w hSw; (try dsimp only at hSw); go_simp; (try with_reducible rfl))
        try simp only [Act.put, List.setIfInBounds_toArray, List.set_cons_zero, List.set_cons_succ]
        refine AnyL.take2 (i := 20) (oi := { dst := some 113, op := Go.Op.indexAddr 84 (Go.Operand.tmp 111) (Go.Operand.tmp 112), type := 0, pos := _, after := #[{ on := 18, ground := Go.Ground.data }, { on := 19, ground := Go.Ground.data }], guard := none }) (v := ?vv39080) (by kernel_rfl) (by kernel_rfl) rfl (by kernel_rfl) (by kernel_rfl) (by kernel_rfl) (fun _ _ _ h => h) (Or.inl ⟨by rfl, ?hy39080⟩) (by assumption) ?tk39080
        case hy39080 => (intro w hSw; (try dsimp only at hSw); go_simp; (try with_reducible rfl))
        try simp only [Act.put, List.setIfInBounds_toArray, List.set_cons_zero, List.set_cons_succ]
        refine AnyL.take2 (i := 21) (oi := { dst := some 114, op := Go.Op.fieldAddr 112 (Go.Operand.tmp 113) 4, type := 0, pos := _, after := #[{ on := 20, ground := Go.Ground.data }], guard := none }) (v := ?vv39081) (by kernel_rfl) (by kernel_rfl) rfl (by kernel_rfl) (by kernel_rfl) (by kernel_rfl) (fun _ _ _ h => h) (Or.inl ⟨by rfl, ?hy39081⟩) (by assumption) ?tk39081
        case hy39081 => (intro w hSw; (try dsimp only at hSw); go_simp; (try with_reducible rfl))
        try simp only [Act.put, List.setIfInBounds_toArray, List.set_cons_zero, List.set_cons_succ]
        refine AnyL.take2 (i := 22) (oi := { dst := some 115, op := Go.Op.load 3 (Go.Operand.tmp 114), type := 3, pos := _, after := #[{ on := 21, ground := Go.Ground.data }], guard := none }) (v := ?vv39082) (by kernel_rfl) (by kernel_rfl) rfl (by kernel_rfl) (by kernel_rfl) (by kernel_rfl) (fun _ _ _ h => h) (Or.inl ⟨by rfl, ?hy39082⟩) (by assumption) ?tk39082
        case hy39082 => (intro w hSw; (try dsimp only at hSw); go_simp; (try with_reducible rfl))
        try simp only [Act.put, List.setIfInBounds_toArray, List.set_cons_zero, List.set_cons_succ]
        refine AnyL.take2 (i := 23) (oi := { dst := some 116, op := Go.Op.convert 3 21 (Go.Operand.tmp 115), type := 21, pos := _, after := #[{ on := 22, ground := Go.Ground.data }], guard := none }) (v := ?vv39083) (by kernel_rfl) (by kernel_rfl) rfl (by kernel_rfl) (by kernel_rfl) (by kernel_rfl) (fun _ _ _ h => h) (Or.inl ⟨by rfl, ?hy39083⟩) (by assumption) ?tk39083
        case hy39083 => (intro w hSw; (try dsimp only at hSw); go_simp; (try with_reducible rfl))
        try simp only [Act.put, List.setIfInBounds_toArray, List.set_cons_zero, List.set_cons_succ]
        refine AnyL.take2 (i := 24) (oi := { dst := some 117, op := Go.Op.indexAddr 80 (Go.Operand.tmp 96) (Go.Operand.tmp 107), type := 0, pos := _, after := #[{ on := 3, ground := Go.Ground.data }, { on := 14, ground := Go.Ground.data }, { on := 0, ground := Go.Ground.phase }, { on := 1, ground := Go.Ground.phase }, { on := 2, ground := Go.Ground.phase }, { on := 3, ground := Go.Ground.phase }, { on := 4, ground := Go.Ground.phase }, { on := 5, ground := Go.Ground.phase }, { on := 6, ground := Go.Ground.phase }, { on := 7, ground := Go.Ground.phase }, { on := 8, ground := Go.Ground.phase }, { on := 9, ground := Go.Ground.phase }, { on := 10, ground := Go.Ground.phase }, { on := 11, ground := Go.Ground.phase }, { on := 12, ground := Go.Ground.phase }, { on := 13, ground := Go.Ground.phase }, { on := 14, ground := Go.Ground.phase }, { on := 15, ground := Go.Ground.phase }, { on := 16, ground := Go.Ground.phase }, { on := 17, ground := Go.Ground.phase }, { on := 18, ground := Go.Ground.phase }, { on := 19, ground := Go.Ground.phase }, { on := 20, ground := Go.Ground.phase }, { on := 21, ground := Go.Ground.phase }, { on := 22, ground := Go.Ground.phase }, { on := 23, ground := Go.Ground.phase }], guard := none }) (v := ?vv39084) (by kernel_rfl) (by kernel_rfl) rfl (by kernel_rfl) (by kernel_rfl) (by kernel_rfl) (fun _ _ _ h => h) (Or.inl ⟨by rfl, ?hy39084⟩) (by assumption) ?tk39084
        case hy39084 => (intro w hSw; (try dsimp only at hSw); go_simp; (try with_reducible rfl))
        try simp only [Act.put, List.setIfInBounds_toArray, List.set_cons_zero, List.set_cons_succ]
        refine AnyL.last (o := { dst := none, op := Go.Op.store 21 (Go.Operand.tmp 117) (Go.Operand.tmp 116), type := 0, pos := _, after := #[{ on := 24, ground := Go.Ground.data }, { on := 23, ground := Go.Ground.data }, { on := 0, ground := Go.Ground.phase }, { on := 1, ground := Go.Ground.phase }, { on := 2, ground := Go.Ground.phase }, { on := 3, ground := Go.Ground.phase }, { on := 4, ground := Go.Ground.phase }, { on := 5, ground := Go.Ground.phase }, { on := 6, ground := Go.Ground.phase }, { on := 7, ground := Go.Ground.phase }, { on := 8, ground := Go.Ground.phase }, { on := 9, ground := Go.Ground.phase }, { on := 10, ground := Go.Ground.phase }, { on := 11, ground := Go.Ground.phase }, { on := 12, ground := Go.Ground.phase }, { on := 13, ground := Go.Ground.phase }, { on := 14, ground := Go.Ground.phase }, { on := 15, ground := Go.Ground.phase }, { on := 16, ground := Go.Ground.phase }, { on := 17, ground := Go.Ground.phase }, { on := 18, ground := Go.Ground.phase }, { on := 19, ground := Go.Ground.phase }, { on := 20, ground := Go.Ground.phase }, { on := 21, ground := Go.Ground.phase }, { on := 22, ground := Go.Ground.phase }, { on := 23, ground := Go.Ground.phase }], guard := none }) (by kernel_rfl) rfl (by kernel_rfl) (fun K' hK' => ?_)
        go_simp
        clear hHeld
        refine hK'.out _ _ ?_
        clear hK' K'
        try simp only [Act.put, List.setIfInBounds_toArray, List.set_cons_zero, List.set_cons_succ]
        go_wp2
        obtain ⟨Y, C, f18, io5, hr, hn, f16⟩ := HY.out
        obtain ⟨xs', Y'⟩ := Y.put_prc (g := gz) (c := cz) (j := xx) (by rw [hr, hn]) (.int .i32 (wrap32 ai))
        go_roundg (2 - (i + 1))
        case measure => omega
        case rel => exact ⟨i + 1, _, by omega, by go_num, Y'.drew, ⟨C.c, C.cu, C.r, C.kn, C.kx⟩, f18, io5, hr, hn, f16⟩
      · have i1 : ¬ ((i : Int) < 2) := by omega
        obtain ⟨T1, hT1⟩ : ∃ T1, T + 1 = T1 := ⟨_, rfl⟩
        have hwT : IntKind.i64.wrap ((T : Int) + 1) = (T1 : Int) := by rw [IntKind.wrap_i64]; omega
        have g16 := Y.e.get (f16.trans c16) (by omega)
        have ff := Y.e.fz
        have HY := hideIt (And.intro Y (And.intro C (And.intro f18 (And.intro io5 (And.intro hr (And.intro hn f16))))))
        have HT := hideIt hT1
        clear Y C f18 io5 hr hn f16 hT1
        go_upto_region 14 with fail
        obtain ⟨Y, C, f18, io5, hr, hn, f16⟩ := HY.out
        obtain ⟨z, Z, CZ, z18, IOZ, hnz, z16⟩ : ∃ z, RAt (wr.setCell ⟨Q.E, 16, none⟩ (.int .i64 (T1 : Int))) Q z ∧ Cn x z ∧ z.c 18 = .int .i64 a' ∧ InsOut x.s z.s x.d z.d x.r true ∧ z.prn = n3 ∧ z.c 16 = .int .i64 (T1 : Int) := ⟨_, Y.put_c (k := 16) (by omega) (.int .i64 (T1 : Int)) (by omega) (by omega) (by omega) (by omega), C.trans ⟨fun k _ h _ _ => updV_other y.c (.int .i64 (T1 : Int)) h, rfl, rfl, rfl, rfl⟩, (updV_other y.c (.int .i64 (T1 : Int)) (show (18 : Nat) ≠ 16 by omega)).trans f18, io5, hn, updV_same y.c 16 (.int .i64 (T1 : Int))⟩
        clear Y C f18 io5 hr hn f16 HY g16 ff
        generalize wr.setCell ⟨Q.E, 16, none⟩ (.int .i64 (T1 : Int)) = w9 at *
        have b16 := Z.e.get z16 (by omega)
        have b0 := Z.e.get ((CZ.c 0 (by omega) (by omega) (by omega) (by omega)).trans c0) (by omega)
        have HZ := hideIt (And.intro Z (And.intro CZ (And.intro z18 (And.intro IOZ (And.intro hnz z16)))))
        clear Z CZ z18 IOZ hnz z16
        refine wp_region_held_drew (S := (fun w' => w'.cell? ⟨Q.E, 16, none⟩ = some (.int .i64 (T1 : Int)) ∧ w'.cell? ⟨Q.E, 0, none⟩ = some (.int .i64 (B : Int)))) (by kernel_rfl) ⟨b16, b0⟩ (fun hHeld => ?_)
        refine wpAnyH_take (i := 0) (oi := { dst := some 128, op := Go.Op.move (Go.Operand.tmp 0), type := 58, pos := _, after := #[], guard := none }) (v := ?vv39085) rfl (by kernel_rfl) (by kernel_rfl) (by kernel_rfl) (fun _ _ _ h => h) (Or.inl ⟨by rfl, ?hy39085⟩) (by assumption) ?tk39085
        case hy39085 => (intro w hSw; (try dsimp only at hSw); go_simp; (try with_reducible rfl))
        try simp only [Act.put, List.setIfInBounds_toArray, List.set_cons_zero, List.set_cons_succ]
        refine wpAnyH_take (i := 1) (oi := { dst := some 129, op := Go.Op.nilCheck (Go.Operand.tmp 128), type := 0, pos := _, after := #[{ on := 0, ground := Go.Ground.data }], guard := none }) (v := ?vv39086) rfl (by kernel_rfl) (by kernel_rfl) (by kernel_rfl) (fun _ _ _ h => h) (Or.inl ⟨by rfl, ?hy39086⟩) (by assumption) ?tk39086
        case hy39086 => (intro w hSw; (try dsimp only at hSw); go_simp; (try with_reducible rfl))
        try simp only [Act.put, List.setIfInBounds_toArray, List.set_cons_zero, List.set_cons_succ]
        refine wpAnyH_take (i := 2) (oi := { dst := some 130, op := Go.Op.fieldAddr 86 (Go.Operand.tmp 129) 10, type := 0, pos := _, after := #[{ on := 1, ground := Go.Ground.data }], guard := none }) (v := ?vv39087) rfl (by kernel_rfl) (by kernel_rfl) (by kernel_rfl) (fun _ _ _ h => h) (Or.inl ⟨by rfl, ?hy39087⟩) (by assumption) ?tk39087
        case hy39087 => (intro w hSw; (try dsimp only at hSw); go_simp; (try with_reducible rfl))
        try simp only [Act.put, List.setIfInBounds_toArray, List.set_cons_zero, List.set_cons_succ]
        refine wpAnyH_take (i := 3) (oi := { dst := some 131, op := Go.Op.fieldAddr 82 (Go.Operand.tmp 130) 1, type := 0, pos := _, after := #[{ on := 2, ground := Go.Ground.data }], guard := none }) (v := ?vv39088) rfl (by kernel_rfl) (by kernel_rfl) (by kernel_rfl) (fun _ _ _ h => h) (Or.inl ⟨by rfl, ?hy39088⟩) (by assumption) ?tk39088
        case hy39088 => (intro w hSw; (try dsimp only at hSw); go_simp; (try with_reducible rfl))
        try simp only [Act.put, List.setIfInBounds_toArray, List.set_cons_zero, List.set_cons_succ]
        refine wpAnyH_take (i := 4) (oi := { dst := some 132, op := Go.Op.load 3 (Go.Operand.tmp 131), type := 3, pos := _, after := #[{ on := 3, ground := Go.Ground.data }], guard := none }) (v := ?vv39089) rfl (by kernel_rfl) (by kernel_rfl) (by kernel_rfl) (fun _ _ _ h => h) (Or.inl ⟨by rfl, ?hy39089⟩) (by assumption) ?tk39089
        case hy39089 => (intro w hSw; (try dsimp only at hSw); go_simp; (try with_reducible rfl))
        try simp only [Act.put, List.setIfInBounds_toArray, List.set_cons_zero, List.set_cons_succ]
        refine wpAnyH_take (i := 5) (oi := { dst := some 133, op := Go.Op.move (Go.Operand.tmp 0), type := 58, pos := _, after := #[], guard := none }) (v := ?vv39090) rfl (by kernel_rfl) (by kernel_rfl) (by kernel_rfl) (fun _ _ _ h => h) (Or.inl ⟨by rfl, ?hy39090⟩) (by assumption) ?tk39090
        case hy39090 => (intro w hSw; (try dsimp only at hSw); go_simp; (try with_reducible rfl))
        try simp only [Act.put, List.setIfInBounds_toArray, List.set_cons_zero, List.set_cons_succ]
        refine wpAnyH_take (i := 6) (oi := { dst := some 134, op := Go.Op.nilCheck (Go.Operand.tmp 133), type := 0, pos := _, after := #[{ on := 5, ground := Go.Ground.data }], guard := none }) (v := ?vv39091) rfl (by kernel_rfl) (by kernel_rfl) (by kernel_rfl) (fun _ _ _ h => h) (Or.inl ⟨by rfl, ?hy39091⟩) (by assumption) ?tk39091
        case hy39091 => (intro w hSw; (try dsimp only at hSw); go_simp; (try with_reducible rfl))
        try simp only [Act.put, List.setIfInBounds_toArray, List.set_cons_zero, List.set_cons_succ]
        refine wpAnyH_take (i := 7) (oi := { dst := some 135, op := Go.Op.fieldAddr 86 (Go.Operand.tmp 134) 0, type := 0, pos := _, after := #[{ on := 6, ground := Go.Ground.data }], guard := none }) (v := ?vv39092) rfl (by kernel_rfl) (by kernel_rfl) (by kernel_rfl) (fun _ _ _ h => h) (Or.inl ⟨by rfl, ?hy39092⟩) (by assumption) ?tk39092
        case hy39092 => (intro w hSw; (try dsimp only at hSw); go_simp; (try with_reducible rfl))
        try simp only [Act.put, List.setIfInBounds_toArray, List.set_cons_zero, List.set_cons_succ]
        refine wpAnyH_take (i := 8) (oi := { dst := some 136, op := Go.Op.fieldAddr 66 (Go.Operand.tmp 135) 0, type := 0, pos := _, after := #[{ on := 7, ground := Go.Ground.data }], guard := none }) (v := ?vv39093) rfl (by kernel_rfl) (by kernel_rfl) (by kernel_rfl) (fun _ _ _ h => h) (Or.inl ⟨by rfl, ?hy39093⟩) (by assumption) ?tk39093
        case hy39093 => (intro w hSw; (try dsimp only at hSw); go_simp; (try with_reducible rfl))
        try simp only [Act.put, List.setIfInBounds_toArray, List.set_cons_zero, List.set_cons_succ]
        refine wpAnyH_take (i := 9) (oi := { dst := some 137, op := Go.Op.load 3 (Go.Operand.tmp 136), type := 3, pos := _, after := #[{ on := 8, ground := Go.Ground.data }], guard := none }) (v := ?vv39094) rfl (by kernel_rfl) (by kernel_rfl) (by kernel_rfl) (fun _ _ _ h => h) (Or.inl ⟨by rfl, ?hy39094⟩) (by assumption) ?tk39094
        case hy39094 => (intro w hSw; (try dsimp only at hSw); go_simp; (try with_reducible rfl))
        try simp only [Act.put, List.setIfInBounds_toArray, List.set_cons_zero, List.set_cons_succ]
        refine wpAnyH_take (i := 10) (oi := { dst := some 138, op := Go.Op.binOp Go.BinOp.leq 3 (Go.Operand.tmp 132) (Go.Operand.tmp 137) 3, type := 4, pos := _, after := #[{ on := 4, ground := Go.Ground.data }, { on := 9, ground := Go.Ground.data }], guard := none }) (v := ?vv39095) rfl (by kernel_rfl) (by kernel_rfl) (by kernel_rfl) (fun _ _ _ h => h) (Or.inl ⟨by rfl, ?hy39095⟩) (by assumption) ?tk39095
        case hy39095 => (intro w hSw; (try dsimp only at hSw); go_simp; (try with_reducible rfl))
        try simp only [Act.put, List.setIfInBounds_toArray, List.set_cons_zero, List.set_cons_succ]
        refine wpAnyH_take (i := 11) (oi := { dst := some 4, op := Go.Op.assign (Go.Operand.tmp 138), type := 4, pos := _, after := #[{ on := 10, ground := Go.Ground.data }, { on := 0, ground := Go.Ground.phase }, { on := 1, ground := Go.Ground.phase }, { on := 2, ground := Go.Ground.phase }, { on := 3, ground := Go.Ground.phase }, { on := 4, ground := Go.Ground.phase }, { on := 5, ground := Go.Ground.phase }, { on := 6, ground := Go.Ground.phase }, { on := 7, ground := Go.Ground.phase }, { on := 8, ground := Go.Ground.phase }, { on := 9, ground := Go.Ground.phase }, { on := 10, ground := Go.Ground.phase }], guard := none }) (v := ?vv39096) rfl (by kernel_rfl) (by kernel_rfl) (by kernel_rfl) (fun _ _ _ h => h) (Or.inl ⟨by rfl, ?hy39096⟩) (by assumption) ?tk39096
        case hy39096 => (intro w hSw; (try dsimp only at hSw); go_simp; (try with_reducible rfl))
        try simp only [Act.put, List.setIfInBounds_toArray, List.set_cons_zero, List.set_cons_succ]
        refine wpAnyH_done (by kernel_rfl) ?_ _
        clear hHeld b16 b0
        generalize hw9 : w9.drew = wz at *
        go_wp2
        go_ret
        obtain ⟨Z, CZ, z18, IOZ, hnz, z16⟩ := HZ.out
        obtain ⟨hn1, hn3⟩ := HNN.out
        have hbo : decide (T1 ≤ B) = true := decide_eq_true (by have := HT.out; omega)
        refine ⟨congrArg (fun x => Ending.returned (.bool x)) hbo, z, true, ?_, CZ, IOZ, ⟨a', z18⟩, fun _ => ⟨?_, ?_⟩, fun h => by cases h⟩
        · rw [← hw9]; exact Z.drew
        · rw [z16, HT.out]
        · rw [hnz, HN.out]; omega
end Go.Proofs.Qxb6500880aGreat
