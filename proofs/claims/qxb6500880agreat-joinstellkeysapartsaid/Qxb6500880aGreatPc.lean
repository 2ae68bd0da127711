import Derived.Deep.CutBlock
import Derived.OwnWalk
import Derived.Maps.AppendAt
import Derived.Maps.OwnSet
import Derived.Maps.OwnOps
import Derived.Laws.ResultCell
import Derived.Test.Qxb6500880aGreatPb
set_option linter.unusedVariables false
set_option linter.unusedSimpArgs false
namespace Go.Proofs.Qxb6500880aGreat
open Go.RowKit

/-- The numbers of a plan that is run. -/
structure RunP where
  P : Nat
  gs : Nat
  cs : Nat
  RB : Nat
  gj : Nat
  eb : Nat
  cb : Nat
  ga0 : Nat
  ca0 : Nat
  ga1 : Nat
  ca1 : Nat
  gk : Nat
  ck : Nat
  IX : Nat
  gc : Nat
  cc : Nat
  gh : Nat
  go : Nat
  co : Nat
  gq : Nat
  cq : Nat
  fs : Nat
  sn : Nat
  th : Nat
  en : ByteArray
  cn : ByteArray
  se : RelS
  sc : RelS
  de : Nat → Nat
  dc : Nat → Nat
  hd : Nat → Nat
  ol : Nat → Nat
def RunP.cf (p : RunP) (k : Nat) : Nat := if k = 0 then p.fs else p.sn
structure RunS (Q : RP) (p : RunP) : Prop where
  P0 : Q.w0.cell? ⟨p.P, 0, none⟩ = some (.pointer (some ⟨p.RB, 0, none⟩))
  P2 : Q.w0.cell? ⟨p.P, 2, none⟩ = some (.slice none 0 0)
  P3 : Q.w0.cell? ⟨p.P, 3, none⟩ = some (.slice (some ⟨p.gs, 0, none⟩) 2 p.cs)
  cs : 2 ≤ p.cs
  s0 : Q.w0.cell? ⟨p.gs, 0, none⟩ = some (.pointer (some ⟨p.gj, 0, none⟩))
  s1 : Q.w0.cell? ⟨p.gs, 1, none⟩ = some (.int .i64 0)
  s2 : Q.w0.cell? ⟨p.gs, 2, none⟩ = some (.int .u8 0)
  s3 : Q.w0.cell? ⟨p.gs, 3, none⟩ = some (.int .u8 0)
  s4 : Q.w0.cell? ⟨p.gs, 4, none⟩ = some (.pointer none)
  s5 : Q.w0.cell? ⟨p.gs, 5, none⟩ = some (.slice none 0 0)
  s6 : Q.w0.cell? ⟨p.gs, 6, none⟩ = some (.slice (some ⟨p.ga0, 0, none⟩) 2 p.ca0)
  s7 : Q.w0.cell? ⟨p.gs, 7, none⟩ = some (.slice none 0 0)
  s8 : Q.w0.cell? ⟨p.gs, 8, none⟩ = some (.pointer (some ⟨p.gj, 3, none⟩))
  s9 : Q.w0.cell? ⟨p.gs, 9, none⟩ = some (.int .i64 1)
  s10 : Q.w0.cell? ⟨p.gs, 10, none⟩ = some (.int .u8 0)
  s11 : Q.w0.cell? ⟨p.gs, 11, none⟩ = some (.int .u8 1)
  s12 : Q.w0.cell? ⟨p.gs, 12, none⟩ = some (.pointer (some ⟨p.IX, 0, none⟩))
  s13 : Q.w0.cell? ⟨p.gs, 13, none⟩ = some (.slice (some ⟨p.gk, 0, none⟩) 2 p.ck)
  s14 : Q.w0.cell? ⟨p.gs, 14, none⟩ = some (.slice (some ⟨p.ga1, 0, none⟩) 1 p.ca1)
  s15 : Q.w0.cell? ⟨p.gs, 15, none⟩ = some (.slice none 0 0)
  j0 : Q.w0.cell? ⟨p.gj, 0, none⟩ = some (.pointer (some ⟨p.eb, 0, none⟩))
  j3 : Q.w0.cell? ⟨p.gj, 3, none⟩ = some (.pointer (some ⟨p.cb, 0, none⟩))
  a0 : ∀ t, t < 2 → Q.w0.cell? ⟨p.ga0, t * 4, none⟩ = some (.int .i64 (t : Int)) ∧ Q.w0.cell? ⟨p.ga0, t * 4 + 1, none⟩ = some (.bool true) ∧ Q.w0.cell? ⟨p.ga0, t * 4 + 2, none⟩ = some (.int .i64 (p.cf t : Int)) ∧ Q.w0.cell? ⟨p.ga0, t * 4 + 3, none⟩ = some (.int .u32 0)
  a1 : ∀ t, t < 1 → Q.w0.cell? ⟨p.ga1, t * 4, none⟩ = some (.int .i64 (p.th : Int)) ∧ Q.w0.cell? ⟨p.ga1, t * 4 + 1, none⟩ = some (.bool true) ∧ Q.w0.cell? ⟨p.ga1, t * 4 + 2, none⟩ = some (.int .i64 (p.th : Int)) ∧ Q.w0.cell? ⟨p.ga1, t * 4 + 3, none⟩ = some (.int .u32 0)
  k : OpsAt Q.w0 (.slice (some ⟨p.gk, 0, none⟩) 2 p.ck) 2 p.cf
  ix : IxC Q.w0 p.IX p.gc p.cc 2 p.cf
  iw : IxW Q.w0 p.IX p.gh p.go p.co p.sc.rows p.sc.rows p.hd p.ol
  ip : Idx 16 p.sc.rows p.hd p.ol (bkF p.dc 3 p.cf 2)
  re : RelAt Q.w0 p.eb p.en p.se
  rc : RelAt Q.w0 p.cb p.cn p.sc
  dE : SymR Q.w0 p.se.data (p.se.rows * 2) p.de
  dC : SymR Q.w0 p.sc.data (p.sc.rows * 3) p.dc
  eA : p.se.A = 2
  cA : p.sc.A = 3
  eR : 0 < p.se.rows ∧ p.se.rows ≤ 100 ∧ p.se.cur = p.se.rows
  cR : 0 < p.sc.rows ∧ p.sc.rows ≤ 8 ∧ p.sc.cur = p.sc.rows
  vE : ∀ j, j < p.se.rows * 2 → p.de j < 64
  vC : ∀ j, j < p.sc.rows * 3 → p.dc j < 64
  r0 : Q.w0.cell? ⟨p.RB, 0, none⟩ = some (.int .i64 0)
  r1 : Q.w0.cell? ⟨p.RB, 1, none⟩ = some (.pointer (some ⟨Q.hb, 0, none⟩))
  r2 : Q.w0.cell? ⟨p.RB, 2, none⟩ = some (.slice (some ⟨p.gq, 0, none⟩) 3 p.cq)
  q : OpsAt Q.w0 (.slice (some ⟨p.gq, 0, none⟩) 3 p.cq) 3 (fun t => t)
  o : (p.fs = 0 ∧ p.sn = 1 ∧ p.th = 2) ∨ (p.fs = 0 ∧ p.sn = 2 ∧ p.th = 1) ∨ (p.fs = 1 ∧ p.sn = 2 ∧ p.th = 0)
  S : Q.S p.P ∧ Q.S p.gs ∧ Q.S p.RB ∧ Q.S p.gj ∧ Q.S p.eb ∧ Q.S p.cb ∧ Q.S p.ga0 ∧ Q.S p.ga1 ∧ Q.S p.gk ∧ Q.S p.IX ∧ Q.S p.gc ∧ Q.S p.gh ∧ Q.S p.go ∧ Q.S p.gq
  SE : ∀ q, p.se.data.ownBlock = some q → Q.S q
  SC : ∀ q, p.sc.data.ownBlock = some q → Q.S q
theorem RAt.rel {w : World} {Q : RP} {x : RX} (h : RAt w Q x) {b : Nat} {nm : ByteArray} {s : RelS} (hb : Q.S b) (R : RelAt Q.w0 b nm s) : RelAt w b nm s := R.blk (h.st b hb).2
theorem RAt.ops {w : World} {Q : RP} {x : RX} (h : RAt w Q x) {g n c : Nat} {f : Nat → Nat} (hb : Q.S g) (O : OpsAt Q.w0 (.slice (some ⟨g, 0, none⟩) n c) n f) : OpsAt w (.slice (some ⟨g, 0, none⟩) n c) n f := O.keep (fun q hq _ => by
  have e : g = q := Option.some.inj hq
  rw [← e]; exact (h.st g hb).2)
theorem RAt.sym {w : World} {Q : RP} {x : RX} (h : RAt w Q x) {v : Value} {n : Nat} {r : Nat → Nat} (hb : ∀ q, v.ownBlock = some q → Q.S q) (D : SymR Q.w0 v n r) : SymR w v n r := D.blk (fun q hq _ => (h.st q (hb q hq)).2)
set_option maxRecDepth 20000 in
set_option maxHeartbeats 8000000 in
theorem open0_any {w : World} {Q : RP} {x : RX} {p : RunP} (X : RAt w Q x) (S : RunS Q p) (h5 : x.cu 5 = .slice none 0 0) (h0 : ∃ a, x.cu 0 = .int .i64 a) (h1 : ∃ a, x.cu 1 = .int .i64 a) (h2 : ∃ a, x.cu 2 = .int .i64 a) :
    Calls Tryz.prog 66 #[.pointer (some ⟨Q.E, 0, none⟩), .pointer (some ⟨p.gs, 0, none⟩), .pointer (some ⟨Q.GC, 0, none⟩)] w fun e w' => e = .returned (.tuple #[]) ∧ ∃ x', RAt w' Q x' ∧ x'.c = x.c ∧ x'.r = x.r ∧ x'.key = x.key ∧ x'.s = x.s ∧ x'.d = x.d ∧ x'.prn = x.prn ∧ x'.cu 0 = .int .i64 0 ∧ x'.cu 1 = .int .i64 (p.se.rows : Int) ∧ x'.cu 2 = .int .i64 0 ∧ ∀ k, k ≠ 0 → k ≠ 1 → k ≠ 2 → x'.cu k = x.cu k := by
  obtain ⟨v0, h0⟩ := h0
  obtain ⟨v1, h1⟩ := h1
  obtain ⟨v2, h2⟩ := h2
  obtain ⟨sP, sgs, sRB, sgj, seb, scb, sg0, sg1, sgk, sIX, sgc, sgh, sgo, sgq⟩ := S.S
  have hbd := bounds_any (X.rel seb S.re)
  rw [S.eR.2.2] at hbd
  have s0 := X.cell sgs S.s0
  have s2 := X.cell sgs S.s2
  have j0 := X.cell sgj S.j0
  have c0 := X.cu 0 (by omega)
  have c1 := X.cu 1 (by omega)
  rw [h0] at c0
  rw [h1] at c1
  have cf := X.cf
  have HX := hideIt (And.intro X S)
  clear X S
  go_enter Tryz.func66, Tryz.ntmps66
  go_wp2_with fail
  refine hbd.mono ?_
  rintro e w1 ⟨rfl, ew⟩
  clear hbd
  obtain ⟨X, S⟩ := HX.out
  have X1 : RAt w1 Q x := by rw [ew]; exact X.drew
  have X2 := (X1.put_u (k := 0) (by omega) (by omega) (.int .i64 0)).put_u (k := 1) (by omega) (by omega) (.int .i64 (p.se.rows : Int))
  have c0 := X1.cu 0 (by omega)
  have c1 := X1.cu 1 (by omega)
  rw [h0] at c0
  rw [h1] at c1
  have cf := X1.cf
  have HX2 := hideIt X2
  clear ew X X1 X2 s0 s2 j0
  go_upto_region 2 with fail
  generalize (w1.setCell ⟨Q.GC, 0, none⟩ (.int .i64 0)).setCell ⟨Q.GC, 1, none⟩ (.int .i64 (p.se.rows : Int)) = w2 at *
  have X2 := HX2.out
  have c5 : w2.cell? ⟨Q.GC, 5, none⟩ = some (.slice none 0 0) := (X2.cu 5 (by omega)).trans (congrArg some h5)
  have e5 := X2.cell sgs S.s5
  have ff := X2.cf
  have hGl : Q.GC < w2.drew.heap.size := X2.flt 2 _ (by omega) rfl
  have hgl : p.gs < w2.drew.heap.size := (X2.st _ sgs).1
  have hnGC : ¬ ((Value.slice none 0 0).ownBlock = some Q.GC) := by simp [Value.ownBlock]
  have hngs : ¬ ((Value.slice none 0 0).ownBlock = some p.gs) := by simp [Value.ownBlock]
  have hga := gather_any (w := w2.drew) (k := 0) (v := .slice none 0 0) (f := fun _ => 0) (pb := none) (cb := 0) (X2.drew.e.get X2.c21 (by omega)) X2.drew.rg ⟨none, 0, rfl, Nat.le_refl _, .inl rfl⟩ (fun j hj => by omega) (own_nil _ _ _ _) ⟨by simp [Value.ownBlock], by simp [Value.ownBlock], fun q hq => by simp [Value.ownBlock]⟩ (by omega) (by omega)
  have HS2 := slice0 (n := 0) (c := 0) (p := none)
  clear c0 c1 cf X2 S
  refine wp_region_l (l := 14) (S := (fun w' => w'.cell? ⟨Q.GC, 5, none⟩ = some (.slice none 0 0) ∧ w'.cell? ⟨p.gs, 5, none⟩ = some (.slice none 0 0))) (by kernel_rfl) ⟨c5, e5⟩ (fun hHeld => ?_)
  refine AnyL.take2 (i := 0) (oi := { dst := some 29, op := Go.Op.move (Go.Operand.tmp 2), type := 201, pos := _, after := #[], guard := none }) (v := ?vv36001) (by kernel_rfl) (by kernel_rfl) rfl (by kernel_rfl) (by kernel_rfl) (by kernel_rfl) (fun _ _ _ h => h) (Or.inl ⟨by rfl, ?hy36001⟩) (by assumption) ?tk36001
  case hy36001 => (intro w hSw; (try dsimp only at hSw); go_simp; (try with_reducible rfl))
  try simp only [Act.put, List.setIfInBounds_toArray, List.set_cons_zero, List.set_cons_succ]
  refine AnyL.take2 (i := 1) (oi := { dst := some 30, op := Go.Op.move (Go.Operand.tmp 0), type := 58, pos := _, after := #[], guard := none }) (v := ?vv36002) (by kernel_rfl) (by kernel_rfl) rfl (by kernel_rfl) (by kernel_rfl) (by kernel_rfl) (fun _ _ _ h => h) (Or.inl ⟨by rfl, ?hy36002⟩) (by assumption) ?tk36002
  case hy36002 => (intro w hSw; (try dsimp only at hSw); go_simp; (try with_reducible rfl))
  try simp only [Act.put, List.setIfInBounds_toArray, List.set_cons_zero, List.set_cons_succ]
  refine AnyL.take2 (i := 2) (oi := { dst := some 31, op := Go.Op.move (Go.Operand.tmp 2), type := 201, pos := _, after := #[], guard := none }) (v := ?vv36003) (by kernel_rfl) (by kernel_rfl) rfl (by kernel_rfl) (by kernel_rfl) (by kernel_rfl) (fun _ _ _ h => h) (Or.inl ⟨by rfl, ?hy36003⟩) (by assumption) ?tk36003
  case hy36003 => (intro w hSw; (try dsimp only at hSw); go_simp; (try with_reducible rfl))
  try simp only [Act.put, List.setIfInBounds_toArray, List.set_cons_zero, List.set_cons_succ]
  refine AnyL.take2 (i := 3) (oi := { dst := some 32, op := Go.Op.nilCheck (Go.Operand.tmp 31), type := 0, pos := _, after := #[{ on := 2, ground := Go.Ground.data }], guard := none }) (v := ?vv36004) (by kernel_rfl) (by kernel_rfl) rfl (by kernel_rfl) (by kernel_rfl) (by kernel_rfl) (fun _ _ _ h => h) (Or.inl ⟨by rfl, ?hy36004⟩) (by assumption) ?tk36004
  case hy36004 => (intro w hSw; (try dsimp only at hSw); go_simp; (try with_reducible rfl))
  try simp only [Act.put, List.setIfInBounds_toArray, List.set_cons_zero, List.set_cons_succ]
  refine AnyL.take2 (i := 4) (oi := { dst := some 33, op := Go.Op.fieldAddr 112 (Go.Operand.tmp 32) 5, type := 0, pos := _, after := #[{ on := 3, ground := Go.Ground.data }], guard := none }) (v := ?vv36005) (by kernel_rfl) (by kernel_rfl) rfl (by kernel_rfl) (by kernel_rfl) (by kernel_rfl) (fun _ _ _ h => h) (Or.inl ⟨by rfl, ?hy36005⟩) (by assumption) ?tk36005
  case hy36005 => (intro w hSw; (try dsimp only at hSw); go_simp; (try with_reducible rfl))
  try simp only [Act.put, List.setIfInBounds_toArray, List.set_cons_zero, List.set_cons_succ]
  refine AnyL.take2 (i := 5) (oi := { dst := some 34, op := Go.Op.load 83 (Go.Operand.tmp 33), type := 83, pos := _, after := #[{ on := 4, ground := Go.Ground.data }], guard := none }) (v := ?vv36006) (by kernel_rfl) (by kernel_rfl) rfl (by kernel_rfl) (by kernel_rfl) (by kernel_rfl) (fun _ _ _ h => h) (Or.inl ⟨by rfl, ?hy36006⟩) (by assumption) ?tk36006
  case hy36006 => (intro w hSw; (try dsimp only at hSw); go_simp; (try with_reducible rfl))
  try simp only [Act.put, List.setIfInBounds_toArray, List.set_cons_zero, List.set_cons_succ]
  refine AnyL.take2 (i := 6) (oi := { dst := some 35, op := Go.Op.slice 83 (Go.Operand.tmp 34) none (some (Go.Operand.const (Go.Value.int Go.IntKind.i64 0))) none, type := 83, pos := _, after := #[{ on := 5, ground := Go.Ground.data }], guard := none }) (v := ?vv36007) (by kernel_rfl) (by kernel_rfl) rfl (by kernel_rfl) (by kernel_rfl) (by kernel_rfl) (fun _ _ _ h => h) (Or.inl ⟨by rfl, ?hy36007⟩) (by assumption) ?tk36007
  case hy36007 => (intro w hSw; (try dsimp only at hSw); go_simp; (try with_reducible rfl))
  try simp only [Act.put, List.setIfInBounds_toArray, List.set_cons_zero, List.set_cons_succ]
  refine AnyL.take2 (i := 7) (oi := { dst := some 36, op := Go.Op.move (Go.Operand.tmp 1), type := 200, pos := _, after := #[], guard := none }) (v := ?vv36008) (by kernel_rfl) (by kernel_rfl) rfl (by kernel_rfl) (by kernel_rfl) (by kernel_rfl) (fun _ _ _ h => h) (Or.inl ⟨by rfl, ?hy36008⟩) (by assumption) ?tk36008
  case hy36008 => (intro w hSw; (try dsimp only at hSw); go_simp; (try with_reducible rfl))
  try simp only [Act.put, List.setIfInBounds_toArray, List.set_cons_zero, List.set_cons_succ]
  refine AnyL.take2 (i := 8) (oi := { dst := some 37, op := Go.Op.nilCheck (Go.Operand.tmp 36), type := 0, pos := _, after := #[{ on := 7, ground := Go.Ground.data }], guard := none }) (v := ?vv36009) (by kernel_rfl) (by kernel_rfl) rfl (by kernel_rfl) (by kernel_rfl) (by kernel_rfl) (fun _ _ _ h => h) (Or.inl ⟨by rfl, ?hy36009⟩) (by assumption) ?tk36009
  case hy36009 => (intro w hSw; (try dsimp only at hSw); go_simp; (try with_reducible rfl))
  try simp only [Act.put, List.setIfInBounds_toArray, List.set_cons_zero, List.set_cons_succ]
  refine AnyL.take2 (i := 9) (oi := { dst := some 38, op := Go.Op.fieldAddr 191 (Go.Operand.tmp 37) 5, type := 0, pos := _, after := #[{ on := 8, ground := Go.Ground.data }], guard := none }) (v := ?vv36010) (by kernel_rfl) (by kernel_rfl) rfl (by kernel_rfl) (by kernel_rfl) (by kernel_rfl) (fun _ _ _ h => h) (Or.inl ⟨by rfl, ?hy36010⟩) (by assumption) ?tk36010
  case hy36010 => (intro w hSw; (try dsimp only at hSw); go_simp; (try with_reducible rfl))
  try simp only [Act.put, List.setIfInBounds_toArray, List.set_cons_zero, List.set_cons_succ]
  refine AnyL.take2 (i := 10) (oi := { dst := some 39, op := Go.Op.load 100 (Go.Operand.tmp 38), type := 100, pos := _, after := #[{ on := 9, ground := Go.Ground.data }], guard := none }) (v := ?vv36011) (by kernel_rfl) (by kernel_rfl) rfl (by kernel_rfl) (by kernel_rfl) (by kernel_rfl) (fun _ _ _ h => h) (Or.inl ⟨by rfl, ?hy36011⟩) (by assumption) ?tk36011
  case hy36011 => (intro w hSw; (try dsimp only at hSw); go_simp; (try with_reducible rfl))
  try simp only [Act.put, List.setIfInBounds_toArray, List.set_cons_zero, List.set_cons_succ]
  refine AnyL.one (i := 11) (o := { dst := some 40, op := Go.Op.call { callee := Go.Callee.value (Go.Operand.func 83), args := #[Go.Operand.tmp 30, Go.Operand.tmp 35, Go.Operand.tmp 39], argTypes := #[58, 83, 100] }, type := 83, pos := _, after := #[{ on := 1, ground := Go.Ground.data }, { on := 6, ground := Go.Ground.data }, { on := 10, ground := Go.Ground.data }], guard := none }) (by kernel_rfl) rfl rfl (fun K' hK' => ?_)
  go_simp
  go_at_call 83
  refine hga.mono ?_
  rintro e w5 ⟨v5, rfl, own5, hv5, hv0, W5⟩
  obtain ⟨p5, n5, rfl⟩ := own_shape own5
  have eGC := W5.block Q.GC hGl hnGC
  have egs := W5.block p.gs hgl hngs
  have x5 : w5.cell? ⟨Q.GC, 5, none⟩ = some (.slice none 0 0) := (World.cell?_of_block (a := ⟨Q.GC, 5, none⟩) eGC).trans c5
  have x6 : w5.cell? ⟨p.gs, 5, none⟩ = some (.slice none 0 0) := (World.cell?_of_block (a := ⟨p.gs, 5, none⟩) egs).trans e5
  have xf : ∀ o, w5.frozen? ⟨Q.GC, o, none⟩ = false := fun o => (World.frozen?_of_block (a := ⟨Q.GC, o, none⟩) eGC).trans (ff o)
  have HX5 := hideIt (And.intro own5 (And.intro hv5 (And.intro hv0 W5)))
  clear own5 hv5 hv0 W5 hga eGC egs
  clear hHeld
  refine hK'.out _ _ ⟨x5, x6⟩ (fun hHeld => ?_)
  clear hK' K'
  try simp only [Act.put, List.setIfInBounds_toArray, List.set_cons_zero, List.set_cons_succ]
  refine AnyL.take2 (i := 12) (oi := { dst := some 41, op := Go.Op.nilCheck (Go.Operand.tmp 29), type := 0, pos := _, after := #[{ on := 0, ground := Go.Ground.data }, { on := 0, ground := Go.Ground.phase }, { on := 1, ground := Go.Ground.phase }, { on := 2, ground := Go.Ground.phase }, { on := 3, ground := Go.Ground.phase }, { on := 4, ground := Go.Ground.phase }, { on := 5, ground := Go.Ground.phase }, { on := 6, ground := Go.Ground.phase }, { on := 7, ground := Go.Ground.phase }, { on := 8, ground := Go.Ground.phase }, { on := 9, ground := Go.Ground.phase }, { on := 10, ground := Go.Ground.phase }, { on := 11, ground := Go.Ground.phase }], guard := none }) (v := ?vv36012) (by kernel_rfl) (by kernel_rfl) rfl (by kernel_rfl) (by kernel_rfl) (by kernel_rfl) (fun _ _ _ h => h) (Or.inl ⟨by rfl, ?hy36012⟩) (by assumption) ?tk36012
  case hy36012 => (intro w hSw; (try dsimp only at hSw); go_simp; (try with_reducible rfl))
  try simp only [Act.put, List.setIfInBounds_toArray, List.set_cons_zero, List.set_cons_succ]
  refine AnyL.take2 (i := 13) (oi := { dst := some 42, op := Go.Op.fieldAddr 112 (Go.Operand.tmp 41) 5, type := 0, pos := _, after := #[{ on := 12, ground := Go.Ground.data }, { on := 0, ground := Go.Ground.phase }, { on := 1, ground := Go.Ground.phase }, { on := 2, ground := Go.Ground.phase }, { on := 3, ground := Go.Ground.phase }, { on := 4, ground := Go.Ground.phase }, { on := 5, ground := Go.Ground.phase }, { on := 6, ground := Go.Ground.phase }, { on := 7, ground := Go.Ground.phase }, { on := 8, ground := Go.Ground.phase }, { on := 9, ground := Go.Ground.phase }, { on := 10, ground := Go.Ground.phase }, { on := 11, ground := Go.Ground.phase }], guard := none }) (v := ?vv36013) (by kernel_rfl) (by kernel_rfl) rfl (by kernel_rfl) (by kernel_rfl) (by kernel_rfl) (fun _ _ _ h => h) (Or.inl ⟨by rfl, ?hy36013⟩) (by assumption) ?tk36013
  case hy36013 => (intro w hSw; (try dsimp only at hSw); go_simp; (try with_reducible rfl))
  try simp only [Act.put, List.setIfInBounds_toArray, List.set_cons_zero, List.set_cons_succ]
  refine AnyL.last (o := { dst := none, op := Go.Op.store 83 (Go.Operand.tmp 42) (Go.Operand.tmp 40), type := 0, pos := _, after := #[{ on := 13, ground := Go.Ground.data }, { on := 11, ground := Go.Ground.data }, { on := 11, ground := Go.Ground.chain }, { on := 0, ground := Go.Ground.phase }, { on := 1, ground := Go.Ground.phase }, { on := 2, ground := Go.Ground.phase }, { on := 3, ground := Go.Ground.phase }, { on := 4, ground := Go.Ground.phase }, { on := 5, ground := Go.Ground.phase }, { on := 6, ground := Go.Ground.phase }, { on := 7, ground := Go.Ground.phase }, { on := 8, ground := Go.Ground.phase }, { on := 9, ground := Go.Ground.phase }, { on := 10, ground := Go.Ground.phase }, { on := 11, ground := Go.Ground.phase }], guard := none }) (by kernel_rfl) rfl (by kernel_rfl) (fun K' hK' => ?_)
  go_simp
  clear hHeld
  refine hK'.out _ _ ?_
  clear hK' K'
  try simp only [Act.put, List.setIfInBounds_toArray, List.set_cons_zero, List.set_cons_succ]
  obtain ⟨own5, hv5, hv0, W5⟩ := HX5.out
  have ev := hv0 rfl
  obtain ⟨rfl, _, rfl⟩ : p5 = none ∧ True ∧ n5 = 0 := by
    simp only [Value.slice.injEq] at ev
    exact ⟨ev.1, trivial, ev.2.2⟩
  have b5 : Below w2.drew.heap.size w2.drew w5 := ⟨W5.os, W5.tape, W5.output, W5.size, fun q hq => W5.block q hq (by simp [Value.ownBlock])⟩
  have X5 := (HX2.out.drew.below b5).put_u (k := 5) (by omega) (by omega) (.slice none 0 0)
  have HX6 := hideIt X5
  have S := HX.out.2
  have e3 := X5.cell sgs S.s3
  have d0 : (w5.setCell ⟨Q.GC, 5, none⟩ (.slice none 0 0)).cell? ⟨Q.GC, 0, none⟩ = some (.int .i64 0) := X5.cu 0 (by omega)
  have d2 : (w5.setCell ⟨Q.GC, 5, none⟩ (.slice none 0 0)).cell? ⟨Q.GC, 2, none⟩ = some (.int .i64 v2) := (X5.cu 2 (by omega)).trans (congrArg some h2)
  have df := X5.cf
  clear own5 hv5 hv0 W5 b5 X5 S HX5 x5 x6 xf ev c5 e5 ff
  generalize w5.setCell ⟨Q.GC, 5, none⟩ (.slice none 0 0) = w6 at *
  go_wp2
  go_end0
  refine ⟨rfl, _, HX6.out.put_u (k := 2) (by omega) (by omega) (.int .i64 0), rfl, rfl, rfl, rfl, rfl, rfl, rfl, rfl, rfl, fun k h1 h2 h3 => ?_⟩
  show updV (updV (updV (updV x.cu 0 _) 1 _) 5 _) 2 _ k = x.cu k
  rw [updV_other _ _ h3]
  by_cases q : k = 5
  · subst q
    rw [updV_same, h5]
  · rw [updV_other _ _ q, updV_other _ _ h2, updV_other _ _ h1]
end Go.Proofs.Qxb6500880aGreat
