import Derived.Deep.CutBlock
import Derived.OwnWalk
import Derived.Maps.AppendAt
import Derived.Maps.OwnSet
import Derived.Maps.OwnOps
import Derived.Laws.ResultCell
import Derived.Test.Qxb6500880aGreatPd
set_option linter.unusedVariables false
set_option linter.unusedSimpArgs false
namespace Go.Proofs.Qxb6500880aGreat
open Go.RowKit

/-- What a step of the run may change. -/
structure Nx (x x' : RX) (C R U : Nat → Prop) : Prop where
  c : ∀ k, ¬ C k → x'.c k = x.c k
  r : ∀ k, ¬ R k → x'.r k = x.r k
  u : ∀ k, ¬ U k → x'.cu k = x.cu k
  kn : x'.kn = x.kn
  kx : x'.kx = x.kx
  s : x'.s = x.s
  d : x'.d = x.d
  pn : x'.prn = x.prn
theorem Nx.refl (x : RX) (C R U : Nat → Prop) : Nx x x C R U := ⟨fun _ _ => rfl, fun _ _ => rfl, fun _ _ => rfl, rfl, rfl, rfl, rfl, rfl⟩
theorem Nx.trans {x x' x'' : RX} {C R U : Nat → Prop} (h : Nx x x' C R U) (h' : Nx x' x'' C R U) : Nx x x'' C R U := ⟨fun k hk => (h'.c k hk).trans (h.c k hk), fun k hk => (h'.r k hk).trans (h.r k hk), fun k hk => (h'.u k hk).trans (h.u k hk), h'.kn.trans h.kn, h'.kx.trans h.kx, h'.s.trans h.s, h'.d.trans h.d, h'.pn.trans h.pn⟩
theorem Nx.mono {x x' : RX} {C R U C' R' U' : Nat → Prop} (h : Nx x x' C R U) (hC : ∀ k, C k → C' k) (hR : ∀ k, R k → R' k) (hU : ∀ k, U k → U' k) : Nx x x' C' R' U' := ⟨fun k hk => h.c k (fun z => hk (hC k z)), fun k hk => h.r k (fun z => hk (hR k z)), fun k hk => h.u k (fun z => hk (hU k z)), h.kn, h.kx, h.s, h.d, h.pn⟩
theorem Nx.put_u (x : RX) {C R U : Nat → Prop} {k : Nat} (hk : U k) (v : Value) : Nx x { x with cu := updV x.cu k v } C R U := ⟨fun _ _ => rfl, fun _ _ => rfl, fun j hj => updV_other _ _ (fun e => hj (e ▸ hk)), rfl, rfl, rfl, rfl, rfl⟩
theorem Nx.put_c (x : RX) {C R U : Nat → Prop} {k : Nat} (hk : C k) (v : Value) : Nx x { x with c := updV x.c k v } C R U := ⟨fun j hj => updV_other _ _ (fun e => hj (e ▸ hk)), fun _ _ => rfl, fun _ _ => rfl, rfl, rfl, rfl, rfl, rfl⟩
theorem Nx.put_r (x : RX) {C R U : Nat → Prop} {k : Nat} (hk : R k) (v : Nat) : Nx x { x with r := updN x.r k v } C R U := ⟨fun _ _ => rfl, fun j hj => updN_other _ _ (fun e => hj (e ▸ hk)), fun _ _ => rfl, rfl, rfl, rfl, rfl, rfl⟩
def Ncn : Nat → Prop := fun _ => False
def mtc (p : RunP) (kr : Nat → Nat) (r : Nat) : Prop := ∀ j, j < 2 → keyR p.dc 3 p.cf r j = kr j
theorem mtc_bk {p : RunP} {kr : Nat → Nat} {r : Nat} (h : mtc p kr r) : bkF p.dc 3 p.cf 2 r = hashN kr 2 % 16 := by
  unfold bkF
  rw [hashN_congr h]
set_option maxRecDepth 20000 in
set_option maxHeartbeats 8000000 in
theorem cand0_some {w : World} {Q : RP} {x : RX} {p : RunP} {i : Nat} (X : RAt w Q x) (S : RunS Q p) (h1 : x.cu 1 = .int .i64 (p.se.rows : Int)) (h2 : x.cu 2 = .int .i64 (i : Int)) (hi : i < p.se.rows) :
    Calls Tryz.prog 86 #[.pointer (some ⟨Q.E, 0, none⟩), .pointer (some ⟨p.gs, 0, none⟩), .pointer (some ⟨Q.GC, 0, none⟩)] w fun e w' => e = .returned (.tuple #[.int .i64 (i : Int), .bool true]) ∧ ∃ x', RAt w' Q x' ∧ x'.cu 2 = .int .i64 ((i + 1 : Nat) : Int) ∧ Nx x x' Ncn Ncn (fun k => k = 2) := by
  obtain ⟨sP, sgs, sRB, sgj, seb, scb, sg0, sg1, sgk, sIX, sgc, sgh, sgo, sgq⟩ := S.S
  have hR := S.eR.2.1
  have s3 := X.cell sgs S.s3
  have c1 := (X.cu 1 (by omega)).trans (congrArg some h1)
  have c2 := (X.cu 2 (by omega)).trans (congrArg some h2)
  have cf := X.cf
  have i1 : (i : Int) < (p.se.rows : Int) := by omega
  have HX := hideIt (And.intro X S)
  have HI := hideIt hi
  clear X S h1 h2 hi
  go_enter Tryz.func86, Tryz.ntmps86
  go_upto_region 3 with fail
  refine wp_region_held_drew (S := (fun w' => w'.cell? ⟨Q.GC, 2, none⟩ = some (.int .i64 (i : Int)) ∧ w'.cell? ⟨Q.GC, 1, none⟩ = some (.int .i64 (p.se.rows : Int)))) (by kernel_rfl) ⟨c2, c1⟩ (fun hHeld => ?_)
  refine wpAnyH_take (i := 0) (oi := { dst := some 16, op := Go.Op.move (Go.Operand.tmp 2), type := 201, pos := _, after := #[], guard := none }) (v := ?vv37001) rfl (by kernel_rfl) (by kernel_rfl) (by kernel_rfl) (fun _ _ _ h => h) (Or.inl ⟨by rfl, ?hy37001⟩) (by assumption) ?tk37001
  case hy37001 => (intro w hSw; (try dsimp only at hSw); go_simp; (try with_reducible rfl))
  try simp only [Act.put, List.setIfInBounds_toArray, List.set_cons_zero, List.set_cons_succ]
  refine wpAnyH_take (i := 1) (oi := { dst := some 17, op := Go.Op.nilCheck (Go.Operand.tmp 16), type := 0, pos := _, after := #[{ on := 0, ground := Go.Ground.data }], guard := none }) (v := ?vv37002) rfl (by kernel_rfl) (by kernel_rfl) (by kernel_rfl) (fun _ _ _ h => h) (Or.inl ⟨by rfl, ?hy37002⟩) (by assumption) ?tk37002
  case hy37002 => (intro w hSw; (try dsimp only at hSw); go_simp; (try with_reducible rfl))
  try simp only [Act.put, List.setIfInBounds_toArray, List.set_cons_zero, List.set_cons_succ]
  refine wpAnyH_take (i := 2) (oi := { dst := some 18, op := Go.Op.fieldAddr 112 (Go.Operand.tmp 17) 2, type := 0, pos := _, after := #[{ on := 1, ground := Go.Ground.data }], guard := none }) (v := ?vv37003) rfl (by kernel_rfl) (by kernel_rfl) (by kernel_rfl) (fun _ _ _ h => h) (Or.inl ⟨by rfl, ?hy37003⟩) (by assumption) ?tk37003
  case hy37003 => (intro w hSw; (try dsimp only at hSw); go_simp; (try with_reducible rfl))
  try simp only [Act.put, List.setIfInBounds_toArray, List.set_cons_zero, List.set_cons_succ]
  refine wpAnyH_take (i := 3) (oi := { dst := some 19, op := Go.Op.load 3 (Go.Operand.tmp 18), type := 3, pos := _, after := #[{ on := 2, ground := Go.Ground.data }], guard := none }) (v := ?vv37004) rfl (by kernel_rfl) (by kernel_rfl) (by kernel_rfl) (fun _ _ _ h => h) (Or.inl ⟨by rfl, ?hy37004⟩) (by assumption) ?tk37004
  case hy37004 => (intro w hSw; (try dsimp only at hSw); go_simp; (try with_reducible rfl))
  try simp only [Act.put, List.setIfInBounds_toArray, List.set_cons_zero, List.set_cons_succ]
  refine wpAnyH_take (i := 4) (oi := { dst := some 20, op := Go.Op.move (Go.Operand.tmp 2), type := 201, pos := _, after := #[], guard := none }) (v := ?vv37005) rfl (by kernel_rfl) (by kernel_rfl) (by kernel_rfl) (fun _ _ _ h => h) (Or.inl ⟨by rfl, ?hy37005⟩) (by assumption) ?tk37005
  case hy37005 => (intro w hSw; (try dsimp only at hSw); go_simp; (try with_reducible rfl))
  try simp only [Act.put, List.setIfInBounds_toArray, List.set_cons_zero, List.set_cons_succ]
  refine wpAnyH_take (i := 5) (oi := { dst := some 21, op := Go.Op.nilCheck (Go.Operand.tmp 20), type := 0, pos := _, after := #[{ on := 4, ground := Go.Ground.data }], guard := none }) (v := ?vv37006) rfl (by kernel_rfl) (by kernel_rfl) (by kernel_rfl) (fun _ _ _ h => h) (Or.inl ⟨by rfl, ?hy37006⟩) (by assumption) ?tk37006
  case hy37006 => (intro w hSw; (try dsimp only at hSw); go_simp; (try with_reducible rfl))
  try simp only [Act.put, List.setIfInBounds_toArray, List.set_cons_zero, List.set_cons_succ]
  refine wpAnyH_take (i := 6) (oi := { dst := some 22, op := Go.Op.fieldAddr 112 (Go.Operand.tmp 21) 1, type := 0, pos := _, after := #[{ on := 5, ground := Go.Ground.data }], guard := none }) (v := ?vv37007) rfl (by kernel_rfl) (by kernel_rfl) (by kernel_rfl) (fun _ _ _ h => h) (Or.inl ⟨by rfl, ?hy37007⟩) (by assumption) ?tk37007
  case hy37007 => (intro w hSw; (try dsimp only at hSw); go_simp; (try with_reducible rfl))
  try simp only [Act.put, List.setIfInBounds_toArray, List.set_cons_zero, List.set_cons_succ]
  refine wpAnyH_take (i := 7) (oi := { dst := some 23, op := Go.Op.load 3 (Go.Operand.tmp 22), type := 3, pos := _, after := #[{ on := 6, ground := Go.Ground.data }], guard := none }) (v := ?vv37008) rfl (by kernel_rfl) (by kernel_rfl) (by kernel_rfl) (fun _ _ _ h => h) (Or.inl ⟨by rfl, ?hy37008⟩) (by assumption) ?tk37008
  case hy37008 => (intro w hSw; (try dsimp only at hSw); go_simp; (try with_reducible rfl))
  try simp only [Act.put, List.setIfInBounds_toArray, List.set_cons_zero, List.set_cons_succ]
  refine wpAnyH_take (i := 8) (oi := { dst := some 24, op := Go.Op.binOp Go.BinOp.geq 3 (Go.Operand.tmp 19) (Go.Operand.tmp 23) 3, type := 4, pos := _, after := #[{ on := 3, ground := Go.Ground.data }, { on := 7, ground := Go.Ground.data }], guard := none }) (v := ?vv37009) rfl (by kernel_rfl) (by kernel_rfl) (by kernel_rfl) (fun _ _ _ h => h) (Or.inl ⟨by rfl, ?hy37009⟩) (by assumption) ?tk37009
  case hy37009 => (intro w hSw; (try dsimp only at hSw); go_simp; (try with_reducible rfl))
  try simp only [Act.put, List.setIfInBounds_toArray, List.set_cons_zero, List.set_cons_succ]
  refine wpAnyH_done (by kernel_rfl) ?_ _
  have X1 := HX.out.1.drew
  have X2 := X1.put_u (k := 2) (by omega) (by omega) (.int .i64 ((i + 1 : Nat) : Int))
  have c2 : w.drew.cell? ⟨Q.GC, 2, none⟩ = some (.int .i64 (i : Int)) := c2
  have cf := X1.cf
  have HX2 := hideIt X2
  clear X1 X2
  generalize w.drew = w1 at *
  clear c1 s3
  have i2 : ¬ ((i : Int) ≥ (p.se.rows : Int)) := by omega
  have i2' : ¬ ((p.se.rows : Int) ≤ (i : Int)) := by omega
  go_wp2
  go_ret2
  refine ⟨rfl, _, HX2.out, updV_same x.cu 2 (.int .i64 ((i + 1 : Nat) : Int)), Nx.put_u x (k := 2) (U := fun k => k = 2) rfl _⟩
set_option maxRecDepth 20000 in
set_option maxHeartbeats 8000000 in
theorem cand0_none {w : World} {Q : RP} {x : RX} {p : RunP} (X : RAt w Q x) (S : RunS Q p) (h1 : x.cu 1 = .int .i64 (p.se.rows : Int)) (h2 : x.cu 2 = .int .i64 (p.se.rows : Int)) :
    Calls Tryz.prog 86 #[.pointer (some ⟨Q.E, 0, none⟩), .pointer (some ⟨p.gs, 0, none⟩), .pointer (some ⟨Q.GC, 0, none⟩)] w fun e w' => e = .returned (.tuple #[.int .i64 0, .bool false]) ∧ RAt w' Q x := by
  obtain ⟨sP, sgs, sRB, sgj, seb, scb, sg0, sg1, sgk, sIX, sgc, sgh, sgo, sgq⟩ := S.S
  have hR := S.eR.2.1
  have s3 := X.cell sgs S.s3
  have c1 := (X.cu 1 (by omega)).trans (congrArg some h1)
  have c2 := (X.cu 2 (by omega)).trans (congrArg some h2)
  have cf := X.cf
  have HX := hideIt (And.intro X S)
  clear X S h1 h2
  obtain ⟨i, hi⟩ : ∃ i, p.se.rows = i := ⟨_, rfl⟩
  rw [hi] at c1 c2
  go_enter Tryz.func86, Tryz.ntmps86
  go_upto_region 3 with fail
  refine wp_region_held_drew (S := (fun w' => w'.cell? ⟨Q.GC, 2, none⟩ = some (.int .i64 (i : Int)) ∧ w'.cell? ⟨Q.GC, 1, none⟩ = some (.int .i64 (i : Int)))) (by kernel_rfl) ⟨c2, c1⟩ (fun hHeld => ?_)
  refine wpAnyH_take (i := 0) (oi := { dst := some 16, op := Go.Op.move (Go.Operand.tmp 2), type := 201, pos := _, after := #[], guard := none }) (v := ?vv37001) rfl (by kernel_rfl) (by kernel_rfl) (by kernel_rfl) (fun _ _ _ h => h) (Or.inl ⟨by rfl, ?hy37001⟩) (by assumption) ?tk37001
  case hy37001 => (intro w hSw; (try dsimp only at hSw); go_simp; (try with_reducible rfl))
  try simp only [Act.put, List.setIfInBounds_toArray, List.set_cons_zero, List.set_cons_succ]
  refine wpAnyH_take (i := 1) (oi := { dst := some 17, op := Go.Op.nilCheck (Go.Operand.tmp 16), type := 0, pos := _, after := #[{ on := 0, ground := Go.Ground.data }], guard := none }) (v := ?vv37002) rfl (by kernel_rfl) (by kernel_rfl) (by kernel_rfl) (fun _ _ _ h => h) (Or.inl ⟨by rfl, ?hy37002⟩) (by assumption) ?tk37002
  case hy37002 => (intro w hSw; (try dsimp only at hSw); go_simp; (try with_reducible rfl))
  try simp only [Act.put, List.setIfInBounds_toArray, List.set_cons_zero, List.set_cons_succ]
  refine wpAnyH_take (i := 2) (oi := { dst := some 18, op := Go.Op.fieldAddr 112 (Go.Operand.tmp 17) 2, type := 0, pos := _, after := #[{ on := 1, ground := Go.Ground.data }], guard := none }) (v := ?vv37003) rfl (by kernel_rfl) (by kernel_rfl) (by kernel_rfl) (fun _ _ _ h => h) (Or.inl ⟨by rfl, ?hy37003⟩) (by assumption) ?tk37003
  case hy37003 => (intro w hSw; (try dsimp only at hSw); go_simp; (try with_reducible rfl))
  try simp only [Act.put, List.setIfInBounds_toArray, List.set_cons_zero, List.set_cons_succ]
  refine wpAnyH_take (i := 3) (oi := { dst := some 19, op := Go.Op.load 3 (Go.Operand.tmp 18), type := 3, pos := _, after := #[{ on := 2, ground := Go.Ground.data }], guard := none }) (v := ?vv37004) rfl (by kernel_rfl) (by kernel_rfl) (by kernel_rfl) (fun _ _ _ h => h) (Or.inl ⟨by rfl, ?hy37004⟩) (by assumption) ?tk37004
  case hy37004 => (intro w hSw; (try dsimp only at hSw); go_simp; (try with_reducible rfl))
  try simp only [Act.put, List.setIfInBounds_toArray, List.set_cons_zero, List.set_cons_succ]
  refine wpAnyH_take (i := 4) (oi := { dst := some 20, op := Go.Op.move (Go.Operand.tmp 2), type := 201, pos := _, after := #[], guard := none }) (v := ?vv37005) rfl (by kernel_rfl) (by kernel_rfl) (by kernel_rfl) (fun _ _ _ h => h) (Or.inl ⟨by rfl, ?hy37005⟩) (by assumption) ?tk37005
  case hy37005 => (intro w hSw; (try dsimp only at hSw); go_simp; (try with_reducible rfl))
  try simp only [Act.put, List.setIfInBounds_toArray, List.set_cons_zero, List.set_cons_succ]
  refine wpAnyH_take (i := 5) (oi := { dst := some 21, op := Go.Op.nilCheck (Go.Operand.tmp 20), type := 0, pos := _, after := #[{ on := 4, ground := Go.Ground.data }], guard := none }) (v := ?vv37006) rfl (by kernel_rfl) (by kernel_rfl) (by kernel_rfl) (fun _ _ _ h => h) (Or.inl ⟨by rfl, ?hy37006⟩) (by assumption) ?tk37006
  case hy37006 => (intro w hSw; (try dsimp only at hSw); go_simp; (try with_reducible rfl))
  try simp only [Act.put, List.setIfInBounds_toArray, List.set_cons_zero, List.set_cons_succ]
  refine wpAnyH_take (i := 6) (oi := { dst := some 22, op := Go.Op.fieldAddr 112 (Go.Operand.tmp 21) 1, type := 0, pos := _, after := #[{ on := 5, ground := Go.Ground.data }], guard := none }) (v := ?vv37007) rfl (by kernel_rfl) (by kernel_rfl) (by kernel_rfl) (fun _ _ _ h => h) (Or.inl ⟨by rfl, ?hy37007⟩) (by assumption) ?tk37007
  case hy37007 => (intro w hSw; (try dsimp only at hSw); go_simp; (try with_reducible rfl))
  try simp only [Act.put, List.setIfInBounds_toArray, List.set_cons_zero, List.set_cons_succ]
  refine wpAnyH_take (i := 7) (oi := { dst := some 23, op := Go.Op.load 3 (Go.Operand.tmp 22), type := 3, pos := _, after := #[{ on := 6, ground := Go.Ground.data }], guard := none }) (v := ?vv37008) rfl (by kernel_rfl) (by kernel_rfl) (by kernel_rfl) (fun _ _ _ h => h) (Or.inl ⟨by rfl, ?hy37008⟩) (by assumption) ?tk37008
  case hy37008 => (intro w hSw; (try dsimp only at hSw); go_simp; (try with_reducible rfl))
  try simp only [Act.put, List.setIfInBounds_toArray, List.set_cons_zero, List.set_cons_succ]
  refine wpAnyH_take (i := 8) (oi := { dst := some 24, op := Go.Op.binOp Go.BinOp.geq 3 (Go.Operand.tmp 19) (Go.Operand.tmp 23) 3, type := 4, pos := _, after := #[{ on := 3, ground := Go.Ground.data }, { on := 7, ground := Go.Ground.data }], guard := none }) (v := ?vv37009) rfl (by kernel_rfl) (by kernel_rfl) (by kernel_rfl) (fun _ _ _ h => h) (Or.inl ⟨by rfl, ?hy37009⟩) (by assumption) ?tk37009
  case hy37009 => (intro w hSw; (try dsimp only at hSw); go_simp; (try with_reducible rfl))
  try simp only [Act.put, List.setIfInBounds_toArray, List.set_cons_zero, List.set_cons_succ]
  refine wpAnyH_done (by kernel_rfl) ?_ _
  have X1 := hideIt HX.out.1.drew
  generalize w.drew = w1 at *
  have i2 : ((i : Int) ≥ (i : Int)) := by omega
  go_wp2
  go_ret2
  exact ⟨rfl, X1.out⟩
end Go.Proofs.Qxb6500880aGreat
