import Derived.Deep.CutBlock
import Derived.OwnWalk
import Derived.Maps.AppendAt
import Derived.Maps.OwnSet
import Derived.Maps.OwnOps
import Derived.Laws.ResultCell
import Derived.Lib.AppendZerosOnto
import Derived.Test.Qxb6500880aZm
import Derived.Test.Qxb6500880aZA
set_option linter.unusedVariables false
set_option linter.unusedSimpArgs false
namespace Go.Proofs.Qxb6500880a
open Go.RowKit

theorem Dyn.hb {w w' : World} {ρ : Rl} {τ : Rt} {c : Nat → Value} {cu : Nat → Option Int} (h : Dyn w ρ τ c cu) (C : EnvC ρ τ) (W : Wr ρ.hb w w') : Dyn w' ρ τ c cu := by
  have e := W.block τ.GC (h.glt C) C.d2
  exact ⟨h.env.ws C (Ws.of_wr W (.inr (.inr rfl))), h.eng.blk (W.block _ h.eng.lt C.d3), h.r21, h.r22, fun j hj q => (h.cN j hj q).blk e, fun j hj r q => (h.cO j hj r q).blk e, fun o => (World.frozen?_of_block (a := ⟨τ.GC, o, none⟩) e).trans (h.cf o)⟩
theorem Enw.lt {w : World} {ρ : Rl} {τ : Rt} (h : Enw w ρ τ) (C : EnvC ρ τ) {q : Nat} (hq : τ.fix ρ q) : q < w.heap.size := by
  rcases hq with z | z | z | (z | ⟨j, hj, z⟩) | z | z | z
  · exact h.ru.lt z
  · rw [z]; exact World.block_lt_of_cell? _ _ (h.rz.c _ (h.ru.r 0 0 C.m0 C.n0))
  · rw [z]; exact (h.pl.lt (.inl rfl)).2
  · rw [z]; exact World.block_lt_of_cell? _ _ (h.st 0 C.m0).s0
  · exact ((h.pl.ka j hj).lt z).2
  · obtain ⟨p, c, e, _, hz⟩ := h.dz
    rcases hz with y | ⟨g, off, e2, hz⟩
    · have := C.n0; omega
    · rw [e, e2] at z
      have : g = q := by simpa [Value.ownBlock] using z
      rw [← this]
      exact World.block_lt_of_cell? _ _ (hz 0 C.n0)
  · obtain ⟨g, e, hc, _⟩ := h.sl
    rw [e] at z
    rw [← own_blk z]
    exact World.block_lt_of_cell? _ _ (hc 0 (by omega))
  · rw [z]; exact h.rel.lt
theorem Dyn.keep {w w' : World} {ρ : Rl} {τ : Rt} {c : Nat → Value} {cu : Nat → Option Int} (h : Dyn w ρ τ c cu) (C : EnvC ρ τ) (hk : ∀ q, τ.fix ρ q ∨ q = τ.GC ∨ q = τ.E → q < w.heap.size → w'.heap[q]? = w.heap[q]?) : Dyn w' ρ τ c cu := by
  have e := hk τ.GC (.inr (.inl rfl)) (h.glt C)
  exact ⟨h.env.keep C (fun q hq hl => hk q (.inl hq) hl), h.eng.blk (hk _ (.inr (.inr rfl)) h.eng.lt), h.r21, h.r22, fun j hj q => (h.cN j hj q).blk e, fun j hj r q => (h.cO j hj r q).blk e, fun o => (World.frozen?_of_block (a := ⟨τ.GC, o, none⟩) e).trans (h.cf o)⟩
theorem Dyn.lt {w : World} {ρ : Rl} {τ : Rt} {c : Nat → Value} {cu : Nat → Option Int} (h : Dyn w ρ τ c cu) (C : EnvC ρ τ) {q : Nat} (hq : τ.fix ρ q ∨ q = τ.GC ∨ q = τ.E) : q < w.heap.size := by
  rcases hq with z | z | z
  · exact h.env.lt C z
  · rw [z]; exact h.glt C
  · rw [z]; exact h.eng.lt
theorem Dyn.drew {w : World} {ρ : Rl} {τ : Rt} {c : Nat → Value} {cu : Nat → Option Int} (h : Dyn w ρ τ c cu) (C : EnvC ρ τ) : Dyn w.drew ρ τ c cu := h.below C (below_dr (Below.refl _ _))
/-- h holds its one row. -/
structure HbOk (w : World) (hb : Nat) (nm : ByteArray) (s : RelS) : Prop where
  r : RelAt w hb nm s
  A : s.A = 0
  ro : s.rows = 1
  d : SymZ w s.data 0
  sl : SlotAt w s.slots (fun j => if j = slotZ 0 then 1 else 0)
theorem SymZ.zero {w w' : World} {v : Value} (h : SymZ w v 0) : SymZ w' v 0 := by
  obtain ⟨p, c, e, hc, _⟩ := h
  exact ⟨p, c, e, hc, .inl rfl⟩
theorem HbOk.keep {w w' : World} {hb : Nat} {nm : ByteArray} {s : RelS} (h : HbOk w hb nm s) (hk : ∀ q, s.slots.ownBlock = some q ∨ q = hb → w'.heap[q]? = w.heap[q]?) : HbOk w' hb nm s :=
  ⟨h.r.blk (hk hb (.inr rfl)), h.A, h.ro, h.d.zero, h.sl.keep (fun q hq _ => hk q (.inl hq))⟩
theorem HbOk.lt {w : World} {hb : Nat} {nm : ByteArray} {s : RelS} (h : HbOk w hb nm s) {q : Nat} (hq : s.slots.ownBlock = some q ∨ q = hb) : q < w.heap.size := by
  rcases hq with z | z
  · obtain ⟨g, e, hc, _⟩ := h.sl
    rw [e] at z
    rw [← own_blk z]
    exact World.block_lt_of_cell? _ _ (hc 0 (by omega))
  · rw [z]; exact h.r.lt
theorem HbOk.below {w w' : World} {hb : Nat} {nm : ByteArray} {s : RelS} (h : HbOk w hb nm s) (b : Below w.heap.size w w') : HbOk w' hb nm s := h.keep (fun q hq => b.block q (h.lt hq))
set_option maxRecDepth 20000 in
set_option maxHeartbeats 8000000 in
theorem conclude_any {w : World} {ρ : Rl} {τ : Rt} {c : Nat → Value} {cu : Nat → Option Int} {v B : Nat} {nmh : ByteArray} {sh : RelS} (h : Dyn w ρ τ c cu) (C : EnvC ρ τ) (hcu : ∀ k, k < ρ.m → cu k ≠ none) (Hh : RelAt w ρ.hb nmh sh) (hA0 : sh.A = 0) (h0 : sh.rows = 0) (hd : sh.data = .slice none 0 0) (hs : sh.slots = .slice none 0 0) (hy : sh.why = .slice none 0 0) (c0 : c 0 = .int .i64 (B : Int)) (c14 : c 14 = .slice none 0 0) (c16 : c 16 = .int .i64 1) (c18 : c 18 = .int .i64 (v : Int)) (c23 : c 23 = .slice none 0 0) (hv : v ≤ 1000) :
    Calls Try.prog 59 #[.pointer (some ⟨τ.E, 0, none⟩), .pointer (some ⟨τ.P, 0, none⟩)] w fun e w' => e = .returned (.bool (decide (2 ≤ B))) ∧ ∃ c' sh', Dyn w' ρ τ c' cu ∧ HbOk w' ρ.hb nmh sh' ∧ sh'.old = sh.old ∧ sh'.cur = sh.cur ∧ (∀ q, sh'.slots.ownBlock = some q → w.heap.size ≤ q) ∧ (∀ i, i ≠ 14 → i ≠ 16 → i ≠ 18 → i ≠ 23 → c' i = c i) ∧ Ws (fun q => q = τ.E ∨ q = ρ.hb) w w' := by
  obtain ⟨i2, hi2, hw0, hw1, hw2⟩ := info_parts info21
  have hm0 := C.m0
  have hm := C.hm
  have e18 := h.eng.get c18 (by omega)
  have ef := h.eng.fz
  have HQ := hideIt (And.intro h (And.intro C (And.intro Hh hcu)))
  have HQ2 := hideIt (And.intro hA0 (And.intro h0 (And.intro hd (And.intro hs hy))))
  clear h C Hh hA0 h0 hd hs hy hcu
  go_enter Try.func59, Try.ntmps59
  go_upto_region 2 with fail
  obtain ⟨h, C, Hh, hcu⟩ := HQ.out
  obtain ⟨v', hv'⟩ : ∃ v' : Int, (v : Int) + 1 = v' := ⟨_, rfl⟩
  rw [hv']
  have D1 := h.put C (o := 18) (by omega) (by omega) (by omega) (.int .i64 v')
  have H1 : RelAt (w.setCell ⟨τ.E, 18, none⟩ (.int .i64 v')) ρ.hb nmh sh := Hh.blk (far_set (fun e => C.d3 e.symm))
  have W1 : Ws (fun q => q = τ.E ∨ q = ρ.hb) w (w.setCell ⟨τ.E, 18, none⟩ (.int .i64 v')) := (Ws.refl _ _).set (.inl (.inl rfl))
  clear h Hh hcu e18 ef hv'
  generalize w.setCell ⟨τ.E, 18, none⟩ (.int .i64 v') = w1 at *
  have a23 := D1.eng.get ((updV_other c _ (by omega)).trans c23) (by omega)
  have aP0 := D1.env.pl.c0
  have aR2 := D1.env.ru.c2
  have ef := D1.eng.fz
  have hEl := D1.eng.lt
  have hPl : τ.P < w1.heap.size := World.block_lt_of_cell? _ _ aP0
  have hRl := D1.env.ru.lt (q := ρ.RB) (.inl rfl)
  have hga := gather_any (w := w1.drew) (f := fun _ => 0) (k := 0) (v := .slice ρ.hp 0 ρ.hc) (D1.eng.get D1.r21 (by omega)) ⟨D1.env.rz.c, D1.env.rz.fz⟩ ⟨_, _, rfl, Nat.zero_le _, .inl rfl⟩ (fun j hj => by omega) C.hR (by omega)
  have HY1 := hideIt (And.intro D1 (And.intro H1 W1))
  clear D1 H1 W1 C
  refine wp_region_l (l := 18) (S := (fun w' => w'.cell? ⟨τ.E, 23, none⟩ = some (.slice none 0 0) ∧ w'.cell? ⟨τ.P, 0, none⟩ = some (.pointer (some ⟨ρ.RB, 0, none⟩)) ∧ w'.cell? ⟨ρ.RB, 2, none⟩ = some (.slice ρ.hp 0 ρ.hc))) (by kernel_rfl) ⟨a23, aP0, aR2⟩ (fun hHeld => ?_)
  refine AnyL.take2 (i := 0) (oi := { dst := some 16, op := Go.Op.move (Go.Operand.tmp 0), type := 43, pos := _, after := #[], guard := none }) (v := ?vv35001) (by kernel_rfl) (by kernel_rfl) rfl (by kernel_rfl) (by kernel_rfl) (by kernel_rfl) (fun _ _ _ h => h) (Or.inl ⟨by rfl, ?hy35001⟩) (by assumption) ?tk35001
  case hy35001 => (intro w hSw; (try dsimp only at hSw); go_simp; (try with_reducible rfl))
  try simp only [Act.put, List.setIfInBounds_toArray, List.set_cons_zero, List.set_cons_succ]
  refine AnyL.take2 (i := 1) (oi := { dst := some 17, op := Go.Op.move (Go.Operand.tmp 0), type := 43, pos := _, after := #[], guard := none }) (v := ?vv35002) (by kernel_rfl) (by kernel_rfl) rfl (by kernel_rfl) (by kernel_rfl) (by kernel_rfl) (fun _ _ _ h => h) (Or.inl ⟨by rfl, ?hy35002⟩) (by assumption) ?tk35002
  case hy35002 => (intro w hSw; (try dsimp only at hSw); go_simp; (try with_reducible rfl))
  try simp only [Act.put, List.setIfInBounds_toArray, List.set_cons_zero, List.set_cons_succ]
  refine AnyL.take2 (i := 2) (oi := { dst := some 18, op := Go.Op.move (Go.Operand.tmp 0), type := 43, pos := _, after := #[], guard := none }) (v := ?vv35003) (by kernel_rfl) (by kernel_rfl) rfl (by kernel_rfl) (by kernel_rfl) (by kernel_rfl) (fun _ _ _ h => h) (Or.inl ⟨by rfl, ?hy35003⟩) (by assumption) ?tk35003
  case hy35003 => (intro w hSw; (try dsimp only at hSw); go_simp; (try with_reducible rfl))
  try simp only [Act.put, List.setIfInBounds_toArray, List.set_cons_zero, List.set_cons_succ]
  refine AnyL.take2 (i := 3) (oi := { dst := some 19, op := Go.Op.nilCheck (Go.Operand.tmp 18), type := 0, pos := _, after := #[{ on := 2, ground := Go.Ground.data }], guard := none }) (v := ?vv35004) (by kernel_rfl) (by kernel_rfl) rfl (by kernel_rfl) (by kernel_rfl) (by kernel_rfl) (fun _ _ _ h => h) (Or.inl ⟨by rfl, ?hy35004⟩) (by assumption) ?tk35004
  case hy35004 => (intro w hSw; (try dsimp only at hSw); go_simp; (try with_reducible rfl))
  try simp only [Act.put, List.setIfInBounds_toArray, List.set_cons_zero, List.set_cons_succ]
  refine AnyL.take2 (i := 4) (oi := { dst := some 20, op := Go.Op.fieldAddr 75 (Go.Operand.tmp 19) 13, type := 0, pos := _, after := #[{ on := 3, ground := Go.Ground.data }], guard := none }) (v := ?vv35005) (by kernel_rfl) (by kernel_rfl) rfl (by kernel_rfl) (by kernel_rfl) (by kernel_rfl) (fun _ _ _ h => h) (Or.inl ⟨by rfl, ?hy35005⟩) (by assumption) ?tk35005
  case hy35005 => (intro w hSw; (try dsimp only at hSw); go_simp; (try with_reducible rfl))
  try simp only [Act.put, List.setIfInBounds_toArray, List.set_cons_zero, List.set_cons_succ]
  refine AnyL.take2 (i := 5) (oi := { dst := some 21, op := Go.Op.load 72 (Go.Operand.tmp 20), type := 72, pos := _, after := #[{ on := 4, ground := Go.Ground.data }], guard := none }) (v := ?vv35006) (by kernel_rfl) (by kernel_rfl) rfl (by kernel_rfl) (by kernel_rfl) (by kernel_rfl) (fun _ _ _ h => h) (Or.inl ⟨by rfl, ?hy35006⟩) (by assumption) ?tk35006
  case hy35006 => (intro w hSw; (try dsimp only at hSw); go_simp; (try with_reducible rfl))
  try simp only [Act.put, List.setIfInBounds_toArray, List.set_cons_zero, List.set_cons_succ]
  refine AnyL.take2 (i := 6) (oi := { dst := some 22, op := Go.Op.slice 72 (Go.Operand.tmp 21) none (some (Go.Operand.const (Go.Value.int Go.IntKind.i64 0))) none, type := 72, pos := _, after := #[{ on := 5, ground := Go.Ground.data }], guard := none }) (v := ?vv35007) (by kernel_rfl) (by kernel_rfl) rfl (by kernel_rfl) (by kernel_rfl) (by kernel_rfl) (fun _ _ _ h => h) (Or.inl ⟨by rfl, ?hy35007⟩) (by assumption) ?tk35007
  case hy35007 => (intro w hSw; (try dsimp only at hSw); go_simp; (try with_reducible rfl))
  try simp only [Act.put, List.setIfInBounds_toArray, List.set_cons_zero, List.set_cons_succ]
  refine AnyL.take2 (i := 7) (oi := { dst := some 23, op := Go.Op.move (Go.Operand.tmp 1), type := 150, pos := _, after := #[], guard := none }) (v := ?vv35008) (by kernel_rfl) (by kernel_rfl) rfl (by kernel_rfl) (by kernel_rfl) (by kernel_rfl) (fun _ _ _ h => h) (Or.inl ⟨by rfl, ?hy35008⟩) (by assumption) ?tk35008
  case hy35008 => (intro w hSw; (try dsimp only at hSw); go_simp; (try with_reducible rfl))
  try simp only [Act.put, List.setIfInBounds_toArray, List.set_cons_zero, List.set_cons_succ]
  refine AnyL.take2 (i := 8) (oi := { dst := some 24, op := Go.Op.nilCheck (Go.Operand.tmp 23), type := 0, pos := _, after := #[{ on := 7, ground := Go.Ground.data }], guard := none }) (v := ?vv35009) (by kernel_rfl) (by kernel_rfl) rfl (by kernel_rfl) (by kernel_rfl) (by kernel_rfl) (fun _ _ _ h => h) (Or.inl ⟨by rfl, ?hy35009⟩) (by assumption) ?tk35009
  case hy35009 => (intro w hSw; (try dsimp only at hSw); go_simp; (try with_reducible rfl))
  try simp only [Act.put, List.setIfInBounds_toArray, List.set_cons_zero, List.set_cons_succ]
  refine AnyL.take2 (i := 9) (oi := { dst := some 25, op := Go.Op.fieldAddr 164 (Go.Operand.tmp 24) 0, type := 0, pos := _, after := #[{ on := 8, ground := Go.Ground.data }], guard := none }) (v := ?vv35010) (by kernel_rfl) (by kernel_rfl) rfl (by kernel_rfl) (by kernel_rfl) (by kernel_rfl) (fun _ _ _ h => h) (Or.inl ⟨by rfl, ?hy35010⟩) (by assumption) ?tk35010
  case hy35010 => (intro w hSw; (try dsimp only at hSw); go_simp; (try with_reducible rfl))
  try simp only [Act.put, List.setIfInBounds_toArray, List.set_cons_zero, List.set_cons_succ]
  refine AnyL.take2 (i := 10) (oi := { dst := some 26, op := Go.Op.load 81 (Go.Operand.tmp 25), type := 81, pos := _, after := #[{ on := 9, ground := Go.Ground.data }], guard := none }) (v := ?vv35011) (by kernel_rfl) (by kernel_rfl) rfl (by kernel_rfl) (by kernel_rfl) (by kernel_rfl) (fun _ _ _ h => h) (Or.inl ⟨by rfl, ?hy35011⟩) (by assumption) ?tk35011
  case hy35011 => (intro w hSw; (try dsimp only at hSw); go_simp; (try with_reducible rfl))
  try simp only [Act.put, List.setIfInBounds_toArray, List.set_cons_zero, List.set_cons_succ]
  refine AnyL.take2 (i := 11) (oi := { dst := some 27, op := Go.Op.nilCheck (Go.Operand.tmp 26), type := 0, pos := _, after := #[{ on := 10, ground := Go.Ground.data }], guard := none }) (v := ?vv35012) (by kernel_rfl) (by kernel_rfl) rfl (by kernel_rfl) (by kernel_rfl) (by kernel_rfl) (fun _ _ _ h => h) (Or.inl ⟨by rfl, ?hy35012⟩) (by assumption) ?tk35012
  case hy35012 => (intro w hSw; (try dsimp only at hSw); go_simp; (try with_reducible rfl))
  try simp only [Act.put, List.setIfInBounds_toArray, List.set_cons_zero, List.set_cons_succ]
  refine AnyL.take2 (i := 12) (oi := { dst := some 28, op := Go.Op.fieldAddr 96 (Go.Operand.tmp 27) 1, type := 0, pos := _, after := #[{ on := 11, ground := Go.Ground.data }], guard := none }) (v := ?vv35013) (by kernel_rfl) (by kernel_rfl) rfl (by kernel_rfl) (by kernel_rfl) (by kernel_rfl) (fun _ _ _ h => h) (Or.inl ⟨by rfl, ?hy35013⟩) (by assumption) ?tk35013
  case hy35013 => (intro w hSw; (try dsimp only at hSw); go_simp; (try with_reducible rfl))
  try simp only [Act.put, List.setIfInBounds_toArray, List.set_cons_zero, List.set_cons_succ]
  refine AnyL.take2 (i := 13) (oi := { dst := some 29, op := Go.Op.fieldAddr 92 (Go.Operand.tmp 28) 1, type := 0, pos := _, after := #[{ on := 12, ground := Go.Ground.data }], guard := none }) (v := ?vv35014) (by kernel_rfl) (by kernel_rfl) rfl (by kernel_rfl) (by kernel_rfl) (by kernel_rfl) (fun _ _ _ h => h) (Or.inl ⟨by rfl, ?hy35014⟩) (by assumption) ?tk35014
  case hy35014 => (intro w hSw; (try dsimp only at hSw); go_simp; (try with_reducible rfl))
  try simp only [Act.put, List.setIfInBounds_toArray, List.set_cons_zero, List.set_cons_succ]
  refine AnyL.take2 (i := 14) (oi := { dst := some 30, op := Go.Op.load 90 (Go.Operand.tmp 29), type := 90, pos := _, after := #[{ on := 13, ground := Go.Ground.data }], guard := none }) (v := ?vv35015) (by kernel_rfl) (by kernel_rfl) rfl (by kernel_rfl) (by kernel_rfl) (by kernel_rfl) (fun _ _ _ h => h) (Or.inl ⟨by rfl, ?hy35015⟩) (by assumption) ?tk35015
  case hy35015 => (intro w hSw; (try dsimp only at hSw); go_simp; (try with_reducible rfl))
  try simp only [Act.put, List.setIfInBounds_toArray, List.set_cons_zero, List.set_cons_succ]
  refine AnyL.one (i := 15) (o := { dst := some 31, op := Go.Op.call { callee := Go.Callee.value (Go.Operand.func 73), args := #[Go.Operand.tmp 17, Go.Operand.tmp 22, Go.Operand.tmp 30], argTypes := #[43, 72, 90] }, type := 72, pos := _, after := #[{ on := 1, ground := Go.Ground.data }, { on := 6, ground := Go.Ground.data }, { on := 14, ground := Go.Ground.data }], guard := none }) (by kernel_rfl) rfl rfl (fun K' hK' => ?_)
  go_simp
  go_at_call 73
  refine hga.mono ?_
  rintro e w5 ⟨v5, rfl, own5, hv0, b5⟩
  have hv0' := hv0 rfl
  subst hv0'
  have x1 := (World.cell?_of_block (a := ⟨τ.E, 23, none⟩) (b5.block τ.E hEl)).trans a23
  have x2 := (World.cell?_of_block (a := ⟨τ.P, 0, none⟩) (b5.block τ.P hPl)).trans aP0
  have x3 := (World.cell?_of_block (a := ⟨ρ.RB, 2, none⟩) (b5.block ρ.RB hRl)).trans aR2
  have xf : ∀ o, w5.frozen? ⟨τ.E, o, none⟩ = false := fun o => (World.frozen?_of_block (a := ⟨τ.E, o, none⟩) (b5.block τ.E hEl)).trans (ef o)
  have HX5 := hideIt b5
  clear own5 hv0 b5 hga
  clear hHeld
  refine hK'.out _ _ ⟨x1, x2, x3⟩ (fun hHeld => ?_)
  clear hK' K'
  try simp only [Act.put, List.setIfInBounds_toArray, List.set_cons_zero, List.set_cons_succ]
  refine AnyL.take2 (i := 16) (oi := { dst := some 32, op := Go.Op.nilCheck (Go.Operand.tmp 16), type := 0, pos := _, after := #[{ on := 0, ground := Go.Ground.data }, { on := 0, ground := Go.Ground.phase }, { on := 1, ground := Go.Ground.phase }, { on := 2, ground := Go.Ground.phase }, { on := 3, ground := Go.Ground.phase }, { on := 4, ground := Go.Ground.phase }, { on := 5, ground := Go.Ground.phase }, { on := 6, ground := Go.Ground.phase }, { on := 7, ground := Go.Ground.phase }, { on := 8, ground := Go.Ground.phase }, { on := 9, ground := Go.Ground.phase }, { on := 10, ground := Go.Ground.phase }, { on := 11, ground := Go.Ground.phase }, { on := 12, ground := Go.Ground.phase }, { on := 13, ground := Go.Ground.phase }, { on := 14, ground := Go.Ground.phase }, { on := 15, ground := Go.Ground.phase }], guard := none }) (v := ?vv35016) (by kernel_rfl) (by kernel_rfl) rfl (by kernel_rfl) (by kernel_rfl) (by kernel_rfl) (fun _ _ _ h => h) (Or.inl ⟨by rfl, ?hy35016⟩) (by assumption) ?tk35016
  case hy35016 => (intro w hSw; (try dsimp only at hSw); go_simp; (try with_reducible rfl))
  try simp only [Act.put, List.setIfInBounds_toArray, List.set_cons_zero, List.set_cons_succ]
  refine AnyL.take2 (i := 17) (oi := { dst := some 33, op := Go.Op.fieldAddr 75 (Go.Operand.tmp 32) 13, type := 0, pos := _, after := #[{ on := 16, ground := Go.Ground.data }, { on := 0, ground := Go.Ground.phase }, { on := 1, ground := Go.Ground.phase }, { on := 2, ground := Go.Ground.phase }, { on := 3, ground := Go.Ground.phase }, { on := 4, ground := Go.Ground.phase }, { on := 5, ground := Go.Ground.phase }, { on := 6, ground := Go.Ground.phase }, { on := 7, ground := Go.Ground.phase }, { on := 8, ground := Go.Ground.phase }, { on := 9, ground := Go.Ground.phase }, { on := 10, ground := Go.Ground.phase }, { on := 11, ground := Go.Ground.phase }, { on := 12, ground := Go.Ground.phase }, { on := 13, ground := Go.Ground.phase }, { on := 14, ground := Go.Ground.phase }, { on := 15, ground := Go.Ground.phase }], guard := none }) (v := ?vv35017) (by kernel_rfl) (by kernel_rfl) rfl (by kernel_rfl) (by kernel_rfl) (by kernel_rfl) (fun _ _ _ h => h) (Or.inl ⟨by rfl, ?hy35017⟩) (by assumption) ?tk35017
  case hy35017 => (intro w hSw; (try dsimp only at hSw); go_simp; (try with_reducible rfl))
  try simp only [Act.put, List.setIfInBounds_toArray, List.set_cons_zero, List.set_cons_succ]
  refine AnyL.last (o := { dst := none, op := Go.Op.store 72 (Go.Operand.tmp 33) (Go.Operand.tmp 31), type := 0, pos := _, after := #[{ on := 17, ground := Go.Ground.data }, { on := 15, ground := Go.Ground.data }, { on := 15, ground := Go.Ground.chain }, { on := 0, ground := Go.Ground.phase }, { on := 1, ground := Go.Ground.phase }, { on := 2, ground := Go.Ground.phase }, { on := 3, ground := Go.Ground.phase }, { on := 4, ground := Go.Ground.phase }, { on := 5, ground := Go.Ground.phase }, { on := 6, ground := Go.Ground.phase }, { on := 7, ground := Go.Ground.phase }, { on := 8, ground := Go.Ground.phase }, { on := 9, ground := Go.Ground.phase }, { on := 10, ground := Go.Ground.phase }, { on := 11, ground := Go.Ground.phase }, { on := 12, ground := Go.Ground.phase }, { on := 13, ground := Go.Ground.phase }, { on := 14, ground := Go.Ground.phase }, { on := 15, ground := Go.Ground.phase }], guard := none }) (by kernel_rfl) rfl (by kernel_rfl) (fun K' hK' => ?_)
  go_simp
  clear hHeld
  refine hK'.out _ _ ?_
  clear hK' K'
  try simp only [Act.put, List.setIfInBounds_toArray, List.set_cons_zero, List.set_cons_succ]
  obtain ⟨D1, H1, W1⟩ := HY1.out
  obtain ⟨_, C, _, hcu⟩ := HQ.out
  have b5 : Below w1.heap.size w1 w5 := ⟨HX5.out.os, HX5.out.tape, HX5.out.output, HX5.out.size, HX5.out.block⟩
  have D2 := (D1.below C b5).put C (o := 23) (by omega) (by omega) (by omega) (.slice none 0 0)
  have H2 : RelAt (w5.setCell ⟨τ.E, 23, none⟩ (.slice none 0 0)) ρ.hb nmh sh := (H1.below b5).blk (far_set (fun e => C.d3 e.symm))
  have W2 : Ws (fun q => q = τ.E ∨ q = ρ.hb) w (w5.setCell ⟨τ.E, 23, none⟩ (.slice none 0 0)) := (W1.below b5).set (.inl (.inl rfl))
  clear D1 H1 W1 b5 HX5 HY1 x1 x2 x3 xf a23 aP0 aR2 ef hEl hPl hRl
  generalize w5.setCell ⟨τ.E, 23, none⟩ (.slice none 0 0) = w2 at *
  have a14 := D2.eng.get ((updV_other _ _ (by omega)).trans ((updV_other c _ (by omega)).trans c14)) (by omega)
  have HY2 := hideIt (And.intro D2 (And.intro H2 W2))
  have a23 := D2.eng.get (updV_same _ _ _) (by omega)
  have aP0 := D2.env.pl.c0
  have aR1 := D2.env.ru.c1
  have hEl := D2.eng.lt
  have hPl : τ.P < w2.heap.size := World.block_lt_of_cell? _ _ aP0
  have hRl := D2.env.ru.lt (q := ρ.RB) (.inl rfl)
  have hPh : τ.P ≠ ρ.hb := (C.fx τ.P (.inr (.inr (.inl rfl)))).2.2
  have hRh : ρ.RB ≠ ρ.hb := (C.fx ρ.RB (.inl (.inl rfl))).2.2
  have hEh : τ.E ≠ ρ.hb := C.d3
  obtain ⟨hA0, h0, hd, hs, hy⟩ := HQ2.out
  have hins := insert_new (w := w2.drew) (n := 0) (v := .slice none 0 0) H2.drew h0 hd hs hy (.inl ⟨rfl, rfl⟩) (by simp [Value.ownBlock]) (by omega) 0
  clear D2 H2 W2 C hcu hA0 h0 hd hs hy
  go_upto_region 4 with fail
  clear a14
  refine wp_region_held_drew (S := (fun w' => w'.cell? ⟨τ.P, 0, none⟩ = some (.pointer (some ⟨ρ.RB, 0, none⟩)) ∧ w'.cell? ⟨ρ.RB, 1, none⟩ = some (.pointer (some ⟨ρ.hb, 0, none⟩)) ∧ w'.cell? ⟨τ.E, 23, none⟩ = some (.slice none 0 0))) (by kernel_rfl) ⟨aP0, aR1, a23⟩ (fun hHeld => ?_)
  refine wpAnyH_take (i := 0) (oi := { dst := some 39, op := Go.Op.move (Go.Operand.tmp 1), type := 150, pos := _, after := #[], guard := none }) (v := ?vv35018) rfl (by kernel_rfl) (by kernel_rfl) (by kernel_rfl) (fun _ _ _ h => h) (Or.inl ⟨by rfl, ?hy35018⟩) (by assumption) ?tk35018
  case hy35018 => (intro w hSw; (try dsimp only at hSw); go_simp; (try with_reducible rfl))
  try simp only [Act.put, List.setIfInBounds_toArray, List.set_cons_zero, List.set_cons_succ]
  refine wpAnyH_take (i := 1) (oi := { dst := some 40, op := Go.Op.nilCheck (Go.Operand.tmp 39), type := 0, pos := _, after := #[{ on := 0, ground := Go.Ground.data }], guard := none }) (v := ?vv35019) rfl (by kernel_rfl) (by kernel_rfl) (by kernel_rfl) (fun _ _ _ h => h) (Or.inl ⟨by rfl, ?hy35019⟩) (by assumption) ?tk35019
  case hy35019 => (intro w hSw; (try dsimp only at hSw); go_simp; (try with_reducible rfl))
  try simp only [Act.put, List.setIfInBounds_toArray, List.set_cons_zero, List.set_cons_succ]
  refine wpAnyH_take (i := 2) (oi := { dst := some 41, op := Go.Op.fieldAddr 164 (Go.Operand.tmp 40) 0, type := 0, pos := _, after := #[{ on := 1, ground := Go.Ground.data }], guard := none }) (v := ?vv35020) rfl (by kernel_rfl) (by kernel_rfl) (by kernel_rfl) (fun _ _ _ h => h) (Or.inl ⟨by rfl, ?hy35020⟩) (by assumption) ?tk35020
  case hy35020 => (intro w hSw; (try dsimp only at hSw); go_simp; (try with_reducible rfl))
  try simp only [Act.put, List.setIfInBounds_toArray, List.set_cons_zero, List.set_cons_succ]
  refine wpAnyH_take (i := 3) (oi := { dst := some 42, op := Go.Op.load 81 (Go.Operand.tmp 41), type := 81, pos := _, after := #[{ on := 2, ground := Go.Ground.data }], guard := none }) (v := ?vv35021) rfl (by kernel_rfl) (by kernel_rfl) (by kernel_rfl) (fun _ _ _ h => h) (Or.inl ⟨by rfl, ?hy35021⟩) (by assumption) ?tk35021
  case hy35021 => (intro w hSw; (try dsimp only at hSw); go_simp; (try with_reducible rfl))
  try simp only [Act.put, List.setIfInBounds_toArray, List.set_cons_zero, List.set_cons_succ]
  refine wpAnyH_take (i := 4) (oi := { dst := some 43, op := Go.Op.nilCheck (Go.Operand.tmp 42), type := 0, pos := _, after := #[{ on := 3, ground := Go.Ground.data }], guard := none }) (v := ?vv35022) rfl (by kernel_rfl) (by kernel_rfl) (by kernel_rfl) (fun _ _ _ h => h) (Or.inl ⟨by rfl, ?hy35022⟩) (by assumption) ?tk35022
  case hy35022 => (intro w hSw; (try dsimp only at hSw); go_simp; (try with_reducible rfl))
  try simp only [Act.put, List.setIfInBounds_toArray, List.set_cons_zero, List.set_cons_succ]
  refine wpAnyH_take (i := 5) (oi := { dst := some 44, op := Go.Op.fieldAddr 96 (Go.Operand.tmp 43) 1, type := 0, pos := _, after := #[{ on := 4, ground := Go.Ground.data }], guard := none }) (v := ?vv35023) rfl (by kernel_rfl) (by kernel_rfl) (by kernel_rfl) (fun _ _ _ h => h) (Or.inl ⟨by rfl, ?hy35023⟩) (by assumption) ?tk35023
  case hy35023 => (intro w hSw; (try dsimp only at hSw); go_simp; (try with_reducible rfl))
  try simp only [Act.put, List.setIfInBounds_toArray, List.set_cons_zero, List.set_cons_succ]
  refine wpAnyH_take (i := 6) (oi := { dst := some 45, op := Go.Op.fieldAddr 92 (Go.Operand.tmp 44) 0, type := 0, pos := _, after := #[{ on := 5, ground := Go.Ground.data }], guard := none }) (v := ?vv35024) rfl (by kernel_rfl) (by kernel_rfl) (by kernel_rfl) (fun _ _ _ h => h) (Or.inl ⟨by rfl, ?hy35024⟩) (by assumption) ?tk35024
  case hy35024 => (intro w hSw; (try dsimp only at hSw); go_simp; (try with_reducible rfl))
  try simp only [Act.put, List.setIfInBounds_toArray, List.set_cons_zero, List.set_cons_succ]
  refine wpAnyH_take (i := 7) (oi := { dst := some 46, op := Go.Op.load 89 (Go.Operand.tmp 45), type := 89, pos := _, after := #[{ on := 6, ground := Go.Ground.data }], guard := none }) (v := ?vv35025) rfl (by kernel_rfl) (by kernel_rfl) (by kernel_rfl) (fun _ _ _ h => h) (Or.inl ⟨by rfl, ?hy35025⟩) (by assumption) ?tk35025
  case hy35025 => (intro w hSw; (try dsimp only at hSw); go_simp; (try with_reducible rfl))
  try simp only [Act.put, List.setIfInBounds_toArray, List.set_cons_zero, List.set_cons_succ]
  refine wpAnyH_take (i := 8) (oi := { dst := some 47, op := Go.Op.move (Go.Operand.tmp 0), type := 43, pos := _, after := #[], guard := none }) (v := ?vv35026) rfl (by kernel_rfl) (by kernel_rfl) (by kernel_rfl) (fun _ _ _ h => h) (Or.inl ⟨by rfl, ?hy35026⟩) (by assumption) ?tk35026
  case hy35026 => (intro w hSw; (try dsimp only at hSw); go_simp; (try with_reducible rfl))
  try simp only [Act.put, List.setIfInBounds_toArray, List.set_cons_zero, List.set_cons_succ]
  refine wpAnyH_take (i := 9) (oi := { dst := some 48, op := Go.Op.nilCheck (Go.Operand.tmp 47), type := 0, pos := _, after := #[{ on := 8, ground := Go.Ground.data }], guard := none }) (v := ?vv35027) rfl (by kernel_rfl) (by kernel_rfl) (by kernel_rfl) (fun _ _ _ h => h) (Or.inl ⟨by rfl, ?hy35027⟩) (by assumption) ?tk35027
  case hy35027 => (intro w hSw; (try dsimp only at hSw); go_simp; (try with_reducible rfl))
  try simp only [Act.put, List.setIfInBounds_toArray, List.set_cons_zero, List.set_cons_succ]
  refine wpAnyH_take (i := 10) (oi := { dst := some 49, op := Go.Op.fieldAddr 75 (Go.Operand.tmp 48) 13, type := 0, pos := _, after := #[{ on := 9, ground := Go.Ground.data }], guard := none }) (v := ?vv35028) rfl (by kernel_rfl) (by kernel_rfl) (by kernel_rfl) (fun _ _ _ h => h) (Or.inl ⟨by rfl, ?hy35028⟩) (by assumption) ?tk35028
  case hy35028 => (intro w hSw; (try dsimp only at hSw); go_simp; (try with_reducible rfl))
  try simp only [Act.put, List.setIfInBounds_toArray, List.set_cons_zero, List.set_cons_succ]
  refine wpAnyH_take (i := 11) (oi := { dst := some 50, op := Go.Op.load 72 (Go.Operand.tmp 49), type := 72, pos := _, after := #[{ on := 10, ground := Go.Ground.data }], guard := none }) (v := ?vv35029) rfl (by kernel_rfl) (by kernel_rfl) (by kernel_rfl) (fun _ _ _ h => h) (Or.inl ⟨by rfl, ?hy35029⟩) (by assumption) ?tk35029
  case hy35029 => (intro w hSw; (try dsimp only at hSw); go_simp; (try with_reducible rfl))
  try simp only [Act.put, List.setIfInBounds_toArray, List.set_cons_zero, List.set_cons_succ]
  refine wpAnyH_take (i := 12) (oi := { dst := some 51, op := Go.Op.move (Go.Operand.tmp 5), type := 3, pos := _, after := #[], guard := none }) (v := ?vv35030) rfl (by kernel_rfl) (by kernel_rfl) (by kernel_rfl) (fun _ _ _ h => h) (Or.inl ⟨by rfl, ?hy35030⟩) (by assumption) ?tk35030
  case hy35030 => (intro w hSw; (try dsimp only at hSw); go_simp; (try with_reducible rfl))
  try simp only [Act.put, List.setIfInBounds_toArray, List.set_cons_zero, List.set_cons_succ]
  refine wpAnyH_take (i := 13) (oi := { dst := some 52, op := Go.Op.convert 3 21 (Go.Operand.tmp 51), type := 21, pos := _, after := #[{ on := 12, ground := Go.Ground.data }], guard := none }) (v := ?vv35031) rfl (by kernel_rfl) (by kernel_rfl) (by kernel_rfl) (fun _ _ _ h => h) (Or.inl ⟨by rfl, ?hy35031⟩) (by assumption) ?tk35031
  case hy35031 => (intro w hSw; (try dsimp only at hSw); go_simp; (try with_reducible rfl))
  try simp only [Act.put, List.setIfInBounds_toArray, List.set_cons_zero, List.set_cons_succ]
  refine wpAnyH_ready (rs := [14]) (by kernel_rfl) (by simp) ?_
  refine AllReadyH.cons (o := { dst := some 53, op := Go.Op.call { callee := Go.Callee.value (Go.Operand.func 30), args := #[Go.Operand.tmp 46, Go.Operand.tmp 50, Go.Operand.tmp 52], argTypes := #[89, 72, 21] }, type := 4, pos := _, after := #[{ on := 7, ground := Go.Ground.data }, { on := 11, ground := Go.Ground.data }, { on := 13, ground := Go.Ground.data }], guard := none }) rfl (fun K' hK' => ?_) AllReadyH.nil
  go_simp
  go_at_call 30
  refine hins.mono ?_
  rintro e w5 ⟨rfl, HR5, W5⟩
  have x1 := (World.cell?_of_block (a := ⟨τ.P, 0, none⟩) (W5.block τ.P hPl hPh)).trans aP0
  have x2 := (World.cell?_of_block (a := ⟨ρ.RB, 1, none⟩) (W5.block ρ.RB hRl hRh)).trans aR1
  have x3 := (World.cell?_of_block (a := ⟨τ.E, 23, none⟩) (W5.block τ.E hEl hEh)).trans a23
  have HX5 := hideIt (And.intro HR5 W5)
  clear HR5 W5 hins
  clear hHeld
  refine hK'.out _ _ ⟨x1, x2, x3⟩ (fun hHeld => ?_)
  clear hK' K'
  try simp only [Act.put, List.setIfInBounds_toArray, List.set_cons_zero, List.set_cons_succ]
  refine wpAnyH_take (i := 15) (oi := { dst := some 54, op := Go.Op.unOp Go.UnOp.not 4 (Go.Operand.tmp 53), type := 4, pos := _, after := #[{ on := 14, ground := Go.Ground.data }], guard := none }) (v := ?vv35032) rfl (by kernel_rfl) (by kernel_rfl) (by kernel_rfl) (fun _ _ _ h => h) (Or.inl ⟨by rfl, ?hy35032⟩) (by assumption) ?tk35032
  case hy35032 => (intro w hSw; (try dsimp only at hSw); go_simp; (try with_reducible rfl))
  try simp only [Act.put, List.setIfInBounds_toArray, List.set_cons_zero, List.set_cons_succ]
  refine wpAnyH_done (by kernel_rfl) ?_ _
  obtain ⟨D2, H2, W2⟩ := HY2.out
  obtain ⟨_, C, _, hcu⟩ := HQ.out
  obtain ⟨HR5, W5⟩ := HX5.out
  have W5' : Wr ρ.hb w2 w5 := ⟨W5.os, W5.tape, W5.output, W5.size, W5.block⟩
  have D3 := D2.hb C W5'
  have W3 := W2.trans (Ws.of_wr W5' (.inr rfl))
  obtain ⟨hA0, h0, hd, hs, hy⟩ := HQ2.out
  obtain ⟨d, sv, wy, H3, hdz, hsl, hq1, hq2, hq3, hq4⟩ := HR5
  have K3 : HbOk w5 ρ.hb nmh { sh with rows := 1, data := d, slots := sv, why := wy } := ⟨H3, hA0, rfl, hdz, hsl⟩
  have hq3' : ∀ q, d.ownBlock = some q → q ≠ τ.E := fun q hq e => by have : w2.heap.size ≤ q := hq3 q hq; omega
  have hq4' : ∀ q, sv.ownBlock = some q → q ≠ τ.E := fun q hq e => by have : w2.heap.size ≤ q := hq4 q hq; omega
  have HQS := hideIt (show ∀ q, sv.ownBlock = some q → w.heap.size ≤ q from fun q hq => Nat.le_trans W2.size (show w2.heap.size ≤ q from hq4 q hq))
  have hdl : ∀ q, sv.ownBlock = some q ∨ q = ρ.hb → q ≠ τ.E := fun q hq => by
    rcases hq with z | z
    · exact hq4' q z
    · intro e; exact hEh (e.symm.trans z)
  clear hA0 h0 hd hs hy H3 hdz hsl hq1 hq2 hq3 hq4 W5 W5' D2 H2 W2 HX5 HY2 x1 x2 x3 a23 aP0 aR1 hEl hPl hRl hq3' hq4'
  have HDL := hideIt hdl
  clear hdl
  obtain ⟨wd, hwd⟩ : ∃ wd, wd = w5 := ⟨_, rfl⟩
  subst hwd
  have a14 := D3.eng.get ((updV_other _ _ (by omega)).trans ((updV_other c _ (by omega)).trans c14)) (by omega)
  have aP0 := D3.env.pl.c0
  have aR0 := D3.env.ru.c0
  have efd := D3.eng.fz
  have hEd := D3.eng.lt
  have HY3 := hideIt (And.intro D3 (And.intro K3 W3))
  clear D3 K3 W3 C hcu
  go_upto_region 6 with fail
  refine wp_region_l (l := 17) (S := (fun w' => w'.cell? ⟨τ.E, 14, none⟩ = some (.slice none 0 0) ∧ w'.cell? ⟨τ.P, 0, none⟩ = some (.pointer (some ⟨ρ.RB, 0, none⟩)) ∧ w'.cell? ⟨ρ.RB, 0, none⟩ = some (.int .i64 0))) (by kernel_rfl) ⟨a14, aP0, aR0⟩ (fun hHeld => ?_)
  refine AnyL.take2 (i := 0) (oi := { dst := some 55, op := Go.Op.move (Go.Operand.tmp 0), type := 43, pos := _, after := #[], guard := none }) (v := ?vv35033) (by kernel_rfl) (by kernel_rfl) rfl (by kernel_rfl) (by kernel_rfl) (by kernel_rfl) (fun _ _ _ h => h) (Or.inl ⟨by rfl, ?hy35033⟩) (by assumption) ?tk35033
  case hy35033 => (intro w hSw; (try dsimp only at hSw); go_simp; (try with_reducible rfl))
  try simp only [Act.put, List.setIfInBounds_toArray, List.set_cons_zero, List.set_cons_succ]
  refine AnyL.take2 (i := 1) (oi := { dst := some 56, op := Go.Op.move (Go.Operand.tmp 0), type := 43, pos := _, after := #[], guard := none }) (v := ?vv35034) (by kernel_rfl) (by kernel_rfl) rfl (by kernel_rfl) (by kernel_rfl) (by kernel_rfl) (fun _ _ _ h => h) (Or.inl ⟨by rfl, ?hy35034⟩) (by assumption) ?tk35034
  case hy35034 => (intro w hSw; (try dsimp only at hSw); go_simp; (try with_reducible rfl))
  try simp only [Act.put, List.setIfInBounds_toArray, List.set_cons_zero, List.set_cons_succ]
  refine AnyL.take2 (i := 2) (oi := { dst := some 57, op := Go.Op.nilCheck (Go.Operand.tmp 56), type := 0, pos := _, after := #[{ on := 1, ground := Go.Ground.data }], guard := none }) (v := ?vv35035) (by kernel_rfl) (by kernel_rfl) rfl (by kernel_rfl) (by kernel_rfl) (by kernel_rfl) (fun _ _ _ h => h) (Or.inl ⟨by rfl, ?hy35035⟩) (by assumption) ?tk35035
  case hy35035 => (intro w hSw; (try dsimp only at hSw); go_simp; (try with_reducible rfl))
  try simp only [Act.put, List.setIfInBounds_toArray, List.set_cons_zero, List.set_cons_succ]
  refine AnyL.take2 (i := 3) (oi := { dst := some 58, op := Go.Op.fieldAddr 75 (Go.Operand.tmp 57) 9, type := 0, pos := _, after := #[{ on := 2, ground := Go.Ground.data }], guard := none }) (v := ?vv35036) (by kernel_rfl) (by kernel_rfl) rfl (by kernel_rfl) (by kernel_rfl) (by kernel_rfl) (fun _ _ _ h => h) (Or.inl ⟨by rfl, ?hy35036⟩) (by assumption) ?tk35036
  case hy35036 => (intro w hSw; (try dsimp only at hSw); go_simp; (try with_reducible rfl))
  try simp only [Act.put, List.setIfInBounds_toArray, List.set_cons_zero, List.set_cons_succ]
  refine AnyL.take2 (i := 4) (oi := { dst := some 59, op := Go.Op.load 69 (Go.Operand.tmp 58), type := 69, pos := _, after := #[{ on := 3, ground := Go.Ground.data }], guard := none }) (v := ?vv35037) (by kernel_rfl) (by kernel_rfl) rfl (by kernel_rfl) (by kernel_rfl) (by kernel_rfl) (fun _ _ _ h => h) (Or.inl ⟨by rfl, ?hy35037⟩) (by assumption) ?tk35037
  case hy35037 => (intro w hSw; (try dsimp only at hSw); go_simp; (try with_reducible rfl))
  try simp only [Act.put, List.setIfInBounds_toArray, List.set_cons_zero, List.set_cons_succ]
  refine AnyL.take2 (i := 5) (oi := { dst := some 60, op := Go.Op.move (Go.Operand.tmp 1), type := 150, pos := _, after := #[], guard := none }) (v := ?vv35038) (by kernel_rfl) (by kernel_rfl) rfl (by kernel_rfl) (by kernel_rfl) (by kernel_rfl) (fun _ _ _ h => h) (Or.inl ⟨by rfl, ?hy35038⟩) (by assumption) ?tk35038
  case hy35038 => (intro w hSw; (try dsimp only at hSw); go_simp; (try with_reducible rfl))
  try simp only [Act.put, List.setIfInBounds_toArray, List.set_cons_zero, List.set_cons_succ]
  refine AnyL.take2 (i := 6) (oi := { dst := some 61, op := Go.Op.nilCheck (Go.Operand.tmp 60), type := 0, pos := _, after := #[{ on := 5, ground := Go.Ground.data }], guard := none }) (v := ?vv35039) (by kernel_rfl) (by kernel_rfl) rfl (by kernel_rfl) (by kernel_rfl) (by kernel_rfl) (fun _ _ _ h => h) (Or.inl ⟨by rfl, ?hy35039⟩) (by assumption) ?tk35039
  case hy35039 => (intro w hSw; (try dsimp only at hSw); go_simp; (try with_reducible rfl))
  try simp only [Act.put, List.setIfInBounds_toArray, List.set_cons_zero, List.set_cons_succ]
  refine AnyL.take2 (i := 7) (oi := { dst := some 62, op := Go.Op.fieldAddr 164 (Go.Operand.tmp 61) 0, type := 0, pos := _, after := #[{ on := 6, ground := Go.Ground.data }], guard := none }) (v := ?vv35040) (by kernel_rfl) (by kernel_rfl) rfl (by kernel_rfl) (by kernel_rfl) (by kernel_rfl) (fun _ _ _ h => h) (Or.inl ⟨by rfl, ?hy35040⟩) (by assumption) ?tk35040
  case hy35040 => (intro w hSw; (try dsimp only at hSw); go_simp; (try with_reducible rfl))
  try simp only [Act.put, List.setIfInBounds_toArray, List.set_cons_zero, List.set_cons_succ]
  refine AnyL.take2 (i := 8) (oi := { dst := some 63, op := Go.Op.load 81 (Go.Operand.tmp 62), type := 81, pos := _, after := #[{ on := 7, ground := Go.Ground.data }], guard := none }) (v := ?vv35041) (by kernel_rfl) (by kernel_rfl) rfl (by kernel_rfl) (by kernel_rfl) (by kernel_rfl) (fun _ _ _ h => h) (Or.inl ⟨by rfl, ?hy35041⟩) (by assumption) ?tk35041
  case hy35041 => (intro w hSw; (try dsimp only at hSw); go_simp; (try with_reducible rfl))
  try simp only [Act.put, List.setIfInBounds_toArray, List.set_cons_zero, List.set_cons_succ]
  refine AnyL.take2 (i := 9) (oi := { dst := some 64, op := Go.Op.nilCheck (Go.Operand.tmp 63), type := 0, pos := _, after := #[{ on := 8, ground := Go.Ground.data }], guard := none }) (v := ?vv35042) (by kernel_rfl) (by kernel_rfl) rfl (by kernel_rfl) (by kernel_rfl) (by kernel_rfl) (fun _ _ _ h => h) (Or.inl ⟨by rfl, ?hy35042⟩) (by assumption) ?tk35042
  case hy35042 => (intro w hSw; (try dsimp only at hSw); go_simp; (try with_reducible rfl))
  try simp only [Act.put, List.setIfInBounds_toArray, List.set_cons_zero, List.set_cons_succ]
  refine AnyL.take2 (i := 10) (oi := { dst := some 65, op := Go.Op.fieldAddr 96 (Go.Operand.tmp 64) 0, type := 0, pos := _, after := #[{ on := 9, ground := Go.Ground.data }], guard := none }) (v := ?vv35043) (by kernel_rfl) (by kernel_rfl) rfl (by kernel_rfl) (by kernel_rfl) (by kernel_rfl) (fun _ _ _ h => h) (Or.inl ⟨by rfl, ?hy35043⟩) (by assumption) ?tk35043
  case hy35043 => (intro w hSw; (try dsimp only at hSw); go_simp; (try with_reducible rfl))
  try simp only [Act.put, List.setIfInBounds_toArray, List.set_cons_zero, List.set_cons_succ]
  refine AnyL.take2 (i := 11) (oi := { dst := some 66, op := Go.Op.load 3 (Go.Operand.tmp 65), type := 3, pos := _, after := #[{ on := 10, ground := Go.Ground.data }], guard := none }) (v := ?vv35044) (by kernel_rfl) (by kernel_rfl) rfl (by kernel_rfl) (by kernel_rfl) (by kernel_rfl) (fun _ _ _ h => h) (Or.inl ⟨by rfl, ?hy35044⟩) (by assumption) ?tk35044
  case hy35044 => (intro w hSw; (try dsimp only at hSw); go_simp; (try with_reducible rfl))
  try simp only [Act.put, List.setIfInBounds_toArray, List.set_cons_zero, List.set_cons_succ]
  refine AnyL.take2 (i := 12) (oi := { dst := some 67, op := Go.Op.convert 3 21 (Go.Operand.tmp 66), type := 21, pos := _, after := #[{ on := 11, ground := Go.Ground.data }], guard := none }) (v := ?vv35045) (by kernel_rfl) (by kernel_rfl) rfl (by kernel_rfl) (by kernel_rfl) (by kernel_rfl) (fun _ _ _ h => h) (Or.inl ⟨by rfl, ?hy35045⟩) (by assumption) ?tk35045
  case hy35045 => (intro w hSw; (try dsimp only at hSw); go_simp; (try with_reducible rfl))
  try simp only [Act.put, List.setIfInBounds_toArray, List.set_cons_zero, List.set_cons_succ]
  refine AnyL.one (i := 13) (o := { dst := some 68, op := Go.Op.buildSlice 69 1 #[(0, Go.Operand.tmp 67)], type := 69, pos := _, after := #[{ on := 12, ground := Go.Ground.data }], guard := none }) (by kernel_rfl) rfl rfl (fun K' hK' => ?_)
  go_simp
  clear hHeld
  refine hK'.out _ _ ⟨cell_later (below_dr (one_alloc _ _)) a14, cell_later (below_dr (one_alloc _ _)) aP0, cell_later (below_dr (one_alloc _ _)) aR0⟩ (fun hHeld => ?_)
  clear hK' K'
  try simp only [Act.put, List.setIfInBounds_toArray, List.set_cons_zero, List.set_cons_succ]
  refine AnyL.one (i := 14) (o := { dst := some 69, op := Go.Op.call { callee := Go.Callee.builtin Go.Builtin.append, args := #[Go.Operand.tmp 59, Go.Operand.tmp 68], argTypes := #[69, 69] }, type := 69, pos := _, after := #[{ on := 4, ground := Go.Ground.data }, { on := 13, ground := Go.Ground.data }], guard := none }) (by kernel_rfl) rfl rfl (fun K' hK' => ?_)
  refine ite_take (by rfl) ?_
  refine wp_append_own_at (.tmp 59) (.tmp 68) 69 rfl wd.heap.size 21 i2 ((.int .i32 0)) 1 4 Try.underlying69 hi2 hw0 hw1 hw2 rfl (by decide) (.slice none 0 0) 0 [] rfl (own_nil _ _ _ _) ⟨wd.heap.size, 0, none⟩ 1 1 [.int .i32 0] rfl rfl (cell_new1 _ _ _) (by simp [Value.oneCell']) (by unfold maxLen; omega) (by omega) (by simp <;> omega) ?_
  intro v' w3 hown' hgrow hblk
  obtain ⟨p', c', rfl⟩ := own_shape hown'
  have kk0 := hgrow.cell (a := ⟨τ.E, 14, none⟩) (hHeld.1) (by simp [Value.ownBlock])
  have kk1 := hgrow.cell (a := ⟨τ.P, 0, none⟩) (hHeld.2.1) (by simp [Value.ownBlock])
  have kk2 := hgrow.cell (a := ⟨ρ.RB, 0, none⟩) (hHeld.2.2) (by simp [Value.ownBlock])
  have fz3 : ∀ o, w3.frozen? ⟨τ.E, o, none⟩ = false := fun o => ((World.frozen?_of_block (a := ⟨τ.E, o, none⟩) (hgrow.block τ.E (by simp; omega) (by simp [Value.ownBlock]))).trans (World.frozen?_of_block (a := ⟨τ.E, o, none⟩) ((one_alloc wd _).block τ.E hEd))).trans (efd o)
  have HG := hideIt (And.intro hown' (And.intro hgrow hblk))
  clear hown' hgrow hblk
  clear hHeld
  refine hK'.out _ _ ⟨kk0, kk1, kk2⟩ (fun hHeld => ?_)
  clear hK' K'
  try simp only [Act.put, List.setIfInBounds_toArray, List.set_cons_zero, List.set_cons_succ]
  refine AnyL.take2 (i := 15) (oi := { dst := some 70, op := Go.Op.nilCheck (Go.Operand.tmp 55), type := 0, pos := _, after := #[{ on := 0, ground := Go.Ground.data }, { on := 0, ground := Go.Ground.phase }, { on := 1, ground := Go.Ground.phase }, { on := 2, ground := Go.Ground.phase }, { on := 3, ground := Go.Ground.phase }, { on := 4, ground := Go.Ground.phase }, { on := 5, ground := Go.Ground.phase }, { on := 6, ground := Go.Ground.phase }, { on := 7, ground := Go.Ground.phase }, { on := 8, ground := Go.Ground.phase }, { on := 9, ground := Go.Ground.phase }, { on := 10, ground := Go.Ground.phase }, { on := 11, ground := Go.Ground.phase }, { on := 12, ground := Go.Ground.phase }, { on := 13, ground := Go.Ground.phase }, { on := 14, ground := Go.Ground.phase }], guard := none }) (v := ?vv35046) (by kernel_rfl) (by kernel_rfl) rfl (by kernel_rfl) (by kernel_rfl) (by kernel_rfl) (fun _ _ _ h => h) (Or.inl ⟨by rfl, ?hy35046⟩) (by assumption) ?tk35046
  case hy35046 => (intro w hSw; (try dsimp only at hSw); go_simp; (try with_reducible rfl))
  try simp only [Act.put, List.setIfInBounds_toArray, List.set_cons_zero, List.set_cons_succ]
  refine AnyL.take2 (i := 16) (oi := { dst := some 71, op := Go.Op.fieldAddr 75 (Go.Operand.tmp 70) 9, type := 0, pos := _, after := #[{ on := 15, ground := Go.Ground.data }, { on := 0, ground := Go.Ground.phase }, { on := 1, ground := Go.Ground.phase }, { on := 2, ground := Go.Ground.phase }, { on := 3, ground := Go.Ground.phase }, { on := 4, ground := Go.Ground.phase }, { on := 5, ground := Go.Ground.phase }, { on := 6, ground := Go.Ground.phase }, { on := 7, ground := Go.Ground.phase }, { on := 8, ground := Go.Ground.phase }, { on := 9, ground := Go.Ground.phase }, { on := 10, ground := Go.Ground.phase }, { on := 11, ground := Go.Ground.phase }, { on := 12, ground := Go.Ground.phase }, { on := 13, ground := Go.Ground.phase }, { on := 14, ground := Go.Ground.phase }], guard := none }) (v := ?vv35047) (by kernel_rfl) (by kernel_rfl) rfl (by kernel_rfl) (by kernel_rfl) (by kernel_rfl) (fun _ _ _ h => h) (Or.inl ⟨by rfl, ?hy35047⟩) (by assumption) ?tk35047
  case hy35047 => (intro w hSw; (try dsimp only at hSw); go_simp; (try with_reducible rfl))
  try simp only [Act.put, List.setIfInBounds_toArray, List.set_cons_zero, List.set_cons_succ]
  refine AnyL.last (o := { dst := none, op := Go.Op.store 69 (Go.Operand.tmp 71) (Go.Operand.tmp 69), type := 0, pos := _, after := #[{ on := 16, ground := Go.Ground.data }, { on := 14, ground := Go.Ground.data }, { on := 14, ground := Go.Ground.chain }, { on := 0, ground := Go.Ground.phase }, { on := 1, ground := Go.Ground.phase }, { on := 2, ground := Go.Ground.phase }, { on := 3, ground := Go.Ground.phase }, { on := 4, ground := Go.Ground.phase }, { on := 5, ground := Go.Ground.phase }, { on := 6, ground := Go.Ground.phase }, { on := 7, ground := Go.Ground.phase }, { on := 8, ground := Go.Ground.phase }, { on := 9, ground := Go.Ground.phase }, { on := 10, ground := Go.Ground.phase }, { on := 11, ground := Go.Ground.phase }, { on := 12, ground := Go.Ground.phase }, { on := 13, ground := Go.Ground.phase }, { on := 14, ground := Go.Ground.phase }], guard := none }) (by kernel_rfl) rfl (by kernel_rfl) (fun K' hK' => ?_)
  go_simp
  clear hHeld
  refine hK'.out _ _ ?_
  clear hK' K'
  try simp only [Act.put, List.setIfInBounds_toArray, List.set_cons_zero, List.set_cons_succ]
  obtain ⟨D3, K3, W3⟩ := HY3.out
  obtain ⟨_, C, _, hcu⟩ := HQ.out
  obtain ⟨hown', hgrow, hblk⟩ := HG.out
  have bN := below_dr (one_alloc wd (.cells #[.int .i32 (IntKind.i32.wrap 0)] 21))
  have b6 : Below wd.heap.size wd w3 := ⟨hgrow.os.trans bN.os, hgrow.tape.trans bN.tape, hgrow.output.trans bN.output, Nat.le_trans bN.size hgrow.size, fun q hq => (hgrow.block q (by have := bN.size; omega) (by simp [Value.ownBlock])).trans (bN.block q hq)⟩
  have hdl := HDL.out
  have D4 := (D3.below C b6).put C (o := 14) (by omega) (by omega) (by omega) (.slice p' (0 + 1) c')
  have K4 : HbOk (w3.setCell ⟨τ.E, 14, none⟩ (.slice p' (0 + 1) c')) ρ.hb nmh _ := (K3.below b6).keep (fun q hq => far_set (hdl q hq))
  have W4 : Ws (fun q => q = τ.E ∨ q = ρ.hb) w (w3.setCell ⟨τ.E, 14, none⟩ (.slice p' (0 + 1) c')) := (W3.below b6).set (.inl (.inl rfl))
  have own4 : (w3.setCell ⟨τ.E, 14, none⟩ (.slice p' (0 + 1) c')).ownsRow wd.heap.size 21 1 (.slice p' (0 + 1) c') (0 + 1) [.int .i32 0] := own_one hown' (fun q hq => far_set (fun e => by have := (hown'.lt q hq).1; omega))
  obtain ⟨gp, cp, ep, hcp, hgp, hgpl, _, _⟩ := own_full own4 (by omega)
  simp only [Value.slice.injEq] at ep
  obtain ⟨e1, _, e2⟩ := ep
  subst e1
  replace e2 := e2.symm
  subst e2
  have hgE : τ.E ≠ gp := by omega
  have hEwd : τ.E < wd.heap.size := hEd
  have hgP : τ.P ≠ gp := by have : τ.P < wd.heap.size := World.block_lt_of_cell? _ _ aP0; omega
  have hxx : ∀ q, q < wd.heap.size → q ≠ gp := fun q hq => by omega
  have hkl : ∀ q, sv.ownBlock = some q ∨ q = ρ.hb → q ≠ gp := fun q hq => hxx q (K3.lt hq)
  have hfx : ∀ q, τ.fix ρ q ∨ q = τ.GC ∨ q = τ.E → q ≠ gp := fun q hq => hxx q (D3.lt C hq)
  have HFX := hideIt (And.intro hfx hkl)
  clear hfx hkl
  have hwds : w.heap.size ≤ wd.heap.size := W3.size
  clear D3 K3 W3 HY3 hown' hgrow hblk bN b6 HG a14 aP0 aR0 efd hEd kk0 kk1 kk2 fz3 hxx
  generalize w3.setCell ⟨τ.E, 14, none⟩ (.slice (some ⟨gp, 0, none⟩) (0 + 1) cp) = we at *
  have a14 := D4.eng.get (updV_same _ _ _) (by omega)
  have aP3 := D4.env.pl.c3
  have efe := D4.eng.fz
  have hEe := D4.eng.lt
  have ownp : we.drew.ownsRow wd.heap.size 21 1 (.slice (some ⟨gp, 0, none⟩) 1 cp) 1 (List.replicate 1 (.int .i32 0)) := own_one own4 (fun _ _ => rfl)
  have hwe : wd.heap.size ≤ we.drew.heap.size := by have : gp < we.heap.size := (own4.lt gp rfl).2; show wd.heap.size ≤ we.heap.size; omega
  have hrE : some τ.E ≠ some gp := fun e => hgE (some_eq e)
  have hrP : some τ.P ≠ some gp := fun e => hgP (some_eq e)
  have HY4 := hideIt (And.intro D4 (And.intro K4 W4))
  clear D4 K4 W4 C hcu own4 hdl
  go_upto_region 7 with fail
  refine wp_region_l (l := 13) (S := (fun w' => w'.cell? ⟨τ.E, 14, none⟩ = some (.slice (some ⟨gp, 0, none⟩) 1 cp) ∧ w'.cell? ⟨τ.P, 3, none⟩ = some (.slice (some ⟨τ.gs, 0, none⟩) ρ.m τ.cs))) (by kernel_rfl) ⟨a14, aP3⟩ (fun hHeld => ?_)
  refine AnyL.take2 (i := 0) (oi := { dst := some 72, op := Go.Op.move (Go.Operand.tmp 0), type := 43, pos := _, after := #[], guard := none }) (v := ?vv35048) (by kernel_rfl) (by kernel_rfl) rfl (by kernel_rfl) (by kernel_rfl) (by kernel_rfl) (fun _ _ _ h => h) (Or.inl ⟨by rfl, ?hy35048⟩) (by assumption) ?tk35048
  case hy35048 => (intro w hSw; (try dsimp only at hSw); go_simp; (try with_reducible rfl))
  try simp only [Act.put, List.setIfInBounds_toArray, List.set_cons_zero, List.set_cons_succ]
  refine AnyL.take2 (i := 1) (oi := { dst := some 73, op := Go.Op.move (Go.Operand.tmp 0), type := 43, pos := _, after := #[], guard := none }) (v := ?vv35049) (by kernel_rfl) (by kernel_rfl) rfl (by kernel_rfl) (by kernel_rfl) (by kernel_rfl) (fun _ _ _ h => h) (Or.inl ⟨by rfl, ?hy35049⟩) (by assumption) ?tk35049
  case hy35049 => (intro w hSw; (try dsimp only at hSw); go_simp; (try with_reducible rfl))
  try simp only [Act.put, List.setIfInBounds_toArray, List.set_cons_zero, List.set_cons_succ]
  refine AnyL.take2 (i := 2) (oi := { dst := some 74, op := Go.Op.nilCheck (Go.Operand.tmp 73), type := 0, pos := _, after := #[{ on := 1, ground := Go.Ground.data }], guard := none }) (v := ?vv35050) (by kernel_rfl) (by kernel_rfl) rfl (by kernel_rfl) (by kernel_rfl) (by kernel_rfl) (fun _ _ _ h => h) (Or.inl ⟨by rfl, ?hy35050⟩) (by assumption) ?tk35050
  case hy35050 => (intro w hSw; (try dsimp only at hSw); go_simp; (try with_reducible rfl))
  try simp only [Act.put, List.setIfInBounds_toArray, List.set_cons_zero, List.set_cons_succ]
  refine AnyL.take2 (i := 3) (oi := { dst := some 75, op := Go.Op.fieldAddr 75 (Go.Operand.tmp 74) 9, type := 0, pos := _, after := #[{ on := 2, ground := Go.Ground.data }], guard := none }) (v := ?vv35051) (by kernel_rfl) (by kernel_rfl) rfl (by kernel_rfl) (by kernel_rfl) (by kernel_rfl) (fun _ _ _ h => h) (Or.inl ⟨by rfl, ?hy35051⟩) (by assumption) ?tk35051
  case hy35051 => (intro w hSw; (try dsimp only at hSw); go_simp; (try with_reducible rfl))
  try simp only [Act.put, List.setIfInBounds_toArray, List.set_cons_zero, List.set_cons_succ]
  refine AnyL.take2 (i := 4) (oi := { dst := some 76, op := Go.Op.load 69 (Go.Operand.tmp 75), type := 69, pos := _, after := #[{ on := 3, ground := Go.Ground.data }], guard := none }) (v := ?vv35052) (by kernel_rfl) (by kernel_rfl) rfl (by kernel_rfl) (by kernel_rfl) (by kernel_rfl) (fun _ _ _ h => h) (Or.inl ⟨by rfl, ?hy35052⟩) (by assumption) ?tk35052
  case hy35052 => (intro w hSw; (try dsimp only at hSw); go_simp; (try with_reducible rfl))
  try simp only [Act.put, List.setIfInBounds_toArray, List.set_cons_zero, List.set_cons_succ]
  refine AnyL.take2 (i := 5) (oi := { dst := some 77, op := Go.Op.move (Go.Operand.tmp 1), type := 150, pos := _, after := #[], guard := none }) (v := ?vv35053) (by kernel_rfl) (by kernel_rfl) rfl (by kernel_rfl) (by kernel_rfl) (by kernel_rfl) (fun _ _ _ h => h) (Or.inl ⟨by rfl, ?hy35053⟩) (by assumption) ?tk35053
  case hy35053 => (intro w hSw; (try dsimp only at hSw); go_simp; (try with_reducible rfl))
  try simp only [Act.put, List.setIfInBounds_toArray, List.set_cons_zero, List.set_cons_succ]
  refine AnyL.take2 (i := 6) (oi := { dst := some 78, op := Go.Op.nilCheck (Go.Operand.tmp 77), type := 0, pos := _, after := #[{ on := 5, ground := Go.Ground.data }], guard := none }) (v := ?vv35054) (by kernel_rfl) (by kernel_rfl) rfl (by kernel_rfl) (by kernel_rfl) (by kernel_rfl) (fun _ _ _ h => h) (Or.inl ⟨by rfl, ?hy35054⟩) (by assumption) ?tk35054
  case hy35054 => (intro w hSw; (try dsimp only at hSw); go_simp; (try with_reducible rfl))
  try simp only [Act.put, List.setIfInBounds_toArray, List.set_cons_zero, List.set_cons_succ]
  refine AnyL.take2 (i := 7) (oi := { dst := some 79, op := Go.Op.fieldAddr 164 (Go.Operand.tmp 78) 3, type := 0, pos := _, after := #[{ on := 6, ground := Go.Ground.data }], guard := none }) (v := ?vv35055) (by kernel_rfl) (by kernel_rfl) rfl (by kernel_rfl) (by kernel_rfl) (by kernel_rfl) (fun _ _ _ h => h) (Or.inl ⟨by rfl, ?hy35055⟩) (by assumption) ?tk35055
  case hy35055 => (intro w hSw; (try dsimp only at hSw); go_simp; (try with_reducible rfl))
  try simp only [Act.put, List.setIfInBounds_toArray, List.set_cons_zero, List.set_cons_succ]
  refine AnyL.take2 (i := 8) (oi := { dst := some 80, op := Go.Op.load 162 (Go.Operand.tmp 79), type := 162, pos := _, after := #[{ on := 7, ground := Go.Ground.data }], guard := none }) (v := ?vv35056) (by kernel_rfl) (by kernel_rfl) rfl (by kernel_rfl) (by kernel_rfl) (by kernel_rfl) (fun _ _ _ h => h) (Or.inl ⟨by rfl, ?hy35056⟩) (by assumption) ?tk35056
  case hy35056 => (intro w hSw; (try dsimp only at hSw); go_simp; (try with_reducible rfl))
  try simp only [Act.put, List.setIfInBounds_toArray, List.set_cons_zero, List.set_cons_succ]
  refine AnyL.take2 (i := 9) (oi := { dst := some 81, op := Go.Op.call { callee := Go.Callee.builtin Go.Builtin.len, args := #[Go.Operand.tmp 80], argTypes := #[162] }, type := 3, pos := _, after := #[{ on := 8, ground := Go.Ground.data }], guard := none }) (v := ?vv35057) (by kernel_rfl) (by kernel_rfl) rfl (by kernel_rfl) (by kernel_rfl) (by kernel_rfl) (fun _ _ _ h => h) (Or.inl ⟨by rfl, ?hy35057⟩) (by assumption) ?tk35057
  case hy35057 => (intro w hSw; (try dsimp only at hSw); go_simp; (try with_reducible rfl))
  try simp only [Act.put, List.setIfInBounds_toArray, List.set_cons_zero, List.set_cons_succ]
  refine AnyL.one (i := 10) (o := { dst := some 82, op := Go.Op.call { callee := Go.Callee.builtin Go.Builtin.append, args := #[Go.Operand.tmp 76, Go.Operand.tmp 81], argTypes := #[69, 3] }, type := 69, pos := _, after := #[{ on := 4, ground := Go.Ground.data }, { on := 9, ground := Go.Ground.data }], guard := none }) (by kernel_rfl) rfl rfl (fun K' hK' => ?_)
  refine ite_take (by rfl) ?_
  obtain ⟨p7, c7, w7, hrun7, own7, grow7⟩ := append_zeros (n := 1) (m := ρ.m) (w := we.drew) ownp hm0 (by omega) hwe 69
  refine Go.Lib.wp_append_run _ (.tmp 76) (.tmp 81) 69 3 rfl _ _ rfl rfl _ _ hrun7 ?_
  have x1 := grow7.cell (a := ⟨τ.E, 14, none⟩) hHeld.1 hrE
  have x2 := grow7.cell (a := ⟨τ.P, 3, none⟩) hHeld.2 hrP
  have xf : ∀ o, w7.frozen? ⟨τ.E, o, none⟩ = false := fun o => (World.frozen?_of_block (a := ⟨τ.E, o, none⟩) (grow7.block τ.E hEe hrE)).trans (efe o)
  have HX7 := hideIt (And.intro own7 grow7)
  clear own7 grow7 hrun7
  clear hHeld
  refine hK'.out _ _ ⟨x1, x2⟩ (fun hHeld => ?_)
  clear hK' K'
  try simp only [Act.put, List.setIfInBounds_toArray, List.set_cons_zero, List.set_cons_succ]
  refine AnyL.take2 (i := 11) (oi := { dst := some 83, op := Go.Op.nilCheck (Go.Operand.tmp 72), type := 0, pos := _, after := #[{ on := 0, ground := Go.Ground.data }, { on := 0, ground := Go.Ground.phase }, { on := 1, ground := Go.Ground.phase }, { on := 2, ground := Go.Ground.phase }, { on := 3, ground := Go.Ground.phase }, { on := 4, ground := Go.Ground.phase }, { on := 5, ground := Go.Ground.phase }, { on := 6, ground := Go.Ground.phase }, { on := 7, ground := Go.Ground.phase }, { on := 8, ground := Go.Ground.phase }, { on := 9, ground := Go.Ground.phase }, { on := 10, ground := Go.Ground.phase }], guard := none }) (v := ?vv35058) (by kernel_rfl) (by kernel_rfl) rfl (by kernel_rfl) (by kernel_rfl) (by kernel_rfl) (fun _ _ _ h => h) (Or.inl ⟨by rfl, ?hy35058⟩) (by assumption) ?tk35058
  case hy35058 => (intro w hSw; (try dsimp only at hSw); go_simp; (try with_reducible rfl))
  try simp only [Act.put, List.setIfInBounds_toArray, List.set_cons_zero, List.set_cons_succ]
  refine AnyL.take2 (i := 12) (oi := { dst := some 84, op := Go.Op.fieldAddr 75 (Go.Operand.tmp 83) 9, type := 0, pos := _, after := #[{ on := 11, ground := Go.Ground.data }, { on := 0, ground := Go.Ground.phase }, { on := 1, ground := Go.Ground.phase }, { on := 2, ground := Go.Ground.phase }, { on := 3, ground := Go.Ground.phase }, { on := 4, ground := Go.Ground.phase }, { on := 5, ground := Go.Ground.phase }, { on := 6, ground := Go.Ground.phase }, { on := 7, ground := Go.Ground.phase }, { on := 8, ground := Go.Ground.phase }, { on := 9, ground := Go.Ground.phase }, { on := 10, ground := Go.Ground.phase }], guard := none }) (v := ?vv35059) (by kernel_rfl) (by kernel_rfl) rfl (by kernel_rfl) (by kernel_rfl) (by kernel_rfl) (fun _ _ _ h => h) (Or.inl ⟨by rfl, ?hy35059⟩) (by assumption) ?tk35059
  case hy35059 => (intro w hSw; (try dsimp only at hSw); go_simp; (try with_reducible rfl))
  try simp only [Act.put, List.setIfInBounds_toArray, List.set_cons_zero, List.set_cons_succ]
  refine AnyL.last (o := { dst := none, op := Go.Op.store 69 (Go.Operand.tmp 84) (Go.Operand.tmp 82), type := 0, pos := _, after := #[{ on := 12, ground := Go.Ground.data }, { on := 10, ground := Go.Ground.data }, { on := 10, ground := Go.Ground.chain }, { on := 0, ground := Go.Ground.phase }, { on := 1, ground := Go.Ground.phase }, { on := 2, ground := Go.Ground.phase }, { on := 3, ground := Go.Ground.phase }, { on := 4, ground := Go.Ground.phase }, { on := 5, ground := Go.Ground.phase }, { on := 6, ground := Go.Ground.phase }, { on := 7, ground := Go.Ground.phase }, { on := 8, ground := Go.Ground.phase }, { on := 9, ground := Go.Ground.phase }, { on := 10, ground := Go.Ground.phase }], guard := none }) (by kernel_rfl) rfl (by kernel_rfl) (fun K' hK' => ?_)
  go_simp
  clear hHeld
  refine hK'.out _ _ ?_
  clear hK' K'
  try simp only [Act.put, List.setIfInBounds_toArray, List.set_cons_zero, List.set_cons_succ]
  obtain ⟨D4, K4, W4⟩ := HY4.out
  obtain ⟨_, C, _, hcu⟩ := HQ.out
  obtain ⟨own7, grow7⟩ := HX7.out
  have hdl := HDL.out
  have k7 : ∀ q, q < we.heap.size → q ≠ gp → w7.heap[q]? = we.heap[q]? := fun q h1 h2 => grow7.block q h1 (fun e => h2 (some_eq e))
  obtain ⟨hfx, hkl⟩ := HFX.out
  have D5 := (D4.keep C (fun q hq hl => k7 q hl (hfx q hq))).put C (o := 14) (by omega) (by omega) (by omega) (.slice p7 (1 + ρ.m) c7)
  have K5 : HbOk (w7.setCell ⟨τ.E, 14, none⟩ (.slice p7 (1 + ρ.m) c7)) ρ.hb nmh _ := K4.keep (fun q hq => (far_set (hdl q hq)).trans (k7 q (K4.lt hq) (hkl q hq)))
  have hw4s := W4.size
  have W5 : Ws (fun q => q = τ.E ∨ q = ρ.hb) w (w7.setCell ⟨τ.E, 14, none⟩ (.slice p7 (1 + ρ.m) c7)) := ⟨grow7.os.trans W4.os, grow7.tape.trans W4.tape, grow7.output.trans W4.output, by have : we.heap.size ≤ w7.heap.size := grow7.size; simp; omega, fun q h1 h2 => (far_set (fun e => h2 (.inl e))).trans ((k7 q (by omega) (by omega)).trans (W4.block q h1 h2))⟩
  have own8 : (w7.setCell ⟨τ.E, 14, none⟩ (.slice p7 (1 + ρ.m) c7)).ownsRow wd.heap.size 21 1 (.slice p7 (1 + ρ.m) c7) (1 + ρ.m) (List.replicate (1 + ρ.m) (.int .i32 0)) := own_one own7 (fun q hq => far_set (fun e => by have := (own7.lt q hq).1; omega))
  obtain ⟨gz, cz, ep, hcz, hgz, hgzl, hzc, hzf⟩ := own_full own8 (by omega)
  simp only [Value.slice.injEq] at ep
  obtain ⟨e1, _, e2⟩ := ep
  subst e1
  replace e2 := e2.symm
  subst e2
  have hzc' : ∀ i, i < 1 + ρ.m → (w7.setCell ⟨τ.E, 14, none⟩ (.slice (some ⟨gz, 0, none⟩) (1 + ρ.m) cz)).cell? ⟨gz, i, none⟩ = some (.int .i32 0) := fun i hi => (hzc i (by omega)).trans (by rw [List.getElem?_replicate, if_pos hi])
  clear D4 K4 W4 HY4 own7 grow7 k7 HX7 x1 x2 xf a14 aP3 efe hEe ownp hwe hrE hrP hgE hgP hgp hgpl hfx hkl HFX own8 hzc hdl hcp hw4s hwds
  generalize w7.setCell ⟨τ.E, 14, none⟩ (.slice (some ⟨gz, 0, none⟩) (1 + ρ.m) cz) = w8 at *
  obtain ⟨c8, hc8⟩ : ∃ c8, updV (updV (updV (updV c 18 (.int .i64 v')) 23 (.slice none 0 0)) 14 (.slice (some ⟨gp, 0, none⟩) (0 + 1) cp)) 14 (.slice (some ⟨gz, 0, none⟩) (1 + ρ.m) cz) = c8 := ⟨_, rfl⟩
  have e8 : ∀ i, i ≠ 14 → i ≠ 18 → i ≠ 23 → c8 i = c i := fun i h1 h2 h3 => by rw [← hc8, updV_other _ _ h1, updV_other _ _ h1, updV_other _ _ h3, updV_other _ _ h2]
  have e14 : c8 14 = .slice (some ⟨gz, 0, none⟩) (1 + ρ.m) cz := by rw [← hc8]; exact updV_same _ _ _
  rw [hc8] at D5
  clear hc8
  have aP3 := D5.env.pl.c3
  have HY5 := hideIt (And.intro D5 (And.intro K5 W5))
  have HZ := hideIt (And.intro hzc' hzf)
  have H8 := hideIt (And.intro e8 e14)
  have HDL' := HDL
  have hEg : τ.E ≠ gz := by omega
  clear D5 K5 W5 C hcu hzc' hzf e8 e14
  go_wp2_with fail
  go_loopg [90] ρ.m (fun gg v wr => ∃ i : Nat, i + gg = ρ.m ∧ v = .int .i64 (i : Int) ∧ Below w8.heap.size w8 wr)
  case atStart => exact ⟨0, by omega, rfl, Below.refl _ _⟩
  case round =>
    clear aP3
    obtain ⟨i, hi, rfl, bw⟩ := hrel
    obtain ⟨D5, K5, W5⟩ := HY5.out
    obtain ⟨_, C, _, hcu⟩ := HQ.out
    obtain ⟨hzc', hzf⟩ := HZ.out
    obtain ⟨e8, e14⟩ := H8.out
    have D6 := D5.below C bw
    by_cases hin : i < ρ.m
    · have i0 : (0 : Int) ≤ i := by omega
      have i1 : (i : Int) < (ρ.m : Int) := by omega
      obtain ⟨x, hx⟩ : ∃ x, 1 + i = x := ⟨_, rfl⟩
      have x0 : (0 : Int) ≤ x := by omega
      have x1 : (x : Int) < 1 + (ρ.m : Int) := by omega
      have hwr : IntKind.i64.wrap (IntKind.i64.wrap 1 + (i : Int)) = (x : Int) := by
        have h1 : IntKind.i64.wrap 1 = 1 := by rw [IntKind.wrap_i64]; omega
        rw [h1, IntKind.wrap_i64]
        omega
      have y1 := D6.eng.get e14 (by omega)
      have y2 := D6.env.pl.c3
      have y3 := (D6.env.st i hin).s1
      have y4 := D6.eng.get D6.r22 (by omega)
      have y5 : wr.cell? ⟨τ.GC, i * 6 + 4, none⟩ = some (.int .i64 0) := by
        cases hq : cu i
        · exact absurd hq (hcu i hin)
        · exact (D6.cO i hin _ hq).c4
      have z1 := (World.cell?_of_block (a := ⟨gz, x, none⟩) (bw.block gz hgzl)).trans (hzc' x (by omega))
      have zf : ∀ o, wr.frozen? ⟨gz, o, none⟩ = false := fun o => (World.frozen?_of_block (a := ⟨gz, o, none⟩) (bw.block gz hgzl)).trans (hzf o)
      have HB := hideIt bw
      clear D5 K5 W5 C hcu hzc' hzf e8 e14 D6 bw hx
      go_upto_region 11 with fail
      refine wp_region_l (l := 25) (S := (fun w' => w'.cell? ⟨τ.E, 14, none⟩ = some (.slice (some ⟨gz, 0, none⟩) (1 + ρ.m) cz) ∧ w'.cell? ⟨τ.P, 3, none⟩ = some (.slice (some ⟨τ.gs, 0, none⟩) ρ.m τ.cs) ∧ w'.cell? ⟨τ.gs, i * 8 + 1, none⟩ = some (.int .i64 (i : Int)) ∧ w'.cell? ⟨τ.E, 22, none⟩ = some (.slice (some ⟨τ.GC, 0, none⟩) ρ.m ρ.m) ∧ w'.cell? ⟨τ.GC, i * 6 + 4, none⟩ = some (.int .i64 0))) (by kernel_rfl) ⟨y1, y2, y3, y4, y5⟩ (fun hHeld => ?_)
      refine AnyL.take2 (i := 0) (oi := { dst := some 93, op := Go.Op.move (Go.Operand.tmp 0), type := 43, pos := _, after := #[], guard := none }) (v := ?vv35060) (by kernel_rfl) (by kernel_rfl) rfl (by kernel_rfl) (by kernel_rfl) (by kernel_rfl) (fun _ _ _ h => h) (Or.inl ⟨by rfl, ?hy35060⟩) (by assumption) ?tk35060
      case hy35060 => (intro w hSw; (try dsimp only at hSw); go_simp; (try with_reducible rfl))
      try simp only [Act.put, List.setIfInBounds_toArray, List.set_cons_zero, List.set_cons_succ]
      refine AnyL.take2 (i := 1) (oi := { dst := some 94, op := Go.Op.nilCheck (Go.Operand.tmp 93), type := 0, pos := _, after := #[{ on := 0, ground := Go.Ground.data }], guard := none }) (v := ?vv35061) (by kernel_rfl) (by kernel_rfl) rfl (by kernel_rfl) (by kernel_rfl) (by kernel_rfl) (fun _ _ _ h => h) (Or.inl ⟨by rfl, ?hy35061⟩) (by assumption) ?tk35061
      case hy35061 => (intro w hSw; (try dsimp only at hSw); go_simp; (try with_reducible rfl))
      try simp only [Act.put, List.setIfInBounds_toArray, List.set_cons_zero, List.set_cons_succ]
      refine AnyL.take2 (i := 2) (oi := { dst := some 95, op := Go.Op.fieldAddr 75 (Go.Operand.tmp 94) 9, type := 0, pos := _, after := #[{ on := 1, ground := Go.Ground.data }], guard := none }) (v := ?vv35062) (by kernel_rfl) (by kernel_rfl) rfl (by kernel_rfl) (by kernel_rfl) (by kernel_rfl) (fun _ _ _ h => h) (Or.inl ⟨by rfl, ?hy35062⟩) (by assumption) ?tk35062
      case hy35062 => (intro w hSw; (try dsimp only at hSw); go_simp; (try with_reducible rfl))
      try simp only [Act.put, List.setIfInBounds_toArray, List.set_cons_zero, List.set_cons_succ]
      refine AnyL.take2 (i := 3) (oi := { dst := some 96, op := Go.Op.load 69 (Go.Operand.tmp 95), type := 69, pos := _, after := #[{ on := 2, ground := Go.Ground.data }], guard := none }) (v := ?vv35063) (by kernel_rfl) (by kernel_rfl) rfl (by kernel_rfl) (by kernel_rfl) (by kernel_rfl) (fun _ _ _ h => h) (Or.inl ⟨by rfl, ?hy35063⟩) (by assumption) ?tk35063
      case hy35063 => (intro w hSw; (try dsimp only at hSw); go_simp; (try with_reducible rfl))
      try simp only [Act.put, List.setIfInBounds_toArray, List.set_cons_zero, List.set_cons_succ]
      refine AnyL.take2 (i := 4) (oi := { dst := some 97, op := Go.Op.move (Go.Operand.tmp 5), type := 3, pos := _, after := #[], guard := none }) (v := ?vv35064) (by kernel_rfl) (by kernel_rfl) rfl (by kernel_rfl) (by kernel_rfl) (by kernel_rfl) (fun _ _ _ h => h) (Or.inl ⟨by rfl, ?hy35064⟩) (by assumption) ?tk35064
      case hy35064 => (intro w hSw; (try dsimp only at hSw); go_simp; (try with_reducible rfl))
      try simp only [Act.put, List.setIfInBounds_toArray, List.set_cons_zero, List.set_cons_succ]
      refine AnyL.take2 (i := 5) (oi := { dst := some 98, op := Go.Op.binOp Go.BinOp.add 3 (Go.Operand.tmp 97) (Go.Operand.const (Go.Value.int Go.IntKind.i64 1)) 3, type := 3, pos := _, after := #[{ on := 4, ground := Go.Ground.data }], guard := none }) (v := ?vv35065) (by kernel_rfl) (by kernel_rfl) rfl (by kernel_rfl) (by kernel_rfl) (by kernel_rfl) (fun _ _ _ h => h) (Or.inl ⟨by rfl, ?hy35065⟩) (by assumption) ?tk35065
      case hy35065 => (intro w hSw; (try dsimp only at hSw); go_simp; (try with_reducible rfl))
      try simp only [Act.put, List.setIfInBounds_toArray, List.set_cons_zero, List.set_cons_succ]
      refine AnyL.take2 (i := 6) (oi := { dst := some 99, op := Go.Op.move (Go.Operand.tmp 1), type := 150, pos := _, after := #[], guard := none }) (v := ?vv35066) (by kernel_rfl) (by kernel_rfl) rfl (by kernel_rfl) (by kernel_rfl) (by kernel_rfl) (fun _ _ _ h => h) (Or.inl ⟨by rfl, ?hy35066⟩) (by assumption) ?tk35066
      case hy35066 => (intro w hSw; (try dsimp only at hSw); go_simp; (try with_reducible rfl))
      try simp only [Act.put, List.setIfInBounds_toArray, List.set_cons_zero, List.set_cons_succ]
      refine AnyL.take2 (i := 7) (oi := { dst := some 100, op := Go.Op.nilCheck (Go.Operand.tmp 99), type := 0, pos := _, after := #[{ on := 6, ground := Go.Ground.data }], guard := none }) (v := ?vv35067) (by kernel_rfl) (by kernel_rfl) rfl (by kernel_rfl) (by kernel_rfl) (by kernel_rfl) (fun _ _ _ h => h) (Or.inl ⟨by rfl, ?hy35067⟩) (by assumption) ?tk35067
      case hy35067 => (intro w hSw; (try dsimp only at hSw); go_simp; (try with_reducible rfl))
      try simp only [Act.put, List.setIfInBounds_toArray, List.set_cons_zero, List.set_cons_succ]
      refine AnyL.take2 (i := 8) (oi := { dst := some 101, op := Go.Op.fieldAddr 164 (Go.Operand.tmp 100) 3, type := 0, pos := _, after := #[{ on := 7, ground := Go.Ground.data }], guard := none }) (v := ?vv35068) (by kernel_rfl) (by kernel_rfl) rfl (by kernel_rfl) (by kernel_rfl) (by kernel_rfl) (fun _ _ _ h => h) (Or.inl ⟨by rfl, ?hy35068⟩) (by assumption) ?tk35068
      case hy35068 => (intro w hSw; (try dsimp only at hSw); go_simp; (try with_reducible rfl))
      try simp only [Act.put, List.setIfInBounds_toArray, List.set_cons_zero, List.set_cons_succ]
      refine AnyL.take2 (i := 9) (oi := { dst := some 102, op := Go.Op.load 162 (Go.Operand.tmp 101), type := 162, pos := _, after := #[{ on := 8, ground := Go.Ground.data }], guard := none }) (v := ?vv35069) (by kernel_rfl) (by kernel_rfl) rfl (by kernel_rfl) (by kernel_rfl) (by kernel_rfl) (fun _ _ _ h => h) (Or.inl ⟨by rfl, ?hy35069⟩) (by assumption) ?tk35069
      case hy35069 => (intro w hSw; (try dsimp only at hSw); go_simp; (try with_reducible rfl))
      try simp only [Act.put, List.setIfInBounds_toArray, List.set_cons_zero, List.set_cons_succ]
      refine AnyL.take2 (i := 10) (oi := { dst := some 103, op := Go.Op.move (Go.Operand.tmp 6), type := 3, pos := _, after := #[], guard := none }) (v := ?vv35070) (by kernel_rfl) (by kernel_rfl) rfl (by kernel_rfl) (by kernel_rfl) (by kernel_rfl) (fun _ _ _ h => h) (Or.inl ⟨by rfl, ?hy35070⟩) (by assumption) ?tk35070
      case hy35070 => (intro w hSw; (try dsimp only at hSw); go_simp; (try with_reducible rfl))
      try simp only [Act.put, List.setIfInBounds_toArray, List.set_cons_zero, List.set_cons_succ]
      refine AnyL.take2 (i := 11) (oi := { dst := some 104, op := Go.Op.indexAddr 162 (Go.Operand.tmp 102) (Go.Operand.tmp 103), type := 0, pos := _, after := #[{ on := 9, ground := Go.Ground.data }, { on := 10, ground := Go.Ground.data }], guard := none }) (v := ?vv35071) (by kernel_rfl) (by kernel_rfl) rfl (by kernel_rfl) (by kernel_rfl) (by kernel_rfl) (fun _ _ _ h => h) (Or.inl ⟨by rfl, ?hy35071⟩) (by assumption) ?tk35071
      case hy35071 => (intro w hSw; (try dsimp only at hSw); go_simp; (try with_reducible rfl))
      try simp only [Act.put, List.setIfInBounds_toArray, List.set_cons_zero, List.set_cons_succ]
      refine AnyL.take2 (i := 12) (oi := { dst := some 105, op := Go.Op.fieldAddr 173 (Go.Operand.tmp 104) 1, type := 0, pos := _, after := #[{ on := 11, ground := Go.Ground.data }], guard := none }) (v := ?vv35072) (by kernel_rfl) (by kernel_rfl) rfl (by kernel_rfl) (by kernel_rfl) (by kernel_rfl) (fun _ _ _ h => h) (Or.inl ⟨by rfl, ?hy35072⟩) (by assumption) ?tk35072
      case hy35072 => (intro w hSw; (try dsimp only at hSw); go_simp; (try with_reducible rfl))
      try simp only [Act.put, List.setIfInBounds_toArray, List.set_cons_zero, List.set_cons_succ]
      refine AnyL.take2 (i := 13) (oi := { dst := some 106, op := Go.Op.load 3 (Go.Operand.tmp 105), type := 3, pos := _, after := #[{ on := 12, ground := Go.Ground.data }], guard := none }) (v := ?vv35073) (by kernel_rfl) (by kernel_rfl) rfl (by kernel_rfl) (by kernel_rfl) (by kernel_rfl) (fun _ _ _ h => h) (Or.inl ⟨by rfl, ?hy35073⟩) (by assumption) ?tk35073
      case hy35073 => (intro w hSw; (try dsimp only at hSw); go_simp; (try with_reducible rfl))
      try simp only [Act.put, List.setIfInBounds_toArray, List.set_cons_zero, List.set_cons_succ]
      refine AnyL.take2 (i := 14) (oi := { dst := some 107, op := Go.Op.binOp Go.BinOp.add 3 (Go.Operand.tmp 98) (Go.Operand.tmp 106) 3, type := 3, pos := _, after := #[{ on := 5, ground := Go.Ground.data }, { on := 13, ground := Go.Ground.data }], guard := none }) (v := ?vv35074) (by kernel_rfl) (by kernel_rfl) rfl (by kernel_rfl) (by kernel_rfl) (by kernel_rfl) (fun _ _ _ h => h) (Or.inl ⟨by rfl, ?hy35074⟩) (by assumption) ?tk35074
      case hy35074 => (intro w hSw; (try dsimp only at hSw); go_simp; (try with_reducible rfl))
      try simp only [Act.put, List.setIfInBounds_toArray, List.set_cons_zero, List.set_cons_succ]
      refine AnyL.take2 (i := 15) (oi := { dst := some 108, op := Go.Op.move (Go.Operand.tmp 0), type := 43, pos := _, after := #[], guard := none }) (v := ?vv35075) (by kernel_rfl) (by kernel_rfl) rfl (by kernel_rfl) (by kernel_rfl) (by kernel_rfl) (fun _ _ _ h => h) (Or.inl ⟨by rfl, ?hy35075⟩) (by assumption) ?tk35075
      case hy35075 => (intro w hSw; (try dsimp only at hSw); go_simp; (try with_reducible rfl))
      try simp only [Act.put, List.setIfInBounds_toArray, List.set_cons_zero, List.set_cons_succ]
      refine AnyL.take2 (i := 16) (oi := { dst := some 109, op := Go.Op.nilCheck (Go.Operand.tmp 108), type := 0, pos := _, after := #[{ on := 15, ground := Go.Ground.data }], guard := none }) (v := ?vv35076) (by kernel_rfl) (by kernel_rfl) rfl (by kernel_rfl) (by kernel_rfl) (by kernel_rfl) (fun _ _ _ h => h) (Or.inl ⟨by rfl, ?hy35076⟩) (by assumption) ?tk35076
      case hy35076 => (intro w hSw; (try dsimp only at hSw); go_simp; (try with_reducible rfl))
      try simp only [Act.put, List.setIfInBounds_toArray, List.set_cons_zero, List.set_cons_succ]
      refine AnyL.take2 (i := 17) (oi := { dst := some 110, op := Go.Op.fieldAddr 75 (Go.Operand.tmp 109) 12, type := 0, pos := _, after := #[{ on := 16, ground := Go.Ground.data }], guard := none }) (v := ?vv35077) (by kernel_rfl) (by kernel_rfl) rfl (by kernel_rfl) (by kernel_rfl) (by kernel_rfl) (fun _ _ _ h => h) (Or.inl ⟨by rfl, ?hy35077⟩) (by assumption) ?tk35077
      case hy35077 => (intro w hSw; (try dsimp only at hSw); go_simp; (try with_reducible rfl))
      try simp only [Act.put, List.setIfInBounds_toArray, List.set_cons_zero, List.set_cons_succ]
      refine AnyL.take2 (i := 18) (oi := { dst := some 111, op := Go.Op.load 73 (Go.Operand.tmp 110), type := 73, pos := _, after := #[{ on := 17, ground := Go.Ground.data }], guard := none }) (v := ?vv35078) (by kernel_rfl) (by kernel_rfl) rfl (by kernel_rfl) (by kernel_rfl) (by kernel_rfl) (fun _ _ _ h => h) (Or.inl ⟨by rfl, ?hy35078⟩) (by assumption) ?tk35078
      case hy35078 => (intro w hSw; (try dsimp only at hSw); go_simp; (try with_reducible rfl))
      try simp only [Act.put, List.setIfInBounds_toArray, List.set_cons_zero, List.set_cons_succ]
      refine AnyL.take2 (i := 19) (oi := { dst := some 112, op := Go.Op.move (Go.Operand.tmp 6), type := 3, pos := _, after := #[], guard := none }) (v := ?vv35079) (by kernel_rfl) (by kernel_rfl) rfl (by kernel_rfl) (by kernel_rfl) (by kernel_rfl) (fun _ _ _ h => h) (Or.inl ⟨by rfl, ?hy35079⟩) (by assumption) ?tk35079
      case hy35079 => (intro w hSw; (try dsimp only at hSw); go_simp; (try with_reducible rfl))
      try simp only [Act.put, List.setIfInBounds_toArray, List.set_cons_zero, List.set_cons_succ]
      refine AnyL.take2 (i := 20) (oi := { dst := some 113, op := Go.Op.indexAddr 73 (Go.Operand.tmp 111) (Go.Operand.tmp 112), type := 0, pos := _, after := #[{ on := 18, ground := Go.Ground.data }, { on := 19, ground := Go.Ground.data }], guard := none }) (v := ?vv35080) (by kernel_rfl) (by kernel_rfl) rfl (by kernel_rfl) (by kernel_rfl) (by kernel_rfl) (fun _ _ _ h => h) (Or.inl ⟨by rfl, ?hy35080⟩) (by assumption) ?tk35080
      case hy35080 => (intro w hSw; (try dsimp only at hSw); go_simp; (try with_reducible rfl))
      try simp only [Act.put, List.setIfInBounds_toArray, List.set_cons_zero, List.set_cons_succ]
      refine AnyL.take2 (i := 21) (oi := { dst := some 114, op := Go.Op.fieldAddr 102 (Go.Operand.tmp 113) 4, type := 0, pos := _, after := #[{ on := 20, ground := Go.Ground.data }], guard := none }) (v := ?vv35081) (by kernel_rfl) (by kernel_rfl) rfl (by kernel_rfl) (by kernel_rfl) (by kernel_rfl) (fun _ _ _ h => h) (Or.inl ⟨by rfl, ?hy35081⟩) (by assumption) ?tk35081
      case hy35081 => (intro w hSw; (try dsimp only at hSw); go_simp; (try with_reducible rfl))
      try simp only [Act.put, List.setIfInBounds_toArray, List.set_cons_zero, List.set_cons_succ]
      refine AnyL.take2 (i := 22) (oi := { dst := some 115, op := Go.Op.load 3 (Go.Operand.tmp 114), type := 3, pos := _, after := #[{ on := 21, ground := Go.Ground.data }], guard := none }) (v := ?vv35082) (by kernel_rfl) (by kernel_rfl) rfl (by kernel_rfl) (by kernel_rfl) (by kernel_rfl) (fun _ _ _ h => h) (Or.inl ⟨by rfl, ?hy35082⟩) (by assumption) ?tk35082
      case hy35082 => (intro w hSw; (try dsimp only at hSw); go_simp; (try with_reducible rfl))
      try simp only [Act.put, List.setIfInBounds_toArray, List.set_cons_zero, List.set_cons_succ]
      refine AnyL.take2 (i := 23) (oi := { dst := some 116, op := Go.Op.convert 3 21 (Go.Operand.tmp 115), type := 21, pos := _, after := #[{ on := 22, ground := Go.Ground.data }], guard := none }) (v := ?vv35083) (by kernel_rfl) (by kernel_rfl) rfl (by kernel_rfl) (by kernel_rfl) (by kernel_rfl) (fun _ _ _ h => h) (Or.inl ⟨by rfl, ?hy35083⟩) (by assumption) ?tk35083
      case hy35083 => (intro w hSw; (try dsimp only at hSw); go_simp; (try with_reducible rfl))
      try simp only [Act.put, List.setIfInBounds_toArray, List.set_cons_zero, List.set_cons_succ]
      refine AnyL.take2 (i := 24) (oi := { dst := some 117, op := Go.Op.indexAddr 69 (Go.Operand.tmp 96) (Go.Operand.tmp 107), type := 0, pos := _, after := #[{ on := 3, ground := Go.Ground.data }, { on := 14, ground := Go.Ground.data }, { on := 0, ground := Go.Ground.phase }, { on := 1, ground := Go.Ground.phase }, { on := 2, ground := Go.Ground.phase }, { on := 3, ground := Go.Ground.phase }, { on := 4, ground := Go.Ground.phase }, { on := 5, ground := Go.Ground.phase }, { on := 6, ground := Go.Ground.phase }, { on := 7, ground := Go.Ground.phase }, { on := 8, ground := Go.Ground.phase }, { on := 9, ground := Go.Ground.phase }, { on := 10, ground := Go.Ground.phase }, { on := 11, ground := Go.Ground.phase }, { on := 12, ground := Go.Ground.phase }, { on := 13, ground := Go.Ground.phase }, { on := 14, ground := Go.Ground.phase }, { on := 15, ground := Go.Ground.phase }, { on := 16, ground := Go.Ground.phase }, { on := 17, ground := Go.Ground.phase }, { on := 18, ground := Go.Ground.phase }, { on := 19, ground := Go.Ground.phase }, { on := 20, ground := Go.Ground.phase }, { on := 21, ground := Go.Ground.phase }, { on := 22, ground := Go.Ground.phase }, { on := 23, ground := Go.Ground.phase }], guard := none }) (v := ?vv35084) (by kernel_rfl) (by kernel_rfl) rfl (by kernel_rfl) (by kernel_rfl) (by kernel_rfl) (fun _ _ _ h => h) (Or.inl ⟨by rfl, ?hy35084⟩) (by assumption) ?tk35084
      case hy35084 => (intro w hSw; (try dsimp only at hSw); go_simp; (try with_reducible rfl))
      try simp only [Act.put, List.setIfInBounds_toArray, List.set_cons_zero, List.set_cons_succ]
      refine AnyL.last (o := { dst := none, op := Go.Op.store 21 (Go.Operand.tmp 117) (Go.Operand.tmp 116), type := 0, pos := _, after := #[{ on := 24, ground := Go.Ground.data }, { on := 23, ground := Go.Ground.data }, { on := 0, ground := Go.Ground.phase }, { on := 1, ground := Go.Ground.phase }, { on := 2, ground := Go.Ground.phase }, { on := 3, ground := Go.Ground.phase }, { on := 4, ground := Go.Ground.phase }, { on := 5, ground := Go.Ground.phase }, { on := 6, ground := Go.Ground.phase }, { on := 7, ground := Go.Ground.phase }, { on := 8, ground := Go.Ground.phase }, { on := 9, ground := Go.Ground.phase }, { on := 10, ground := Go.Ground.phase }, { on := 11, ground := Go.Ground.phase }, { on := 12, ground := Go.Ground.phase }, { on := 13, ground := Go.Ground.phase }, { on := 14, ground := Go.Ground.phase }, { on := 15, ground := Go.Ground.phase }, { on := 16, ground := Go.Ground.phase }, { on := 17, ground := Go.Ground.phase }, { on := 18, ground := Go.Ground.phase }, { on := 19, ground := Go.Ground.phase }, { on := 20, ground := Go.Ground.phase }, { on := 21, ground := Go.Ground.phase }, { on := 22, ground := Go.Ground.phase }, { on := 23, ground := Go.Ground.phase }], guard := none }) (by kernel_rfl) rfl (by kernel_rfl) (fun K' hK' => ?_)
      go_simp
      clear hHeld
      refine hK'.out _ _ ?_
      clear hK' K'
      try simp only [Act.put, List.setIfInBounds_toArray, List.set_cons_zero, List.set_cons_succ]
      rw [show IntKind.i32.wrap 0 = 0 from by decide, setCell_self (show _ from z1)]
      go_wp2
      go_roundg (ρ.m - (i + 1))
      case measure => omega
      case rel => exact ⟨i + 1, by omega, by go_num, below_dr HB.out⟩
    · have i1 : ¬ ((i : Int) < (ρ.m : Int)) := by omega
      have K6 := K5.below bw
      have W6 := W5.below bw
      have f16 := D6.eng.get ((e8 16 (by omega) (by omega) (by omega)).trans c16) (by omega)
      have ff := D6.eng.fz
      have HY6 := hideIt (And.intro D6 (And.intro K6 W6))
      clear D5 K5 W5 C hcu hzc' hzf D6 K6 W6 bw e8 e14
      go_upto_region 14 with fail
      obtain ⟨D6, K6, W6⟩ := HY6.out
      obtain ⟨_, C, _, hcu⟩ := HQ.out
      obtain ⟨e8, e14⟩ := H8.out
      have D7 := D6.put C (o := 16) (by omega) (by omega) (by omega) (.int .i64 2)
      have K7 : HbOk (wr.setCell ⟨τ.E, 16, none⟩ (.int .i64 2)) ρ.hb nmh _ := K6.keep (fun q hq => far_set (HDL.out q hq))
      have W7 : Ws (fun q => q = τ.E ∨ q = ρ.hb) w (wr.setCell ⟨τ.E, 16, none⟩ (.int .i64 2)) := W6.set (.inl (.inl rfl))
      clear D6 K6 W6 HY6 f16 ff
      generalize wr.setCell ⟨τ.E, 16, none⟩ (.int .i64 2) = w9 at *
      have b16 := D7.eng.get (updV_same _ _ _) (by omega)
      have b0 := D7.eng.get ((updV_other _ _ (by omega)).trans ((e8 0 (by omega) (by omega) (by omega)).trans c0)) (by omega)
      have D8 := D7.drew C
      have K8 : HbOk w9.drew ρ.hb nmh _ := K7.keep (fun _ _ => rfl)
      have W8 := W7.drew
      have HY8 := hideIt (And.intro D8 (And.intro K8 W8))
      clear D7 K7 W7 C hcu e8 e14 D8 K8 W8
      refine wp_region_held_drew (S := (fun w' => w'.cell? ⟨τ.E, 16, none⟩ = some (.int .i64 2) ∧ w'.cell? ⟨τ.E, 0, none⟩ = some (.int .i64 (B : Int)))) (by kernel_rfl) ⟨b16, b0⟩ (fun hHeld => ?_)
      refine wpAnyH_take (i := 0) (oi := { dst := some 128, op := Go.Op.move (Go.Operand.tmp 0), type := 43, pos := _, after := #[], guard := none }) (v := ?vv35085) rfl (by kernel_rfl) (by kernel_rfl) (by kernel_rfl) (fun _ _ _ h => h) (Or.inl ⟨by rfl, ?hy35085⟩) (by assumption) ?tk35085
      case hy35085 => (intro w hSw; (try dsimp only at hSw); go_simp; (try with_reducible rfl))
      try simp only [Act.put, List.setIfInBounds_toArray, List.set_cons_zero, List.set_cons_succ]
      refine wpAnyH_take (i := 1) (oi := { dst := some 129, op := Go.Op.nilCheck (Go.Operand.tmp 128), type := 0, pos := _, after := #[{ on := 0, ground := Go.Ground.data }], guard := none }) (v := ?vv35086) rfl (by kernel_rfl) (by kernel_rfl) (by kernel_rfl) (fun _ _ _ h => h) (Or.inl ⟨by rfl, ?hy35086⟩) (by assumption) ?tk35086
      case hy35086 => (intro w hSw; (try dsimp only at hSw); go_simp; (try with_reducible rfl))
      try simp only [Act.put, List.setIfInBounds_toArray, List.set_cons_zero, List.set_cons_succ]
      refine wpAnyH_take (i := 2) (oi := { dst := some 130, op := Go.Op.fieldAddr 75 (Go.Operand.tmp 129) 10, type := 0, pos := _, after := #[{ on := 1, ground := Go.Ground.data }], guard := none }) (v := ?vv35087) rfl (by kernel_rfl) (by kernel_rfl) (by kernel_rfl) (fun _ _ _ h => h) (Or.inl ⟨by rfl, ?hy35087⟩) (by assumption) ?tk35087
      case hy35087 => (intro w hSw; (try dsimp only at hSw); go_simp; (try with_reducible rfl))
      try simp only [Act.put, List.setIfInBounds_toArray, List.set_cons_zero, List.set_cons_succ]
      refine wpAnyH_take (i := 3) (oi := { dst := some 131, op := Go.Op.fieldAddr 71 (Go.Operand.tmp 130) 1, type := 0, pos := _, after := #[{ on := 2, ground := Go.Ground.data }], guard := none }) (v := ?vv35088) rfl (by kernel_rfl) (by kernel_rfl) (by kernel_rfl) (fun _ _ _ h => h) (Or.inl ⟨by rfl, ?hy35088⟩) (by assumption) ?tk35088
      case hy35088 => (intro w hSw; (try dsimp only at hSw); go_simp; (try with_reducible rfl))
      try simp only [Act.put, List.setIfInBounds_toArray, List.set_cons_zero, List.set_cons_succ]
      refine wpAnyH_take (i := 4) (oi := { dst := some 132, op := Go.Op.load 3 (Go.Operand.tmp 131), type := 3, pos := _, after := #[{ on := 3, ground := Go.Ground.data }], guard := none }) (v := ?vv35089) rfl (by kernel_rfl) (by kernel_rfl) (by kernel_rfl) (fun _ _ _ h => h) (Or.inl ⟨by rfl, ?hy35089⟩) (by assumption) ?tk35089
      case hy35089 => (intro w hSw; (try dsimp only at hSw); go_simp; (try with_reducible rfl))
      try simp only [Act.put, List.setIfInBounds_toArray, List.set_cons_zero, List.set_cons_succ]
      refine wpAnyH_take (i := 5) (oi := { dst := some 133, op := Go.Op.move (Go.Operand.tmp 0), type := 43, pos := _, after := #[], guard := none }) (v := ?vv35090) rfl (by kernel_rfl) (by kernel_rfl) (by kernel_rfl) (fun _ _ _ h => h) (Or.inl ⟨by rfl, ?hy35090⟩) (by assumption) ?tk35090
      case hy35090 => (intro w hSw; (try dsimp only at hSw); go_simp; (try with_reducible rfl))
      try simp only [Act.put, List.setIfInBounds_toArray, List.set_cons_zero, List.set_cons_succ]
      refine wpAnyH_take (i := 6) (oi := { dst := some 134, op := Go.Op.nilCheck (Go.Operand.tmp 133), type := 0, pos := _, after := #[{ on := 5, ground := Go.Ground.data }], guard := none }) (v := ?vv35091) rfl (by kernel_rfl) (by kernel_rfl) (by kernel_rfl) (fun _ _ _ h => h) (Or.inl ⟨by rfl, ?hy35091⟩) (by assumption) ?tk35091
      case hy35091 => (intro w hSw; (try dsimp only at hSw); go_simp; (try with_reducible rfl))
      try simp only [Act.put, List.setIfInBounds_toArray, List.set_cons_zero, List.set_cons_succ]
      refine wpAnyH_take (i := 7) (oi := { dst := some 135, op := Go.Op.fieldAddr 75 (Go.Operand.tmp 134) 0, type := 0, pos := _, after := #[{ on := 6, ground := Go.Ground.data }], guard := none }) (v := ?vv35092) rfl (by kernel_rfl) (by kernel_rfl) (by kernel_rfl) (fun _ _ _ h => h) (Or.inl ⟨by rfl, ?hy35092⟩) (by assumption) ?tk35092
      case hy35092 => (intro w hSw; (try dsimp only at hSw); go_simp; (try with_reducible rfl))
      try simp only [Act.put, List.setIfInBounds_toArray, List.set_cons_zero, List.set_cons_succ]
      refine wpAnyH_take (i := 8) (oi := { dst := some 136, op := Go.Op.fieldAddr 52 (Go.Operand.tmp 135) 0, type := 0, pos := _, after := #[{ on := 7, ground := Go.Ground.data }], guard := none }) (v := ?vv35093) rfl (by kernel_rfl) (by kernel_rfl) (by kernel_rfl) (fun _ _ _ h => h) (Or.inl ⟨by rfl, ?hy35093⟩) (by assumption) ?tk35093
      case hy35093 => (intro w hSw; (try dsimp only at hSw); go_simp; (try with_reducible rfl))
      try simp only [Act.put, List.setIfInBounds_toArray, List.set_cons_zero, List.set_cons_succ]
      refine wpAnyH_take (i := 9) (oi := { dst := some 137, op := Go.Op.load 3 (Go.Operand.tmp 136), type := 3, pos := _, after := #[{ on := 8, ground := Go.Ground.data }], guard := none }) (v := ?vv35094) rfl (by kernel_rfl) (by kernel_rfl) (by kernel_rfl) (fun _ _ _ h => h) (Or.inl ⟨by rfl, ?hy35094⟩) (by assumption) ?tk35094
      case hy35094 => (intro w hSw; (try dsimp only at hSw); go_simp; (try with_reducible rfl))
      try simp only [Act.put, List.setIfInBounds_toArray, List.set_cons_zero, List.set_cons_succ]
      refine wpAnyH_take (i := 10) (oi := { dst := some 138, op := Go.Op.binOp Go.BinOp.leq 3 (Go.Operand.tmp 132) (Go.Operand.tmp 137) 3, type := 4, pos := _, after := #[{ on := 4, ground := Go.Ground.data }, { on := 9, ground := Go.Ground.data }], guard := none }) (v := ?vv35095) rfl (by kernel_rfl) (by kernel_rfl) (by kernel_rfl) (fun _ _ _ h => h) (Or.inl ⟨by rfl, ?hy35095⟩) (by assumption) ?tk35095
      case hy35095 => (intro w hSw; (try dsimp only at hSw); go_simp; (try with_reducible rfl))
      try simp only [Act.put, List.setIfInBounds_toArray, List.set_cons_zero, List.set_cons_succ]
      refine wpAnyH_take (i := 11) (oi := { dst := some 4, op := Go.Op.assign (Go.Operand.tmp 138), type := 4, pos := _, after := #[{ on := 10, ground := Go.Ground.data }, { on := 0, ground := Go.Ground.phase }, { on := 1, ground := Go.Ground.phase }, { on := 2, ground := Go.Ground.phase }, { on := 3, ground := Go.Ground.phase }, { on := 4, ground := Go.Ground.phase }, { on := 5, ground := Go.Ground.phase }, { on := 6, ground := Go.Ground.phase }, { on := 7, ground := Go.Ground.phase }, { on := 8, ground := Go.Ground.phase }, { on := 9, ground := Go.Ground.phase }, { on := 10, ground := Go.Ground.phase }], guard := none }) (v := ?vv35096) rfl (by kernel_rfl) (by kernel_rfl) (by kernel_rfl) (fun _ _ _ h => h) (Or.inl ⟨by rfl, ?hy35096⟩) (by assumption) ?tk35096
      case hy35096 => (intro w hSw; (try dsimp only at hSw); go_simp; (try with_reducible rfl))
      try simp only [Act.put, List.setIfInBounds_toArray, List.set_cons_zero, List.set_cons_succ]
      refine wpAnyH_done (by kernel_rfl) ?_ _
      clear hHeld b16 b0
      generalize w9.drew = wz at *
      go_wp2
      go_ret
      obtain ⟨D8, K8, W8⟩ := HY8.out
      obtain ⟨e8, e14⟩ := H8.out
      have hbo' : decide ((2 : Int) ≤ (B : Int)) = decide (2 ≤ B) := decide_eq_decide.mpr (by omega)
      refine ⟨congrArg (fun x => Ending.returned (.bool x)) hbo', ?_⟩
      exact ⟨updV c8 16 (.int .i64 2), D8, { sh with rows := 1, data := d, slots := sv, why := wy }, K8, rfl, rfl, HQS.out, fun i h1 h2 h3 h4 => (updV_other _ _ h2).trans (e8 i h1 h3 h4), W8⟩
end Go.Proofs.Qxb6500880a
