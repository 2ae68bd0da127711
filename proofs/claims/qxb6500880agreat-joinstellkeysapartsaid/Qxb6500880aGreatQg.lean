import Derived.Deep.CutBlock
import Derived.OwnWalk
import Derived.Maps.AppendAt
import Derived.Maps.OwnSet
import Derived.Maps.OwnOps
import Derived.Laws.ResultCell
import Derived.Laws.AppendOwnNone
import Derived.Test.Qxb6500880aGreatQf
set_option linter.unusedVariables false
set_option linter.unusedSimpArgs false
namespace Go.Proofs.Qxb6500880aGreat
open Go.RowKit

theorem Rdy.below {w w' : World} {D : RD} {c : Nat → Value} {X : Nat → RS} (h : Rdy w D c X) (b : Below w.heap.size w w') : Rdy w' D c X :=
  ⟨h.s.below b, h.c0, h.c1, h.c3, h.c5, h.c12, h.c14, h.c16, h.c17, h.c18, h.c19, h.c20, h.c21, h.c22, h.c23, h.um, h.un, h.uR, h.uf, h.ur, h.uh, h.o, h.A, h.ix, h.r0, h.r1, h.r2, fun j hj => cell_later b (h.rg j hj), fun o => (World.frozen?_of_block (a := ⟨D.GR, o, none⟩) (b.block _ h.s.lg)).trans (h.rf o), cell_later b h.u0, cell_later b h.u1, cell_later b h.u2, cell_later b h.u3, cell_later b h.u4, cell_later b h.u5, cell_later b h.u6, cell_later b h.u7, cell_later b h.u8, cell_later b h.u9, cell_later b h.u10, cell_later b h.u11, fun o => (World.frozen?_of_block (a := ⟨D.GC, o, none⟩) (b.block _ h.s.lc)).trans (h.cf o), h.hB⟩
/-- What a step leaves. -/
structure StO (w w' : World) (D : RD) (c : Nat → Value) (X : Nat → RS) (c' : Nat → Value) (X' : Nat → RS) : Prop where
  s : ES w' D c' X'
  c : ∀ k, k < 8 ∨ k = 9 → c' k = c k
  x0 : ∃ v, X' 0 = ⟨{ (X 0).s with idx := v }, (X 0).d, (X 0).N, (X 0).f⟩
  x1 : X' 1 = X 1 ∧ X' 3 = X 3
  A : (X' 2).s.A = 3
  k : KI (X 0).d (X 0).s.rows (X' 2).d (X' 2).s.rows (FJ D X)
  fr : ∀ q, fpR (D.rb 2) (X' 2).s q → fpR (D.rb 2) (X 2).s q ∨ w.heap.size < q
  W : Ws (fun q => q = D.E ∨ q = D.GR ∨ q = D.GC ∨ q = D.rb 0 ∨ fpR (D.rb 2) (X 2).s q) w w'
/-- A block that is not the engine's is written. -/
theorem ES.off {w : World} {D : RD} {c : Nat → Value} {X : Nat → RS} (h : ES w D c X) {b o : Nat} {v : Value} (hb : ∀ k q, k < 9 → fpE D X k q → q ≠ b) : ES (w.setCell ⟨b, o, none⟩ v) D c X := h.keep (by simp) (fun k q hk _ _ hq => far_set (hb k q hk hq))
set_option maxRecDepth 20000 in
set_option maxHeartbeats 8000000 in
theorem step_go {w : World} {D : RD} {c : Nat → Value} {X : Nat → RS} {LB cl gl cgl : Nat} (R : Rdy w D c X) (c7 : c 7 = .slice (some ⟨LB, 0, none⟩) 1 cl) (c8 : c 8 = .int .i64 0) (c9 : c 9 = .int .u8 0) (hL : w.cell? ⟨LB, 0, none⟩ = some (.slice (some ⟨gl, 0, none⟩) 1 cgl)) (hg : w.cell? ⟨gl, 0, none⟩ = some (.pointer (some ⟨D.ρ.RB, 0, none⟩))) :
    Calls Tryz.prog 19 #[.pointer (some ⟨D.E, 0, none⟩)] w fun e w' => e = .returned (.tuple #[.bool false, .agg #[.int .u8 0, .int .i64 0, .int .i64 0]]) ∧ ∃ c' X', StO w w' D c X c' X' := by
  have bA := one_alloc w (.cells #[.int .u8 0, .int .i64 0, .int .i64 0] 61)
  have R1 := R.below bA
  have y7 := R1.s.e.get c7 (by omega)
  have y8 := R1.s.e.get c8 (by omega)
  have y9 := R1.s.e.get c9 (by omega)
  have yL := cell_later bA hL
  have yg := cell_later bA hg
  have a0 : (w.alloc (.cells #[.int .u8 0, .int .i64 0, .int .i64 0] 61)).cell? ⟨w.heap.size, 0, none⟩ = some (.int .u8 0) := by simp
  have a1 : (w.alloc (.cells #[.int .u8 0, .int .i64 0, .int .i64 0] 61)).cell? ⟨w.heap.size, 1, none⟩ = some (.int .i64 0) := by simp
  have a2 : (w.alloc (.cells #[.int .u8 0, .int .i64 0, .int .i64 0] 61)).cell? ⟨w.heap.size, 2, none⟩ = some (.int .i64 0) := by simp
  have af : ∀ o, (w.alloc (.cells #[.int .u8 0, .int .i64 0, .int .i64 0] 61)).frozen? ⟨w.heap.size, o, none⟩ = false := fun o => by simp
  have hA : w.heap.size < (w.alloc (.cells #[.int .u8 0, .int .i64 0, .int .i64 0] 61)).heap.size := by simp
  have hEl := R.s.e.lt
  have HQ := hideIt (And.intro R1 (And.intro bA (And.intro a0 (And.intro a1 (And.intro a2 (And.intro af (And.intro yg (And.intro hA R))))))))
  have HC := hideIt (And.intro c7 (And.intro c8 c9))
  clear R bA a0 a1 a2 af hL hg yg c7 c8 c9 hA R1
  go_enter Tryz.func19, Tryz.ntmps19
  go_upto_region 1 with fail
  generalize w.alloc (.cells #[.int .u8 0, .int .i64 0, .int .i64 0] 61) = w1 at *
  refine wp_region_held_drew (S := (fun w' => w'.cell? ⟨D.E, 9, none⟩ = some (.int .u8 0) ∧ w'.cell? ⟨D.E, 8, none⟩ = some (.int .i64 0) ∧ w'.cell? ⟨D.E, 7, none⟩ = some (.slice (some ⟨LB, 0, none⟩) 1 cl))) (by kernel_rfl) ⟨y9, y8, y7⟩ (fun hHeld => ?_)
  refine wpAnyH_take (i := 0) (oi := { dst := some 6, op := Go.Op.move (Go.Operand.tmp 0), type := 58, pos := _, after := #[], guard := none }) (v := ?vv43001) rfl (by kernel_rfl) (by kernel_rfl) (by kernel_rfl) (fun _ _ _ h => h) (Or.inl ⟨by rfl, ?hy43001⟩) (by assumption) ?tk43001
  case hy43001 => (intro w hSw; (try dsimp only at hSw); go_simp; (try with_reducible rfl))
  try simp only [Act.put, List.setIfInBounds_toArray, List.set_cons_zero, List.set_cons_succ]
  refine wpAnyH_take (i := 1) (oi := { dst := some 7, op := Go.Op.nilCheck (Go.Operand.tmp 6), type := 0, pos := _, after := #[{ on := 0, ground := Go.Ground.data }], guard := none }) (v := ?vv43002) rfl (by kernel_rfl) (by kernel_rfl) (by kernel_rfl) (fun _ _ _ h => h) (Or.inl ⟨by rfl, ?hy43002⟩) (by assumption) ?tk43002
  case hy43002 => (intro w hSw; (try dsimp only at hSw); go_simp; (try with_reducible rfl))
  try simp only [Act.put, List.setIfInBounds_toArray, List.set_cons_zero, List.set_cons_succ]
  refine wpAnyH_take (i := 2) (oi := { dst := some 8, op := Go.Op.fieldAddr 86 (Go.Operand.tmp 7) 6, type := 0, pos := _, after := #[{ on := 1, ground := Go.Ground.data }], guard := none }) (v := ?vv43003) rfl (by kernel_rfl) (by kernel_rfl) (by kernel_rfl) (fun _ _ _ h => h) (Or.inl ⟨by rfl, ?hy43003⟩) (by assumption) ?tk43003
  case hy43003 => (intro w hSw; (try dsimp only at hSw); go_simp; (try with_reducible rfl))
  try simp only [Act.put, List.setIfInBounds_toArray, List.set_cons_zero, List.set_cons_succ]
  refine wpAnyH_take (i := 3) (oi := { dst := some 9, op := Go.Op.fieldAddr 61 (Go.Operand.tmp 8) 0, type := 0, pos := _, after := #[{ on := 2, ground := Go.Ground.data }], guard := none }) (v := ?vv43004) rfl (by kernel_rfl) (by kernel_rfl) (by kernel_rfl) (fun _ _ _ h => h) (Or.inl ⟨by rfl, ?hy43004⟩) (by assumption) ?tk43004
  case hy43004 => (intro w hSw; (try dsimp only at hSw); go_simp; (try with_reducible rfl))
  try simp only [Act.put, List.setIfInBounds_toArray, List.set_cons_zero, List.set_cons_succ]
  refine wpAnyH_take (i := 4) (oi := { dst := some 10, op := Go.Op.load 59 (Go.Operand.tmp 9), type := 59, pos := _, after := #[{ on := 3, ground := Go.Ground.data }], guard := none }) (v := ?vv43005) rfl (by kernel_rfl) (by kernel_rfl) (by kernel_rfl) (fun _ _ _ h => h) (Or.inl ⟨by rfl, ?hy43005⟩) (by assumption) ?tk43005
  case hy43005 => (intro w hSw; (try dsimp only at hSw); go_simp; (try with_reducible rfl))
  try simp only [Act.put, List.setIfInBounds_toArray, List.set_cons_zero, List.set_cons_succ]
  refine wpAnyH_take (i := 5) (oi := { dst := some 11, op := Go.Op.binOp Go.BinOp.neq 59 (Go.Operand.tmp 10) (Go.Operand.const (Go.Value.int Go.IntKind.u8 0)) 59, type := 4, pos := _, after := #[{ on := 4, ground := Go.Ground.data }], guard := none }) (v := ?vv43006) rfl (by kernel_rfl) (by kernel_rfl) (by kernel_rfl) (fun _ _ _ h => h) (Or.inl ⟨by rfl, ?hy43006⟩) (by assumption) ?tk43006
  case hy43006 => (intro w hSw; (try dsimp only at hSw); go_simp; (try with_reducible rfl))
  try simp only [Act.put, List.setIfInBounds_toArray, List.set_cons_zero, List.set_cons_succ]
  refine wpAnyH_take (i := 6) (oi := { dst := some 12, op := Go.Op.move (Go.Operand.tmp 11), type := 4, pos := _, after := #[{ on := 5, ground := Go.Ground.data }], guard := none }) (v := ?vv43007) rfl (by kernel_rfl) (by kernel_rfl) (by kernel_rfl) (fun _ _ _ h => h) (Or.inl ⟨by rfl, ?hy43007⟩) (by assumption) ?tk43007
  case hy43007 => (intro w hSw; (try dsimp only at hSw); go_simp; (try with_reducible rfl))
  try simp only [Act.put, List.setIfInBounds_toArray, List.set_cons_zero, List.set_cons_succ]
  refine wpAnyH_take (i := 7) (oi := { dst := some 13, op := Go.Op.move (Go.Operand.tmp 0), type := 58, pos := _, after := #[{ on := 6, ground := Go.Ground.guard }], guard := some (6, false) }) (v := ?vv43008) rfl (by kernel_rfl) (by kernel_rfl) (by kernel_rfl) (fun _ _ _ h => h) (Or.inl ⟨by rfl, ?hy43008⟩) (by assumption) ?tk43008
  case hy43008 => (intro w hSw; (try dsimp only at hSw); go_simp; (try with_reducible rfl))
  try simp only [Act.put, List.setIfInBounds_toArray, List.set_cons_zero, List.set_cons_succ]
  refine wpAnyH_take (i := 8) (oi := { dst := some 14, op := Go.Op.nilCheck (Go.Operand.tmp 13), type := 0, pos := _, after := #[{ on := 7, ground := Go.Ground.data }, { on := 6, ground := Go.Ground.guard }], guard := some (6, false) }) (v := ?vv43009) rfl (by kernel_rfl) (by kernel_rfl) (by kernel_rfl) (fun _ _ _ h => h) (Or.inl ⟨by rfl, ?hy43009⟩) (by assumption) ?tk43009
  case hy43009 => (intro w hSw; (try dsimp only at hSw); go_simp; (try with_reducible rfl))
  try simp only [Act.put, List.setIfInBounds_toArray, List.set_cons_zero, List.set_cons_succ]
  refine wpAnyH_take (i := 9) (oi := { dst := some 15, op := Go.Op.fieldAddr 86 (Go.Operand.tmp 14) 5, type := 0, pos := _, after := #[{ on := 8, ground := Go.Ground.data }, { on := 6, ground := Go.Ground.guard }], guard := some (6, false) }) (v := ?vv43010) rfl (by kernel_rfl) (by kernel_rfl) (by kernel_rfl) (fun _ _ _ h => h) (Or.inl ⟨by rfl, ?hy43010⟩) (by assumption) ?tk43010
  case hy43010 => (intro w hSw; (try dsimp only at hSw); go_simp; (try with_reducible rfl))
  try simp only [Act.put, List.setIfInBounds_toArray, List.set_cons_zero, List.set_cons_succ]
  refine wpAnyH_take (i := 10) (oi := { dst := some 16, op := Go.Op.load 3 (Go.Operand.tmp 15), type := 3, pos := _, after := #[{ on := 9, ground := Go.Ground.data }, { on := 6, ground := Go.Ground.guard }], guard := some (6, false) }) (v := ?vv43011) rfl (by kernel_rfl) (by kernel_rfl) (by kernel_rfl) (fun _ _ _ h => h) (Or.inl ⟨by rfl, ?hy43011⟩) (by assumption) ?tk43011
  case hy43011 => (intro w hSw; (try dsimp only at hSw); go_simp; (try with_reducible rfl))
  try simp only [Act.put, List.setIfInBounds_toArray, List.set_cons_zero, List.set_cons_succ]
  refine wpAnyH_take (i := 11) (oi := { dst := some 17, op := Go.Op.move (Go.Operand.tmp 0), type := 58, pos := _, after := #[{ on := 6, ground := Go.Ground.guard }], guard := some (6, false) }) (v := ?vv43012) rfl (by kernel_rfl) (by kernel_rfl) (by kernel_rfl) (fun _ _ _ h => h) (Or.inl ⟨by rfl, ?hy43012⟩) (by assumption) ?tk43012
  case hy43012 => (intro w hSw; (try dsimp only at hSw); go_simp; (try with_reducible rfl))
  try simp only [Act.put, List.setIfInBounds_toArray, List.set_cons_zero, List.set_cons_succ]
  refine wpAnyH_take (i := 12) (oi := { dst := some 18, op := Go.Op.nilCheck (Go.Operand.tmp 17), type := 0, pos := _, after := #[{ on := 11, ground := Go.Ground.data }, { on := 6, ground := Go.Ground.guard }], guard := some (6, false) }) (v := ?vv43013) rfl (by kernel_rfl) (by kernel_rfl) (by kernel_rfl) (fun _ _ _ h => h) (Or.inl ⟨by rfl, ?hy43013⟩) (by assumption) ?tk43013
  case hy43013 => (intro w hSw; (try dsimp only at hSw); go_simp; (try with_reducible rfl))
  try simp only [Act.put, List.setIfInBounds_toArray, List.set_cons_zero, List.set_cons_succ]
  refine wpAnyH_take (i := 13) (oi := { dst := some 19, op := Go.Op.fieldAddr 86 (Go.Operand.tmp 18) 4, type := 0, pos := _, after := #[{ on := 12, ground := Go.Ground.data }, { on := 6, ground := Go.Ground.guard }], guard := some (6, false) }) (v := ?vv43014) rfl (by kernel_rfl) (by kernel_rfl) (by kernel_rfl) (fun _ _ _ h => h) (Or.inl ⟨by rfl, ?hy43014⟩) (by assumption) ?tk43014
  case hy43014 => (intro w hSw; (try dsimp only at hSw); go_simp; (try with_reducible rfl))
  try simp only [Act.put, List.setIfInBounds_toArray, List.set_cons_zero, List.set_cons_succ]
  refine wpAnyH_take (i := 14) (oi := { dst := some 20, op := Go.Op.load 77 (Go.Operand.tmp 19), type := 77, pos := _, after := #[{ on := 13, ground := Go.Ground.data }, { on := 6, ground := Go.Ground.guard }], guard := some (6, false) }) (v := ?vv43015) rfl (by kernel_rfl) (by kernel_rfl) (by kernel_rfl) (fun _ _ _ h => h) (Or.inl ⟨by rfl, ?hy43015⟩) (by assumption) ?tk43015
  case hy43015 => (intro w hSw; (try dsimp only at hSw); go_simp; (try with_reducible rfl))
  try simp only [Act.put, List.setIfInBounds_toArray, List.set_cons_zero, List.set_cons_succ]
  refine wpAnyH_take (i := 15) (oi := { dst := some 21, op := Go.Op.call { callee := Go.Callee.builtin Go.Builtin.len, args := #[Go.Operand.tmp 20], argTypes := #[77] }, type := 3, pos := _, after := #[{ on := 14, ground := Go.Ground.data }, { on := 6, ground := Go.Ground.guard }], guard := some (6, false) }) (v := ?vv43016) rfl (by kernel_rfl) (by kernel_rfl) (by kernel_rfl) (fun _ _ _ h => h) (Or.inl ⟨by rfl, ?hy43016⟩) (by assumption) ?tk43016
  case hy43016 => (intro w hSw; (try dsimp only at hSw); go_simp; (try with_reducible rfl))
  try simp only [Act.put, List.setIfInBounds_toArray, List.set_cons_zero, List.set_cons_succ]
  refine wpAnyH_take (i := 16) (oi := { dst := some 22, op := Go.Op.binOp Go.BinOp.geq 3 (Go.Operand.tmp 16) (Go.Operand.tmp 21) 3, type := 4, pos := _, after := #[{ on := 10, ground := Go.Ground.data }, { on := 15, ground := Go.Ground.data }, { on := 6, ground := Go.Ground.guard }], guard := some (6, false) }) (v := ?vv43017) rfl (by kernel_rfl) (by kernel_rfl) (by kernel_rfl) (fun _ _ _ h => h) (Or.inl ⟨by rfl, ?hy43017⟩) (by assumption) ?tk43017
  case hy43017 => (intro w hSw; (try dsimp only at hSw); go_simp; (try with_reducible rfl))
  try simp only [Act.put, List.setIfInBounds_toArray, List.set_cons_zero, List.set_cons_succ]
  refine wpAnyH_take (i := 17) (oi := { dst := some 23, op := Go.Op.pick (Go.Operand.tmp 12) (Go.Operand.const (Go.Value.bool true)) (Go.Operand.tmp 22), type := 4, pos := _, after := #[{ on := 6, ground := Go.Ground.data }, { on := 16, ground := Go.Ground.data }], guard := none }) (v := ?vv43018) rfl (by kernel_rfl) (by kernel_rfl) (by kernel_rfl) (fun _ _ _ h => h) (Or.inl ⟨by rfl, ?hy43018⟩) (by assumption) ?tk43018
  case hy43018 => (intro w hSw; (try dsimp only at hSw); go_simp; (try with_reducible rfl))
  try simp only [Act.put, List.setIfInBounds_toArray, List.set_cons_zero, List.set_cons_succ]
  refine wpAnyH_done (by kernel_rfl) ?_ _
  clear hHeld
  obtain ⟨R1, bA, a0, a1, a2, af, yg, hA, R⟩ := HQ.out
  have R2 := R1.below (below_dr (Below.refl w1.heap.size w1))
  have R2' := R2.below (below_dr (Below.refl w1.drew.heap.size w1.drew))
  have hne : ∀ k, k < D.ρ.u.m → D.ρ.u.rb k ≠ D.ρ.u.hb := fun k hk e => by
    rw [R.um] at hk
    rw [R.ur.2.2] at e
    rcases (by omega : k = 0 ∨ k = 1) with z | z
    · subst z
      rw [R.ur.1] at e
      have := R.s.dj 6 7 (D.rb 1) (by omega) (by omega) (.inl rfl) (.inl e)
      omega
    · subst z
      rw [R.ur.2.1] at e
      have := R.s.dj 5 7 (D.rb 0) (by omega) (by omega) (.inl rfl) (.inl e)
      omega
  have hRr : ∀ k, k < D.ρ.u.m → ∃ nm s, RelAt w1.drew.drew (D.ρ.u.rb k) nm s := fun k hk => by
    rw [R.um] at hk
    rcases (by omega : k = 0 ∨ k = 1) with z | z
    · subst z; rw [R.ur.1]; exact ⟨_, _, (R2'.s.re 1 (by omega)).at'⟩
    · subst z; rw [R.ur.2.1]; exact ⟨_, _, (R2'.s.re 0 (by omega)).at'⟩
  have hRh : RelAt w1.drew.drew D.ρ.u.hb (D.nm 2) (X 2).s := by rw [R.ur.2.2]; exact (R2'.s.re 2 (by omega)).at'
  have hsc := schedule_any (w := w1.drew.drew) (cl := cgl) (gl := gl) yg R2'.s.ru hRh hRr hne (by rw [R.um]; omega)
  have hE2 : D.E < w1.drew.drew.heap.size := R2'.s.e.lt
  have hL2 : LB < w1.drew.drew.heap.size := World.block_lt_of_cell? _ _ yL
  clear R1 bA a0 a1 a2 af yg hA R R2 R2' hne hRr hRh
  go_upto_region 3 with fail
  refine wp_region_held_drew (S := (fun w' => w'.cell? ⟨D.E, 7, none⟩ = some (.slice (some ⟨LB, 0, none⟩) 1 cl) ∧ w'.cell? ⟨D.E, 8, none⟩ = some (.int .i64 0) ∧ w'.cell? ⟨LB, 0, none⟩ = some (.slice (some ⟨gl, 0, none⟩) 1 cgl))) (by kernel_rfl) ⟨y7, y8, yL⟩ (fun hHeld => ?_)
  refine wpAnyH_take (i := 0) (oi := { dst := some 28, op := Go.Op.move (Go.Operand.tmp 0), type := 58, pos := _, after := #[], guard := none }) (v := ?vv43019) rfl (by kernel_rfl) (by kernel_rfl) (by kernel_rfl) (fun _ _ _ h => h) (Or.inl ⟨by rfl, ?hy43019⟩) (by assumption) ?tk43019
  case hy43019 => (intro w hSw; (try dsimp only at hSw); go_simp; (try with_reducible rfl))
  try simp only [Act.put, List.setIfInBounds_toArray, List.set_cons_zero, List.set_cons_succ]
  refine wpAnyH_take (i := 1) (oi := { dst := some 29, op := Go.Op.nilCheck (Go.Operand.tmp 28), type := 0, pos := _, after := #[{ on := 0, ground := Go.Ground.data }], guard := none }) (v := ?vv43020) rfl (by kernel_rfl) (by kernel_rfl) (by kernel_rfl) (fun _ _ _ h => h) (Or.inl ⟨by rfl, ?hy43020⟩) (by assumption) ?tk43020
  case hy43020 => (intro w hSw; (try dsimp only at hSw); go_simp; (try with_reducible rfl))
  try simp only [Act.put, List.setIfInBounds_toArray, List.set_cons_zero, List.set_cons_succ]
  refine wpAnyH_take (i := 2) (oi := { dst := some 30, op := Go.Op.fieldAddr 86 (Go.Operand.tmp 29) 4, type := 0, pos := _, after := #[{ on := 1, ground := Go.Ground.data }], guard := none }) (v := ?vv43021) rfl (by kernel_rfl) (by kernel_rfl) (by kernel_rfl) (fun _ _ _ h => h) (Or.inl ⟨by rfl, ?hy43021⟩) (by assumption) ?tk43021
  case hy43021 => (intro w hSw; (try dsimp only at hSw); go_simp; (try with_reducible rfl))
  try simp only [Act.put, List.setIfInBounds_toArray, List.set_cons_zero, List.set_cons_succ]
  refine wpAnyH_take (i := 3) (oi := { dst := some 31, op := Go.Op.load 77 (Go.Operand.tmp 30), type := 77, pos := _, after := #[{ on := 2, ground := Go.Ground.data }], guard := none }) (v := ?vv43022) rfl (by kernel_rfl) (by kernel_rfl) (by kernel_rfl) (fun _ _ _ h => h) (Or.inl ⟨by rfl, ?hy43022⟩) (by assumption) ?tk43022
  case hy43022 => (intro w hSw; (try dsimp only at hSw); go_simp; (try with_reducible rfl))
  try simp only [Act.put, List.setIfInBounds_toArray, List.set_cons_zero, List.set_cons_succ]
  refine wpAnyH_take (i := 4) (oi := { dst := some 32, op := Go.Op.move (Go.Operand.tmp 0), type := 58, pos := _, after := #[], guard := none }) (v := ?vv43023) rfl (by kernel_rfl) (by kernel_rfl) (by kernel_rfl) (fun _ _ _ h => h) (Or.inl ⟨by rfl, ?hy43023⟩) (by assumption) ?tk43023
  case hy43023 => (intro w hSw; (try dsimp only at hSw); go_simp; (try with_reducible rfl))
  try simp only [Act.put, List.setIfInBounds_toArray, List.set_cons_zero, List.set_cons_succ]
  refine wpAnyH_take (i := 5) (oi := { dst := some 33, op := Go.Op.nilCheck (Go.Operand.tmp 32), type := 0, pos := _, after := #[{ on := 4, ground := Go.Ground.data }], guard := none }) (v := ?vv43024) rfl (by kernel_rfl) (by kernel_rfl) (by kernel_rfl) (fun _ _ _ h => h) (Or.inl ⟨by rfl, ?hy43024⟩) (by assumption) ?tk43024
  case hy43024 => (intro w hSw; (try dsimp only at hSw); go_simp; (try with_reducible rfl))
  try simp only [Act.put, List.setIfInBounds_toArray, List.set_cons_zero, List.set_cons_succ]
  refine wpAnyH_take (i := 6) (oi := { dst := some 34, op := Go.Op.fieldAddr 86 (Go.Operand.tmp 33) 5, type := 0, pos := _, after := #[{ on := 5, ground := Go.Ground.data }], guard := none }) (v := ?vv43025) rfl (by kernel_rfl) (by kernel_rfl) (by kernel_rfl) (fun _ _ _ h => h) (Or.inl ⟨by rfl, ?hy43025⟩) (by assumption) ?tk43025
  case hy43025 => (intro w hSw; (try dsimp only at hSw); go_simp; (try with_reducible rfl))
  try simp only [Act.put, List.setIfInBounds_toArray, List.set_cons_zero, List.set_cons_succ]
  refine wpAnyH_take (i := 7) (oi := { dst := some 35, op := Go.Op.load 3 (Go.Operand.tmp 34), type := 3, pos := _, after := #[{ on := 6, ground := Go.Ground.data }], guard := none }) (v := ?vv43026) rfl (by kernel_rfl) (by kernel_rfl) (by kernel_rfl) (fun _ _ _ h => h) (Or.inl ⟨by rfl, ?hy43026⟩) (by assumption) ?tk43026
  case hy43026 => (intro w hSw; (try dsimp only at hSw); go_simp; (try with_reducible rfl))
  try simp only [Act.put, List.setIfInBounds_toArray, List.set_cons_zero, List.set_cons_succ]
  refine wpAnyH_take (i := 8) (oi := { dst := some 36, op := Go.Op.indexAddr 77 (Go.Operand.tmp 31) (Go.Operand.tmp 35), type := 0, pos := _, after := #[{ on := 3, ground := Go.Ground.data }, { on := 7, ground := Go.Ground.data }], guard := none }) (v := ?vv43027) rfl (by kernel_rfl) (by kernel_rfl) (by kernel_rfl) (fun _ _ _ h => h) (Or.inl ⟨by rfl, ?hy43027⟩) (by assumption) ?tk43027
  case hy43027 => (intro w hSw; (try dsimp only at hSw); go_simp; (try with_reducible rfl))
  try simp only [Act.put, List.setIfInBounds_toArray, List.set_cons_zero, List.set_cons_succ]
  refine wpAnyH_take (i := 9) (oi := { dst := some 37, op := Go.Op.load 79 (Go.Operand.tmp 36), type := 79, pos := _, after := #[{ on := 8, ground := Go.Ground.data }], guard := none }) (v := ?vv43028) rfl (by kernel_rfl) (by kernel_rfl) (by kernel_rfl) (fun _ _ _ h => h) (Or.inl ⟨by rfl, ?hy43028⟩) (by assumption) ?tk43028
  case hy43028 => (intro w hSw; (try dsimp only at hSw); go_simp; (try with_reducible rfl))
  try simp only [Act.put, List.setIfInBounds_toArray, List.set_cons_zero, List.set_cons_succ]
  refine wpAnyH_take (i := 12) (oi := { dst := some 40, op := Go.Op.move (Go.Operand.const (Go.Value.int Go.IntKind.i64 0)), type := 3, pos := _, after := #[], guard := none }) (v := ?vv43029) rfl (by kernel_rfl) (by kernel_rfl) (by kernel_rfl) (fun _ _ _ h => h) (Or.inl ⟨by rfl, ?hy43029⟩) (by assumption) ?tk43029
  case hy43029 => (intro w hSw; (try dsimp only at hSw); go_simp; (try with_reducible rfl))
  try simp only [Act.put, List.setIfInBounds_toArray, List.set_cons_zero, List.set_cons_succ]
  refine wpAnyH_ready (rs := [10]) (by kernel_rfl) (by simp) ?_
  refine AllReadyH.cons (o := { dst := some 38, op := Go.Op.call { callee := Go.Callee.value (Go.Operand.func 34), args := #[Go.Operand.tmp 37], argTypes := #[79] }, type := 77, pos := _, after := #[{ on := 9, ground := Go.Ground.data }], guard := none }) rfl (fun K' hK' => ?_) AllReadyH.nil
  go_simp
  go_at_call 34
  refine hsc.mono ?_
  rintro e w5 ⟨g, gr, cr', rfl, k1, k2, k3, k4, b5⟩
  have x7 := (World.cell?_of_block (a := ⟨D.E, 7, none⟩) (b5.block D.E hE2)).trans y7
  have x8 := (World.cell?_of_block (a := ⟨D.E, 8, none⟩) (b5.block D.E hE2)).trans y8
  have xL := (World.cell?_of_block (a := ⟨LB, 0, none⟩) (b5.block LB hL2)).trans yL
  have HX5 := hideIt (And.intro k3 (And.intro k4 b5))
  clear k3 k4 b5 hsc
  clear hHeld
  refine hK'.out _ _ ⟨x7, x8, xL⟩ (fun hHeld => ?_)
  clear hK' K'
  try simp only [Act.put, List.setIfInBounds_toArray, List.set_cons_zero, List.set_cons_succ]
  refine wpAnyH_take (i := 11) (oi := { dst := some 39, op := Go.Op.call { callee := Go.Callee.builtin Go.Builtin.len, args := #[Go.Operand.tmp 38], argTypes := #[77] }, type := 3, pos := _, after := #[{ on := 10, ground := Go.Ground.data }], guard := none }) (v := ?vv43030) rfl (by kernel_rfl) (by kernel_rfl) (by kernel_rfl) (fun _ _ _ h => h) (Or.inl ⟨by rfl, ?hy43030⟩) (by assumption) ?tk43030
  case hy43030 => (intro w hSw; (try dsimp only at hSw); go_simp; (try with_reducible rfl))
  try simp only [Act.put, List.setIfInBounds_toArray, List.set_cons_zero, List.set_cons_succ]
  refine wpAnyH_done (by kernel_rfl) ?_ _
  clear hHeld x7 x8 xL y7 y8 y9 yL
  obtain ⟨k3, k4, b5'⟩ := HX5.out
  obtain ⟨R1, bA, a0, a1, a2, af, yg, hA, R⟩ := HQ.out
  have b5 : Below w1.heap.size w1 w5 := ⟨b5'.os, b5'.tape, b5'.output, b5'.size, b5'.block⟩
  have hs1 : w1.heap.size ≤ w5.heap.size := b5.size
  have k4' : w1.heap.size ≤ gr := k4
  have R5 := R1.below b5
  have h1 := R1.s.e.lt
  have h3 := (R1.s.re 0 (by omega)).at'.lt
  have hev := evaluate_any (cgr := cr') R5 k2 ⟨by omega, by omega⟩
  have e5 : ∀ q, q < w1.heap.size → w5.heap[q]? = w1.heap[q]? := fun q hq => b5.block q hq
  have f0 := (World.cell?_of_block (a := ⟨w.heap.size, 0, none⟩) (e5 w.heap.size hA)).trans a0
  have f1 := (World.cell?_of_block (a := ⟨w.heap.size, 1, none⟩) (e5 w.heap.size hA)).trans a1
  have f2 := (World.cell?_of_block (a := ⟨w.heap.size, 2, none⟩) (e5 w.heap.size hA)).trans a2
  have ff : ∀ o, w5.frozen? ⟨w.heap.size, o, none⟩ = false := fun o => (World.frozen?_of_block (a := ⟨w.heap.size, o, none⟩) (e5 w.heap.size hA)).trans (af o)
  have HY5 := hideIt (And.intro f0 (And.intro f1 (And.intro f2 (And.intro ff (And.intro R (And.intro (then_ bA b5) (And.intro hA hs1)))))))
  clear k3 k4 b5' R1 bA a0 a1 a2 af yg hA R b5 R5 e5 f0 f1 f2 ff HX5 hs1
  go_wp2_with fail
  go_loopg [40] 1 (fun gg v wr => ∃ i : Nat, i + gg = 1 ∧ v = .int .i64 (i : Int) ∧ (i = 0 → wr = w5) ∧ (i = 1 → ∃ c' X', EvO w5 wr D c X c' X'))
  case atStart => exact ⟨0, by omega, rfl, fun _ => rfl, fun h => by omega⟩
  case round =>
  obtain ⟨i, hi, rfl, hI0, hI1⟩ := hrel
  by_cases hin : i < 1
  · have hi0 : i = 0 := by omega
    subst hi0
    have ew := (hI0 rfl).symm
    subst ew
    clear hI0 hI1
    go_wp2_with fail
    refine hev.mono ?_
    rintro e w6 ⟨rfl, hx⟩
    have HX := hideIt hx
    clear hx hev
    go_wp2
    go_roundg 0
    case measure => omega
    case rel => exact ⟨1, by omega, by go_num, fun h => by omega, fun _ => HX.out⟩
  have ein : i = 1 := by omega
  obtain ⟨c', X', V⟩ := hI1 ein
  have i1 : ¬ ((i : Int) < 1) := by omega
  clear hI0 hI1 hin hi ein hev
  obtain ⟨f0, f1, f2, ff, R, b05, hA, hs1⟩ := HY5.out
  obtain ⟨c7, c8, c9⟩ := HC.out
  have e8 := V.s.e.get ((V.c 8 (by omega) (by omega) (by omega) (by omega) (by omega) (by omega) (by omega) (by omega)).trans c8) (by omega)
  have e15 := V.s.e.c 15 (by omega)
  have ef := V.s.e.fz
  have hAs : w.heap.size < w5.heap.size := by omega
  have hel := R.s.flt
  have kz := V.W.block w.heap.size hAs (fun e => by
    rcases e with e | e | e | e | e
    · have := hel 0 _ (by omega) e; omega
    · have := hel 1 _ (by omega) e; omega
    · have := hel 2 _ (by omega) e; omega
    · have := hel 5 _ (by omega) (.inl e); omega
    · have := hel 7 _ (by omega) e; omega)
  have z0 := (World.cell?_of_block (a := ⟨w.heap.size, 0, none⟩) kz).trans f0
  have z1 := (World.cell?_of_block (a := ⟨w.heap.size, 1, none⟩) kz).trans f1
  have z2 := (World.cell?_of_block (a := ⟨w.heap.size, 2, none⟩) kz).trans f2
  have zf : ∀ o, wr.frozen? ⟨w.heap.size, o, none⟩ = false := fun o => (World.frozen?_of_block (a := ⟨w.heap.size, o, none⟩) kz).trans (ff o)
  have hfp : ∀ k q, k < 9 → fpE D X' k q → q ≠ w.heap.size := fun k q hk hq e => by
    have ho : ∀ k, k < 9 → fpE D X k q → False := fun k hk hq => by have := hel k q hk hq; omega
    match k, hk, hq with
    | 0, _, hq => exact ho 0 (by omega) hq
    | 1, _, hq => exact ho 1 (by omega) hq
    | 2, _, hq => exact ho 2 (by omega) hq
    | 3, _, hq => exact ho 3 (by omega) hq
    | 4, _, hq => exact ho 4 (by omega) hq
    | 5, _, hq =>
      obtain ⟨v, ev⟩ := V.x0
      change fpR (D.rb 0) (X' 0).s q at hq
      rw [ev] at hq
      exact ho 5 (by omega) hq
    | 6, _, hq => change fpR (D.rb 1) (X' 1).s q at hq; rw [V.x1.1] at hq; exact ho 6 (by omega) hq
    | 7, _, hq =>
      rcases V.fr q hq with z | z
      · exact ho 7 (by omega) z
      · omega
    | 8, _, hq => change fpR (D.rb 3) (X' 3).s q at hq; rw [V.x1.2] at hq; exact ho 8 (by omega) hq
  have W0 : Ws (fun q => q = D.E ∨ q = D.GR ∨ q = D.GC ∨ q = D.rb 0 ∨ fpR (D.rb 2) (X 2).s q) w wr := (Ws.of_below b05).trans V.W
  have HW := hideIt (And.intro W0 (And.intro V (And.intro c7 (And.intro hfp hAs))))
  clear V f0 f1 f2 ff R b05 hA hs1 kz c7 c8 c9 W0 hel hfp
  go_upto_region 13 with fail
  obtain ⟨W0, V, c7, hfp, hAs⟩ := HW.out
  have S7 := (V.s.put (k := 8) (by omega) (.int .i64 1)).put (k := 15) (by omega) (.int .i64 1)
  have W7 : Ws (fun q => q = D.E ∨ q = D.GR ∨ q = D.GC ∨ q = D.rb 0 ∨ fpR (D.rb 2) (X 2).s q) w ((wr.setCell ⟨D.E, 8, none⟩ (.int .i64 1)).setCell ⟨D.E, 15, none⟩ (.int .i64 1)) := (W0.set (.inl (.inl rfl))).set (.inl (.inl rfl))
  have y8 := S7.e.get (k := 8) (v := .int .i64 1) rfl (by omega)
  have y7 := S7.e.get (k := 7) ((V.c 7 (by omega) (by omega) (by omega) (by omega) (by omega) (by omega) (by omega) (by omega)).trans c7) (by omega)
  have HH : w.heap.size ≠ D.E := by omega
  have kz7 : ((wr.setCell ⟨D.E, 8, none⟩ (.int .i64 1)).setCell ⟨D.E, 15, none⟩ (.int .i64 1)).heap[w.heap.size]? = wr.heap[w.heap.size]? := (far_set HH).trans (far_set HH)
  have z0' := (World.cell?_of_block (a := ⟨w.heap.size, 0, none⟩) kz7).trans z0
  have z1' := (World.cell?_of_block (a := ⟨w.heap.size, 1, none⟩) kz7).trans z1
  have z2' := (World.cell?_of_block (a := ⟨w.heap.size, 2, none⟩) kz7).trans z2
  have zf' : ∀ o, ((wr.setCell ⟨D.E, 8, none⟩ (.int .i64 1)).setCell ⟨D.E, 15, none⟩ (.int .i64 1)).frozen? ⟨w.heap.size, o, none⟩ = false := fun o => (World.frozen?_of_block (a := ⟨w.heap.size, o, none⟩) kz7).trans (zf o)
  have HW7 := hideIt (And.intro S7 (And.intro W7 (And.intro V (And.intro hfp hAs))))
  clear W0 V c7 hfp S7 W7 kz7 z0 z1 z2 zf e8 e15 ef HW
  generalize ((wr.setCell ⟨D.E, 8, none⟩ (.int .i64 1)).setCell ⟨D.E, 15, none⟩ (.int .i64 1)) = w7 at *
  clear HH
  refine wp_region_l (l := 12) (S := (fun w' => w'.cell? ⟨D.E, 8, none⟩ = some (.int .i64 1) ∧ w'.cell? ⟨D.E, 7, none⟩ = some (.slice (some ⟨LB, 0, none⟩) 1 cl))) (by kernel_rfl) ⟨y8, y7⟩ (fun hHeld => ?_)
  refine AnyL.take2 (i := 0) (oi := { dst := some 87, op := Go.Op.move (Go.Operand.tmp 0), type := 58, pos := _, after := #[], guard := none }) (v := ?vv43031) (by kernel_rfl) (by kernel_rfl) rfl (by kernel_rfl) (by kernel_rfl) (by kernel_rfl) (fun _ _ _ h => h) (Or.inl ⟨by rfl, ?hy43031⟩) (by assumption) ?tk43031
  case hy43031 => (intro w hSw; (try dsimp only at hSw); go_simp; (try with_reducible rfl))
  try simp only [Act.put, List.setIfInBounds_toArray, List.set_cons_zero, List.set_cons_succ]
  refine AnyL.take2 (i := 1) (oi := { dst := some 88, op := Go.Op.nilCheck (Go.Operand.tmp 87), type := 0, pos := _, after := #[{ on := 0, ground := Go.Ground.data }], guard := none }) (v := ?vv43032) (by kernel_rfl) (by kernel_rfl) rfl (by kernel_rfl) (by kernel_rfl) (by kernel_rfl) (fun _ _ _ h => h) (Or.inl ⟨by rfl, ?hy43032⟩) (by assumption) ?tk43032
  case hy43032 => (intro w hSw; (try dsimp only at hSw); go_simp; (try with_reducible rfl))
  try simp only [Act.put, List.setIfInBounds_toArray, List.set_cons_zero, List.set_cons_succ]
  refine AnyL.take2 (i := 2) (oi := { dst := some 89, op := Go.Op.fieldAddr 86 (Go.Operand.tmp 88) 5, type := 0, pos := _, after := #[{ on := 1, ground := Go.Ground.data }], guard := none }) (v := ?vv43033) (by kernel_rfl) (by kernel_rfl) rfl (by kernel_rfl) (by kernel_rfl) (by kernel_rfl) (fun _ _ _ h => h) (Or.inl ⟨by rfl, ?hy43033⟩) (by assumption) ?tk43033
  case hy43033 => (intro w hSw; (try dsimp only at hSw); go_simp; (try with_reducible rfl))
  try simp only [Act.put, List.setIfInBounds_toArray, List.set_cons_zero, List.set_cons_succ]
  refine AnyL.take2 (i := 3) (oi := { dst := some 90, op := Go.Op.load 3 (Go.Operand.tmp 89), type := 3, pos := _, after := #[{ on := 2, ground := Go.Ground.data }], guard := none }) (v := ?vv43034) (by kernel_rfl) (by kernel_rfl) rfl (by kernel_rfl) (by kernel_rfl) (by kernel_rfl) (fun _ _ _ h => h) (Or.inl ⟨by rfl, ?hy43034⟩) (by assumption) ?tk43034
  case hy43034 => (intro w hSw; (try dsimp only at hSw); go_simp; (try with_reducible rfl))
  try simp only [Act.put, List.setIfInBounds_toArray, List.set_cons_zero, List.set_cons_succ]
  refine AnyL.take2 (i := 4) (oi := { dst := some 91, op := Go.Op.move (Go.Operand.tmp 0), type := 58, pos := _, after := #[], guard := none }) (v := ?vv43035) (by kernel_rfl) (by kernel_rfl) rfl (by kernel_rfl) (by kernel_rfl) (by kernel_rfl) (fun _ _ _ h => h) (Or.inl ⟨by rfl, ?hy43035⟩) (by assumption) ?tk43035
  case hy43035 => (intro w hSw; (try dsimp only at hSw); go_simp; (try with_reducible rfl))
  try simp only [Act.put, List.setIfInBounds_toArray, List.set_cons_zero, List.set_cons_succ]
  refine AnyL.take2 (i := 5) (oi := { dst := some 92, op := Go.Op.nilCheck (Go.Operand.tmp 91), type := 0, pos := _, after := #[{ on := 4, ground := Go.Ground.data }], guard := none }) (v := ?vv43036) (by kernel_rfl) (by kernel_rfl) rfl (by kernel_rfl) (by kernel_rfl) (by kernel_rfl) (fun _ _ _ h => h) (Or.inl ⟨by rfl, ?hy43036⟩) (by assumption) ?tk43036
  case hy43036 => (intro w hSw; (try dsimp only at hSw); go_simp; (try with_reducible rfl))
  try simp only [Act.put, List.setIfInBounds_toArray, List.set_cons_zero, List.set_cons_succ]
  refine AnyL.take2 (i := 6) (oi := { dst := some 93, op := Go.Op.fieldAddr 86 (Go.Operand.tmp 92) 4, type := 0, pos := _, after := #[{ on := 5, ground := Go.Ground.data }], guard := none }) (v := ?vv43037) (by kernel_rfl) (by kernel_rfl) rfl (by kernel_rfl) (by kernel_rfl) (by kernel_rfl) (fun _ _ _ h => h) (Or.inl ⟨by rfl, ?hy43037⟩) (by assumption) ?tk43037
  case hy43037 => (intro w hSw; (try dsimp only at hSw); go_simp; (try with_reducible rfl))
  try simp only [Act.put, List.setIfInBounds_toArray, List.set_cons_zero, List.set_cons_succ]
  refine AnyL.take2 (i := 7) (oi := { dst := some 94, op := Go.Op.load 77 (Go.Operand.tmp 93), type := 77, pos := _, after := #[{ on := 6, ground := Go.Ground.data }], guard := none }) (v := ?vv43038) (by kernel_rfl) (by kernel_rfl) rfl (by kernel_rfl) (by kernel_rfl) (by kernel_rfl) (fun _ _ _ h => h) (Or.inl ⟨by rfl, ?hy43038⟩) (by assumption) ?tk43038
  case hy43038 => (intro w hSw; (try dsimp only at hSw); go_simp; (try with_reducible rfl))
  try simp only [Act.put, List.setIfInBounds_toArray, List.set_cons_zero, List.set_cons_succ]
  refine AnyL.take2 (i := 8) (oi := { dst := some 95, op := Go.Op.call { callee := Go.Callee.builtin Go.Builtin.len, args := #[Go.Operand.tmp 94], argTypes := #[77] }, type := 3, pos := _, after := #[{ on := 7, ground := Go.Ground.data }], guard := none }) (v := ?vv43039) (by kernel_rfl) (by kernel_rfl) rfl (by kernel_rfl) (by kernel_rfl) (by kernel_rfl) (fun _ _ _ h => h) (Or.inl ⟨by rfl, ?hy43039⟩) (by assumption) ?tk43039
  case hy43039 => (intro w hSw; (try dsimp only at hSw); go_simp; (try with_reducible rfl))
  try simp only [Act.put, List.setIfInBounds_toArray, List.set_cons_zero, List.set_cons_succ]
  refine AnyL.take2 (i := 9) (oi := { dst := some 96, op := Go.Op.binOp Go.BinOp.lss 3 (Go.Operand.tmp 90) (Go.Operand.tmp 95) 3, type := 4, pos := _, after := #[{ on := 3, ground := Go.Ground.data }, { on := 8, ground := Go.Ground.data }], guard := none }) (v := ?vv43040) (by kernel_rfl) (by kernel_rfl) rfl (by kernel_rfl) (by kernel_rfl) (by kernel_rfl) (fun _ _ _ h => h) (Or.inl ⟨by rfl, ?hy43040⟩) (by assumption) ?tk43040
  case hy43040 => (intro w hSw; (try dsimp only at hSw); go_simp; (try with_reducible rfl))
  try simp only [Act.put, List.setIfInBounds_toArray, List.set_cons_zero, List.set_cons_succ]
  refine AnyL.take2 (i := 10) (oi := { dst := some 97, op := Go.Op.build 61 #[], type := 61, pos := _, after := #[{ on := 11, ground := Go.Ground.gcOnly Go.Departure.lateStores }], guard := none }) (v := ?vv43041) (by kernel_rfl) (by kernel_rfl) rfl (by kernel_rfl) (by kernel_rfl) (by kernel_rfl) (fun _ _ _ h => h) (Or.inl ⟨by rfl, ?hy43041⟩) (by assumption) ?tk43041
  case hy43041 => (intro w hSw; (try dsimp only at hSw); go_simp; (try with_reducible rfl))
  try simp only [Act.put, List.setIfInBounds_toArray, List.set_cons_zero, List.set_cons_succ]
  refine AnyL.take2 (i := 11) (oi := { dst := some 2, op := Go.Op.assign (Go.Operand.tmp 96), type := 4, pos := _, after := #[{ on := 9, ground := Go.Ground.data }, { on := 0, ground := Go.Ground.phase }, { on := 1, ground := Go.Ground.phase }, { on := 2, ground := Go.Ground.phase }, { on := 3, ground := Go.Ground.phase }, { on := 4, ground := Go.Ground.phase }, { on := 5, ground := Go.Ground.phase }, { on := 6, ground := Go.Ground.phase }, { on := 7, ground := Go.Ground.phase }, { on := 8, ground := Go.Ground.phase }, { on := 9, ground := Go.Ground.phase }, { on := 10, ground := Go.Ground.textOnly Go.Departure.lateStores }], guard := none }) (v := ?vv43042) (by kernel_rfl) (by kernel_rfl) rfl (by kernel_rfl) (by kernel_rfl) (by kernel_rfl) (fun _ _ _ h => h) (Or.inl ⟨by rfl, ?hy43042⟩) (by assumption) ?tk43042
  case hy43042 => (intro w hSw; (try dsimp only at hSw); go_simp; (try with_reducible rfl))
  try simp only [Act.put, List.setIfInBounds_toArray, List.set_cons_zero, List.set_cons_succ]
  refine AnyL.last (o := { dst := none, op := Go.Op.store 61 (Go.Operand.tmp 3) (Go.Operand.tmp 97), type := 0, pos := _, after := #[{ on := 10, ground := Go.Ground.data }, { on := 11, ground := Go.Ground.chain }, { on := 0, ground := Go.Ground.phase }, { on := 1, ground := Go.Ground.phase }, { on := 2, ground := Go.Ground.phase }, { on := 3, ground := Go.Ground.phase }, { on := 4, ground := Go.Ground.phase }, { on := 5, ground := Go.Ground.phase }, { on := 6, ground := Go.Ground.phase }, { on := 7, ground := Go.Ground.phase }, { on := 8, ground := Go.Ground.phase }, { on := 9, ground := Go.Ground.phase }, { on := 10, ground := Go.Ground.phase }, { on := 11, ground := Go.Ground.phase }], guard := none }) (by kernel_rfl) rfl (by kernel_rfl) (fun K' hK' => ?_)
  go_simp
  clear hHeld
  refine hK'.out _ _ ?_
  clear hK' K'
  try simp only [Act.put, List.setIfInBounds_toArray, List.set_cons_zero, List.set_cons_succ]
  go_wp2
  refine bodyPost_ret (v := .tuple #[.bool false, .agg #[.int .u8 0, .int .i64 0, .int .i64 0]]) ?_ rfl ?_
  · rw [results_tmp_cell rfl]
    go_simp
  · obtain ⟨S7, W7, V, hfp, hAs⟩ := HW7.out
    refine ⟨rfl, _, X', (((S7.off hfp).off hfp).off hfp).below (below_dr (Below.refl _ _)), fun k hk => ?_, V.x0, V.x1, V.A, V.k, fun q hq => (V.fr q hq).imp id (fun z => by omega), (((W7.set (.inr (Nat.le_refl _))).set (.inr (Nat.le_refl _))).set (.inr (Nat.le_refl _))).drew⟩
    rw [updV_other _ _ (by omega), updV_other _ _ (by omega)]
    exact V.c k (by omega) (by omega) (by omega) (by omega) (by omega) (by omega) (by omega) (by omega)
end Go.Proofs.Qxb6500880aGreat
