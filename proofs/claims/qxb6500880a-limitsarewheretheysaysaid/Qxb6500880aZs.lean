import Derived.Deep.CutBlock
import Derived.OwnWalk
import Derived.Maps.AppendAt
import Derived.Maps.OwnSet
import Derived.Maps.OwnOps
import Derived.Laws.ResultCell
import Derived.Laws.AppendOwnNone
import Derived.Test.Qxb6500880aZr
set_option linter.unusedVariables false
set_option linter.unusedSimpArgs false
namespace Go.Proofs.Qxb6500880a
open Go.RowKit

theorem Rdy.below {w w' : World} {ρ : Rl} {E GR GC RL cr B : Nat} {c : Nat → Value} {nmh nmr : ByteArray} {sh sr : RelS} {f : Nat → Int} {kn : Nat → Bool} (h : Rdy w ρ E GR GC RL cr B c nmh nmr sh sr f kn) (b : Below w.heap.size w w') : Rdy w' ρ E GR GC RL cr B c nmh nmr sh sr f kn := by
  have hG : GC < w.heap.size := World.block_lt_of_cell? _ _ (h.cn 0 h.ru.m0).c0
  exact ⟨h.eng.below b, h.c0, h.c1, h.c3, h.c5, h.c12, h.c14, h.c16, h.c17, h.c18, h.c19, h.c21, h.c22, h.c23, cell_later b h.rl0, cell_later b h.rl1, h.ru.below b, h.hh.below b, h.hA, h.h0, h.hd, h.hs, h.hy, h.hcu, h.rr.below b, h.rA, h.r1, h.rcu, h.rsp, h.dz.below b, h.sl.below b, h.f1, h.rz.blk (b.block GR (World.block_lt_of_cell? _ _ (h.rz.c _ (h.ru.r 0 0 h.ru.m0 h.ru.n0)))), fun k hk => (h.cn k hk).blk (b.block GC hG), fun o => (World.frozen?_of_block (a := ⟨GC, o, none⟩) (b.block GC hG)).trans (h.cf o), h.kn, h.hm, h.hn, h.hR, h.d1, h.d2, h.d3, h.d4, h.d5, h.d6, h.fx⟩
/-- The code that the evaluation ends with. -/
def codeV (B : Nat) : Int := if 2 ≤ B then 0 else 11
/-- What the evaluation leaves. -/
structure SDone (w : World) (lo E hb B : Nat) (mv : Value) (nmh : ByteArray) : Prop where
  t : 2 ≤ B → w.cell? ⟨E, 6, none⟩ = some mv ∧ ∃ sh', HbOk w hb nmh sh' ∧ ∀ q, sh'.slots.ownBlock = some q → lo ≤ q
  f : ¬ 2 ≤ B → w.cell? ⟨E, 6, none⟩ = some (.map none)
set_option maxRecDepth 20000 in
set_option maxHeartbeats 8000000 in
theorem step_go {w : World} {ρ : Rl} {E GR GC RL cr B LB cl gl cgl : Nat} {mv : Value} {c : Nat → Value} {nmh nmr : ByteArray} {sh sr : RelS} {f : Nat → Int} {kn : Nat → Bool} (R : Rdy w ρ E GR GC RL cr B c nmh nmr sh sr f kn) (c6 : c 6 = mv) (c7 : c 7 = .slice (some ⟨LB, 0, none⟩) 1 cl) (c8 : c 8 = .int .i64 0) (c9 : c 9 = .int .u8 0) (c10 : c 10 = .int .i64 0) (c11 : c 11 = .int .i64 0) (hL : w.cell? ⟨LB, 0, none⟩ = some (.slice (some ⟨gl, 0, none⟩) 1 cgl)) (hg : w.cell? ⟨gl, 0, none⟩ = some (.pointer (some ⟨ρ.RB, 0, none⟩))) :
    Calls Try.prog 19 #[.pointer (some ⟨E, 0, none⟩)] w fun e w' => e = .returned (.tuple #[.bool false, .agg #[.int .u8 (codeV B), .int .i64 0, .int .i64 0]]) ∧ SDone w' w.heap.size E ρ.hb B mv nmh ∧ Ws (fun q => q = GC ∨ q = E ∨ q = ρ.hb ∨ q = ρ.rb) w w' := by
  have bA := one_alloc w (.cells #[.int .u8 0, .int .i64 0, .int .i64 0] 45)
  have R1 := R.below bA
  have y7 := R1.eng.get c7 (by omega)
  have y8 := R1.eng.get c8 (by omega)
  have y9 := R1.eng.get c9 (by omega)
  have yL := cell_later bA hL
  have yg := cell_later bA hg
  have a0 : (w.alloc (.cells #[.int .u8 0, .int .i64 0, .int .i64 0] 45)).cell? ⟨w.heap.size, 0, none⟩ = some (.int .u8 0) := by simp
  have a1 : (w.alloc (.cells #[.int .u8 0, .int .i64 0, .int .i64 0] 45)).cell? ⟨w.heap.size, 1, none⟩ = some (.int .i64 0) := by simp
  have a2 : (w.alloc (.cells #[.int .u8 0, .int .i64 0, .int .i64 0] 45)).cell? ⟨w.heap.size, 2, none⟩ = some (.int .i64 0) := by simp
  have af : ∀ o, (w.alloc (.cells #[.int .u8 0, .int .i64 0, .int .i64 0] 45)).frozen? ⟨w.heap.size, o, none⟩ = false := fun o => by simp
  have hA : w.heap.size < (w.alloc (.cells #[.int .u8 0, .int .i64 0, .int .i64 0] 45)).heap.size := by simp
  have hEl := R.eng.lt
  have HQ := hideIt (And.intro R1 (And.intro bA (And.intro a0 (And.intro a1 (And.intro a2 (And.intro af (And.intro yg (And.intro hA R))))))))
  have HC := hideIt (And.intro c6 (And.intro c7 (And.intro c8 (And.intro c9 (And.intro c10 c11)))))
  clear R bA a0 a1 a2 af hL hg yg c6 c7 c8 c9 c10 c11 hA R1
  go_enter Try.func19, Try.ntmps19
  go_upto_region 1 with fail
  generalize w.alloc (.cells #[.int .u8 0, .int .i64 0, .int .i64 0] 45) = w1 at *
  refine wp_region_held_drew (S := (fun w' => w'.cell? ⟨E, 9, none⟩ = some (.int .u8 0) ∧ w'.cell? ⟨E, 8, none⟩ = some (.int .i64 0) ∧ w'.cell? ⟨E, 7, none⟩ = some (.slice (some ⟨LB, 0, none⟩) 1 cl))) (by kernel_rfl) ⟨y9, y8, y7⟩ (fun hHeld => ?_)
  refine wpAnyH_take (i := 0) (oi := { dst := some 6, op := Go.Op.move (Go.Operand.tmp 0), type := 43, pos := _, after := #[], guard := none }) (v := ?vv40001) rfl (by kernel_rfl) (by kernel_rfl) (by kernel_rfl) (fun _ _ _ h => h) (Or.inl ⟨by rfl, ?hy40001⟩) (by assumption) ?tk40001
  case hy40001 => (intro w hSw; (try dsimp only at hSw); go_simp; (try with_reducible rfl))
  try simp only [Act.put, List.setIfInBounds_toArray, List.set_cons_zero, List.set_cons_succ]
  refine wpAnyH_take (i := 1) (oi := { dst := some 7, op := Go.Op.nilCheck (Go.Operand.tmp 6), type := 0, pos := _, after := #[{ on := 0, ground := Go.Ground.data }], guard := none }) (v := ?vv40002) rfl (by kernel_rfl) (by kernel_rfl) (by kernel_rfl) (fun _ _ _ h => h) (Or.inl ⟨by rfl, ?hy40002⟩) (by assumption) ?tk40002
  case hy40002 => (intro w hSw; (try dsimp only at hSw); go_simp; (try with_reducible rfl))
  try simp only [Act.put, List.setIfInBounds_toArray, List.set_cons_zero, List.set_cons_succ]
  refine wpAnyH_take (i := 2) (oi := { dst := some 8, op := Go.Op.fieldAddr 75 (Go.Operand.tmp 7) 6, type := 0, pos := _, after := #[{ on := 1, ground := Go.Ground.data }], guard := none }) (v := ?vv40003) rfl (by kernel_rfl) (by kernel_rfl) (by kernel_rfl) (fun _ _ _ h => h) (Or.inl ⟨by rfl, ?hy40003⟩) (by assumption) ?tk40003
  case hy40003 => (intro w hSw; (try dsimp only at hSw); go_simp; (try with_reducible rfl))
  try simp only [Act.put, List.setIfInBounds_toArray, List.set_cons_zero, List.set_cons_succ]
  refine wpAnyH_take (i := 3) (oi := { dst := some 9, op := Go.Op.fieldAddr 45 (Go.Operand.tmp 8) 0, type := 0, pos := _, after := #[{ on := 2, ground := Go.Ground.data }], guard := none }) (v := ?vv40004) rfl (by kernel_rfl) (by kernel_rfl) (by kernel_rfl) (fun _ _ _ h => h) (Or.inl ⟨by rfl, ?hy40004⟩) (by assumption) ?tk40004
  case hy40004 => (intro w hSw; (try dsimp only at hSw); go_simp; (try with_reducible rfl))
  try simp only [Act.put, List.setIfInBounds_toArray, List.set_cons_zero, List.set_cons_succ]
  refine wpAnyH_take (i := 4) (oi := { dst := some 10, op := Go.Op.load 36 (Go.Operand.tmp 9), type := 36, pos := _, after := #[{ on := 3, ground := Go.Ground.data }], guard := none }) (v := ?vv40005) rfl (by kernel_rfl) (by kernel_rfl) (by kernel_rfl) (fun _ _ _ h => h) (Or.inl ⟨by rfl, ?hy40005⟩) (by assumption) ?tk40005
  case hy40005 => (intro w hSw; (try dsimp only at hSw); go_simp; (try with_reducible rfl))
  try simp only [Act.put, List.setIfInBounds_toArray, List.set_cons_zero, List.set_cons_succ]
  refine wpAnyH_take (i := 5) (oi := { dst := some 11, op := Go.Op.binOp Go.BinOp.neq 36 (Go.Operand.tmp 10) (Go.Operand.const (Go.Value.int Go.IntKind.u8 0)) 36, type := 4, pos := _, after := #[{ on := 4, ground := Go.Ground.data }], guard := none }) (v := ?vv40006) rfl (by kernel_rfl) (by kernel_rfl) (by kernel_rfl) (fun _ _ _ h => h) (Or.inl ⟨by rfl, ?hy40006⟩) (by assumption) ?tk40006
  case hy40006 => (intro w hSw; (try dsimp only at hSw); go_simp; (try with_reducible rfl))
  try simp only [Act.put, List.setIfInBounds_toArray, List.set_cons_zero, List.set_cons_succ]
  refine wpAnyH_take (i := 6) (oi := { dst := some 12, op := Go.Op.move (Go.Operand.tmp 11), type := 4, pos := _, after := #[{ on := 5, ground := Go.Ground.data }], guard := none }) (v := ?vv40007) rfl (by kernel_rfl) (by kernel_rfl) (by kernel_rfl) (fun _ _ _ h => h) (Or.inl ⟨by rfl, ?hy40007⟩) (by assumption) ?tk40007
  case hy40007 => (intro w hSw; (try dsimp only at hSw); go_simp; (try with_reducible rfl))
  try simp only [Act.put, List.setIfInBounds_toArray, List.set_cons_zero, List.set_cons_succ]
  refine wpAnyH_take (i := 7) (oi := { dst := some 13, op := Go.Op.move (Go.Operand.tmp 0), type := 43, pos := _, after := #[{ on := 6, ground := Go.Ground.guard }], guard := some (6, false) }) (v := ?vv40008) rfl (by kernel_rfl) (by kernel_rfl) (by kernel_rfl) (fun _ _ _ h => h) (Or.inl ⟨by rfl, ?hy40008⟩) (by assumption) ?tk40008
  case hy40008 => (intro w hSw; (try dsimp only at hSw); go_simp; (try with_reducible rfl))
  try simp only [Act.put, List.setIfInBounds_toArray, List.set_cons_zero, List.set_cons_succ]
  refine wpAnyH_take (i := 8) (oi := { dst := some 14, op := Go.Op.nilCheck (Go.Operand.tmp 13), type := 0, pos := _, after := #[{ on := 7, ground := Go.Ground.data }, { on := 6, ground := Go.Ground.guard }], guard := some (6, false) }) (v := ?vv40009) rfl (by kernel_rfl) (by kernel_rfl) (by kernel_rfl) (fun _ _ _ h => h) (Or.inl ⟨by rfl, ?hy40009⟩) (by assumption) ?tk40009
  case hy40009 => (intro w hSw; (try dsimp only at hSw); go_simp; (try with_reducible rfl))
  try simp only [Act.put, List.setIfInBounds_toArray, List.set_cons_zero, List.set_cons_succ]
  refine wpAnyH_take (i := 9) (oi := { dst := some 15, op := Go.Op.fieldAddr 75 (Go.Operand.tmp 14) 5, type := 0, pos := _, after := #[{ on := 8, ground := Go.Ground.data }, { on := 6, ground := Go.Ground.guard }], guard := some (6, false) }) (v := ?vv40010) rfl (by kernel_rfl) (by kernel_rfl) (by kernel_rfl) (fun _ _ _ h => h) (Or.inl ⟨by rfl, ?hy40010⟩) (by assumption) ?tk40010
  case hy40010 => (intro w hSw; (try dsimp only at hSw); go_simp; (try with_reducible rfl))
  try simp only [Act.put, List.setIfInBounds_toArray, List.set_cons_zero, List.set_cons_succ]
  refine wpAnyH_take (i := 10) (oi := { dst := some 16, op := Go.Op.load 3 (Go.Operand.tmp 15), type := 3, pos := _, after := #[{ on := 9, ground := Go.Ground.data }, { on := 6, ground := Go.Ground.guard }], guard := some (6, false) }) (v := ?vv40011) rfl (by kernel_rfl) (by kernel_rfl) (by kernel_rfl) (fun _ _ _ h => h) (Or.inl ⟨by rfl, ?hy40011⟩) (by assumption) ?tk40011
  case hy40011 => (intro w hSw; (try dsimp only at hSw); go_simp; (try with_reducible rfl))
  try simp only [Act.put, List.setIfInBounds_toArray, List.set_cons_zero, List.set_cons_succ]
  refine wpAnyH_take (i := 11) (oi := { dst := some 17, op := Go.Op.move (Go.Operand.tmp 0), type := 43, pos := _, after := #[{ on := 6, ground := Go.Ground.guard }], guard := some (6, false) }) (v := ?vv40012) rfl (by kernel_rfl) (by kernel_rfl) (by kernel_rfl) (fun _ _ _ h => h) (Or.inl ⟨by rfl, ?hy40012⟩) (by assumption) ?tk40012
  case hy40012 => (intro w hSw; (try dsimp only at hSw); go_simp; (try with_reducible rfl))
  try simp only [Act.put, List.setIfInBounds_toArray, List.set_cons_zero, List.set_cons_succ]
  refine wpAnyH_take (i := 12) (oi := { dst := some 18, op := Go.Op.nilCheck (Go.Operand.tmp 17), type := 0, pos := _, after := #[{ on := 11, ground := Go.Ground.data }, { on := 6, ground := Go.Ground.guard }], guard := some (6, false) }) (v := ?vv40013) rfl (by kernel_rfl) (by kernel_rfl) (by kernel_rfl) (fun _ _ _ h => h) (Or.inl ⟨by rfl, ?hy40013⟩) (by assumption) ?tk40013
  case hy40013 => (intro w hSw; (try dsimp only at hSw); go_simp; (try with_reducible rfl))
  try simp only [Act.put, List.setIfInBounds_toArray, List.set_cons_zero, List.set_cons_succ]
  refine wpAnyH_take (i := 13) (oi := { dst := some 19, op := Go.Op.fieldAddr 75 (Go.Operand.tmp 18) 4, type := 0, pos := _, after := #[{ on := 12, ground := Go.Ground.data }, { on := 6, ground := Go.Ground.guard }], guard := some (6, false) }) (v := ?vv40014) rfl (by kernel_rfl) (by kernel_rfl) (by kernel_rfl) (fun _ _ _ h => h) (Or.inl ⟨by rfl, ?hy40014⟩) (by assumption) ?tk40014
  case hy40014 => (intro w hSw; (try dsimp only at hSw); go_simp; (try with_reducible rfl))
  try simp only [Act.put, List.setIfInBounds_toArray, List.set_cons_zero, List.set_cons_succ]
  refine wpAnyH_take (i := 14) (oi := { dst := some 20, op := Go.Op.load 66 (Go.Operand.tmp 19), type := 66, pos := _, after := #[{ on := 13, ground := Go.Ground.data }, { on := 6, ground := Go.Ground.guard }], guard := some (6, false) }) (v := ?vv40015) rfl (by kernel_rfl) (by kernel_rfl) (by kernel_rfl) (fun _ _ _ h => h) (Or.inl ⟨by rfl, ?hy40015⟩) (by assumption) ?tk40015
  case hy40015 => (intro w hSw; (try dsimp only at hSw); go_simp; (try with_reducible rfl))
  try simp only [Act.put, List.setIfInBounds_toArray, List.set_cons_zero, List.set_cons_succ]
  refine wpAnyH_take (i := 15) (oi := { dst := some 21, op := Go.Op.call { callee := Go.Callee.builtin Go.Builtin.len, args := #[Go.Operand.tmp 20], argTypes := #[66] }, type := 3, pos := _, after := #[{ on := 14, ground := Go.Ground.data }, { on := 6, ground := Go.Ground.guard }], guard := some (6, false) }) (v := ?vv40016) rfl (by kernel_rfl) (by kernel_rfl) (by kernel_rfl) (fun _ _ _ h => h) (Or.inl ⟨by rfl, ?hy40016⟩) (by assumption) ?tk40016
  case hy40016 => (intro w hSw; (try dsimp only at hSw); go_simp; (try with_reducible rfl))
  try simp only [Act.put, List.setIfInBounds_toArray, List.set_cons_zero, List.set_cons_succ]
  refine wpAnyH_take (i := 16) (oi := { dst := some 22, op := Go.Op.binOp Go.BinOp.geq 3 (Go.Operand.tmp 16) (Go.Operand.tmp 21) 3, type := 4, pos := _, after := #[{ on := 10, ground := Go.Ground.data }, { on := 15, ground := Go.Ground.data }, { on := 6, ground := Go.Ground.guard }], guard := some (6, false) }) (v := ?vv40017) rfl (by kernel_rfl) (by kernel_rfl) (by kernel_rfl) (fun _ _ _ h => h) (Or.inl ⟨by rfl, ?hy40017⟩) (by assumption) ?tk40017
  case hy40017 => (intro w hSw; (try dsimp only at hSw); go_simp; (try with_reducible rfl))
  try simp only [Act.put, List.setIfInBounds_toArray, List.set_cons_zero, List.set_cons_succ]
  refine wpAnyH_take (i := 17) (oi := { dst := some 23, op := Go.Op.pick (Go.Operand.tmp 12) (Go.Operand.const (Go.Value.bool true)) (Go.Operand.tmp 22), type := 4, pos := _, after := #[{ on := 6, ground := Go.Ground.data }, { on := 16, ground := Go.Ground.data }], guard := none }) (v := ?vv40018) rfl (by kernel_rfl) (by kernel_rfl) (by kernel_rfl) (fun _ _ _ h => h) (Or.inl ⟨by rfl, ?hy40018⟩) (by assumption) ?tk40018
  case hy40018 => (intro w hSw; (try dsimp only at hSw); go_simp; (try with_reducible rfl))
  try simp only [Act.put, List.setIfInBounds_toArray, List.set_cons_zero, List.set_cons_succ]
  refine wpAnyH_done (by kernel_rfl) ?_ _
  clear hHeld
  obtain ⟨R1, bA, a0, a1, a2, af, yg, hA, R⟩ := HQ.out
  have R2 := R1.below (below_dr (Below.refl w1.heap.size w1))
  have R2' := R2.below (below_dr (Below.refl w1.drew.heap.size w1.drew))
  have hsc := schedule_any (w := w1.drew.drew) (cl := cgl) (gl := gl) yg R2'.ru R2'.hh R2'.rr (fun e => R.d6 e.symm) R.hm
  have hE2 : E < w1.drew.drew.heap.size := R2'.eng.lt
  have hL2 : LB < w1.drew.drew.heap.size := World.block_lt_of_cell? _ _ yL
  clear R1 bA a0 a1 a2 af yg hA R R2 R2'
  go_upto_region 3 with fail
  refine wp_region_held_drew (S := (fun w' => w'.cell? ⟨E, 7, none⟩ = some (.slice (some ⟨LB, 0, none⟩) 1 cl) ∧ w'.cell? ⟨E, 8, none⟩ = some (.int .i64 0) ∧ w'.cell? ⟨LB, 0, none⟩ = some (.slice (some ⟨gl, 0, none⟩) 1 cgl))) (by kernel_rfl) ⟨y7, y8, yL⟩ (fun hHeld => ?_)
  refine wpAnyH_take (i := 0) (oi := { dst := some 28, op := Go.Op.move (Go.Operand.tmp 0), type := 43, pos := _, after := #[], guard := none }) (v := ?vv40019) rfl (by kernel_rfl) (by kernel_rfl) (by kernel_rfl) (fun _ _ _ h => h) (Or.inl ⟨by rfl, ?hy40019⟩) (by assumption) ?tk40019
  case hy40019 => (intro w hSw; (try dsimp only at hSw); go_simp; (try with_reducible rfl))
  try simp only [Act.put, List.setIfInBounds_toArray, List.set_cons_zero, List.set_cons_succ]
  refine wpAnyH_take (i := 1) (oi := { dst := some 29, op := Go.Op.nilCheck (Go.Operand.tmp 28), type := 0, pos := _, after := #[{ on := 0, ground := Go.Ground.data }], guard := none }) (v := ?vv40020) rfl (by kernel_rfl) (by kernel_rfl) (by kernel_rfl) (fun _ _ _ h => h) (Or.inl ⟨by rfl, ?hy40020⟩) (by assumption) ?tk40020
  case hy40020 => (intro w hSw; (try dsimp only at hSw); go_simp; (try with_reducible rfl))
  try simp only [Act.put, List.setIfInBounds_toArray, List.set_cons_zero, List.set_cons_succ]
  refine wpAnyH_take (i := 2) (oi := { dst := some 30, op := Go.Op.fieldAddr 75 (Go.Operand.tmp 29) 4, type := 0, pos := _, after := #[{ on := 1, ground := Go.Ground.data }], guard := none }) (v := ?vv40021) rfl (by kernel_rfl) (by kernel_rfl) (by kernel_rfl) (fun _ _ _ h => h) (Or.inl ⟨by rfl, ?hy40021⟩) (by assumption) ?tk40021
  case hy40021 => (intro w hSw; (try dsimp only at hSw); go_simp; (try with_reducible rfl))
  try simp only [Act.put, List.setIfInBounds_toArray, List.set_cons_zero, List.set_cons_succ]
  refine wpAnyH_take (i := 3) (oi := { dst := some 31, op := Go.Op.load 66 (Go.Operand.tmp 30), type := 66, pos := _, after := #[{ on := 2, ground := Go.Ground.data }], guard := none }) (v := ?vv40022) rfl (by kernel_rfl) (by kernel_rfl) (by kernel_rfl) (fun _ _ _ h => h) (Or.inl ⟨by rfl, ?hy40022⟩) (by assumption) ?tk40022
  case hy40022 => (intro w hSw; (try dsimp only at hSw); go_simp; (try with_reducible rfl))
  try simp only [Act.put, List.setIfInBounds_toArray, List.set_cons_zero, List.set_cons_succ]
  refine wpAnyH_take (i := 4) (oi := { dst := some 32, op := Go.Op.move (Go.Operand.tmp 0), type := 43, pos := _, after := #[], guard := none }) (v := ?vv40023) rfl (by kernel_rfl) (by kernel_rfl) (by kernel_rfl) (fun _ _ _ h => h) (Or.inl ⟨by rfl, ?hy40023⟩) (by assumption) ?tk40023
  case hy40023 => (intro w hSw; (try dsimp only at hSw); go_simp; (try with_reducible rfl))
  try simp only [Act.put, List.setIfInBounds_toArray, List.set_cons_zero, List.set_cons_succ]
  refine wpAnyH_take (i := 5) (oi := { dst := some 33, op := Go.Op.nilCheck (Go.Operand.tmp 32), type := 0, pos := _, after := #[{ on := 4, ground := Go.Ground.data }], guard := none }) (v := ?vv40024) rfl (by kernel_rfl) (by kernel_rfl) (by kernel_rfl) (fun _ _ _ h => h) (Or.inl ⟨by rfl, ?hy40024⟩) (by assumption) ?tk40024
  case hy40024 => (intro w hSw; (try dsimp only at hSw); go_simp; (try with_reducible rfl))
  try simp only [Act.put, List.setIfInBounds_toArray, List.set_cons_zero, List.set_cons_succ]
  refine wpAnyH_take (i := 6) (oi := { dst := some 34, op := Go.Op.fieldAddr 75 (Go.Operand.tmp 33) 5, type := 0, pos := _, after := #[{ on := 5, ground := Go.Ground.data }], guard := none }) (v := ?vv40025) rfl (by kernel_rfl) (by kernel_rfl) (by kernel_rfl) (fun _ _ _ h => h) (Or.inl ⟨by rfl, ?hy40025⟩) (by assumption) ?tk40025
  case hy40025 => (intro w hSw; (try dsimp only at hSw); go_simp; (try with_reducible rfl))
  try simp only [Act.put, List.setIfInBounds_toArray, List.set_cons_zero, List.set_cons_succ]
  refine wpAnyH_take (i := 7) (oi := { dst := some 35, op := Go.Op.load 3 (Go.Operand.tmp 34), type := 3, pos := _, after := #[{ on := 6, ground := Go.Ground.data }], guard := none }) (v := ?vv40026) rfl (by kernel_rfl) (by kernel_rfl) (by kernel_rfl) (fun _ _ _ h => h) (Or.inl ⟨by rfl, ?hy40026⟩) (by assumption) ?tk40026
  case hy40026 => (intro w hSw; (try dsimp only at hSw); go_simp; (try with_reducible rfl))
  try simp only [Act.put, List.setIfInBounds_toArray, List.set_cons_zero, List.set_cons_succ]
  refine wpAnyH_take (i := 8) (oi := { dst := some 36, op := Go.Op.indexAddr 66 (Go.Operand.tmp 31) (Go.Operand.tmp 35), type := 0, pos := _, after := #[{ on := 3, ground := Go.Ground.data }, { on := 7, ground := Go.Ground.data }], guard := none }) (v := ?vv40027) rfl (by kernel_rfl) (by kernel_rfl) (by kernel_rfl) (fun _ _ _ h => h) (Or.inl ⟨by rfl, ?hy40027⟩) (by assumption) ?tk40027
  case hy40027 => (intro w hSw; (try dsimp only at hSw); go_simp; (try with_reducible rfl))
  try simp only [Act.put, List.setIfInBounds_toArray, List.set_cons_zero, List.set_cons_succ]
  refine wpAnyH_take (i := 9) (oi := { dst := some 37, op := Go.Op.load 68 (Go.Operand.tmp 36), type := 68, pos := _, after := #[{ on := 8, ground := Go.Ground.data }], guard := none }) (v := ?vv40028) rfl (by kernel_rfl) (by kernel_rfl) (by kernel_rfl) (fun _ _ _ h => h) (Or.inl ⟨by rfl, ?hy40028⟩) (by assumption) ?tk40028
  case hy40028 => (intro w hSw; (try dsimp only at hSw); go_simp; (try with_reducible rfl))
  try simp only [Act.put, List.setIfInBounds_toArray, List.set_cons_zero, List.set_cons_succ]
  refine wpAnyH_take (i := 12) (oi := { dst := some 40, op := Go.Op.move (Go.Operand.const (Go.Value.int Go.IntKind.i64 0)), type := 3, pos := _, after := #[], guard := none }) (v := ?vv40029) rfl (by kernel_rfl) (by kernel_rfl) (by kernel_rfl) (fun _ _ _ h => h) (Or.inl ⟨by rfl, ?hy40029⟩) (by assumption) ?tk40029
  case hy40029 => (intro w hSw; (try dsimp only at hSw); go_simp; (try with_reducible rfl))
  try simp only [Act.put, List.setIfInBounds_toArray, List.set_cons_zero, List.set_cons_succ]
  refine wpAnyH_ready (rs := [10]) (by kernel_rfl) (by simp) ?_
  refine AllReadyH.cons (o := { dst := some 38, op := Go.Op.call { callee := Go.Callee.value (Go.Operand.func 31), args := #[Go.Operand.tmp 37], argTypes := #[68] }, type := 66, pos := _, after := #[{ on := 9, ground := Go.Ground.data }], guard := none }) rfl (fun K' hK' => ?_) AllReadyH.nil
  go_simp
  go_at_call 31
  refine hsc.mono ?_
  rintro e w5 ⟨g, gr, cr', rfl, k1, k2, k3, k4, b5⟩
  have x7 := (World.cell?_of_block (a := ⟨E, 7, none⟩) (b5.block E hE2)).trans y7
  have x8 := (World.cell?_of_block (a := ⟨E, 8, none⟩) (b5.block E hE2)).trans y8
  have xL := (World.cell?_of_block (a := ⟨LB, 0, none⟩) (b5.block LB hL2)).trans yL
  have HX5 := hideIt (And.intro k3 (And.intro k4 b5))
  clear k3 k4 b5 hsc
  clear hHeld
  refine hK'.out _ _ ⟨x7, x8, xL⟩ (fun hHeld => ?_)
  clear hK' K'
  try simp only [Act.put, List.setIfInBounds_toArray, List.set_cons_zero, List.set_cons_succ]
  refine wpAnyH_take (i := 11) (oi := { dst := some 39, op := Go.Op.call { callee := Go.Callee.builtin Go.Builtin.len, args := #[Go.Operand.tmp 38], argTypes := #[66] }, type := 3, pos := _, after := #[{ on := 10, ground := Go.Ground.data }], guard := none }) (v := ?vv40030) rfl (by kernel_rfl) (by kernel_rfl) (by kernel_rfl) (fun _ _ _ h => h) (Or.inl ⟨by rfl, ?hy40030⟩) (by assumption) ?tk40030
  case hy40030 => (intro w hSw; (try dsimp only at hSw); go_simp; (try with_reducible rfl))
  try simp only [Act.put, List.setIfInBounds_toArray, List.set_cons_zero, List.set_cons_succ]
  refine wpAnyH_done (by kernel_rfl) ?_ _
  clear hHeld x7 x8 xL y7 y8 y9 yL
  obtain ⟨k3, k4, b5'⟩ := HX5.out
  obtain ⟨R1, bA, a0, a1, a2, af, yg, hA, R⟩ := HQ.out
  have b5 : Below w1.heap.size w1 w5 := ⟨b5'.os, b5'.tape, b5'.output, b5'.size, b5'.block⟩
  have hs1 : w1.heap.size ≤ w5.heap.size := b5.size
  have k3' : w1.heap.size ≤ g := k3
  have k4' : w1.heap.size ≤ gr := k4
  have R5 := R1.below b5
  have hGl : GC < w1.heap.size := World.block_lt_of_cell? _ _ (R1.cn 0 R1.ru.m0).c0
  have h1 := R1.eng.lt
  have h2 := R1.hh.lt
  have h3 := R1.rr.lt
  have hev := evaluate_any (cgr := cr') R5 k2 ⟨by omega, by omega, by omega, by omega⟩
  obtain ⟨bo, hbo⟩ : ∃ bo, decide (2 ≤ B) = bo := ⟨_, rfl⟩
  rw [hbo] at hev
  have HBO := hideIt hbo
  have e5 : ∀ q, q < w1.heap.size → w5.heap[q]? = w1.heap[q]? := fun q hq => b5.block q hq
  have f0 := (World.cell?_of_block (a := ⟨w.heap.size, 0, none⟩) (e5 w.heap.size hA)).trans a0
  have f1 := (World.cell?_of_block (a := ⟨w.heap.size, 1, none⟩) (e5 w.heap.size hA)).trans a1
  have f2 := (World.cell?_of_block (a := ⟨w.heap.size, 2, none⟩) (e5 w.heap.size hA)).trans a2
  have ff : ∀ o, w5.frozen? ⟨w.heap.size, o, none⟩ = false := fun o => (World.frozen?_of_block (a := ⟨w.heap.size, o, none⟩) (e5 w.heap.size hA)).trans (af o)
  have hGw : GC < w.heap.size := World.block_lt_of_cell? _ _ (R.cn 0 R.ru.m0).c0
  have hhw := R.hh.lt
  have hrw := R.rr.lt
  have HY5 := hideIt (And.intro f0 (And.intro f1 (And.intro f2 (And.intro ff (And.intro R (And.intro (then_ bA b5) (And.intro hA hs1)))))))
  clear k3 k4 b5' R1 bA a0 a1 a2 af yg hA R b5 R5 hbo e5 f0 f1 f2 ff HX5 k3' hs1
  go_wp2_with fail
  go_loopg [40] 1 (fun gg v wr => ∃ i : Nat, i + gg = 1 ∧ v = .int .i64 (i : Int) ∧ (i = 0 → wr = w5) ∧ (i = 1 → bo = true ∧ ∃ c' sh', EngAt wr E c' ∧ HbOk wr ρ.hb nmh sh' ∧ (∀ q, sh'.slots.ownBlock = some q → w5.heap.size ≤ q) ∧ (∀ i, i ≠ 12 → i ≠ 14 → i ≠ 16 → i ≠ 17 → i ≠ 18 → i ≠ 19 → i ≠ 23 → c' i = c i) ∧ Ws (fun q => q = GC ∨ q = E ∨ q = ρ.hb ∨ q = ρ.rb) w5 wr))
  case atStart => exact ⟨0, by omega, rfl, fun _ => rfl, fun h => by omega⟩
  case round =>
  obtain ⟨i, hi, rfl, hI0, hI1⟩ := hrel
  by_cases hin : i < 1
  · have hi0 : i = 0 := by omega
    subst hi0
    have ew := (hI0 rfl).symm
    subst ew
    clear hI0 hI1
    go_wp2_with fail
    refine hev.mono ?_
    rintro e w6 ⟨rfl, hx⟩
    have HX := hideIt hx
    clear hx hev
    cases bo
    · obtain ⟨c', sh', Eg, K, hq, ha, W⟩ := HX.out
      obtain ⟨f0, f1, f2, ff, R, b05, hA, hs1⟩ := HY5.out
      obtain ⟨c6, c7, c8, c9, c10, c11⟩ := HC.out
      have e8 := Eg.get ((ha 8 (by omega) (by omega) (by omega) (by omega) (by omega) (by omega) (by omega)).trans c8) (by omega)
      have e9 := Eg.get ((ha 9 (by omega) (by omega) (by omega) (by omega) (by omega) (by omega) (by omega)).trans c9) (by omega)
      have e10 := Eg.get ((ha 10 (by omega) (by omega) (by omega) (by omega) (by omega) (by omega) (by omega)).trans c10) (by omega)
      have e11 := Eg.get ((ha 11 (by omega) (by omega) (by omega) (by omega) (by omega) (by omega) (by omega)).trans c11) (by omega)
      have g5 := Eg.c 5 (by omega)
      have g6 := Eg.c 6 (by omega)
      have g12 := Eg.c 12 (by omega)
      have g14 := Eg.c 14 (by omega)
      have ef := Eg.fz
      have hAs : w.heap.size < w5.heap.size := by omega
      have kz := W.block w.heap.size hAs (fun e => by rcases e with e | e | e | e <;> omega)
      have z0 := (World.cell?_of_block (a := ⟨w.heap.size, 0, none⟩) kz).trans f0
      have z1 := (World.cell?_of_block (a := ⟨w.heap.size, 1, none⟩) kz).trans f1
      have z2 := (World.cell?_of_block (a := ⟨w.heap.size, 2, none⟩) kz).trans f2
      have zf : ∀ o, w6.frozen? ⟨w.heap.size, o, none⟩ = false := fun o => (World.frozen?_of_block (a := ⟨w.heap.size, o, none⟩) kz).trans (ff o)
      have W0 : Ws (fun q => q = GC ∨ q = E ∨ q = ρ.hb ∨ q = ρ.rb) w w6 := (Ws.of_below b05).trans W
      have HW := hideIt (And.intro W0 Eg)
      clear Eg K hq ha W f0 f1 f2 ff R b05 hA hs1 kz c6 c7 c8 c9 c10 c11 W0 HX
      go_upto_region 9 with fail
      obtain ⟨W0, Eg⟩ := HW.out
      have Eg7 := (((((((Eg.put (k := 9) (by omega) (.int .u8 11)).put (k := 10) (by omega) (.int .i64 0)).put (k := 11) (by omega) (.int .i64 0)).put (k := 5) (by omega) (.slice none 0 0)).put (k := 6) (by omega) (.map none)).put (k := 12) (by omega) (.slice none 0 0)).put (k := 14) (by omega) (.slice none 0 0))
      have W7 : Ws (fun q => q = GC ∨ q = E ∨ q = ρ.hb ∨ q = ρ.rb) w (((((((w6.setCell ⟨E, 9, none⟩ (.int .u8 11)).setCell ⟨E, 10, none⟩ (.int .i64 0)).setCell ⟨E, 11, none⟩ (.int .i64 0)).setCell ⟨E, 5, none⟩ (.slice none 0 0)).setCell ⟨E, 6, none⟩ (.map none)).setCell ⟨E, 12, none⟩ (.slice none 0 0)).setCell ⟨E, 14, none⟩ (.slice none 0 0)) := (((((((W0.set (.inl (.inr (.inl rfl)))).set (.inl (.inr (.inl rfl)))).set (.inl (.inr (.inl rfl)))).set (.inl (.inr (.inl rfl)))).set (.inl (.inr (.inl rfl)))).set (.inl (.inr (.inl rfl)))).set (.inl (.inr (.inl rfl))))
      have y9 := Eg7.get (k := 9) (v := .int .u8 11) rfl (by omega)
      have y10 := Eg7.get (v := .int .i64 0) (k := 10) rfl (by omega)
      have y11 := Eg7.get (v := .int .i64 0) (k := 11) rfl (by omega)
      have y6 := Eg7.get (k := 6) (v := .map none) rfl (by omega)
      have kz7 : (((((((w6.setCell ⟨E, 9, none⟩ (.int .u8 11)).setCell ⟨E, 10, none⟩ (.int .i64 0)).setCell ⟨E, 11, none⟩ (.int .i64 0)).setCell ⟨E, 5, none⟩ (.slice none 0 0)).setCell ⟨E, 6, none⟩ (.map none)).setCell ⟨E, 12, none⟩ (.slice none 0 0)).setCell ⟨E, 14, none⟩ (.slice none 0 0)).heap[w.heap.size]? = w6.heap[w.heap.size]? := have HH : w.heap.size ≠ E := (by omega); (far_set HH).trans ((far_set HH).trans ((far_set HH).trans ((far_set HH).trans ((far_set HH).trans ((far_set HH).trans (far_set HH))))))
      have z0' := (World.cell?_of_block (a := ⟨w.heap.size, 0, none⟩) kz7).trans z0
      have z1' := (World.cell?_of_block (a := ⟨w.heap.size, 1, none⟩) kz7).trans z1
      have z2' := (World.cell?_of_block (a := ⟨w.heap.size, 2, none⟩) kz7).trans z2
      have zf' : ∀ o, (((((((w6.setCell ⟨E, 9, none⟩ (.int .u8 11)).setCell ⟨E, 10, none⟩ (.int .i64 0)).setCell ⟨E, 11, none⟩ (.int .i64 0)).setCell ⟨E, 5, none⟩ (.slice none 0 0)).setCell ⟨E, 6, none⟩ (.map none)).setCell ⟨E, 12, none⟩ (.slice none 0 0)).setCell ⟨E, 14, none⟩ (.slice none 0 0)).frozen? ⟨w.heap.size, o, none⟩ = false := fun o => (World.frozen?_of_block (a := ⟨w.heap.size, o, none⟩) kz7).trans (zf o)
      clear W0 Eg Eg7 kz7 z0 z1 z2 zf e8 e9 e10 e11 g5 g6 g12 g14 ef HW
      generalize (((((((w6.setCell ⟨E, 9, none⟩ (.int .u8 11)).setCell ⟨E, 10, none⟩ (.int .i64 0)).setCell ⟨E, 11, none⟩ (.int .i64 0)).setCell ⟨E, 5, none⟩ (.slice none 0 0)).setCell ⟨E, 6, none⟩ (.map none)).setCell ⟨E, 12, none⟩ (.slice none 0 0)).setCell ⟨E, 14, none⟩ (.slice none 0 0)) = w7 at *
      have HW7 := hideIt (And.intro W7 y6)
      clear W7 y6
      refine wp_region_l (l := 5) (S := (fun w' => w'.cell? ⟨E, 9, none⟩ = some (.int .u8 11) ∧ w'.cell? ⟨E, 10, none⟩ = some (.int .i64 0) ∧ w'.cell? ⟨E, 11, none⟩ = some (.int .i64 0))) (by kernel_rfl) ⟨y9, y10, y11⟩ (fun hHeld => ?_)
      refine AnyL.take2 (i := 0) (oi := { dst := some 67, op := Go.Op.move (Go.Operand.tmp 0), type := 43, pos := _, after := #[{ on := 4, ground := Go.Ground.gcOnly Go.Departure.lateStores }], guard := none }) (v := ?vv40031) (by kernel_rfl) (by kernel_rfl) rfl (by kernel_rfl) (by kernel_rfl) (by kernel_rfl) (fun _ _ _ h => h) (Or.inl ⟨by rfl, ?hy40031⟩) (by assumption) ?tk40031
      case hy40031 => (intro w hSw; (try dsimp only at hSw); go_simp; (try with_reducible rfl))
      try simp only [Act.put, List.setIfInBounds_toArray, List.set_cons_zero, List.set_cons_succ]
      refine AnyL.take2 (i := 1) (oi := { dst := some 68, op := Go.Op.nilCheck (Go.Operand.tmp 67), type := 0, pos := _, after := #[{ on := 0, ground := Go.Ground.data }, { on := 4, ground := Go.Ground.gcOnly Go.Departure.lateStores }], guard := none }) (v := ?vv40032) (by kernel_rfl) (by kernel_rfl) rfl (by kernel_rfl) (by kernel_rfl) (by kernel_rfl) (fun _ _ _ h => h) (Or.inl ⟨by rfl, ?hy40032⟩) (by assumption) ?tk40032
      case hy40032 => (intro w hSw; (try dsimp only at hSw); go_simp; (try with_reducible rfl))
      try simp only [Act.put, List.setIfInBounds_toArray, List.set_cons_zero, List.set_cons_succ]
      refine AnyL.take2 (i := 2) (oi := { dst := some 69, op := Go.Op.fieldAddr 75 (Go.Operand.tmp 68) 6, type := 0, pos := _, after := #[{ on := 1, ground := Go.Ground.data }, { on := 4, ground := Go.Ground.gcOnly Go.Departure.lateStores }], guard := none }) (v := ?vv40033) (by kernel_rfl) (by kernel_rfl) rfl (by kernel_rfl) (by kernel_rfl) (by kernel_rfl) (fun _ _ _ h => h) (Or.inl ⟨by rfl, ?hy40033⟩) (by assumption) ?tk40033
      case hy40033 => (intro w hSw; (try dsimp only at hSw); go_simp; (try with_reducible rfl))
      try simp only [Act.put, List.setIfInBounds_toArray, List.set_cons_zero, List.set_cons_succ]
      refine AnyL.take2 (i := 3) (oi := { dst := some 70, op := Go.Op.load 45 (Go.Operand.tmp 69), type := 45, pos := _, after := #[{ on := 2, ground := Go.Ground.data }, { on := 4, ground := Go.Ground.gcOnly Go.Departure.lateStores }], guard := none }) (v := ?vv40034) (by kernel_rfl) (by kernel_rfl) rfl (by kernel_rfl) (by kernel_rfl) (by kernel_rfl) (fun _ _ _ h => h) (Or.inl ⟨by rfl, ?hy40034⟩) (by assumption) ?tk40034
      case hy40034 => (intro w hSw; (try dsimp only at hSw); go_simp; (try with_reducible rfl))
      try simp only [Act.put, List.setIfInBounds_toArray, List.set_cons_zero, List.set_cons_succ]
      refine AnyL.take2 (i := 4) (oi := { dst := some 2, op := Go.Op.assign (Go.Operand.const (Go.Value.bool false)), type := 4, pos := _, after := #[{ on := 0, ground := Go.Ground.textOnly Go.Departure.lateStores }, { on := 1, ground := Go.Ground.textOnly Go.Departure.lateStores }, { on := 2, ground := Go.Ground.textOnly Go.Departure.lateStores }, { on := 3, ground := Go.Ground.textOnly Go.Departure.lateStores }], guard := none }) (v := ?vv40035) (by kernel_rfl) (by kernel_rfl) rfl (by kernel_rfl) (by kernel_rfl) (by kernel_rfl) (fun _ _ _ h => h) (Or.inl ⟨by rfl, ?hy40035⟩) (by assumption) ?tk40035
      case hy40035 => (intro w hSw; (try dsimp only at hSw); go_simp; (try with_reducible rfl))
      try simp only [Act.put, List.setIfInBounds_toArray, List.set_cons_zero, List.set_cons_succ]
      refine AnyL.last (o := { dst := none, op := Go.Op.store 45 (Go.Operand.tmp 3) (Go.Operand.tmp 70), type := 0, pos := _, after := #[{ on := 3, ground := Go.Ground.data }, { on := 4, ground := Go.Ground.chain }, { on := 0, ground := Go.Ground.phase }, { on := 1, ground := Go.Ground.phase }, { on := 2, ground := Go.Ground.phase }, { on := 3, ground := Go.Ground.phase }, { on := 4, ground := Go.Ground.phase }], guard := none }) (by kernel_rfl) rfl (by kernel_rfl) (fun K' hK' => ?_)
      go_simp
      clear hHeld
      refine hK'.out _ _ ?_
      clear hK' K'
      try simp only [Act.put, List.setIfInBounds_toArray, List.set_cons_zero, List.set_cons_succ]
      go_wp2
      refine bodyPost_ret (v := .tuple #[.bool false, .agg #[.int .u8 11, .int .i64 0, .int .i64 0]]) ?_ rfl ?_
      · rw [results_tmp_cell rfl]
        go_simp
      · have hB : ¬ 2 ≤ B := by simpa using HBO.out
        obtain ⟨W7, y6⟩ := HW7.out
        have hnE : E ≠ w.heap.size := by omega
        refine ⟨by unfold codeV; rw [if_neg hB], ⟨fun h => absurd h hB, fun _ => ?_⟩, ?_⟩
        · exact (World.cell?_of_block (a := ⟨E, 6, none⟩) ((far_set hnE).trans ((far_set hnE).trans (far_set hnE)))).trans y6
        · exact (((W7.set (.inr (Nat.le_refl _))).set (.inr (Nat.le_refl _))).set (.inr (Nat.le_refl _))).drew
    · go_wp2
      go_roundg 0
      case measure => omega
      case rel => exact ⟨1, by omega, by go_num, fun h => by omega, fun _ => ⟨by first | exact rfl | exact trivial, HX.out⟩⟩
  have ein : i = 1 := by omega
  obtain ⟨hbo1, c', sh', Eg, K, hq, ha, W⟩ := hI1 ein
  have i1 : ¬ ((i : Int) < 1) := by omega
  clear hI0 hI1 hin hi ein hev
  obtain ⟨f0, f1, f2, ff, R, b05, hA, hs1⟩ := HY5.out
  obtain ⟨c6, c7, c8, c9, c10, c11⟩ := HC.out
  have e8 := Eg.get ((ha 8 (by omega) (by omega) (by omega) (by omega) (by omega) (by omega) (by omega)).trans c8) (by omega)
  have e15 := Eg.c 15 (by omega)
  have ef := Eg.fz
  have hAs : w.heap.size < w5.heap.size := by omega
  have kz := W.block w.heap.size hAs (fun e => by rcases e with e | e | e | e <;> omega)
  have z0 := (World.cell?_of_block (a := ⟨w.heap.size, 0, none⟩) kz).trans f0
  have z1 := (World.cell?_of_block (a := ⟨w.heap.size, 1, none⟩) kz).trans f1
  have z2 := (World.cell?_of_block (a := ⟨w.heap.size, 2, none⟩) kz).trans f2
  have zf : ∀ o, wr.frozen? ⟨w.heap.size, o, none⟩ = false := fun o => (World.frozen?_of_block (a := ⟨w.heap.size, o, none⟩) kz).trans (ff o)
  have W0 : Ws (fun q => q = GC ∨ q = E ∨ q = ρ.hb ∨ q = ρ.rb) w wr := (Ws.of_below b05).trans W
  have hsz5 : E < w5.heap.size := by omega
  have HW := hideIt (And.intro W0 (And.intro Eg (And.intro K (And.intro hq (And.intro ha (And.intro c6 (And.intro c7 R.d4)))))))
  have HB1 := hideIt hbo1
  clear Eg K hq ha W f0 f1 f2 ff R b05 hA hs1 kz c6 c7 c8 c9 c10 c11 W0 hbo1
  go_upto_region 13 with fail
  obtain ⟨W0, Eg, K, hq, ha, c6, c7, hd4⟩ := HW.out
  have Eg7 := (Eg.put (k := 8) (by omega) (.int .i64 1)).put (k := 15) (by omega) (.int .i64 1)
  have W7 : Ws (fun q => q = GC ∨ q = E ∨ q = ρ.hb ∨ q = ρ.rb) w ((wr.setCell ⟨E, 8, none⟩ (.int .i64 1)).setCell ⟨E, 15, none⟩ (.int .i64 1)) := (W0.set (.inl (.inr (.inl rfl)))).set (.inl (.inr (.inl rfl)))
  have y8 := Eg7.get (k := 8) (v := .int .i64 1) rfl (by omega)
  have y7 := Eg7.get (k := 7) ((ha 7 (by omega) (by omega) (by omega) (by omega) (by omega) (by omega) (by omega)).trans c7) (by omega)
  have y6 := Eg7.get (k := 6) ((ha 6 (by omega) (by omega) (by omega) (by omega) (by omega) (by omega) (by omega)).trans c6) (by omega)
  have HH : w.heap.size ≠ E := by omega
  have kz7 : ((wr.setCell ⟨E, 8, none⟩ (.int .i64 1)).setCell ⟨E, 15, none⟩ (.int .i64 1)).heap[w.heap.size]? = wr.heap[w.heap.size]? := (far_set HH).trans (far_set HH)
  have z0' := (World.cell?_of_block (a := ⟨w.heap.size, 0, none⟩) kz7).trans z0
  have z1' := (World.cell?_of_block (a := ⟨w.heap.size, 1, none⟩) kz7).trans z1
  have z2' := (World.cell?_of_block (a := ⟨w.heap.size, 2, none⟩) kz7).trans z2
  have zf' : ∀ o, ((wr.setCell ⟨E, 8, none⟩ (.int .i64 1)).setCell ⟨E, 15, none⟩ (.int .i64 1)).frozen? ⟨w.heap.size, o, none⟩ = false := fun o => (World.frozen?_of_block (a := ⟨w.heap.size, o, none⟩) kz7).trans (zf o)
  have K7 : HbOk ((wr.setCell ⟨E, 8, none⟩ (.int .i64 1)).setCell ⟨E, 15, none⟩ (.int .i64 1)) ρ.hb nmh sh' := K.keep (fun q hq' => have HH : q ≠ E := (by rcases hq' with z | z; have := hq q z; omega; intro e; exact hd4 (e.symm.trans z)); (far_set HH).trans (far_set HH))
  have hql : ∀ q, sh'.slots.ownBlock = some q → w.heap.size ≤ q := fun q z => by have := hq q z; omega
  have hqw : ∀ q, sh'.slots.ownBlock = some q ∨ q = ρ.hb → q ≠ w.heap.size := fun q hq' => by rcases hq' with z | z; have := hq q z; omega; omega
  clear W0 Eg Eg7 kz7 z0 z1 z2 zf e8 e15 ef HW K hq ha c6 c7 hd4
  generalize ((wr.setCell ⟨E, 8, none⟩ (.int .i64 1)).setCell ⟨E, 15, none⟩ (.int .i64 1)) = w7 at *
  have HW7 := hideIt (And.intro W7 (And.intro y6 (And.intro K7 (And.intro hqw hql))))
  clear W7 y6 K7 hqw hql HH
  refine wp_region_l (l := 12) (S := (fun w' => w'.cell? ⟨E, 8, none⟩ = some (.int .i64 1) ∧ w'.cell? ⟨E, 7, none⟩ = some (.slice (some ⟨LB, 0, none⟩) 1 cl))) (by kernel_rfl) ⟨y8, y7⟩ (fun hHeld => ?_)
  refine AnyL.take2 (i := 0) (oi := { dst := some 87, op := Go.Op.move (Go.Operand.tmp 0), type := 43, pos := _, after := #[], guard := none }) (v := ?vv40036) (by kernel_rfl) (by kernel_rfl) rfl (by kernel_rfl) (by kernel_rfl) (by kernel_rfl) (fun _ _ _ h => h) (Or.inl ⟨by rfl, ?hy40036⟩) (by assumption) ?tk40036
  case hy40036 => (intro w hSw; (try dsimp only at hSw); go_simp; (try with_reducible rfl))
  try simp only [Act.put, List.setIfInBounds_toArray, List.set_cons_zero, List.set_cons_succ]
  refine AnyL.take2 (i := 1) (oi := { dst := some 88, op := Go.Op.nilCheck (Go.Operand.tmp 87), type := 0, pos := _, after := #[{ on := 0, ground := Go.Ground.data }], guard := none }) (v := ?vv40037) (by kernel_rfl) (by kernel_rfl) rfl (by kernel_rfl) (by kernel_rfl) (by kernel_rfl) (fun _ _ _ h => h) (Or.inl ⟨by rfl, ?hy40037⟩) (by assumption) ?tk40037
  case hy40037 => (intro w hSw; (try dsimp only at hSw); go_simp; (try with_reducible rfl))
  try simp only [Act.put, List.setIfInBounds_toArray, List.set_cons_zero, List.set_cons_succ]
  refine AnyL.take2 (i := 2) (oi := { dst := some 89, op := Go.Op.fieldAddr 75 (Go.Operand.tmp 88) 5, type := 0, pos := _, after := #[{ on := 1, ground := Go.Ground.data }], guard := none }) (v := ?vv40038) (by kernel_rfl) (by kernel_rfl) rfl (by kernel_rfl) (by kernel_rfl) (by kernel_rfl) (fun _ _ _ h => h) (Or.inl ⟨by rfl, ?hy40038⟩) (by assumption) ?tk40038
  case hy40038 => (intro w hSw; (try dsimp only at hSw); go_simp; (try with_reducible rfl))
  try simp only [Act.put, List.setIfInBounds_toArray, List.set_cons_zero, List.set_cons_succ]
  refine AnyL.take2 (i := 3) (oi := { dst := some 90, op := Go.Op.load 3 (Go.Operand.tmp 89), type := 3, pos := _, after := #[{ on := 2, ground := Go.Ground.data }], guard := none }) (v := ?vv40039) (by kernel_rfl) (by kernel_rfl) rfl (by kernel_rfl) (by kernel_rfl) (by kernel_rfl) (fun _ _ _ h => h) (Or.inl ⟨by rfl, ?hy40039⟩) (by assumption) ?tk40039
  case hy40039 => (intro w hSw; (try dsimp only at hSw); go_simp; (try with_reducible rfl))
  try simp only [Act.put, List.setIfInBounds_toArray, List.set_cons_zero, List.set_cons_succ]
  refine AnyL.take2 (i := 4) (oi := { dst := some 91, op := Go.Op.move (Go.Operand.tmp 0), type := 43, pos := _, after := #[], guard := none }) (v := ?vv40040) (by kernel_rfl) (by kernel_rfl) rfl (by kernel_rfl) (by kernel_rfl) (by kernel_rfl) (fun _ _ _ h => h) (Or.inl ⟨by rfl, ?hy40040⟩) (by assumption) ?tk40040
  case hy40040 => (intro w hSw; (try dsimp only at hSw); go_simp; (try with_reducible rfl))
  try simp only [Act.put, List.setIfInBounds_toArray, List.set_cons_zero, List.set_cons_succ]
  refine AnyL.take2 (i := 5) (oi := { dst := some 92, op := Go.Op.nilCheck (Go.Operand.tmp 91), type := 0, pos := _, after := #[{ on := 4, ground := Go.Ground.data }], guard := none }) (v := ?vv40041) (by kernel_rfl) (by kernel_rfl) rfl (by kernel_rfl) (by kernel_rfl) (by kernel_rfl) (fun _ _ _ h => h) (Or.inl ⟨by rfl, ?hy40041⟩) (by assumption) ?tk40041
  case hy40041 => (intro w hSw; (try dsimp only at hSw); go_simp; (try with_reducible rfl))
  try simp only [Act.put, List.setIfInBounds_toArray, List.set_cons_zero, List.set_cons_succ]
  refine AnyL.take2 (i := 6) (oi := { dst := some 93, op := Go.Op.fieldAddr 75 (Go.Operand.tmp 92) 4, type := 0, pos := _, after := #[{ on := 5, ground := Go.Ground.data }], guard := none }) (v := ?vv40042) (by kernel_rfl) (by kernel_rfl) rfl (by kernel_rfl) (by kernel_rfl) (by kernel_rfl) (fun _ _ _ h => h) (Or.inl ⟨by rfl, ?hy40042⟩) (by assumption) ?tk40042
  case hy40042 => (intro w hSw; (try dsimp only at hSw); go_simp; (try with_reducible rfl))
  try simp only [Act.put, List.setIfInBounds_toArray, List.set_cons_zero, List.set_cons_succ]
  refine AnyL.take2 (i := 7) (oi := { dst := some 94, op := Go.Op.load 66 (Go.Operand.tmp 93), type := 66, pos := _, after := #[{ on := 6, ground := Go.Ground.data }], guard := none }) (v := ?vv40043) (by kernel_rfl) (by kernel_rfl) rfl (by kernel_rfl) (by kernel_rfl) (by kernel_rfl) (fun _ _ _ h => h) (Or.inl ⟨by rfl, ?hy40043⟩) (by assumption) ?tk40043
  case hy40043 => (intro w hSw; (try dsimp only at hSw); go_simp; (try with_reducible rfl))
  try simp only [Act.put, List.setIfInBounds_toArray, List.set_cons_zero, List.set_cons_succ]
  refine AnyL.take2 (i := 8) (oi := { dst := some 95, op := Go.Op.call { callee := Go.Callee.builtin Go.Builtin.len, args := #[Go.Operand.tmp 94], argTypes := #[66] }, type := 3, pos := _, after := #[{ on := 7, ground := Go.Ground.data }], guard := none }) (v := ?vv40044) (by kernel_rfl) (by kernel_rfl) rfl (by kernel_rfl) (by kernel_rfl) (by kernel_rfl) (fun _ _ _ h => h) (Or.inl ⟨by rfl, ?hy40044⟩) (by assumption) ?tk40044
  case hy40044 => (intro w hSw; (try dsimp only at hSw); go_simp; (try with_reducible rfl))
  try simp only [Act.put, List.setIfInBounds_toArray, List.set_cons_zero, List.set_cons_succ]
  refine AnyL.take2 (i := 9) (oi := { dst := some 96, op := Go.Op.binOp Go.BinOp.lss 3 (Go.Operand.tmp 90) (Go.Operand.tmp 95) 3, type := 4, pos := _, after := #[{ on := 3, ground := Go.Ground.data }, { on := 8, ground := Go.Ground.data }], guard := none }) (v := ?vv40045) (by kernel_rfl) (by kernel_rfl) rfl (by kernel_rfl) (by kernel_rfl) (by kernel_rfl) (fun _ _ _ h => h) (Or.inl ⟨by rfl, ?hy40045⟩) (by assumption) ?tk40045
  case hy40045 => (intro w hSw; (try dsimp only at hSw); go_simp; (try with_reducible rfl))
  try simp only [Act.put, List.setIfInBounds_toArray, List.set_cons_zero, List.set_cons_succ]
  refine AnyL.take2 (i := 10) (oi := { dst := some 97, op := Go.Op.build 45 #[], type := 45, pos := _, after := #[{ on := 11, ground := Go.Ground.gcOnly Go.Departure.lateStores }], guard := none }) (v := ?vv40046) (by kernel_rfl) (by kernel_rfl) rfl (by kernel_rfl) (by kernel_rfl) (by kernel_rfl) (fun _ _ _ h => h) (Or.inl ⟨by rfl, ?hy40046⟩) (by assumption) ?tk40046
  case hy40046 => (intro w hSw; (try dsimp only at hSw); go_simp; (try with_reducible rfl))
  try simp only [Act.put, List.setIfInBounds_toArray, List.set_cons_zero, List.set_cons_succ]
  refine AnyL.take2 (i := 11) (oi := { dst := some 2, op := Go.Op.assign (Go.Operand.tmp 96), type := 4, pos := _, after := #[{ on := 9, ground := Go.Ground.data }, { on := 0, ground := Go.Ground.phase }, { on := 1, ground := Go.Ground.phase }, { on := 2, ground := Go.Ground.phase }, { on := 3, ground := Go.Ground.phase }, { on := 4, ground := Go.Ground.phase }, { on := 5, ground := Go.Ground.phase }, { on := 6, ground := Go.Ground.phase }, { on := 7, ground := Go.Ground.phase }, { on := 8, ground := Go.Ground.phase }, { on := 9, ground := Go.Ground.phase }, { on := 10, ground := Go.Ground.textOnly Go.Departure.lateStores }], guard := none }) (v := ?vv40047) (by kernel_rfl) (by kernel_rfl) rfl (by kernel_rfl) (by kernel_rfl) (by kernel_rfl) (fun _ _ _ h => h) (Or.inl ⟨by rfl, ?hy40047⟩) (by assumption) ?tk40047
  case hy40047 => (intro w hSw; (try dsimp only at hSw); go_simp; (try with_reducible rfl))
  try simp only [Act.put, List.setIfInBounds_toArray, List.set_cons_zero, List.set_cons_succ]
  refine AnyL.last (o := { dst := none, op := Go.Op.store 45 (Go.Operand.tmp 3) (Go.Operand.tmp 97), type := 0, pos := _, after := #[{ on := 10, ground := Go.Ground.data }, { on := 11, ground := Go.Ground.chain }, { on := 0, ground := Go.Ground.phase }, { on := 1, ground := Go.Ground.phase }, { on := 2, ground := Go.Ground.phase }, { on := 3, ground := Go.Ground.phase }, { on := 4, ground := Go.Ground.phase }, { on := 5, ground := Go.Ground.phase }, { on := 6, ground := Go.Ground.phase }, { on := 7, ground := Go.Ground.phase }, { on := 8, ground := Go.Ground.phase }, { on := 9, ground := Go.Ground.phase }, { on := 10, ground := Go.Ground.phase }, { on := 11, ground := Go.Ground.phase }], guard := none }) (by kernel_rfl) rfl (by kernel_rfl) (fun K' hK' => ?_)
  go_simp
  clear hHeld
  refine hK'.out _ _ ?_
  clear hK' K'
  try simp only [Act.put, List.setIfInBounds_toArray, List.set_cons_zero, List.set_cons_succ]
  go_wp2
  refine bodyPost_ret (v := .tuple #[.bool false, .agg #[.int .u8 0, .int .i64 0, .int .i64 0]]) ?_ rfl ?_
  · rw [results_tmp_cell rfl]
    go_simp
  · have hB : 2 ≤ B := by
      have h1 := HBO.out
      rw [HB1.out] at h1
      simpa using h1
    obtain ⟨W7, y6, K7, hqw, hql⟩ := HW7.out
    have hnE : E ≠ w.heap.size := by omega
    refine ⟨by unfold codeV; rw [if_pos hB], ⟨fun _ => ⟨(World.cell?_of_block (a := ⟨E, 6, none⟩) ((far_set hnE).trans ((far_set hnE).trans (far_set hnE)))).trans y6, sh', K7.keep (fun q hq => have HH := hqw q hq; (far_set HH).trans ((far_set HH).trans (far_set HH))), hql⟩, fun h => absurd hB h⟩, ?_⟩
    exact (((W7.set (.inr (Nat.le_refl _))).set (.inr (Nat.le_refl _))).set (.inr (Nat.le_refl _))).drew
end Go.Proofs.Qxb6500880a
