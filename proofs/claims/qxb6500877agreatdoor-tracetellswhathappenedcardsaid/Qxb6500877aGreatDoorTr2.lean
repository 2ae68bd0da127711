import Derived.Deep.CutBlock
import Derived.OwnWalk
import Derived.Maps.AppendAt
import Derived.Test.Qxb6500877aGreatDoorTr1
set_option linter.unusedVariables false
set_option linter.unusedSimpArgs false
namespace Go.Proofs.Qxb6500877aGreatDoor
open Go.RowKit

/-- Only the ring and its buffer have been written. -/
structure RW (R F : Nat) (w w' : World) : Prop where
  os : w'.os = w.os
  tape : w'.tape = w.tape
  output : w'.output = w.output
  size : w.heap.size ≤ w'.heap.size
  block : ∀ q, q < w.heap.size → q ≠ R → q ≠ F → w'.heap[q]? = w.heap[q]?
theorem drew_heap (w : World) : w.drew.heap = w.heap := rfl
theorem RW.set {R F : Nat} {w w1 : World} (h : RW R F w w1) {b o : Nat} {v : Value} (hb : b = R ∨ b = F) : RW R F w (w1.setCell ⟨b, o, none⟩ v) :=
  ⟨h.os, h.tape, h.output, by simpa using h.size, fun q hq h1 h2 => (far_set (fun e => by rcases hb with z | z <;> omega)).trans (h.block q hq h1 h2)⟩
theorem RW.drew {R F : Nat} {w w1 : World} (h : RW R F w w1) : RW R F w w1.drew := ⟨h.os, h.tape, h.output, h.size, fun q hq h1 h2 => h.block q hq h1 h2⟩
theorem RW.putEv {R F : Nat} {w w1 : World} (h : RW R F w w1) {o : Nat} {e : EvS} : RW R F w (putEv w1 F o e) := by
  unfold Go.Proofs.Qxb6500877aGreatDoor.putEv
  repeat' (refine RW.set ?_ (.inr rfl))
  exact h
set_option maxRecDepth 20000 in
set_option maxHeartbeats 4000000 in
theorem ring_new {w : World} {R F N m T kk : Nat} {cnt : Nat → Int} {f : Nat → Option EvS} {e : EvS} (H : RingX w R F N 0 (m : Int) (T : Int) cnt f) (hm : m < N) (hN : N ≤ 8) (hT : T < 1000000000000) (ek : Hid (e.kd = (kk : Int))) (hkk : kk < 11) :
    Calls Tryz.prog 259 #[.pointer (some ⟨R, 0, none⟩), evV e] w fun x w' => x = .returned (.tuple #[]) ∧ RingX w' R F N 0 ((m : Int) + 1) ((T : Int) + 1) (upd cnt kk (inc64 (cnt kk))) (upd f m (some e)) ∧ RW R F w w' := by
  have hb0 := one_alloc w (.cells #[.int .u8 (kk : Int), .int .u64 e.ti, .int .i64 e.co, .int .i64 e.tk, .int .u64 e.tm, .int .i64 e.bx, .int .u64 e.sq, .int .u8 e.st, .int .i64 e.cd] 123)
  have HA := H.two (hb0.block R H.lt) (hb0.block F (H.ltF (by omega)))
  have E0 := Ev9.new w e 123
  rw [ek.out] at E0
  have W0 : RW R F w (w.alloc (.cells #[.int .u8 (kk : Int), .int .u64 e.ti, .int .i64 e.co, .int .i64 e.tk, .int .u64 e.tm, .int .i64 e.bx, .int .u64 e.sq, .int .u8 e.st, .int .i64 e.cd] 123)) := ⟨hb0.os, hb0.tape, hb0.output, hb0.size, fun q hq _ _ => hb0.block q hq⟩
  have n1 : w.heap.size ≠ R := by have := H.lt; omega
  have n2 : w.heap.size ≠ F := by have := H.ltF (by omega); omega
  unfold evV
  rw [ek.out]
  go_enter Tryz.func259, Tryz.ntmps259
  go_upto_region 1 with fail
  generalize hWa : World.alloc w (.cells #[.int .u8 (kk : Int), .int .u64 e.ti, .int .i64 e.co, .int .i64 e.tk, .int .u64 e.tm, .int .i64 e.bx, .int .u64 e.sq, .int .u8 e.st, .int .i64 e.cd] 123) = wa at *
  clear hWa hb0
  generalize hp : w.heap.size = p0 at *
  have c0 := HA.c0
  have c1 := HA.c1
  have c2 := HA.c2
  have m0 : (0 : Int) ≤ m := by omega
  have m1 : (m : Int) < N := by omega
  have hw0 : IntKind.i64.wrap (m : Int) = m := by rw [IntKind.wrap_i64]; omega
  have hN0 : ((N : Int) == 0) = false := beq_eq_false_iff_ne.2 (by omega)
  have htm : (m : Int).tmod N = m := Int.tmod_eq_of_lt m0 m1
  have hw1 : IntKind.i64.wrap ((m : Int) + 1) = (m : Int) + 1 := by rw [IntKind.wrap_i64]; omega
  have hw2 : IntKind.u64.wrap ((T : Int) + 1) = (T : Int) + 1 := by rw [IntKind.wrap_u64]; omega
  have hNz : ¬ (N = 0) := by omega
  have hNz' : ¬ ((N : Int) = 0) := by omega
  obtain ⟨e0, e1, e2, e3, e4, e5, e6, e7, e8⟩ := E0
  go_region_held3 (fun w' => w'.cell? ⟨R, 2, none⟩ = some (.int .i64 (m : Int)) ∧ w'.cell? ⟨R, 0, none⟩ = some (.slice (some ⟨F, 0, none⟩) N N)) (exact ⟨c2, c0⟩) (fail)
  have HA := HA.drew
  have W0 := W0.drew
  have E0 : Ev9 wa.drew p0 0 e := ⟨e0, e1, e2, e3, e4, e5, e6, e7, e8⟩
  clear c0 c1 c2
  generalize wa.drew = wb at *
  have c0 := HA.c0
  have c1 := HA.c1
  have c2 := HA.c2
  have fF := HA.fF
  clear e0 e1 e2 e3 e4 e5 e6 e7 e8
  obtain ⟨e0, e1, e2, e3, e4, e5, e6, e7, e8⟩ := E0
  have E0 : Ev9 wb p0 0 e := ⟨e0, e1, e2, e3, e4, e5, e6, e7, e8⟩
  rw [ek.out] at e0
  simp only [Nat.zero_add] at e1 e2 e3 e4 e5 e6 e7 e8
  obtain ⟨v0, x0⟩ := HA.ex (m * 9) (by omega)
  obtain ⟨v1, x1⟩ := HA.ex (m * 9 + 1) (by omega)
  obtain ⟨v2, x2⟩ := HA.ex (m * 9 + 2) (by omega)
  obtain ⟨v3, x3⟩ := HA.ex (m * 9 + 3) (by omega)
  obtain ⟨v4, x4⟩ := HA.ex (m * 9 + 4) (by omega)
  obtain ⟨v5, x5⟩ := HA.ex (m * 9 + 5) (by omega)
  obtain ⟨v6, x6⟩ := HA.ex (m * 9 + 6) (by omega)
  obtain ⟨v7, x7⟩ := HA.ex (m * 9 + 7) (by omega)
  obtain ⟨v8, x8⟩ := HA.ex (m * 9 + 8) (by omega)
  go_upto_region 2 with fail
  go_cut [] (fun wd => RingX wd R F N 0 (m : Int) (T : Int) cnt (upd f m (some e)) ∧ Ev9 wd p0 0 e ∧ RW R F w wd)
  case first =>
    refine wp_region_l (l := 21) (S := (fun w' => (w'.cell? ⟨R, 0, none⟩ = some (.slice (some ⟨F, 0, none⟩) N N) ∧ w'.cell? ⟨R, 1, none⟩ = some (.int .i64 0) ∧ w'.cell? ⟨R, 2, none⟩ = some (.int .i64 (m : Int))) ∧ w'.cell? ⟨p0, 0, none⟩ = some (.int .u8 (kk : Int)) ∧ w'.cell? ⟨p0, 1, none⟩ = some (.int .u64 e.ti) ∧ w'.cell? ⟨p0, 2, none⟩ = some (.int .i64 e.co) ∧ w'.cell? ⟨p0, 3, none⟩ = some (.int .i64 e.tk) ∧ w'.cell? ⟨p0, 4, none⟩ = some (.int .u64 e.tm) ∧ w'.cell? ⟨p0, 5, none⟩ = some (.int .i64 e.bx) ∧ w'.cell? ⟨p0, 6, none⟩ = some (.int .u64 e.sq) ∧ w'.cell? ⟨p0, 7, none⟩ = some (.int .u8 e.st) ∧ w'.cell? ⟨p0, 8, none⟩ = some (.int .i64 e.cd))) (by kernel_rfl) ⟨⟨c0, c1, c2⟩, e0, e1, e2, e3, e4, e5, e6, e7, e8⟩ (fun hHeld => ?_)
    refine AnyL.take2 (i := 0) (oi := { dst := some 14, op := Go.Op.move (Go.Operand.tmp 0), type := 108, pos := _, after := #[], guard := none }) (v := ?vv12) (by kernel_rfl) (by kernel_rfl) rfl (by kernel_rfl) (by kernel_rfl) (by kernel_rfl) (fun _ _ _ h => h) (Or.inl ⟨by rfl, ?hy12⟩) (by assumption) ?tk12
    case hy12 => (intro w hSw; (try dsimp only at hSw); go_simp; (try with_reducible rfl))
    try simp only [Act.put, List.setIfInBounds_toArray, List.set_cons_zero, List.set_cons_succ]
    refine AnyL.take2 (i := 1) (oi := { dst := some 15, op := Go.Op.nilCheck (Go.Operand.tmp 14), type := 0, pos := _, after := #[{ on := 0, ground := Go.Ground.data }], guard := none }) (v := ?vv13) (by kernel_rfl) (by kernel_rfl) rfl (by kernel_rfl) (by kernel_rfl) (by kernel_rfl) (fun _ _ _ h => h) (Or.inl ⟨by rfl, ?hy13⟩) (by assumption) ?tk13
    case hy13 => (intro w hSw; (try dsimp only at hSw); go_simp; (try with_reducible rfl))
    try simp only [Act.put, List.setIfInBounds_toArray, List.set_cons_zero, List.set_cons_succ]
    refine AnyL.take2 (i := 2) (oi := { dst := some 16, op := Go.Op.fieldAddr 217 (Go.Operand.tmp 15) 0, type := 0, pos := _, after := #[{ on := 1, ground := Go.Ground.data }], guard := none }) (v := ?vv14) (by kernel_rfl) (by kernel_rfl) rfl (by kernel_rfl) (by kernel_rfl) (by kernel_rfl) (fun _ _ _ h => h) (Or.inl ⟨by rfl, ?hy14⟩) (by assumption) ?tk14
    case hy14 => (intro w hSw; (try dsimp only at hSw); go_simp; (try with_reducible rfl))
    try simp only [Act.put, List.setIfInBounds_toArray, List.set_cons_zero, List.set_cons_succ]
    refine AnyL.take2 (i := 3) (oi := { dst := some 17, op := Go.Op.load 111 (Go.Operand.tmp 16), type := 111, pos := _, after := #[{ on := 2, ground := Go.Ground.data }], guard := none }) (v := ?vv15) (by kernel_rfl) (by kernel_rfl) rfl (by kernel_rfl) (by kernel_rfl) (by kernel_rfl) (fun _ _ _ h => h) (Or.inl ⟨by rfl, ?hy15⟩) (by assumption) ?tk15
    case hy15 => (intro w hSw; (try dsimp only at hSw); go_simp; (try with_reducible rfl))
    try simp only [Act.put, List.setIfInBounds_toArray, List.set_cons_zero, List.set_cons_succ]
    refine AnyL.take2 (i := 4) (oi := { dst := some 18, op := Go.Op.move (Go.Operand.tmp 0), type := 108, pos := _, after := #[], guard := none }) (v := ?vv16) (by kernel_rfl) (by kernel_rfl) rfl (by kernel_rfl) (by kernel_rfl) (by kernel_rfl) (fun _ _ _ h => h) (Or.inl ⟨by rfl, ?hy16⟩) (by assumption) ?tk16
    case hy16 => (intro w hSw; (try dsimp only at hSw); go_simp; (try with_reducible rfl))
    try simp only [Act.put, List.setIfInBounds_toArray, List.set_cons_zero, List.set_cons_succ]
    refine AnyL.take2 (i := 5) (oi := { dst := some 19, op := Go.Op.nilCheck (Go.Operand.tmp 18), type := 0, pos := _, after := #[{ on := 4, ground := Go.Ground.data }], guard := none }) (v := ?vv17) (by kernel_rfl) (by kernel_rfl) rfl (by kernel_rfl) (by kernel_rfl) (by kernel_rfl) (fun _ _ _ h => h) (Or.inl ⟨by rfl, ?hy17⟩) (by assumption) ?tk17
    case hy17 => (intro w hSw; (try dsimp only at hSw); go_simp; (try with_reducible rfl))
    try simp only [Act.put, List.setIfInBounds_toArray, List.set_cons_zero, List.set_cons_succ]
    refine AnyL.take2 (i := 6) (oi := { dst := some 20, op := Go.Op.fieldAddr 217 (Go.Operand.tmp 19) 1, type := 0, pos := _, after := #[{ on := 5, ground := Go.Ground.data }], guard := none }) (v := ?vv18) (by kernel_rfl) (by kernel_rfl) rfl (by kernel_rfl) (by kernel_rfl) (by kernel_rfl) (fun _ _ _ h => h) (Or.inl ⟨by rfl, ?hy18⟩) (by assumption) ?tk18
    case hy18 => (intro w hSw; (try dsimp only at hSw); go_simp; (try with_reducible rfl))
    try simp only [Act.put, List.setIfInBounds_toArray, List.set_cons_zero, List.set_cons_succ]
    refine AnyL.take2 (i := 7) (oi := { dst := some 21, op := Go.Op.load 3 (Go.Operand.tmp 20), type := 3, pos := _, after := #[{ on := 6, ground := Go.Ground.data }], guard := none }) (v := ?vv19) (by kernel_rfl) (by kernel_rfl) rfl (by kernel_rfl) (by kernel_rfl) (by kernel_rfl) (fun _ _ _ h => h) (Or.inl ⟨by rfl, ?hy19⟩) (by assumption) ?tk19
    case hy19 => (intro w hSw; (try dsimp only at hSw); go_simp; (try with_reducible rfl))
    try simp only [Act.put, List.setIfInBounds_toArray, List.set_cons_zero, List.set_cons_succ]
    refine AnyL.take2 (i := 8) (oi := { dst := some 22, op := Go.Op.move (Go.Operand.tmp 0), type := 108, pos := _, after := #[], guard := none }) (v := ?vv20) (by kernel_rfl) (by kernel_rfl) rfl (by kernel_rfl) (by kernel_rfl) (by kernel_rfl) (fun _ _ _ h => h) (Or.inl ⟨by rfl, ?hy20⟩) (by assumption) ?tk20
    case hy20 => (intro w hSw; (try dsimp only at hSw); go_simp; (try with_reducible rfl))
    try simp only [Act.put, List.setIfInBounds_toArray, List.set_cons_zero, List.set_cons_succ]
    refine AnyL.take2 (i := 9) (oi := { dst := some 23, op := Go.Op.nilCheck (Go.Operand.tmp 22), type := 0, pos := _, after := #[{ on := 8, ground := Go.Ground.data }], guard := none }) (v := ?vv21) (by kernel_rfl) (by kernel_rfl) rfl (by kernel_rfl) (by kernel_rfl) (by kernel_rfl) (fun _ _ _ h => h) (Or.inl ⟨by rfl, ?hy21⟩) (by assumption) ?tk21
    case hy21 => (intro w hSw; (try dsimp only at hSw); go_simp; (try with_reducible rfl))
    try simp only [Act.put, List.setIfInBounds_toArray, List.set_cons_zero, List.set_cons_succ]
    refine AnyL.take2 (i := 10) (oi := { dst := some 24, op := Go.Op.fieldAddr 217 (Go.Operand.tmp 23) 2, type := 0, pos := _, after := #[{ on := 9, ground := Go.Ground.data }], guard := none }) (v := ?vv22) (by kernel_rfl) (by kernel_rfl) rfl (by kernel_rfl) (by kernel_rfl) (by kernel_rfl) (fun _ _ _ h => h) (Or.inl ⟨by rfl, ?hy22⟩) (by assumption) ?tk22
    case hy22 => (intro w hSw; (try dsimp only at hSw); go_simp; (try with_reducible rfl))
    try simp only [Act.put, List.setIfInBounds_toArray, List.set_cons_zero, List.set_cons_succ]
    refine AnyL.take2 (i := 11) (oi := { dst := some 25, op := Go.Op.load 3 (Go.Operand.tmp 24), type := 3, pos := _, after := #[{ on := 10, ground := Go.Ground.data }], guard := none }) (v := ?vv23) (by kernel_rfl) (by kernel_rfl) rfl (by kernel_rfl) (by kernel_rfl) (by kernel_rfl) (fun _ _ _ h => h) (Or.inl ⟨by rfl, ?hy23⟩) (by assumption) ?tk23
    case hy23 => (intro w hSw; (try dsimp only at hSw); go_simp; (try with_reducible rfl))
    try simp only [Act.put, List.setIfInBounds_toArray, List.set_cons_zero, List.set_cons_succ]
    refine AnyL.take2 (i := 12) (oi := { dst := some 26, op := Go.Op.binOp Go.BinOp.add 3 (Go.Operand.tmp 21) (Go.Operand.tmp 25) 3, type := 3, pos := _, after := #[{ on := 7, ground := Go.Ground.data }, { on := 11, ground := Go.Ground.data }], guard := none }) (v := ?vv24) (by kernel_rfl) (by kernel_rfl) rfl (by kernel_rfl) (by kernel_rfl) (by kernel_rfl) (fun _ _ _ h => h) (Or.inl ⟨by rfl, ?hy24⟩) (by assumption) ?tk24
    case hy24 => (intro w hSw; (try dsimp only at hSw); go_simp; (try with_reducible rfl))
    try simp only [Act.put, List.setIfInBounds_toArray, List.set_cons_zero, List.set_cons_succ]
    refine AnyL.take2 (i := 13) (oi := { dst := some 27, op := Go.Op.move (Go.Operand.tmp 0), type := 108, pos := _, after := #[], guard := none }) (v := ?vv25) (by kernel_rfl) (by kernel_rfl) rfl (by kernel_rfl) (by kernel_rfl) (by kernel_rfl) (fun _ _ _ h => h) (Or.inl ⟨by rfl, ?hy25⟩) (by assumption) ?tk25
    case hy25 => (intro w hSw; (try dsimp only at hSw); go_simp; (try with_reducible rfl))
    try simp only [Act.put, List.setIfInBounds_toArray, List.set_cons_zero, List.set_cons_succ]
    refine AnyL.take2 (i := 14) (oi := { dst := some 28, op := Go.Op.nilCheck (Go.Operand.tmp 27), type := 0, pos := _, after := #[{ on := 13, ground := Go.Ground.data }], guard := none }) (v := ?vv26) (by kernel_rfl) (by kernel_rfl) rfl (by kernel_rfl) (by kernel_rfl) (by kernel_rfl) (fun _ _ _ h => h) (Or.inl ⟨by rfl, ?hy26⟩) (by assumption) ?tk26
    case hy26 => (intro w hSw; (try dsimp only at hSw); go_simp; (try with_reducible rfl))
    try simp only [Act.put, List.setIfInBounds_toArray, List.set_cons_zero, List.set_cons_succ]
    refine AnyL.take2 (i := 15) (oi := { dst := some 29, op := Go.Op.fieldAddr 217 (Go.Operand.tmp 28) 0, type := 0, pos := _, after := #[{ on := 14, ground := Go.Ground.data }], guard := none }) (v := ?vv27) (by kernel_rfl) (by kernel_rfl) rfl (by kernel_rfl) (by kernel_rfl) (by kernel_rfl) (fun _ _ _ h => h) (Or.inl ⟨by rfl, ?hy27⟩) (by assumption) ?tk27
    case hy27 => (intro w hSw; (try dsimp only at hSw); go_simp; (try with_reducible rfl))
    try simp only [Act.put, List.setIfInBounds_toArray, List.set_cons_zero, List.set_cons_succ]
    refine AnyL.take2 (i := 16) (oi := { dst := some 30, op := Go.Op.load 111 (Go.Operand.tmp 29), type := 111, pos := _, after := #[{ on := 15, ground := Go.Ground.data }], guard := none }) (v := ?vv28) (by kernel_rfl) (by kernel_rfl) rfl (by kernel_rfl) (by kernel_rfl) (by kernel_rfl) (fun _ _ _ h => h) (Or.inl ⟨by rfl, ?hy28⟩) (by assumption) ?tk28
    case hy28 => (intro w hSw; (try dsimp only at hSw); go_simp; (try with_reducible rfl))
    try simp only [Act.put, List.setIfInBounds_toArray, List.set_cons_zero, List.set_cons_succ]
    refine AnyL.take2 (i := 17) (oi := { dst := some 31, op := Go.Op.call { callee := Go.Callee.builtin Go.Builtin.len, args := #[Go.Operand.tmp 30], argTypes := #[111] }, type := 3, pos := _, after := #[{ on := 16, ground := Go.Ground.data }], guard := none }) (v := ?vv29) (by kernel_rfl) (by kernel_rfl) rfl (by kernel_rfl) (by kernel_rfl) (by kernel_rfl) (fun _ _ _ h => h) (Or.inl ⟨by rfl, ?hy29⟩) (by assumption) ?tk29
    case hy29 => (intro w hSw; (try dsimp only at hSw); go_simp; (try with_reducible rfl))
    try simp only [Act.put, List.setIfInBounds_toArray, List.set_cons_zero, List.set_cons_succ]
    refine AnyL.take2 (i := 18) (oi := { dst := some 32, op := Go.Op.binOp Go.BinOp.rem 3 (Go.Operand.tmp 26) (Go.Operand.tmp 31) 3, type := 3, pos := _, after := #[{ on := 12, ground := Go.Ground.data }, { on := 17, ground := Go.Ground.data }], guard := none }) (v := ?vv30) (by kernel_rfl) (by kernel_rfl) rfl (by kernel_rfl) (by kernel_rfl) (by kernel_rfl) (fun _ _ _ h => h) (Or.inl ⟨by rfl, ?hy30⟩) (by assumption) ?tk30
    case hy30 => (intro w hSw; (try dsimp only at hSw); go_simp; (try with_reducible rfl))
    try simp only [Act.put, List.setIfInBounds_toArray, List.set_cons_zero, List.set_cons_succ]
    refine AnyL.take2 (i := 19) (oi := { dst := some 33, op := Go.Op.load 123 (Go.Operand.tmp 3), type := 123, pos := _, after := #[], guard := none }) (v := ?vv31) (by kernel_rfl) (by kernel_rfl) rfl (by kernel_rfl) (by kernel_rfl) (by kernel_rfl) (fun _ _ _ h => h) (Or.inl ⟨by rfl, ?hy31⟩) (by assumption) ?tk31
    case hy31 => (intro w hSw; (try dsimp only at hSw); go_simp; (try with_reducible rfl))
    try simp only [Act.put, List.setIfInBounds_toArray, List.set_cons_zero, List.set_cons_succ]
    refine AnyL.take2 (i := 20) (oi := { dst := some 34, op := Go.Op.indexAddr 111 (Go.Operand.tmp 17) (Go.Operand.tmp 32), type := 0, pos := _, after := #[{ on := 3, ground := Go.Ground.data }, { on := 18, ground := Go.Ground.data }, { on := 0, ground := Go.Ground.phase }, { on := 1, ground := Go.Ground.phase }, { on := 2, ground := Go.Ground.phase }, { on := 3, ground := Go.Ground.phase }, { on := 4, ground := Go.Ground.phase }, { on := 5, ground := Go.Ground.phase }, { on := 6, ground := Go.Ground.phase }, { on := 7, ground := Go.Ground.phase }, { on := 8, ground := Go.Ground.phase }, { on := 9, ground := Go.Ground.phase }, { on := 10, ground := Go.Ground.phase }, { on := 11, ground := Go.Ground.phase }, { on := 12, ground := Go.Ground.phase }, { on := 13, ground := Go.Ground.phase }, { on := 14, ground := Go.Ground.phase }, { on := 15, ground := Go.Ground.phase }, { on := 16, ground := Go.Ground.phase }, { on := 17, ground := Go.Ground.phase }, { on := 18, ground := Go.Ground.phase }, { on := 19, ground := Go.Ground.phase }], guard := none }) (v := ?vv32) (by kernel_rfl) (by kernel_rfl) rfl (by kernel_rfl) (by kernel_rfl) (by kernel_rfl) (fun _ _ _ h => h) (Or.inl ⟨by rfl, ?hy32⟩) (by assumption) ?tk32
    case hy32 => (intro w hSw; (try dsimp only at hSw); go_simp; (try with_reducible rfl))
    try simp only [Act.put, List.setIfInBounds_toArray, List.set_cons_zero, List.set_cons_succ]
    refine AnyL.last (o := { dst := none, op := Go.Op.store 123 (Go.Operand.tmp 34) (Go.Operand.tmp 33), type := 0, pos := _, after := #[{ on := 20, ground := Go.Ground.data }, { on := 19, ground := Go.Ground.data }, { on := 0, ground := Go.Ground.phase }, { on := 1, ground := Go.Ground.phase }, { on := 2, ground := Go.Ground.phase }, { on := 3, ground := Go.Ground.phase }, { on := 4, ground := Go.Ground.phase }, { on := 5, ground := Go.Ground.phase }, { on := 6, ground := Go.Ground.phase }, { on := 7, ground := Go.Ground.phase }, { on := 8, ground := Go.Ground.phase }, { on := 9, ground := Go.Ground.phase }, { on := 10, ground := Go.Ground.phase }, { on := 11, ground := Go.Ground.phase }, { on := 12, ground := Go.Ground.phase }, { on := 13, ground := Go.Ground.phase }, { on := 14, ground := Go.Ground.phase }, { on := 15, ground := Go.Ground.phase }, { on := 16, ground := Go.Ground.phase }, { on := 17, ground := Go.Ground.phase }, { on := 18, ground := Go.Ground.phase }, { on := 19, ground := Go.Ground.phase }], guard := none }) (by kernel_rfl) rfl (by kernel_rfl) (fun K' hK' => ?_)
    go_simp
    clear hHeld
    refine hK'.out _ _ ?_
    clear hK' K'
    try simp only [Act.put, List.setIfInBounds_toArray, List.set_cons_zero, List.set_cons_succ]
    go_wp2
    go_meet
    case rel =>
      have H1 := (HA.putEv hm e).drew
      have W1 := (W0.putEv (o := m * 9) (e := e)).drew
      have E1 := E0.blk (w' := (putEv wb F (m * 9) e).drew) (by rw [drew_heap]; exact putEv_far wb F (m * 9) e n2)
      unfold putEv at H1 W1 E1
      rw [ek.out] at H1 W1 E1
      exact ⟨H1, E1, W1⟩
  case rest =>
  clear HA E0 W0 c0 c1 c2 fF e0 e1 e2 e3 e4 e5 e6 e7 e8 x0 x1 x2 x3 x4 x5 x6 x7 x8
  obtain ⟨H1, E1, W1⟩ := hcut
  have c2 := H1.c2
  have fR := H1.fR
  have HH := hideIt (And.intro H1 (And.intro E1 W1))
  clear H1 E1 W1
  go_upto_region 6 with fail
  obtain ⟨H0, E0, W0⟩ := HH.out
  have H1 := H0.putN ((m : Int) + 1)
  have E1 := E0.blk (w' := wc.setCell ⟨R, 2, none⟩ (.int .i64 ((m : Int) + 1))) (far_set n1)
  have W1 := W0.set (b := R) (o := 2) (v := .int .i64 ((m : Int) + 1)) (.inl rfl)
  clear H0 E0 W0 HH c2 fR
  generalize World.setCell wc _ _ = wd at *
  have c3 := H1.c3
  have fR := H1.fR
  have hp1 := E1.lt
  go_upto_region 6 with fail
  go_cut [] (fun wd => RingX wd R F N 0 ((m : Int) + 1) ((T : Int) + 1) cnt (upd f m (some e)) ∧ Ev9 wd p0 0 e ∧ RW R F w wd)
  case first =>
    go_wp2
    go_meet
    case rel =>
      have H2 := H1.putT ((T : Int) + 1)
      exact ⟨H2, E1.blk (far_set n1), W1.set (.inl rfl)⟩
  case rest =>
  clear H1 E1 W1 c3 fR hp1
  obtain ⟨H1, E1, W1⟩ := hcut
  have q0 := H1.cs kk hkk
  obtain ⟨cv, hcv⟩ : ∃ cv, cv = cnt kk := ⟨_, rfl⟩
  rw [← hcv] at q0
  have HCV := hideIt hcv
  clear hcv
  have q1 := E1.c0
  rw [ek.out] at q1
  have fR := H1.fR
  have z0 : (0 : Int) ≤ kk := by omega
  have z1 : (kk : Int) < 11 := by omega
  go_upto_region 8 with fail
  refine wp_region_l (l := 11) (S := (fun w' => w'.cell? ⟨R, 4 + kk, none⟩ = some (.int .u64 cv) ∧ w'.cell? ⟨p0, 0, none⟩ = some (.int .u8 (kk : Int)))) (by kernel_rfl) ⟨q0, q1⟩ (fun hHeld => ?_)
  refine AnyL.take2 (i := 0) (oi := { dst := some 76, op := Go.Op.move (Go.Operand.tmp 0), type := 108, pos := _, after := #[], guard := none }) (v := ?vv1) (by kernel_rfl) (by kernel_rfl) rfl (by kernel_rfl) (by kernel_rfl) (by kernel_rfl) (fun _ _ _ h => h) (Or.inl ⟨by rfl, ?hy1⟩) (by assumption) ?tk1
  case hy1 => (intro w hSw; (try dsimp only at hSw); go_simp; (try with_reducible rfl))
  try simp only [Act.put, List.setIfInBounds_toArray, List.set_cons_zero, List.set_cons_succ]
  refine AnyL.take2 (i := 1) (oi := { dst := some 77, op := Go.Op.fieldAddr 123 (Go.Operand.tmp 3) 0, type := 0, pos := _, after := #[], guard := none }) (v := ?vv2) (by kernel_rfl) (by kernel_rfl) rfl (by kernel_rfl) (by kernel_rfl) (by kernel_rfl) (fun _ _ _ h => h) (Or.inl ⟨by rfl, ?hy2⟩) (by assumption) ?tk2
  case hy2 => (intro w hSw; (try dsimp only at hSw); go_simp; (try with_reducible rfl))
  try simp only [Act.put, List.setIfInBounds_toArray, List.set_cons_zero, List.set_cons_succ]
  refine AnyL.take2 (i := 2) (oi := { dst := some 78, op := Go.Op.load 121 (Go.Operand.tmp 77), type := 121, pos := _, after := #[{ on := 1, ground := Go.Ground.data }], guard := none }) (v := ?vv3) (by kernel_rfl) (by kernel_rfl) rfl (by kernel_rfl) (by kernel_rfl) (by kernel_rfl) (fun _ _ _ h => h) (Or.inl ⟨by rfl, ?hy3⟩) (by assumption) ?tk3
  case hy3 => (intro w hSw; (try dsimp only at hSw); go_simp; (try with_reducible rfl))
  try simp only [Act.put, List.setIfInBounds_toArray, List.set_cons_zero, List.set_cons_succ]
  refine AnyL.take2 (i := 3) (oi := { dst := some 79, op := Go.Op.nilCheck (Go.Operand.tmp 76), type := 0, pos := _, after := #[{ on := 0, ground := Go.Ground.data }], guard := none }) (v := ?vv4) (by kernel_rfl) (by kernel_rfl) rfl (by kernel_rfl) (by kernel_rfl) (by kernel_rfl) (fun _ _ _ h => h) (Or.inl ⟨by rfl, ?hy4⟩) (by assumption) ?tk4
  case hy4 => (intro w hSw; (try dsimp only at hSw); go_simp; (try with_reducible rfl))
  try simp only [Act.put, List.setIfInBounds_toArray, List.set_cons_zero, List.set_cons_succ]
  refine AnyL.take2 (i := 4) (oi := { dst := some 80, op := Go.Op.fieldAddr 217 (Go.Operand.tmp 79) 4, type := 0, pos := _, after := #[{ on := 3, ground := Go.Ground.data }], guard := none }) (v := ?vv5) (by kernel_rfl) (by kernel_rfl) rfl (by kernel_rfl) (by kernel_rfl) (by kernel_rfl) (fun _ _ _ h => h) (Or.inl ⟨by rfl, ?hy5⟩) (by assumption) ?tk5
  case hy5 => (intro w hSw; (try dsimp only at hSw); go_simp; (try with_reducible rfl))
  try simp only [Act.put, List.setIfInBounds_toArray, List.set_cons_zero, List.set_cons_succ]
  refine AnyL.take2 (i := 5) (oi := { dst := some 81, op := Go.Op.indexAddr 166 (Go.Operand.tmp 80) (Go.Operand.tmp 78), type := 0, pos := _, after := #[{ on := 4, ground := Go.Ground.data }, { on := 2, ground := Go.Ground.data }], guard := none }) (v := ?vv6) (by kernel_rfl) (by kernel_rfl) rfl (by kernel_rfl) (by kernel_rfl) (by kernel_rfl) (fun _ _ _ h => h) (Or.inl ⟨by rfl, ?hy6⟩) (by assumption) ?tk6
  case hy6 => (intro w hSw; (try dsimp only at hSw); go_simp; (try with_reducible rfl))
  try simp only [Act.put, List.setIfInBounds_toArray, List.set_cons_zero, List.set_cons_succ]
  refine AnyL.take2 (i := 6) (oi := { dst := some 82, op := Go.Op.load 28 (Go.Operand.tmp 81), type := 28, pos := _, after := #[{ on := 5, ground := Go.Ground.data }], guard := none }) (v := ?vv7) (by kernel_rfl) (by kernel_rfl) rfl (by kernel_rfl) (by kernel_rfl) (by kernel_rfl) (fun _ _ _ h => h) (Or.inl ⟨by rfl, ?hy7⟩) (by assumption) ?tk7
  case hy7 => (intro w hSw; (try dsimp only at hSw); go_simp; (try with_reducible rfl))
  try simp only [Act.put, List.setIfInBounds_toArray, List.set_cons_zero, List.set_cons_succ]
  refine AnyL.take2 (i := 7) (oi := { dst := some 83, op := Go.Op.binOp Go.BinOp.add 28 (Go.Operand.tmp 82) (Go.Operand.const (Go.Value.int Go.IntKind.u64 1)) 28, type := 28, pos := _, after := #[{ on := 6, ground := Go.Ground.data }], guard := none }) (v := ?vv8) (by kernel_rfl) (by kernel_rfl) rfl (by kernel_rfl) (by kernel_rfl) (by kernel_rfl) (fun _ _ _ h => h) (Or.inl ⟨by rfl, ?hy8⟩) (by assumption) ?tk8
  case hy8 => (intro w hSw; (try dsimp only at hSw); go_simp; (try with_reducible rfl))
  try simp only [Act.put, List.setIfInBounds_toArray, List.set_cons_zero, List.set_cons_succ]
  refine AnyL.take2 (i := 8) (oi := { dst := some 84, op := Go.Op.nilCheck (Go.Operand.tmp 76), type := 0, pos := _, after := #[{ on := 0, ground := Go.Ground.data }], guard := none }) (v := ?vv9) (by kernel_rfl) (by kernel_rfl) rfl (by kernel_rfl) (by kernel_rfl) (by kernel_rfl) (fun _ _ _ h => h) (Or.inl ⟨by rfl, ?hy9⟩) (by assumption) ?tk9
  case hy9 => (intro w hSw; (try dsimp only at hSw); go_simp; (try with_reducible rfl))
  try simp only [Act.put, List.setIfInBounds_toArray, List.set_cons_zero, List.set_cons_succ]
  refine AnyL.take2 (i := 9) (oi := { dst := some 85, op := Go.Op.fieldAddr 217 (Go.Operand.tmp 84) 4, type := 0, pos := _, after := #[{ on := 8, ground := Go.Ground.data }], guard := none }) (v := ?vv10) (by kernel_rfl) (by kernel_rfl) rfl (by kernel_rfl) (by kernel_rfl) (by kernel_rfl) (fun _ _ _ h => h) (Or.inl ⟨by rfl, ?hy10⟩) (by assumption) ?tk10
  case hy10 => (intro w hSw; (try dsimp only at hSw); go_simp; (try with_reducible rfl))
  try simp only [Act.put, List.setIfInBounds_toArray, List.set_cons_zero, List.set_cons_succ]
  refine AnyL.take2 (i := 10) (oi := { dst := some 86, op := Go.Op.indexAddr 166 (Go.Operand.tmp 85) (Go.Operand.tmp 78), type := 0, pos := _, after := #[{ on := 9, ground := Go.Ground.data }, { on := 2, ground := Go.Ground.data }, { on := 0, ground := Go.Ground.phase }, { on := 1, ground := Go.Ground.phase }, { on := 2, ground := Go.Ground.phase }, { on := 3, ground := Go.Ground.phase }, { on := 4, ground := Go.Ground.phase }, { on := 5, ground := Go.Ground.phase }, { on := 6, ground := Go.Ground.phase }, { on := 7, ground := Go.Ground.phase }], guard := none }) (v := ?vv11) (by kernel_rfl) (by kernel_rfl) rfl (by kernel_rfl) (by kernel_rfl) (by kernel_rfl) (fun _ _ _ h => h) (Or.inl ⟨by rfl, ?hy11⟩) (by assumption) ?tk11
  case hy11 => (intro w hSw; (try dsimp only at hSw); go_simp; (try with_reducible rfl))
  try simp only [Act.put, List.setIfInBounds_toArray, List.set_cons_zero, List.set_cons_succ]
  refine AnyL.last (o := { dst := none, op := Go.Op.store 28 (Go.Operand.tmp 86) (Go.Operand.tmp 83), type := 0, pos := _, after := #[{ on := 10, ground := Go.Ground.data }, { on := 7, ground := Go.Ground.data }, { on := 0, ground := Go.Ground.phase }, { on := 1, ground := Go.Ground.phase }, { on := 2, ground := Go.Ground.phase }, { on := 3, ground := Go.Ground.phase }, { on := 4, ground := Go.Ground.phase }, { on := 5, ground := Go.Ground.phase }, { on := 6, ground := Go.Ground.phase }, { on := 7, ground := Go.Ground.phase }], guard := none }) (by kernel_rfl) rfl (by kernel_rfl) (fun K' hK' => ?_)
  go_simp
  clear hHeld
  refine hK'.out _ _ ?_
  clear hK' K'
  try simp only [Act.put, List.setIfInBounds_toArray, List.set_cons_zero, List.set_cons_succ]
  go_end0
  have H2 := H1.drew.putC hkk (inc64 cv)
  exact ⟨rfl, by rw [← HCV.out]; exact H2, (W1.drew).set (.inl rfl)⟩

set_option maxRecDepth 20000 in
set_option maxHeartbeats 4000000 in
theorem ring_full {w : World} {R F N m T kk : Nat} {cnt : Nat → Int} {f : Nat → Option EvS} {e : EvS} (H : RingX w R F N (m : Int) (N : Int) (T : Int) cnt f) (hm : m < N) (hN : N ≤ 8) (hT : T < 1000000000000) (ek : Hid (e.kd = (kk : Int))) (hkk : kk < 11) :
    Calls Tryz.prog 259 #[.pointer (some ⟨R, 0, none⟩), evV e] w fun x w' => x = .returned (.tuple #[]) ∧ RingX w' R F N (((m + 1) % N : Nat) : Int) (N : Int) ((T : Int) + 1) (upd cnt kk (inc64 (cnt kk))) (upd f m (some e)) ∧ RW R F w w' := by
  have m0 : (0 : Int) ≤ m := by omega
  have m1 : (m : Int) < N := by omega
  have hN0 : ((N : Int) == 0) = false := beq_eq_false_iff_ne.2 (by omega)
  have hw1 : IntKind.i64.wrap ((m : Int) + 1) = (m : Int) + 1 := by rw [IntKind.wrap_i64]; omega
  have htm : ((m : Int) + 1).tmod N = (((m + 1) % N : Nat) : Int) := by
    rw [Int.tmod_eq_emod_of_nonneg (by omega)]
    rfl
  have hw2 : IntKind.u64.wrap ((T : Int) + 1) = (T : Int) + 1 := by rw [IntKind.wrap_u64]; omega
  have hNz : ¬ (N = 0) := by omega
  have hNz' : ¬ ((N : Int) = 0) := by omega
  obtain ⟨nm, hnm⟩ : ∃ nm : Nat, nm = (m + 1) % N := ⟨_, rfl⟩
  rw [← hnm] at htm ⊢
  clear hnm
  have hb0 := one_alloc w (.cells #[.int .u8 (kk : Int), .int .u64 e.ti, .int .i64 e.co, .int .i64 e.tk, .int .u64 e.tm, .int .i64 e.bx, .int .u64 e.sq, .int .u8 e.st, .int .i64 e.cd] 123)
  have HA := H.two (hb0.block R H.lt) (hb0.block F (H.ltF (by omega)))
  have E0 := Ev9.new w e 123
  rw [ek.out] at E0
  have W0 : RW R F w (w.alloc (.cells #[.int .u8 (kk : Int), .int .u64 e.ti, .int .i64 e.co, .int .i64 e.tk, .int .u64 e.tm, .int .i64 e.bx, .int .u64 e.sq, .int .u8 e.st, .int .i64 e.cd] 123)) := ⟨hb0.os, hb0.tape, hb0.output, hb0.size, fun q hq _ _ => hb0.block q hq⟩
  have n1 : w.heap.size ≠ R := by have := H.lt; omega
  have n2 : w.heap.size ≠ F := by have := H.ltF (by omega); omega
  unfold evV
  rw [ek.out]
  go_enter Tryz.func259, Tryz.ntmps259
  go_upto_region 1 with fail
  generalize hWa : World.alloc w (.cells #[.int .u8 (kk : Int), .int .u64 e.ti, .int .i64 e.co, .int .i64 e.tk, .int .u64 e.tm, .int .i64 e.bx, .int .u64 e.sq, .int .u8 e.st, .int .i64 e.cd] 123) = wa at *
  clear hWa hb0
  generalize hp : w.heap.size = p0 at *
  have c0 := HA.c0
  have c1 := HA.c1
  have c2 := HA.c2
  obtain ⟨e0, e1, e2, e3, e4, e5, e6, e7, e8⟩ := E0
  go_region_held3 (fun w' => w'.cell? ⟨R, 2, none⟩ = some (.int .i64 (N : Int)) ∧ w'.cell? ⟨R, 0, none⟩ = some (.slice (some ⟨F, 0, none⟩) N N)) (exact ⟨c2, c0⟩) (fail)
  have HA := HA.drew
  have W0 := W0.drew
  have E0 : Ev9 wa.drew p0 0 e := ⟨e0, e1, e2, e3, e4, e5, e6, e7, e8⟩
  clear c0 c1 c2
  generalize wa.drew = wb at *
  have c0 := HA.c0
  have c1 := HA.c1
  have c2 := HA.c2
  have fF := HA.fF
  clear e0 e1 e2 e3 e4 e5 e6 e7 e8
  obtain ⟨e0, e1, e2, e3, e4, e5, e6, e7, e8⟩ := E0
  have E0 : Ev9 wb p0 0 e := ⟨e0, e1, e2, e3, e4, e5, e6, e7, e8⟩
  rw [ek.out] at e0
  simp only [Nat.zero_add] at e1 e2 e3 e4 e5 e6 e7 e8
  obtain ⟨v0, x0⟩ := HA.ex (m * 9) (by omega)
  obtain ⟨v1, x1⟩ := HA.ex (m * 9 + 1) (by omega)
  obtain ⟨v2, x2⟩ := HA.ex (m * 9 + 2) (by omega)
  obtain ⟨v3, x3⟩ := HA.ex (m * 9 + 3) (by omega)
  obtain ⟨v4, x4⟩ := HA.ex (m * 9 + 4) (by omega)
  obtain ⟨v5, x5⟩ := HA.ex (m * 9 + 5) (by omega)
  obtain ⟨v6, x6⟩ := HA.ex (m * 9 + 6) (by omega)
  obtain ⟨v7, x7⟩ := HA.ex (m * 9 + 7) (by omega)
  obtain ⟨v8, x8⟩ := HA.ex (m * 9 + 8) (by omega)
  go_upto_region 4 with fail
  go_cut [] (fun wd => RingX wd R F N (m : Int) (N : Int) (T : Int) cnt (upd f m (some e)) ∧ Ev9 wd p0 0 e ∧ RW R F w wd)
  case first =>
    refine wp_region_l (l := 10) (S := (fun w' => (w'.cell? ⟨R, 0, none⟩ = some (.slice (some ⟨F, 0, none⟩) N N) ∧ w'.cell? ⟨R, 1, none⟩ = some (.int .i64 (m : Int))) ∧ w'.cell? ⟨p0, 0, none⟩ = some (.int .u8 (kk : Int)) ∧ w'.cell? ⟨p0, 1, none⟩ = some (.int .u64 e.ti) ∧ w'.cell? ⟨p0, 2, none⟩ = some (.int .i64 e.co) ∧ w'.cell? ⟨p0, 3, none⟩ = some (.int .i64 e.tk) ∧ w'.cell? ⟨p0, 4, none⟩ = some (.int .u64 e.tm) ∧ w'.cell? ⟨p0, 5, none⟩ = some (.int .i64 e.bx) ∧ w'.cell? ⟨p0, 6, none⟩ = some (.int .u64 e.sq) ∧ w'.cell? ⟨p0, 7, none⟩ = some (.int .u8 e.st) ∧ w'.cell? ⟨p0, 8, none⟩ = some (.int .i64 e.cd))) (by kernel_rfl) ⟨⟨c0, c1⟩, e0, e1, e2, e3, e4, e5, e6, e7, e8⟩ (fun hHeld => ?_)
    refine AnyL.take2 (i := 0) (oi := { dst := some 42, op := Go.Op.move (Go.Operand.tmp 0), type := 108, pos := _, after := #[], guard := none }) (v := ?vv33) (by kernel_rfl) (by kernel_rfl) rfl (by kernel_rfl) (by kernel_rfl) (by kernel_rfl) (fun _ _ _ h => h) (Or.inl ⟨by rfl, ?hy33⟩) (by assumption) ?tk33
    case hy33 => (intro w hSw; (try dsimp only at hSw); go_simp; (try with_reducible rfl))
    try simp only [Act.put, List.setIfInBounds_toArray, List.set_cons_zero, List.set_cons_succ]
    refine AnyL.take2 (i := 1) (oi := { dst := some 43, op := Go.Op.nilCheck (Go.Operand.tmp 42), type := 0, pos := _, after := #[{ on := 0, ground := Go.Ground.data }], guard := none }) (v := ?vv34) (by kernel_rfl) (by kernel_rfl) rfl (by kernel_rfl) (by kernel_rfl) (by kernel_rfl) (fun _ _ _ h => h) (Or.inl ⟨by rfl, ?hy34⟩) (by assumption) ?tk34
    case hy34 => (intro w hSw; (try dsimp only at hSw); go_simp; (try with_reducible rfl))
    try simp only [Act.put, List.setIfInBounds_toArray, List.set_cons_zero, List.set_cons_succ]
    refine AnyL.take2 (i := 2) (oi := { dst := some 44, op := Go.Op.fieldAddr 217 (Go.Operand.tmp 43) 0, type := 0, pos := _, after := #[{ on := 1, ground := Go.Ground.data }], guard := none }) (v := ?vv35) (by kernel_rfl) (by kernel_rfl) rfl (by kernel_rfl) (by kernel_rfl) (by kernel_rfl) (fun _ _ _ h => h) (Or.inl ⟨by rfl, ?hy35⟩) (by assumption) ?tk35
    case hy35 => (intro w hSw; (try dsimp only at hSw); go_simp; (try with_reducible rfl))
    try simp only [Act.put, List.setIfInBounds_toArray, List.set_cons_zero, List.set_cons_succ]
    refine AnyL.take2 (i := 3) (oi := { dst := some 45, op := Go.Op.load 111 (Go.Operand.tmp 44), type := 111, pos := _, after := #[{ on := 2, ground := Go.Ground.data }], guard := none }) (v := ?vv36) (by kernel_rfl) (by kernel_rfl) rfl (by kernel_rfl) (by kernel_rfl) (by kernel_rfl) (fun _ _ _ h => h) (Or.inl ⟨by rfl, ?hy36⟩) (by assumption) ?tk36
    case hy36 => (intro w hSw; (try dsimp only at hSw); go_simp; (try with_reducible rfl))
    try simp only [Act.put, List.setIfInBounds_toArray, List.set_cons_zero, List.set_cons_succ]
    refine AnyL.take2 (i := 4) (oi := { dst := some 46, op := Go.Op.move (Go.Operand.tmp 0), type := 108, pos := _, after := #[], guard := none }) (v := ?vv37) (by kernel_rfl) (by kernel_rfl) rfl (by kernel_rfl) (by kernel_rfl) (by kernel_rfl) (fun _ _ _ h => h) (Or.inl ⟨by rfl, ?hy37⟩) (by assumption) ?tk37
    case hy37 => (intro w hSw; (try dsimp only at hSw); go_simp; (try with_reducible rfl))
    try simp only [Act.put, List.setIfInBounds_toArray, List.set_cons_zero, List.set_cons_succ]
    refine AnyL.take2 (i := 5) (oi := { dst := some 47, op := Go.Op.nilCheck (Go.Operand.tmp 46), type := 0, pos := _, after := #[{ on := 4, ground := Go.Ground.data }], guard := none }) (v := ?vv38) (by kernel_rfl) (by kernel_rfl) rfl (by kernel_rfl) (by kernel_rfl) (by kernel_rfl) (fun _ _ _ h => h) (Or.inl ⟨by rfl, ?hy38⟩) (by assumption) ?tk38
    case hy38 => (intro w hSw; (try dsimp only at hSw); go_simp; (try with_reducible rfl))
    try simp only [Act.put, List.setIfInBounds_toArray, List.set_cons_zero, List.set_cons_succ]
    refine AnyL.take2 (i := 6) (oi := { dst := some 48, op := Go.Op.fieldAddr 217 (Go.Operand.tmp 47) 1, type := 0, pos := _, after := #[{ on := 5, ground := Go.Ground.data }], guard := none }) (v := ?vv39) (by kernel_rfl) (by kernel_rfl) rfl (by kernel_rfl) (by kernel_rfl) (by kernel_rfl) (fun _ _ _ h => h) (Or.inl ⟨by rfl, ?hy39⟩) (by assumption) ?tk39
    case hy39 => (intro w hSw; (try dsimp only at hSw); go_simp; (try with_reducible rfl))
    try simp only [Act.put, List.setIfInBounds_toArray, List.set_cons_zero, List.set_cons_succ]
    refine AnyL.take2 (i := 7) (oi := { dst := some 49, op := Go.Op.load 3 (Go.Operand.tmp 48), type := 3, pos := _, after := #[{ on := 6, ground := Go.Ground.data }], guard := none }) (v := ?vv40) (by kernel_rfl) (by kernel_rfl) rfl (by kernel_rfl) (by kernel_rfl) (by kernel_rfl) (fun _ _ _ h => h) (Or.inl ⟨by rfl, ?hy40⟩) (by assumption) ?tk40
    case hy40 => (intro w hSw; (try dsimp only at hSw); go_simp; (try with_reducible rfl))
    try simp only [Act.put, List.setIfInBounds_toArray, List.set_cons_zero, List.set_cons_succ]
    refine AnyL.take2 (i := 8) (oi := { dst := some 50, op := Go.Op.load 123 (Go.Operand.tmp 3), type := 123, pos := _, after := #[], guard := none }) (v := ?vv41) (by kernel_rfl) (by kernel_rfl) rfl (by kernel_rfl) (by kernel_rfl) (by kernel_rfl) (fun _ _ _ h => h) (Or.inl ⟨by rfl, ?hy41⟩) (by assumption) ?tk41
    case hy41 => (intro w hSw; (try dsimp only at hSw); go_simp; (try with_reducible rfl))
    try simp only [Act.put, List.setIfInBounds_toArray, List.set_cons_zero, List.set_cons_succ]
    refine AnyL.take2 (i := 9) (oi := { dst := some 51, op := Go.Op.indexAddr 111 (Go.Operand.tmp 45) (Go.Operand.tmp 49), type := 0, pos := _, after := #[{ on := 3, ground := Go.Ground.data }, { on := 7, ground := Go.Ground.data }, { on := 0, ground := Go.Ground.phase }, { on := 1, ground := Go.Ground.phase }, { on := 2, ground := Go.Ground.phase }, { on := 3, ground := Go.Ground.phase }, { on := 4, ground := Go.Ground.phase }, { on := 5, ground := Go.Ground.phase }, { on := 6, ground := Go.Ground.phase }, { on := 7, ground := Go.Ground.phase }, { on := 8, ground := Go.Ground.phase }], guard := none }) (v := ?vv42) (by kernel_rfl) (by kernel_rfl) rfl (by kernel_rfl) (by kernel_rfl) (by kernel_rfl) (fun _ _ _ h => h) (Or.inl ⟨by rfl, ?hy42⟩) (by assumption) ?tk42
    case hy42 => (intro w hSw; (try dsimp only at hSw); go_simp; (try with_reducible rfl))
    try simp only [Act.put, List.setIfInBounds_toArray, List.set_cons_zero, List.set_cons_succ]
    refine AnyL.last (o := { dst := none, op := Go.Op.store 123 (Go.Operand.tmp 51) (Go.Operand.tmp 50), type := 0, pos := _, after := #[{ on := 9, ground := Go.Ground.data }, { on := 8, ground := Go.Ground.data }, { on := 0, ground := Go.Ground.phase }, { on := 1, ground := Go.Ground.phase }, { on := 2, ground := Go.Ground.phase }, { on := 3, ground := Go.Ground.phase }, { on := 4, ground := Go.Ground.phase }, { on := 5, ground := Go.Ground.phase }, { on := 6, ground := Go.Ground.phase }, { on := 7, ground := Go.Ground.phase }, { on := 8, ground := Go.Ground.phase }], guard := none }) (by kernel_rfl) rfl (by kernel_rfl) (fun K' hK' => ?_)
    go_simp
    clear hHeld
    refine hK'.out _ _ ?_
    clear hK' K'
    try simp only [Act.put, List.setIfInBounds_toArray, List.set_cons_zero, List.set_cons_succ]
    go_wp2
    go_meet
    case rel =>
      have H1 := (HA.putEv hm e).drew
      have W1 := (W0.putEv (o := m * 9) (e := e)).drew
      have E1 := E0.blk (w' := (putEv wb F (m * 9) e).drew) (by rw [drew_heap]; exact putEv_far wb F (m * 9) e n2)
      unfold putEv at H1 W1 E1
      rw [ek.out] at H1 W1 E1
      exact ⟨H1, E1, W1⟩
  case rest =>
  clear HA E0 W0 c0 c1 c2 fF e0 e1 e2 e3 e4 e5 e6 e7 e8 x0 x1 x2 x3 x4 x5 x6 x7 x8
  obtain ⟨H1, E1, W1⟩ := hcut
  have d0 := H1.c0
  have d1 := H1.c1
  have fR := H1.fR
  have HH := hideIt (And.intro H1 (And.intro E1 W1))
  clear H1 E1 W1
  go_upto_region 5 with fail
  refine wp_region_l (l := 14) (S := (fun w' => w'.cell? ⟨R, 1, none⟩ = some (.int .i64 (m : Int)) ∧ w'.cell? ⟨R, 0, none⟩ = some (.slice (some ⟨F, 0, none⟩) N N))) (by kernel_rfl) ⟨d1, d0⟩ (fun hHeld => ?_)
  refine AnyL.take2 (i := 0) (oi := { dst := some 52, op := Go.Op.move (Go.Operand.tmp 0), type := 108, pos := _, after := #[], guard := none }) (v := ?vv43) (by kernel_rfl) (by kernel_rfl) rfl (by kernel_rfl) (by kernel_rfl) (by kernel_rfl) (fun _ _ _ h => h) (Or.inl ⟨by rfl, ?hy43⟩) (by assumption) ?tk43
  case hy43 => (intro w hSw; (try dsimp only at hSw); go_simp; (try with_reducible rfl))
  try simp only [Act.put, List.setIfInBounds_toArray, List.set_cons_zero, List.set_cons_succ]
  refine AnyL.take2 (i := 1) (oi := { dst := some 53, op := Go.Op.move (Go.Operand.tmp 0), type := 108, pos := _, after := #[], guard := none }) (v := ?vv44) (by kernel_rfl) (by kernel_rfl) rfl (by kernel_rfl) (by kernel_rfl) (by kernel_rfl) (fun _ _ _ h => h) (Or.inl ⟨by rfl, ?hy44⟩) (by assumption) ?tk44
  case hy44 => (intro w hSw; (try dsimp only at hSw); go_simp; (try with_reducible rfl))
  try simp only [Act.put, List.setIfInBounds_toArray, List.set_cons_zero, List.set_cons_succ]
  refine AnyL.take2 (i := 2) (oi := { dst := some 54, op := Go.Op.nilCheck (Go.Operand.tmp 53), type := 0, pos := _, after := #[{ on := 1, ground := Go.Ground.data }], guard := none }) (v := ?vv45) (by kernel_rfl) (by kernel_rfl) rfl (by kernel_rfl) (by kernel_rfl) (by kernel_rfl) (fun _ _ _ h => h) (Or.inl ⟨by rfl, ?hy45⟩) (by assumption) ?tk45
  case hy45 => (intro w hSw; (try dsimp only at hSw); go_simp; (try with_reducible rfl))
  try simp only [Act.put, List.setIfInBounds_toArray, List.set_cons_zero, List.set_cons_succ]
  refine AnyL.take2 (i := 3) (oi := { dst := some 55, op := Go.Op.fieldAddr 217 (Go.Operand.tmp 54) 1, type := 0, pos := _, after := #[{ on := 2, ground := Go.Ground.data }], guard := none }) (v := ?vv46) (by kernel_rfl) (by kernel_rfl) rfl (by kernel_rfl) (by kernel_rfl) (by kernel_rfl) (fun _ _ _ h => h) (Or.inl ⟨by rfl, ?hy46⟩) (by assumption) ?tk46
  case hy46 => (intro w hSw; (try dsimp only at hSw); go_simp; (try with_reducible rfl))
  try simp only [Act.put, List.setIfInBounds_toArray, List.set_cons_zero, List.set_cons_succ]
  refine AnyL.take2 (i := 4) (oi := { dst := some 56, op := Go.Op.load 3 (Go.Operand.tmp 55), type := 3, pos := _, after := #[{ on := 3, ground := Go.Ground.data }], guard := none }) (v := ?vv47) (by kernel_rfl) (by kernel_rfl) rfl (by kernel_rfl) (by kernel_rfl) (by kernel_rfl) (fun _ _ _ h => h) (Or.inl ⟨by rfl, ?hy47⟩) (by assumption) ?tk47
  case hy47 => (intro w hSw; (try dsimp only at hSw); go_simp; (try with_reducible rfl))
  try simp only [Act.put, List.setIfInBounds_toArray, List.set_cons_zero, List.set_cons_succ]
  refine AnyL.take2 (i := 5) (oi := { dst := some 57, op := Go.Op.binOp Go.BinOp.add 3 (Go.Operand.tmp 56) (Go.Operand.const (Go.Value.int Go.IntKind.i64 1)) 3, type := 3, pos := _, after := #[{ on := 4, ground := Go.Ground.data }], guard := none }) (v := ?vv48) (by kernel_rfl) (by kernel_rfl) rfl (by kernel_rfl) (by kernel_rfl) (by kernel_rfl) (fun _ _ _ h => h) (Or.inl ⟨by rfl, ?hy48⟩) (by assumption) ?tk48
  case hy48 => (intro w hSw; (try dsimp only at hSw); go_simp; (try with_reducible rfl))
  try simp only [Act.put, List.setIfInBounds_toArray, List.set_cons_zero, List.set_cons_succ]
  refine AnyL.take2 (i := 6) (oi := { dst := some 58, op := Go.Op.move (Go.Operand.tmp 0), type := 108, pos := _, after := #[], guard := none }) (v := ?vv49) (by kernel_rfl) (by kernel_rfl) rfl (by kernel_rfl) (by kernel_rfl) (by kernel_rfl) (fun _ _ _ h => h) (Or.inl ⟨by rfl, ?hy49⟩) (by assumption) ?tk49
  case hy49 => (intro w hSw; (try dsimp only at hSw); go_simp; (try with_reducible rfl))
  try simp only [Act.put, List.setIfInBounds_toArray, List.set_cons_zero, List.set_cons_succ]
  refine AnyL.take2 (i := 7) (oi := { dst := some 59, op := Go.Op.nilCheck (Go.Operand.tmp 58), type := 0, pos := _, after := #[{ on := 6, ground := Go.Ground.data }], guard := none }) (v := ?vv50) (by kernel_rfl) (by kernel_rfl) rfl (by kernel_rfl) (by kernel_rfl) (by kernel_rfl) (fun _ _ _ h => h) (Or.inl ⟨by rfl, ?hy50⟩) (by assumption) ?tk50
  case hy50 => (intro w hSw; (try dsimp only at hSw); go_simp; (try with_reducible rfl))
  try simp only [Act.put, List.setIfInBounds_toArray, List.set_cons_zero, List.set_cons_succ]
  refine AnyL.take2 (i := 8) (oi := { dst := some 60, op := Go.Op.fieldAddr 217 (Go.Operand.tmp 59) 0, type := 0, pos := _, after := #[{ on := 7, ground := Go.Ground.data }], guard := none }) (v := ?vv51) (by kernel_rfl) (by kernel_rfl) rfl (by kernel_rfl) (by kernel_rfl) (by kernel_rfl) (fun _ _ _ h => h) (Or.inl ⟨by rfl, ?hy51⟩) (by assumption) ?tk51
  case hy51 => (intro w hSw; (try dsimp only at hSw); go_simp; (try with_reducible rfl))
  try simp only [Act.put, List.setIfInBounds_toArray, List.set_cons_zero, List.set_cons_succ]
  refine AnyL.take2 (i := 9) (oi := { dst := some 61, op := Go.Op.load 111 (Go.Operand.tmp 60), type := 111, pos := _, after := #[{ on := 8, ground := Go.Ground.data }], guard := none }) (v := ?vv52) (by kernel_rfl) (by kernel_rfl) rfl (by kernel_rfl) (by kernel_rfl) (by kernel_rfl) (fun _ _ _ h => h) (Or.inl ⟨by rfl, ?hy52⟩) (by assumption) ?tk52
  case hy52 => (intro w hSw; (try dsimp only at hSw); go_simp; (try with_reducible rfl))
  try simp only [Act.put, List.setIfInBounds_toArray, List.set_cons_zero, List.set_cons_succ]
  refine AnyL.take2 (i := 10) (oi := { dst := some 62, op := Go.Op.call { callee := Go.Callee.builtin Go.Builtin.len, args := #[Go.Operand.tmp 61], argTypes := #[111] }, type := 3, pos := _, after := #[{ on := 9, ground := Go.Ground.data }], guard := none }) (v := ?vv53) (by kernel_rfl) (by kernel_rfl) rfl (by kernel_rfl) (by kernel_rfl) (by kernel_rfl) (fun _ _ _ h => h) (Or.inl ⟨by rfl, ?hy53⟩) (by assumption) ?tk53
  case hy53 => (intro w hSw; (try dsimp only at hSw); go_simp; (try with_reducible rfl))
  try simp only [Act.put, List.setIfInBounds_toArray, List.set_cons_zero, List.set_cons_succ]
  refine AnyL.take2 (i := 11) (oi := { dst := some 63, op := Go.Op.binOp Go.BinOp.rem 3 (Go.Operand.tmp 57) (Go.Operand.tmp 62) 3, type := 3, pos := _, after := #[{ on := 5, ground := Go.Ground.data }, { on := 10, ground := Go.Ground.data }], guard := none }) (v := ?vv54) (by kernel_rfl) (by kernel_rfl) rfl (by kernel_rfl) (by kernel_rfl) (by kernel_rfl) (fun _ _ _ h => h) (Or.inl ⟨by rfl, ?hy54⟩) (by assumption) ?tk54
  case hy54 => (intro w hSw; (try dsimp only at hSw); go_simp; (try with_reducible rfl))
  try simp only [Act.put, List.setIfInBounds_toArray, List.set_cons_zero, List.set_cons_succ]
  refine AnyL.take2 (i := 12) (oi := { dst := some 64, op := Go.Op.nilCheck (Go.Operand.tmp 52), type := 0, pos := _, after := #[{ on := 0, ground := Go.Ground.data }, { on := 0, ground := Go.Ground.phase }, { on := 1, ground := Go.Ground.phase }, { on := 2, ground := Go.Ground.phase }, { on := 3, ground := Go.Ground.phase }, { on := 4, ground := Go.Ground.phase }, { on := 5, ground := Go.Ground.phase }, { on := 6, ground := Go.Ground.phase }, { on := 7, ground := Go.Ground.phase }, { on := 8, ground := Go.Ground.phase }, { on := 9, ground := Go.Ground.phase }, { on := 10, ground := Go.Ground.phase }, { on := 11, ground := Go.Ground.phase }], guard := none }) (v := ?vv55) (by kernel_rfl) (by kernel_rfl) rfl (by kernel_rfl) (by kernel_rfl) (by kernel_rfl) (fun _ _ _ h => h) (Or.inl ⟨by rfl, ?hy55⟩) (by assumption) ?tk55
  case hy55 => (intro w hSw; (try dsimp only at hSw); go_simp; (try with_reducible rfl))
  try simp only [Act.put, List.setIfInBounds_toArray, List.set_cons_zero, List.set_cons_succ]
  refine AnyL.take2 (i := 13) (oi := { dst := some 65, op := Go.Op.fieldAddr 217 (Go.Operand.tmp 64) 1, type := 0, pos := _, after := #[{ on := 12, ground := Go.Ground.data }, { on := 0, ground := Go.Ground.phase }, { on := 1, ground := Go.Ground.phase }, { on := 2, ground := Go.Ground.phase }, { on := 3, ground := Go.Ground.phase }, { on := 4, ground := Go.Ground.phase }, { on := 5, ground := Go.Ground.phase }, { on := 6, ground := Go.Ground.phase }, { on := 7, ground := Go.Ground.phase }, { on := 8, ground := Go.Ground.phase }, { on := 9, ground := Go.Ground.phase }, { on := 10, ground := Go.Ground.phase }, { on := 11, ground := Go.Ground.phase }], guard := none }) (v := ?vv56) (by kernel_rfl) (by kernel_rfl) rfl (by kernel_rfl) (by kernel_rfl) (by kernel_rfl) (fun _ _ _ h => h) (Or.inl ⟨by rfl, ?hy56⟩) (by assumption) ?tk56
  case hy56 => (intro w hSw; (try dsimp only at hSw); go_simp; (try with_reducible rfl))
  try simp only [Act.put, List.setIfInBounds_toArray, List.set_cons_zero, List.set_cons_succ]
  refine AnyL.last (o := { dst := none, op := Go.Op.store 3 (Go.Operand.tmp 65) (Go.Operand.tmp 63), type := 0, pos := _, after := #[{ on := 13, ground := Go.Ground.data }, { on := 11, ground := Go.Ground.data }, { on := 0, ground := Go.Ground.phase }, { on := 1, ground := Go.Ground.phase }, { on := 2, ground := Go.Ground.phase }, { on := 3, ground := Go.Ground.phase }, { on := 4, ground := Go.Ground.phase }, { on := 5, ground := Go.Ground.phase }, { on := 6, ground := Go.Ground.phase }, { on := 7, ground := Go.Ground.phase }, { on := 8, ground := Go.Ground.phase }, { on := 9, ground := Go.Ground.phase }, { on := 10, ground := Go.Ground.phase }, { on := 11, ground := Go.Ground.phase }], guard := none }) (by kernel_rfl) rfl (by kernel_rfl) (fun K' hK' => ?_)
  go_simp
  clear hHeld
  refine hK'.out _ _ ?_
  clear hK' K'
  try simp only [Act.put, List.setIfInBounds_toArray, List.set_cons_zero, List.set_cons_succ]
  go_upto_region 6 with fail
  obtain ⟨H0, E0, W0⟩ := HH.out
  have H1 := (H0.putS (nm : Int)).drew
  have E1 := E0.blk (w' := (wc.setCell ⟨R, 1, none⟩ (.int .i64 (nm : Int))).drew) (by rw [drew_heap]; exact far_set n1)
  have W1 := (W0.set (b := R) (o := 1) (v := .int .i64 (nm : Int)) (.inl rfl)).drew
  clear H0 E0 W0 HH d0 d1 fR
  generalize World.drew (World.setCell wc _ _) = wd at *
  have c3 := H1.c3
  have fR := H1.fR
  have hp1 := E1.lt
  go_upto_region 6 with fail
  go_cut [] (fun wd => RingX wd R F N (nm : Int) (N : Int) ((T : Int) + 1) cnt (upd f m (some e)) ∧ Ev9 wd p0 0 e ∧ RW R F w wd)
  case first =>
    go_wp2
    go_meet
    case rel =>
      have H2 := H1.putT ((T : Int) + 1)
      exact ⟨H2, E1.blk (far_set n1), W1.set (.inl rfl)⟩
  case rest =>
  clear H1 E1 W1 c3 fR hp1
  obtain ⟨H1, E1, W1⟩ := hcut
  have q0 := H1.cs kk hkk
  obtain ⟨cv, hcv⟩ : ∃ cv, cv = cnt kk := ⟨_, rfl⟩
  rw [← hcv] at q0
  have HCV := hideIt hcv
  clear hcv
  have q1 := E1.c0
  rw [ek.out] at q1
  have fR := H1.fR
  have z0 : (0 : Int) ≤ kk := by omega
  have z1 : (kk : Int) < 11 := by omega
  go_upto_region 8 with fail
  refine wp_region_l (l := 11) (S := (fun w' => w'.cell? ⟨R, 4 + kk, none⟩ = some (.int .u64 cv) ∧ w'.cell? ⟨p0, 0, none⟩ = some (.int .u8 (kk : Int)))) (by kernel_rfl) ⟨q0, q1⟩ (fun hHeld => ?_)
  refine AnyL.take2 (i := 0) (oi := { dst := some 76, op := Go.Op.move (Go.Operand.tmp 0), type := 108, pos := _, after := #[], guard := none }) (v := ?vv1) (by kernel_rfl) (by kernel_rfl) rfl (by kernel_rfl) (by kernel_rfl) (by kernel_rfl) (fun _ _ _ h => h) (Or.inl ⟨by rfl, ?hy1⟩) (by assumption) ?tk1
  case hy1 => (intro w hSw; (try dsimp only at hSw); go_simp; (try with_reducible rfl))
  try simp only [Act.put, List.setIfInBounds_toArray, List.set_cons_zero, List.set_cons_succ]
  refine AnyL.take2 (i := 1) (oi := { dst := some 77, op := Go.Op.fieldAddr 123 (Go.Operand.tmp 3) 0, type := 0, pos := _, after := #[], guard := none }) (v := ?vv2) (by kernel_rfl) (by kernel_rfl) rfl (by kernel_rfl) (by kernel_rfl) (by kernel_rfl) (fun _ _ _ h => h) (Or.inl ⟨by rfl, ?hy2⟩) (by assumption) ?tk2
  case hy2 => (intro w hSw; (try dsimp only at hSw); go_simp; (try with_reducible rfl))
  try simp only [Act.put, List.setIfInBounds_toArray, List.set_cons_zero, List.set_cons_succ]
  refine AnyL.take2 (i := 2) (oi := { dst := some 78, op := Go.Op.load 121 (Go.Operand.tmp 77), type := 121, pos := _, after := #[{ on := 1, ground := Go.Ground.data }], guard := none }) (v := ?vv3) (by kernel_rfl) (by kernel_rfl) rfl (by kernel_rfl) (by kernel_rfl) (by kernel_rfl) (fun _ _ _ h => h) (Or.inl ⟨by rfl, ?hy3⟩) (by assumption) ?tk3
  case hy3 => (intro w hSw; (try dsimp only at hSw); go_simp; (try with_reducible rfl))
  try simp only [Act.put, List.setIfInBounds_toArray, List.set_cons_zero, List.set_cons_succ]
  refine AnyL.take2 (i := 3) (oi := { dst := some 79, op := Go.Op.nilCheck (Go.Operand.tmp 76), type := 0, pos := _, after := #[{ on := 0, ground := Go.Ground.data }], guard := none }) (v := ?vv4) (by kernel_rfl) (by kernel_rfl) rfl (by kernel_rfl) (by kernel_rfl) (by kernel_rfl) (fun _ _ _ h => h) (Or.inl ⟨by rfl, ?hy4⟩) (by assumption) ?tk4
  case hy4 => (intro w hSw; (try dsimp only at hSw); go_simp; (try with_reducible rfl))
  try simp only [Act.put, List.setIfInBounds_toArray, List.set_cons_zero, List.set_cons_succ]
  refine AnyL.take2 (i := 4) (oi := { dst := some 80, op := Go.Op.fieldAddr 217 (Go.Operand.tmp 79) 4, type := 0, pos := _, after := #[{ on := 3, ground := Go.Ground.data }], guard := none }) (v := ?vv5) (by kernel_rfl) (by kernel_rfl) rfl (by kernel_rfl) (by kernel_rfl) (by kernel_rfl) (fun _ _ _ h => h) (Or.inl ⟨by rfl, ?hy5⟩) (by assumption) ?tk5
  case hy5 => (intro w hSw; (try dsimp only at hSw); go_simp; (try with_reducible rfl))
  try simp only [Act.put, List.setIfInBounds_toArray, List.set_cons_zero, List.set_cons_succ]
  refine AnyL.take2 (i := 5) (oi := { dst := some 81, op := Go.Op.indexAddr 166 (Go.Operand.tmp 80) (Go.Operand.tmp 78), type := 0, pos := _, after := #[{ on := 4, ground := Go.Ground.data }, { on := 2, ground := Go.Ground.data }], guard := none }) (v := ?vv6) (by kernel_rfl) (by kernel_rfl) rfl (by kernel_rfl) (by kernel_rfl) (by kernel_rfl) (fun _ _ _ h => h) (Or.inl ⟨by rfl, ?hy6⟩) (by assumption) ?tk6
  case hy6 => (intro w hSw; (try dsimp only at hSw); go_simp; (try with_reducible rfl))
  try simp only [Act.put, List.setIfInBounds_toArray, List.set_cons_zero, List.set_cons_succ]
  refine AnyL.take2 (i := 6) (oi := { dst := some 82, op := Go.Op.load 28 (Go.Operand.tmp 81), type := 28, pos := _, after := #[{ on := 5, ground := Go.Ground.data }], guard := none }) (v := ?vv7) (by kernel_rfl) (by kernel_rfl) rfl (by kernel_rfl) (by kernel_rfl) (by kernel_rfl) (fun _ _ _ h => h) (Or.inl ⟨by rfl, ?hy7⟩) (by assumption) ?tk7
  case hy7 => (intro w hSw; (try dsimp only at hSw); go_simp; (try with_reducible rfl))
  try simp only [Act.put, List.setIfInBounds_toArray, List.set_cons_zero, List.set_cons_succ]
  refine AnyL.take2 (i := 7) (oi := { dst := some 83, op := Go.Op.binOp Go.BinOp.add 28 (Go.Operand.tmp 82) (Go.Operand.const (Go.Value.int Go.IntKind.u64 1)) 28, type := 28, pos := _, after := #[{ on := 6, ground := Go.Ground.data }], guard := none }) (v := ?vv8) (by kernel_rfl) (by kernel_rfl) rfl (by kernel_rfl) (by kernel_rfl) (by kernel_rfl) (fun _ _ _ h => h) (Or.inl ⟨by rfl, ?hy8⟩) (by assumption) ?tk8
  case hy8 => (intro w hSw; (try dsimp only at hSw); go_simp; (try with_reducible rfl))
  try simp only [Act.put, List.setIfInBounds_toArray, List.set_cons_zero, List.set_cons_succ]
  refine AnyL.take2 (i := 8) (oi := { dst := some 84, op := Go.Op.nilCheck (Go.Operand.tmp 76), type := 0, pos := _, after := #[{ on := 0, ground := Go.Ground.data }], guard := none }) (v := ?vv9) (by kernel_rfl) (by kernel_rfl) rfl (by kernel_rfl) (by kernel_rfl) (by kernel_rfl) (fun _ _ _ h => h) (Or.inl ⟨by rfl, ?hy9⟩) (by assumption) ?tk9
  case hy9 => (intro w hSw; (try dsimp only at hSw); go_simp; (try with_reducible rfl))
  try simp only [Act.put, List.setIfInBounds_toArray, List.set_cons_zero, List.set_cons_succ]
  refine AnyL.take2 (i := 9) (oi := { dst := some 85, op := Go.Op.fieldAddr 217 (Go.Operand.tmp 84) 4, type := 0, pos := _, after := #[{ on := 8, ground := Go.Ground.data }], guard := none }) (v := ?vv10) (by kernel_rfl) (by kernel_rfl) rfl (by kernel_rfl) (by kernel_rfl) (by kernel_rfl) (fun _ _ _ h => h) (Or.inl ⟨by rfl, ?hy10⟩) (by assumption) ?tk10
  case hy10 => (intro w hSw; (try dsimp only at hSw); go_simp; (try with_reducible rfl))
  try simp only [Act.put, List.setIfInBounds_toArray, List.set_cons_zero, List.set_cons_succ]
  refine AnyL.take2 (i := 10) (oi := { dst := some 86, op := Go.Op.indexAddr 166 (Go.Operand.tmp 85) (Go.Operand.tmp 78), type := 0, pos := _, after := #[{ on := 9, ground := Go.Ground.data }, { on := 2, ground := Go.Ground.data }, { on := 0, ground := Go.Ground.phase }, { on := 1, ground := Go.Ground.phase }, { on := 2, ground := Go.Ground.phase }, { on := 3, ground := Go.Ground.phase }, { on := 4, ground := Go.Ground.phase }, { on := 5, ground := Go.Ground.phase }, { on := 6, ground := Go.Ground.phase }, { on := 7, ground := Go.Ground.phase }], guard := none }) (v := ?vv11) (by kernel_rfl) (by kernel_rfl) rfl (by kernel_rfl) (by kernel_rfl) (by kernel_rfl) (fun _ _ _ h => h) (Or.inl ⟨by rfl, ?hy11⟩) (by assumption) ?tk11
  case hy11 => (intro w hSw; (try dsimp only at hSw); go_simp; (try with_reducible rfl))
  try simp only [Act.put, List.setIfInBounds_toArray, List.set_cons_zero, List.set_cons_succ]
  refine AnyL.last (o := { dst := none, op := Go.Op.store 28 (Go.Operand.tmp 86) (Go.Operand.tmp 83), type := 0, pos := _, after := #[{ on := 10, ground := Go.Ground.data }, { on := 7, ground := Go.Ground.data }, { on := 0, ground := Go.Ground.phase }, { on := 1, ground := Go.Ground.phase }, { on := 2, ground := Go.Ground.phase }, { on := 3, ground := Go.Ground.phase }, { on := 4, ground := Go.Ground.phase }, { on := 5, ground := Go.Ground.phase }, { on := 6, ground := Go.Ground.phase }, { on := 7, ground := Go.Ground.phase }], guard := none }) (by kernel_rfl) rfl (by kernel_rfl) (fun K' hK' => ?_)
  go_simp
  clear hHeld
  refine hK'.out _ _ ?_
  clear hK' K'
  try simp only [Act.put, List.setIfInBounds_toArray, List.set_cons_zero, List.set_cons_succ]
  go_end0
  have H2 := H1.drew.putC hkk (inc64 cv)
  exact ⟨rfl, by rw [← HCV.out]; exact H2, (W1.drew).set (.inl rfl)⟩
end Go.Proofs.Qxb6500877aGreatDoor
