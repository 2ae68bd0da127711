import Derived.Test.Qxb6500877aGreatDoorOc
import Derived.Test.Qxb6500877aGreatDoorOd
import Derived.Test.Qxb6500877aGreatDoorGe
set_option linter.unusedVariables false
set_option linter.unusedSimpArgs false
namespace Go.Proofs.Qxb6500877aGreatDoor
open Go.RowKit

theorem guard48 : Tryz.prog.eqGuardType Tryz.prog.depth 48 = false := by kernel_rfl
theorem task_neq (a b c a' b' c' : Int) (w : World) : (binOp .neq 48 (.agg #[.int .u8 a, .int .i64 b, .int .i64 c]) (.agg #[.int .u8 a', .int .i64 b', .int .i64 c'])).run Tryz.prog w = .ok (.bool (!decide (a = a' ∧ b = b' ∧ c = c'))) w := by
  have hS : Tryz.prog.underlying 48 = some (.struct (Tryz.prog.fieldsOf 48)) := by kernel_rfl
  have hp : Tryz.prog.stoodInHeld 48 = false := by kernel_rfl
  rw [run_neq_struct, show (10000 : Nat) = 9999 + 1 from rfl, run_equalIn_agg w 9999 48 _ _ hS hp]
  simp only [Program.fieldsOf, Tryz.underlying48]
  by_cases q1 : a = a'
  · subst q1
    by_cases q2 : b = b'
    · subst q2
      by_cases q3 : c = c'
      · subst q3; go_simp
      · have e3 : (c == c') = false := by simpa using q3
        go_simp
    · have e2 : (b == b') = false := by simpa using q2
      go_simp
  · have e1 : (a == a') = false := by simpa using q1
    go_simp
theorem held_zero (w : World) : HeldAt (w.alloc (.cells #[.int .i64 0, .int .i64 0, .int .i64 0, .int .i64 0, .int .i64 0, .int .i64 0, .int .i64 0, .int .i64 0, .int .i64 0, .int .i64 0, .int .i64 0, .int .i64 0, .int .i64 0, .int .i64 0, .int .i64 0, .int .i64 0] 74)) w.heap.size (fun _ => 0) := by
  refine ⟨fun i hi => ?_, fun o => by simp⟩
  have : i = 0 ∨ i = 1 ∨ i = 2 ∨ i = 3 ∨ i = 4 ∨ i = 5 ∨ i = 6 ∨ i = 7 ∨ i = 8 ∨ i = 9 ∨ i = 10 ∨ i = 11 ∨ i = 12 ∨ i = 13 ∨ i = 14 ∨ i = 15 := by omega
  rcases this with rfl | rfl | rfl | rfl | rfl | rfl | rfl | rfl | rfl | rfl | rfl | rfl | rfl | rfl | rfl | rfl <;> simp
/-- What the snapshot shows of the scheduler. -/
theorem snap_sched {t : Nat} {ν : Net} {τ : TSt} {σ : Sg} {S : Snap} {Q : Nat → Nat → List Nat} (h : SnapOf t ν τ σ S) (I : SInv σ.s Q 16) : (∀ c, c < 4 → S.q c = preQ (Q c) 4) ∧ (∀ c, S.cur c = σ.s.cur c) ∧ ∀ x, S.tk x = ((σ.s.tk x).st, (σ.s.tk x).home, IntKind.i64.wrap (σ.s.tk x).band) := by
  obtain ⟨Q', l, I', T, rfl⟩ := h
  exact ⟨fun c hc => preQ_four (fun b hb => I'.unique I hc hb), fun _ => rfl, fun _ => rfl⟩
theorem band_wrap {s : Sched} {Q : Nat → Nat → List Nat} (I : SInv s Q 16) {x : Nat} (hx : x < 16) (h0 : (s.tk x).st ≠ 0) : IntKind.i64.wrap (s.tk x).band = (s.tk x).band := by
  rcases I.dom x hx (by omega) with h | ⟨h, b, h1, h2, h3, h4⟩
  · exact absurd h h0
  · rw [h4, IntKind.wrap_i64]; omega
/-- The law's look at a task: has it joined? -/
theorem look_eq {s s' : Sched} {Q Q' : Nat → Nat → List Nat} (I : SInv s Q 16) (I' : SInv s' Q' 16) {x : Nat} (hx : x < 16) (h2 : (s'.tk x).st = 2) :
    (!decide ((s'.tk x).st = (s.tk x).st ∧ (s'.tk x).home = (s.tk x).home ∧ IntKind.i64.wrap (s'.tk x).band = IntKind.i64.wrap (s.tk x).band)) = true ↔ r3 s' x ≠ r3 s x := by
  have e' := band_wrap I' hx (by omega)
  rw [e']
  simp only [r3, ne_eq, Prod.mk.injEq, Bool.not_eq_true', decide_eq_false_iff_not]
  by_cases q : (s'.tk x).st = (s.tk x).st
  · have e := band_wrap I hx (by omega)
    rw [e]
  · simp [q]
/-- The law at work. -/
structure LJ (w0 w : World) (B mb t k : Nat) (ν : Net) (τ : TSt) (σ : Sg) (b4 b5 base : Nat) (S : Snap) (η : Nat → Int) (i : Nat) : Prop where
  m : Mach w B mb t k ν τ σ
  st : StAt w b5 base S
  so : SnapOf t ν τ σ S
  sm : SnapSm S
  hh : HeldAt w b4 η
  od : ∃ Q, SInv σ.s Q 16 ∧ WOrd Q η
  le : ∀ x, x < 16 → η x ≤ i
  b : Below w0.heap.size w0 w
  h0 : 2 < w0.heap.size ∧ w0.heap.size ≤ B ∧ w0.heap.size ≤ mb
  h1 : B < b4 ∧ mb < b4 ∧ b4 < b5 ∧ b4 < base
theorem LJ.keep {w0 w w' : World} {B mb t k : Nat} {ν : Net} {τ : TSt} {σ : Sg} {b4 b5 base : Nat} {S : Snap} {η : Nat → Int} {i : Nat} (h : LJ w0 w B mb t k ν τ σ b4 b5 base S η i) (hb : Below w.heap.size w w') : LJ w0 w' B mb t k ν τ σ b4 b5 base S η i :=
  ⟨h.m.below hb, h.st.below hb, h.so, h.sm, h.hh.blk (hb.block b4 h.hh.lt), h.od, h.le, below_to h.b hb h.b.size, h.h0, h.h1⟩
/-- A machine, two snapshots and the record of the joinings, behind a step. -/
structure LK (w0 w : World) (B mb t k : Nat) (ν : Net) (τ : TSt) (σ : Sg) (b4 b5 base b9 base9 : Nat) (S S9 : Snap) (cs : Array Value) (η : Nat → Int) : Prop where
  m : Mach w B mb t k ν τ σ
  st : StAt w b5 base S
  s9 : StAt w b9 base9 S9
  r9 : w.heap[b9]? = some (.cells cs 61)
  hh : HeldAt w b4 η
  b : Below w0.heap.size w0 w
theorem LK.keep {w0 w w' : World} {B mb t k : Nat} {ν : Net} {τ : TSt} {σ : Sg} {b4 b5 base b9 base9 : Nat} {S S9 : Snap} {cs : Array Value} {η : Nat → Int} (h : LK w0 w B mb t k ν τ σ b4 b5 base b9 base9 S S9 cs η) (hb : Below w.heap.size w w') : LK w0 w' B mb t k ν τ σ b4 b5 base b9 base9 S S9 cs η :=
  ⟨h.m.below hb, h.st.below hb, h.s9.below hb, (hb.block b9 h.s9.lt).trans h.r9, h.hh.blk (hb.block b4 h.hh.lt), below_to h.b hb h.b.size⟩
theorem LK.drew {w0 w : World} {B mb t k : Nat} {ν : Net} {τ : TSt} {σ : Sg} {b4 b5 base b9 base9 : Nat} {S S9 : Snap} {cs : Array Value} {η : Nat → Int} (h : LK w0 w B mb t k ν τ σ b4 b5 base b9 base9 S S9 cs η) : LK w0 w.drew B mb t k ν τ σ b4 b5 base b9 base9 S S9 cs η := h.keep (below_dr (Below.refl _ _))
theorem LK.same {w0 w : World} {B mb t k : Nat} {ν : Net} {τ : TSt} {σ : Sg} {b4 b5 base b9 base9 : Nat} {S S9 : Snap} {cs : Array Value} {η η' : Nat → Int} (h : LK w0 w B mb t k ν τ σ b4 b5 base b9 base9 S S9 cs η) (e : ∀ i, i < 16 → η' i = η i) : LK w0 w B mb t k ν τ σ b4 b5 base b9 base9 S S9 cs η' := ⟨h.m, h.st, h.s9, h.r9, h.hh.same e, h.b⟩
theorem LK.put {w0 w : World} {B mb t k : Nat} {ν : Net} {τ : TSt} {σ : Sg} {b4 b5 base b9 base9 : Nat} {S S9 : Snap} {cs : Array Value} {η : Nat → Int} (h : LK w0 w B mb t k ν τ σ b4 b5 base b9 base9 S S9 cs η) {i : Nat} (hi : i < 16) (v : Int) (h0 : 2 < w0.heap.size ∧ w0.heap.size ≤ B ∧ w0.heap.size ≤ mb) (h1 : B < b4 ∧ mb < b4 ∧ b4 < b5 ∧ b4 < base) (h2 : b4 < b9 ∧ b4 < base9) :
    LK w0 (w.setCell ⟨b4, i, none⟩ (.int .i64 v)) B mb t k ν τ σ b4 b5 base b9 base9 S S9 cs (fun j => if j = i then v else η j) := by
  have far : ∀ q, q ≠ b4 → (w.setCell ⟨b4, i, none⟩ (.int .i64 v)).heap[q]? = w.heap[q]? := fun q hq => by
    simp only [World.setCell, Array.getElem?_modify]
    rw [if_neg (fun e => hq e.symm)]
  have sz : w.heap.size ≤ (w.setCell ⟨b4, i, none⟩ (.int .i64 v)).heap.size := by simp
  exact ⟨h.m.blocks (fun q hq => far q (by omega)), h.st.keep sz (far b5 (by omega)) (fun k hk _ => far k (by omega)), h.s9.keep sz (far b9 (by omega)) (fun k hk _ => far k (by omega)), (far b9 (by omega)).trans h.r9, h.hh.put hi v, below_cell h.b _ (by show w0.heap.size ≤ b4; omega) _⟩
theorem LK.turn {w0 w : World} {B mb t k : Nat} {ν : Net} {τ : TSt} {σ : Sg} {b4 b5 base b9 base9 : Nat} {S S9 : Snap} {cs : Array Value} {η : Nat → Int} {i : Nat} (h : LK w0 w B mb t k ν τ σ b4 b5 base b9 base9 S S9 cs η) (hz : cs.size = 123) (h0 : 2 < w0.heap.size ∧ w0.heap.size ≤ B ∧ w0.heap.size ≤ mb) (h1 : B < b4 ∧ mb < b4 ∧ b4 < b5 ∧ b4 < base) (h2 : b4 < b9 ∧ b4 < base9) (h59 : b5 < base9) (so : SnapOf t ν τ σ S9 ∧ SnapSm S9) (od : ∃ Q, SInv σ.s Q 16 ∧ WOrd Q η) (le : ∀ x, x < 16 → η x ≤ (i : Nat)) :
    LJ w0 (w.setRow b5 cs) B mb t k ν τ σ b4 b5 base9 S9 η i :=
  ⟨h.m.blocks (fun q hq => setRow_far (by omega)), stat_copy h.s9 h.r9 hz h.st h59, so.1, so.2, h.hh.blk (setRow_far (by omega)), od, le, ⟨h.b.os, h.b.tape, h.b.output, by rw [setRow_size]; exact h.b.size, fun q hq => (setRow_far (by omega)).trans (h.b.block q hq)⟩, h0, ⟨h1.1, h1.2.1, h1.2.2.1, h2.2⟩⟩
end Go.Proofs.Qxb6500877aGreatDoor
