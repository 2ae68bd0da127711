import Derived.Test.Qxb6500877aGreatDoorQl
import Derived.Test.Qxb6500877aGreatDoorQm
import Derived.Test.Qxb6500877aGreatDoorPXf
import Derived.Test.Qxb6500877aGreatDoorPMl
set_option linter.unusedVariables false
set_option linter.unusedSimpArgs false
namespace Go.Proofs.Qxb6500877aGreatDoor
open Go.RowKit

structure RgAt (w : World) (b : Nat) (c co tk tm : Int) (hm : Bool) (m : MsgV) (p : Option Addr) (a n : Nat) : Prop where
  c0 : w.cell? ⟨b, 0, none⟩ = some (.int .i64 c)
  c1 : w.cell? ⟨b, 1, none⟩ = some (.int .i64 co)
  c2 : w.cell? ⟨b, 2, none⟩ = some (.int .i64 tk)
  c3 : w.cell? ⟨b, 3, none⟩ = some (.int .u64 tm)
  c4 : w.cell? ⟨b, 4, none⟩ = some (.bool hm)
  m0 : w.cell? ⟨b, 5, none⟩ = some (.int .i64 m.mf)
  m1 : w.cell? ⟨b, 6, none⟩ = some (.int .i64 m.mt)
  m2 : w.cell? ⟨b, 7, none⟩ = some (.int .u32 m.md)
  m3 : w.cell? ⟨b, 8, none⟩ = some (.int .u64 m.mq)
  m4 : w.cell? ⟨b, 9, none⟩ = some (.int .u64 m.ma)
  m5 : w.cell? ⟨b, 10, none⟩ = some (.int .u64 m.x0)
  m6 : w.cell? ⟨b, 11, none⟩ = some (.int .u64 m.x1)
  m7 : w.cell? ⟨b, 12, none⟩ = some (.int .u64 m.x2)
  m8 : w.cell? ⟨b, 13, none⟩ = some (.int .u64 m.x3)
  c14 : w.cell? ⟨b, 14, none⟩ = some (.slice p a n)
theorem RgAt.blk {w w' : World} {b : Nat} {c co tk tm : Int} {hm : Bool} {m : MsgV} {p : Option Addr} {a n : Nat} (h : RgAt w b c co tk tm hm m p a n) (e : w'.heap[b]? = w.heap[b]?) : RgAt w' b c co tk tm hm m p a n :=
  ⟨(World.cell?_of_block (a := ⟨b, 0, none⟩) e).trans h.c0, (World.cell?_of_block (a := ⟨b, 1, none⟩) e).trans h.c1, (World.cell?_of_block (a := ⟨b, 2, none⟩) e).trans h.c2, (World.cell?_of_block (a := ⟨b, 3, none⟩) e).trans h.c3, (World.cell?_of_block (a := ⟨b, 4, none⟩) e).trans h.c4, (World.cell?_of_block (a := ⟨b, 5, none⟩) e).trans h.m0, (World.cell?_of_block (a := ⟨b, 6, none⟩) e).trans h.m1, (World.cell?_of_block (a := ⟨b, 7, none⟩) e).trans h.m2, (World.cell?_of_block (a := ⟨b, 8, none⟩) e).trans h.m3, (World.cell?_of_block (a := ⟨b, 9, none⟩) e).trans h.m4, (World.cell?_of_block (a := ⟨b, 10, none⟩) e).trans h.m5, (World.cell?_of_block (a := ⟨b, 11, none⟩) e).trans h.m6, (World.cell?_of_block (a := ⟨b, 12, none⟩) e).trans h.m7, (World.cell?_of_block (a := ⟨b, 13, none⟩) e).trans h.m8, (World.cell?_of_block (a := ⟨b, 14, none⟩) e).trans h.c14⟩
theorem RgAt.lt {w : World} {b : Nat} {c co tk tm : Int} {hm : Bool} {m : MsgV} {p : Option Addr} {a n : Nat} (h : RgAt w b c co tk tm hm m p a n) : b < w.heap.size := World.block_lt_of_cell? _ _ h.c0
theorem rg_new (w : World) (c co tk tm : Int) (hm : Bool) (m : MsgV) (p : Option Addr) (a n : Nat) (t : TypeId) : RgAt (w.alloc (.cells #[.int .i64 c, .int .i64 co, .int .i64 tk, .int .u64 tm, .bool hm, .int .i64 m.mf, .int .i64 m.mt, .int .u32 m.md, .int .u64 m.mq, .int .u64 m.ma, .int .u64 m.x0, .int .u64 m.x1, .int .u64 m.x2, .int .u64 m.x3, .slice p a n] t)) w.heap.size c co tk tm hm m p a n := by
  refine ⟨?_, ?_, ?_, ?_, ?_, ?_, ?_, ?_, ?_, ?_, ?_, ?_, ?_, ?_, ?_⟩ <;> simp
theorem Mach.blocks {w w' : World} {B mb t k : Nat} {ν : Net} {τ : TSt} {σ : Sg} (h : Mach w B mb t k ν τ σ) (hk : ∀ q, q ≤ 2 ∨ q = B ∨ q = mb → w'.heap[q]? = w.heap[q]?) : Mach w' B mb t k ν τ σ := by
  have eB := hk B (by omega)
  have em := hk mb (by omega)
  have e0 := hk 0 (by omega)
  have e2 := hk 2 (by omega)
  have cB : ∀ o, w'.cell? ⟨B, o, none⟩ = w.cell? ⟨B, o, none⟩ := fun o => World.cell?_of_block (a := ⟨B, o, none⟩) eB
  have fB : ∀ o, w'.frozen? ⟨B, o, none⟩ = w.frozen? ⟨B, o, none⟩ := fun o => World.frozen?_of_block (a := ⟨B, o, none⟩) eB
  have c0 : ∀ o, w'.cell? ⟨0, o, none⟩ = w.cell? ⟨0, o, none⟩ := fun o => World.cell?_of_block (a := ⟨0, o, none⟩) e0
  have c2 : ∀ o, w'.cell? ⟨2, o, none⟩ = w.cell? ⟨2, o, none⟩ := fun o => World.cell?_of_block (a := ⟨2, o, none⟩) e2
  obtain ⟨s, L, fr, f, T, I, q1, q2, q3⟩ := h.tim
  obtain ⟨N, K⟩ := h.net
  obtain ⟨C, O⟩ := h.sch
  have hv := h.vac
  refine ⟨by rw [cB]; exact h.clk, h.tlt, ⟨s, L, fr, f, ⟨T.wh.same eB, T.mp.block (by rw [q2]; exact em), T.ne⟩, I, q1, q2, q3⟩, ⟨⟨fun o ho => by rw [cB]; exact N.cell o ho, fun o => by rw [fB]; exact N.frz o⟩, K⟩, ⟨⟨fun o ho => by rw [cB]; exact C.cell o ho, fun o => by rw [fB]; exact C.frz o⟩, O⟩, fun j hj => by rw [cB]; exact h.sts j hj, h.stb, by rw [cB]; exact h.snk, ?_, fun k hk => by rw [c2]; exact h.tab k hk, h.hB, h.hm⟩
  exact ⟨by rw [c0]; exact hv.v0, by rw [c0]; exact hv.v1, by rw [c0]; exact hv.v2, by rw [c0]; exact hv.v3, by rw [c0]; exact hv.v4⟩
theorem StX.keep {w w' : World} {b base : Nat} {D : Nat → Prop} {S : Snap} (h : StX w b base D S) (hs : w.heap.size ≤ w'.heap.size) (hb : w'.heap[b]? = w.heap[b]?) (hk : ∀ k, base ≤ k → k < w.heap.size → w'.heap[k]? = w.heap[k]?) : StX w' b base D S := by
  refine ⟨fun j hj => ?_, ?_⟩
  · obtain ⟨v, h1, h2⟩ := h.ex j hj
    exact ⟨v, (World.cell?_of_block (a := ⟨b, j, none⟩) hb).trans h1, fun q => (h2 q).keep hs hk⟩
  · obtain ⟨cs, h1, h2⟩ := h.row
    exact ⟨cs, hb.trans h1, h2⟩
theorem StAt.keep {w w' : World} {b base : Nat} {S : Snap} (h : StAt w b base S) (hs : w.heap.size ≤ w'.heap.size) (hb : w'.heap[b]? = w.heap[b]?) (hk : ∀ k, base ≤ k → k < w.heap.size → w'.heap[k]? = w.heap[k]?) : StAt w' b base S := StX.keep h hs hb hk
theorem StAt.below {w w' : World} {b base : Nat} {S : Snap} (h : StAt w b base S) (hb : Below w.heap.size w w') : StAt w' b base S := StX.grow h hb.size hb.block
theorem StAt.lt {w : World} {b base : Nat} {S : Snap} (h : StAt w b base S) : b < w.heap.size := StX.lt h
theorem StAt.done {w w' : World} {b base B mb t k : Nat} {ν : Net} {τ : TSt} {σ : Sg} {S : Snap} (h : StAt w b base S) (D : Done w w' B mb t k ν τ σ) (h1 : b ≠ B ∧ b ≠ mb) (h2 : B < base ∧ mb < base) : StAt w' b base S :=
  h.keep D.f.size (D.f.block b h.lt h1.1 h1.2) (fun k hk hl => D.f.block k hl (by omega) (by omega))
theorem one_of {w : World} {base : Nat} {S : Snap} {cs : Array Value} (h : ∀ j u, cs[j]? = some u → SCell w base S j u) : (cs.all fun x => x.oneCell') = true := by
  rw [Array.all_eq_true]
  intro i hi
  exact scell_one (h i _ (Array.getElem?_eq_getElem hi))
/-- A snapshot, laid into a new variable. -/
theorem store61_new (w : World) {cs : Array Value} (hs : cs.size = 123) (h1 : (cs.all fun x => x.oneCell') = true) : (storeVar 61 ⟨w.heap.size, 0, none⟩ (.agg cs)).run Tryz.prog (w.alloc (.cells zero61 61)) = .ok () (w.alloc (.cells cs 61)) :=
  run_storeVar_new w 61 zero61 cs (by rw [hs]; exact sz61) (by rw [zero61_size, hs]) h1
theorem load61 {w : World} {b : Nat} {cs : Array Value} (h : w.heap[b]? = some (.cells cs 61)) (hs : cs.size = 123) : (loadVar 61 ⟨b, 0, none⟩).run Tryz.prog w = .ok (.agg cs) w :=
  run_loadVar_row w b 61 61 cs (0, 0) _ h Tryz.underlying61 rfl (by rw [hs]; exact sz61)
theorem store61 {w : World} {b : Nat} {cs c2 : Array Value} (h : w.heap[b]? = some (.cells c2 61)) (h2 : c2.size = 123) (hs : cs.size = 123) (h1 : (cs.all fun x => x.oneCell') = true) : (storeVar 61 ⟨b, 0, none⟩ (.agg cs)).run Tryz.prog w = .ok () (w.setRow b cs) :=
  run_storeVar_row w b 61 61 c2 cs h (by rw [hs]; exact sz61) (by omega) h1
end Go.Proofs.Qxb6500877aGreatDoor
