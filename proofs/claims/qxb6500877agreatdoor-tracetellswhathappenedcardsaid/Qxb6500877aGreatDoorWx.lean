import Derived.Test.Qxb6500877aGreatDoorWr
import Derived.Test.Qxb6500877aGreatDoorNc
set_option linter.unusedVariables false
set_option linter.unusedSimpArgs false
namespace Go.Proofs.Qxb6500877aGreatDoor
open Go.RowKit

/-- Four cells at a block's head, that may be written: a timer. -/
structure Four (w : World) (b : Nat) (a c d k : Int) : Prop where
  c0 : w.cell? ⟨b, 0, none⟩ = some (.int .u64 a)
  c1 : w.cell? ⟨b, 1, none⟩ = some (.int .i64 c)
  c2 : w.cell? ⟨b, 2, none⟩ = some (.int .u64 d)
  c3 : w.cell? ⟨b, 3, none⟩ = some (.int .u64 k)
  fz : ∀ o, w.frozen? ⟨b, o, none⟩ = false
theorem Four.of_block {w w' : World} {b : Nat} {a c d k : Int} (h : Four w b a c d k) (e : w'.heap[b]? = w.heap[b]?) : Four w' b a c d k :=
  ⟨(World.cell?_of_block (a := ⟨b, 0, none⟩) e).trans h.c0, (World.cell?_of_block (a := ⟨b, 1, none⟩) e).trans h.c1, (World.cell?_of_block (a := ⟨b, 2, none⟩) e).trans h.c2, (World.cell?_of_block (a := ⟨b, 3, none⟩) e).trans h.c3, fun o => (World.frozen?_of_block (a := ⟨b, o, none⟩) e).trans (h.fz o)⟩
theorem Four.lt {w : World} {b : Nat} {a c d k : Int} (h : Four w b a c d k) : b < w.heap.size := World.block_lt_of_cell? _ _ h.c0
theorem Four.mut {w w' : World} {b B lo hi : Nat} {a c d k : Int} (h : Four w b a c d k) (M : Mut B lo hi w w') (hne : b ≠ B) : Four w' b a c d k := h.of_block (M.block b h.lt hne)
theorem Four.mut2 {w w' : World} {b B lo hi m : Nat} {a c d k : Int} (h : Four w b a c d k) (M : Mut2 B lo hi m w w') (hne : b ≠ B) (hm : b ≠ m) : Four w' b a c d k := h.of_block (M.block b h.lt hne hm)
def timerV (a c d k : Int) : Value := .agg #[.int .u64 a, .int .i64 c, .int .u64 d, .int .u64 k]
theorem four_new (w : World) (a c d k : Int) (t : TypeId) : Four (w.alloc (.cells #[.int .u64 a, .int .i64 c, .int .u64 d, .int .u64 k] t)) w.heap.size a c d k := by
  refine ⟨?_, ?_, ?_, ?_, fun o => ?_⟩ <;> simp
theorem Mut2.fresh {b lo hi m : Nat} {w w' : World} (h : Mut2 b lo hi m w w') (q : Addr) (hq : w.heap.size ≤ q.block ∧ q.block ≠ b) (v : Value) : Mut2 b lo hi m w (w'.setCell q v) :=
  ⟨h.os, h.tape, h.output, by simpa using h.size, fun k hk hb hm => by
    rw [← h.block k hk hb hm]
    simp only [World.setCell, Array.getElem?_modify]
    rw [if_neg (by omega)], fun o => by rw [← h.frz o]; exact World.frozen?_setCell _ _ _ _, fun o ho => by rw [← h.cell o ho]; exact World.cell?_setCell_far _ _ _ _ hq.2⟩
theorem TimersAt.other {w : World} {B n : Nat} {s : Wheel} {f : Int → Option Int} (h : TimersAt w B n s f) (q : Addr) (hq : q.block ≠ B ∧ q.block ≠ s.mb) (v : Value) : TimersAt (w.setCell q v) B n s f :=
  ⟨h.wh.other q hq.1 v, h.mp.cell (fun e => hq.2 e.symm) v, h.ne⟩
theorem TimersAt.below {w w' : World} {B n : Nat} {s : Wheel} {f : Int → Option Int} (h : TimersAt w B n s f) (hb : Below w.heap.size w w') : TimersAt w' B n s f := by
  have hlt : B < w.heap.size := World.block_lt_of_cell? _ _ h.wh.one.1
  have M : Mut B 0 0 w w' := Mut.of_below hb hlt
  exact ⟨⟨fun o ho => by rw [M.cell _ (by omega)]; exact h.wh.cell o ho, fun o => by rw [M.frz]; exact h.wh.frz o⟩, h.mp.mut M h.ne, h.ne⟩

set_option maxHeartbeats 4000000 in
theorem cancel_none {w : World} {B n : Nat} {s : Wheel} {f : Int → Option Int} {id : Int} (T : TimersAt w B n s f) (h0 : 0 ≤ id) (h1 : id < 18446744073709551616) (hf : f id = none) :
    Calls Tryz.prog 141 #[.pointer (some ⟨B, 1, none⟩), .int .u64 id] w fun e w' => e = .returned (.tuple #[timerV 0 0 0 0, .bool false]) ∧ TimersAt w' B n s f ∧ Mut B 0 0 w w' := by
  have hlt : B < w.heap.size := World.block_lt_of_cell? _ _ T.wh.one.1
  have hlm := T.mp.lt
  generalize hW : w.alloc (.cells #[.int .u64 0, .int .i64 0, .int .u64 0, .int .u64 0] 84) = W at *
  have hb0 : Below w.heap.size w W := by rw [← hW]; exact one_alloc _ _
  have F0 : Four W w.heap.size 0 0 0 0 := by rw [← hW]; exact four_new _ _ _ _ _ _
  have TW := T.below hb0
  have M0 : Mut B 0 0 w W := Mut.of_below hb0 hlt
  have hrun := TW.mp.look h0 h1
  rw [hf] at hrun
  have hrun' : (Instr.lookup 161 (.map (some s.mb)) (.int .u64 id) true).run Tryz.prog W = .ok (.tuple #[.int .i16 0, .bool false]) W := hrun
  obtain ⟨_, _, _, _, o4⟩ := TW.wh.one
  obtain ⟨g0, g1, g2, g3, fz⟩ := F0
  clear hrun hf
  go_enter Tryz.func141, Tryz.ntmps141
  go_wp2
  exact bodyPost_ret (v := .tuple #[timerV 0 0 0 0, .bool false]) (by simp [timerV, results, Tryz.results141, go_sem, g0, g1, g2, g3]) rfl
    ⟨rfl, (((TW.other ⟨w.heap.size, 0, none⟩ (by constructor <;> (dsimp only; omega)) _).other ⟨w.heap.size, 1, none⟩ (by constructor <;> (dsimp only; omega)) _).other ⟨w.heap.size, 2, none⟩ (by constructor <;> (dsimp only; omega)) _).other ⟨w.heap.size, 3, none⟩ (by constructor <;> (dsimp only; omega)) _, (((M0.fresh ⟨w.heap.size, 0, none⟩ (by constructor <;> (dsimp only; omega)) _).fresh ⟨w.heap.size, 1, none⟩ (by constructor <;> (dsimp only; omega)) _).fresh ⟨w.heap.size, 2, none⟩ (by constructor <;> (dsimp only; omega)) _).fresh ⟨w.heap.size, 3, none⟩ (by constructor <;> (dsimp only; omega)) _⟩

end Go.Proofs.Qxb6500877aGreatDoor
