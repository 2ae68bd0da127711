import Derived.Test.Qxb6500877aGreatDoorAf
set_option linter.unusedVariables false
set_option linter.unusedSimpArgs false
namespace Go.Proofs.Qxb6500877aGreatDoor
open Go.RowKit

/-- A result variable. -/
def RowR (w : World) (b : Nat) (cs : Array Value) : Prop := w.heap[b]? = some (.cells cs 43 (0, 0))
def resCs (c co tk tm : Int) (hm : Bool) (m : MsgV) (p : Option Addr) (a n : Nat) : Array Value := #[.int .i64 c, .int .i64 co, .int .i64 tk, .int .u64 tm, .bool hm, .int .i64 m.mf, .int .i64 m.mt, .int .u32 m.md, .int .u64 m.mq, .int .u64 m.ma, .int .u64 m.x0, .int .u64 m.x1, .int .u64 m.x2, .int .u64 m.x3, .slice p a n]
theorem RowR.lt {w : World} {b : Nat} {cs : Array Value} (h : RowR w b cs) : b < w.heap.size := (Array.getElem?_eq_some_iff.1 h).1
theorem RowR.blk {w w' : World} {b : Nat} {cs : Array Value} (h : RowR w b cs) (e : w'.heap[b]? = w.heap[b]?) : RowR w' b cs := e.trans h
theorem RowR.cell {w : World} {b : Nat} {cs : Array Value} (h : RowR w b cs) {j : Nat} {v : Value} (hv : cs[j]? = some v) : w.cell? ⟨b, j, none⟩ = some v := by
  unfold RowR at h
  simp [World.cell?, h, hv]
theorem RowR.fz {w : World} {b : Nat} {cs : Array Value} (h : RowR w b cs) (o : Nat) : w.frozen? ⟨b, o, none⟩ = false := by
  unfold RowR at h
  simp [World.frozen?, h]
theorem RowR.set {w : World} {b o : Nat} {v : Value} {cs : Array Value} (h : RowR w b cs) : RowR (w.setCell ⟨b, o, none⟩ v) b (cs.setIfInBounds o v) := by
  unfold RowR at *
  simp only [World.setCell, Array.getElem?_modify]
  simp [h]
theorem RowR.row {w : World} {b : Nat} {cs cs' : Array Value} (h : RowR w b cs) : RowR (w.setRow b cs') b cs' := by
  unfold RowR at *
  simp only [World.setRow, Array.getElem?_modify]
  simp [h]
theorem RowR.new (w : World) (cs : Array Value) : RowR (w.alloc (.cells cs 43)) w.heap.size cs := heap_alloc_last w _
theorem RowR.load {w : World} {b : Nat} {cs : Array Value} (h : RowR w b cs) (hs : cs.size = 15) : (loadVar 43 ⟨b, 0, none⟩).run Tryz.prog w = .ok (.agg cs) w :=
  run_loadVar_row w b 43 43 cs (0, 0) _ h Tryz.underlying43 rfl (by rw [hs]; exact sz43)
theorem RowR.store {w : World} {b : Nat} {cs c2 : Array Value} (h : RowR w b c2) (h2 : c2.size = 15) (hs : cs.size = 15) (h1 : (cs.all fun x => x.oneCell') = true) : (storeVar 43 ⟨b, 0, none⟩ (.agg cs)).run Tryz.prog w = .ok () (w.setRow b cs) :=
  run_storeVar_row w b 43 43 c2 cs h (by rw [hs]; exact sz43) (by omega) h1
/-- No row of the model lies in block b. -/
def Off (V : Nat → Value) (b : Nat) : Prop := ∀ r, r < 21 → (V r).ownBlock ≠ some b
theorem MdlAt.off {w : World} {D base : Nat} {V : Nat → Value} {m : Mdl} (h : MdlAt w D base V m) {b : Nat} (hb : w.heap.size ≤ b) : Off V b := fun r hr e => by
  have := (h.own r hr).lt b e
  omega
theorem MFr.off {D : Nat} {V V' : Nat → Value} {w w' : World} (h : MFr D V V' w w') {b : Nat} (ho : Off V b) (hb : b < w.heap.size) : Off V' b := fun r hr e => by
  rcases h.rows r b hr e with ⟨s, hs, e'⟩ | e'
  · exact ho s hs e'
  · omega
theorem MFr.keep {D : Nat} {V V' : Nat → Value} {w w' : World} (h : MFr D V V' w w') {b : Nat} (ho : Off V b) (hb : b < w.heap.size) (hD : b ≠ D) : w'.heap[b]? = w.heap[b]? := h.block b hb hD ho
/-- Another block written. -/
theorem MdlAt.other {w : World} {D base : Nat} {V : Nat → Value} {m : Mdl} (h : MdlAt w D base V m) {b o : Nat} {v : Value} (hD : b ≠ D) (ho : Off V b) : MdlAt (w.setCell ⟨b, o, none⟩ v) D base V m :=
  h.keep (by simp) (fun k hk hq => far_set (fun e => by
    subst e
    rcases hq with q | ⟨r, hr, q⟩
    · exact hD q
    · exact ho r hr q))
theorem MdlAt.otherRow {w : World} {D base : Nat} {V : Nat → Value} {m : Mdl} (h : MdlAt w D base V m) {b : Nat} {cs : Array Value} (hD : b ≠ D) (ho : Off V b) : MdlAt (w.setRow b cs) D base V m :=
  h.keep (by rw [setRow_size]; exact Nat.le_refl _) (fun k hk hq => setRow_far (fun e => by
    subst e
    rcases hq with q | ⟨r, hr, q⟩
    · exact hD q
    · exact ho r hr q))
/-- A function of the model at work: its own blocks from n0 on may have been written. -/
structure MW (D : Nat) (V V' : Nat → Value) (w w' : World) : Prop where
  os : w'.os = w.os
  tape : w'.tape = w.tape
  output : w'.output = w.output
  size : w.heap.size ≤ w'.heap.size
  block : ∀ k, k < w.heap.size → k ≠ D → Off V k → w'.heap[k]? = w.heap[k]?
  rows : ∀ r k, r < 21 → (V' r).ownBlock = some k → (∃ s, s < 21 ∧ (V s).ownBlock = some k) ∨ w.heap.size ≤ k
theorem MW.fr {D : Nat} {V V' : Nat → Value} {w w' : World} (h : MW D V V' w w') : MFr D V V' w w' := ⟨h.os, h.tape, h.output, h.size, h.block, h.rows⟩
theorem MFr.mw {D : Nat} {V V' : Nat → Value} {w w' : World} (h : MFr D V V' w w') : MW D V V' w w' := ⟨h.os, h.tape, h.output, h.size, h.block, h.rows⟩
theorem MW.then {D : Nat} {V V' V'' : Nat → Value} {w w1 w2 : World} (h : MW D V V' w w1) (k : MFr D V' V'' w1 w2) : MW D V V'' w w2 := (h.fr.trans k).mw
theorem MW.below {D : Nat} {V V' : Nat → Value} {w w1 w2 : World} (h : MW D V V' w w1) (k : Below w1.heap.size w1 w2) : MW D V V' w w2 := (h.fr.below k).mw
theorem MW.set {D : Nat} {V V' : Nat → Value} {w w1 : World} (h : MW D V V' w w1) {b o : Nat} {v : Value} (hb : w.heap.size ≤ b) : MW D V V' w (w1.setCell ⟨b, o, none⟩ v) :=
  ⟨h.os, h.tape, h.output, by simpa using h.size, fun k hk h1 h2 => (far_set (by omega)).trans (h.block k hk h1 h2), h.rows⟩
theorem MW.row {D : Nat} {V V' : Nat → Value} {w w1 : World} (h : MW D V V' w w1) {b : Nat} {cs : Array Value} (hb : w.heap.size ≤ b) : MW D V V' w (w1.setRow b cs) :=
  ⟨h.os, h.tape, h.output, by rw [setRow_size]; exact h.size, fun k hk h1 h2 => (setRow_far (by omega)).trans (h.block k hk h1 h2), h.rows⟩
def Mdl.setSt (m : Mdl) (j : Nat) (v : Int) : Mdl := { m with st := upd m.st j v }
def Mdl.inc (m : Mdl) (j : Nat) : Mdl := m.setSt j (inc64 (m.st j))
theorem MdlAt.putStat {w : World} {D base : Nat} {V : Nat → Value} {m : Mdl} (h : MdlAt w D base V m) {j : Nat} (hj : j < 28) (v : Int) :
    MdlAt (w.setCell ⟨D, 87 + j, none⟩ (.int .u64 v)) D base V (m.setSt j v) ∧ MFr D V V w (w.setCell ⟨D, 87 + j, none⟩ (.int .u64 v)) := by
  refine h.put (by unfold plainO; omega) ?_ (fun q hq hne => ?_) (fun r _ => ⟨rfl, rfl⟩)
  · unfold Mdl.enc
    rw [if_neg (by omega), if_neg (by omega), if_neg (by omega), if_neg (by omega), show 87 + j - 87 = j by omega]
    show Value.int .u64 (upd m.st j v j) = _
    rw [upd_same]
  · unfold Mdl.enc
    split
    · rfl
    split
    · rfl
    split
    · rfl
    split
    · rfl
    · have e : (m.setSt j v).st (q - 87) = m.st (q - 87) := upd_other _ _ (by unfold plainO at hq; omega)
      rw [e]
end Go.Proofs.Qxb6500877aGreatDoor
