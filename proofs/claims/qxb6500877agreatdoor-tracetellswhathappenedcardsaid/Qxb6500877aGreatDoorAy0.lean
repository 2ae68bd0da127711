import Derived.Deep.CutBlock
import Derived.OwnWalk
import Derived.Maps.AppendAt
import Derived.Test.Qxb6500877aGreatDoorAv
import Derived.Test.Qxb6500877aGreatDoorZh
import Derived.Test.Qxb6500877aGreatDoorAx
set_option linter.unusedVariables false
set_option linter.unusedSimpArgs false
namespace Go.Proofs.Qxb6500877aGreatDoor
open Go.RowKit

/-- A state of the model being made. -/
structure SB (w wr : World) (b2 b3 base : Nat) (D : Nat → Prop) (n : Nat) (S : Snap) : Prop where
  x : StX wr b3 base D S
  r : ∃ cs : Array Value, wr.heap[b2]? = some (.cells cs 61) ∧ cs.size = 123
  b : Below w.heap.size w wr
  s : base ≤ wr.heap.size
  q : ∀ c, n ≤ c → c < 4 → wr.cell? ⟨b3, 49 + c * 10 + 1, none⟩ = some (.slice none 0 0)
theorem SB.put {w wr : World} {b2 b3 base n j : Nat} {D : Nat → Prop} {S : Snap} {v : Value} (h : SB w wr b2 b3 base D n S) (hb : w.heap.size ≤ b2 ∧ b2 < b3 ∧ b3 < base) (hj : j < 123) (hv : SCell wr base S j v) (D' : Nat → Prop) (hD : ∀ i, i < 123 → D' i → D i ∨ i = j) (hq : ∀ c, n ≤ c → c < 4 → j ≠ 49 + c * 10 + 1) : SB w (wr.setCell ⟨b3, j, none⟩ v) b2 b3 base D' n S := by
  refine ⟨h.x.put hb.2.2 hj hv D' hD, ?_, below_cell h.b ⟨b3, j, none⟩ (by show w.heap.size ≤ b3; omega) v, by simpa using h.s, fun c h1 h2 => ?_⟩
  · obtain ⟨cs, h1, h2⟩ := h.r
    exact ⟨cs, by simp only [World.setCell, Array.getElem?_modify]; rw [if_neg (by omega)]; exact h1, h2⟩
  · have := hq c h1 h2
    rw [World.cell?_setCell_other _ _ _ _ (by simp <;> omega)]
    exact h.q c h1 h2
theorem SB.grow {w wr w' : World} {b2 b3 base n : Nat} {D : Nat → Prop} {S : Snap} (h : SB w wr b2 b3 base D n S) (hb : Below wr.heap.size wr w') : SB w w' b2 b3 base D n S := by
  refine ⟨h.x.grow hb.size hb.block, ?_, h.b.trans (hb.mono h.b.size), Nat.le_trans h.s hb.size, fun c h1 h2 => (World.cell?_of_block (a := ⟨b3, 49 + c * 10 + 1, none⟩) (hb.block b3 h.x.lt)).trans (h.q c h1 h2)⟩
  obtain ⟨cs, h1, h2⟩ := h.r
  have hlt : b2 < wr.heap.size := by
    by_cases q : b2 < wr.heap.size
    · exact q
    · rw [Array.getElem?_eq_none (by omega)] at h1; simp at h1
  exact ⟨cs, (hb.block b2 hlt).trans h1, h2⟩
theorem SB.mono {w wr : World} {b2 b3 base n n' : Nat} {D D' : Nat → Prop} {S : Snap} (h : SB w wr b2 b3 base D n S) (hD : ∀ i, i < 123 → D' i → D i) (hn : n ≤ n') : SB w wr b2 b3 base D' n' S :=
  ⟨⟨fun j hj => by
    obtain ⟨v, h1, h2⟩ := h.x.ex j hj
    exact ⟨v, h1, fun q => h2 (hD j hj q)⟩, h.x.row⟩, h.r, h.b, h.s, fun c h1 h2 => h.q c (by omega) h2⟩
theorem zq0 : zero61[50]? = some (.slice none 0 0) := by kernel_rfl
theorem zq1 : zero61[60]? = some (.slice none 0 0) := by kernel_rfl
theorem zq2 : zero61[70]? = some (.slice none 0 0) := by kernel_rfl
theorem zq3 : zero61[80]? = some (.slice none 0 0) := by kernel_rfl
theorem zero61_q {c : Nat} (hc : c < 4) : zero61[49 + c * 10 + 1]? = some (.slice none 0 0) := by
  have h : c = 0 ∨ c = 1 ∨ c = 2 ∨ c = 3 := by omega
  rcases h with rfl | rfl | rfl | rfl
  · exact zq0
  · exact zq1
  · exact zq2
  · exact zq3
/-- A row of the state grows: W the world in which the rest of it was last looked at. -/
structure SF (w W wr : World) (b2 b3 base : Nat) (D : Nat → Prop) (n : Nat) (S : Snap) (j0 : Nat) (l : List Nat) : Prop where
  ex : ∀ j, j < 123 → ∃ v, wr.cell? ⟨b3, j, none⟩ = some v ∧ (D j → SCell W base S j v)
  row : ∃ cs : Array Value, wr.heap[b3]? = some (.cells cs 61) ∧ cs.size = 123
  far : ∀ k, base ≤ k → k < W.heap.size → wr.heap[k]? = W.heap[k]?
  sz : W.heap.size ≤ wr.heap.size
  r : ∃ cs : Array Value, wr.heap[b2]? = some (.cells cs 61) ∧ cs.size = 123
  b : Below w.heap.size w wr
  q : ∀ c, n ≤ c → c < 4 → wr.cell? ⟨b3, 49 + c * 10 + 1, none⟩ = some (.slice none 0 0)
  own : ∃ p cap, wr.cell? ⟨b3, j0, none⟩ = some (.slice p l.length cap) ∧ wr.ownsRow W.heap.size 35 1 (.slice p l.length cap) l.length (idCells l)
theorem SB.start {w W : World} {b2 b3 base n n' j0 : Nat} {D : Nat → Prop} {S : Snap} (h : SB w W b2 b3 base D n S) (hn : n ≤ n') (h0 : W.cell? ⟨b3, j0, none⟩ = some (.slice none 0 0)) : SF w W W b2 b3 base D n' S j0 [] :=
  ⟨h.x.ex, h.x.row, fun _ _ _ => rfl, Nat.le_refl _, h.r, h.b, fun c h1 h2 => h.q c (by omega) h2, none, 0, h0, World.ownsRow_nil _ _ _ _⟩
theorem SF.fz {w W wr : World} {b2 b3 base n j0 : Nat} {D : Nat → Prop} {S : Snap} {l : List Nat} (h : SF w W wr b2 b3 base D n S j0 l) (o : Nat) : wr.frozen? ⟨b3, o, none⟩ = false := by
  obtain ⟨cs, h1, h2⟩ := h.row
  simp [World.frozen?, h1]
theorem row_lt {w : World} {b : Nat} {cs : Array Value} {t : TypeId} (h : w.heap[b]? = some (.cells cs t)) : b < w.heap.size := (Array.getElem?_eq_some_iff.1 h).1
theorem SF.push {w W wr w3 : World} {b2 b3 base n j0 t : Nat} {D : Nat → Prop} {S : Snap} {l : List Nat} {p p' : Option Addr} {cap c' : Nat} (h : SF w W wr b2 b3 base D n S j0 l) (hb : w.heap.size ≤ b2 ∧ b2 < b3 ∧ b3 < base) (hW : base ≤ W.heap.size) (hnD : ¬ D j0) (hj : j0 < 123) (hq : ∀ c, n ≤ c → c < 4 → j0 ≠ 49 + c * 10 + 1)
    (hp : wr.ownsRow W.heap.size 35 1 (.slice p l.length cap) l.length (idCells l)) (hg : wr.grownBy w3 (Value.slice p l.length cap).ownBlock) (ho : w3.ownsRow W.heap.size 35 1 (.slice p' (l.length + 1) c') (l.length + 1) (idCells l ++ [.int .i64 (t : Int)])) :
    SF w W (w3.setCell ⟨b3, j0, none⟩ (.slice p' (l.length + 1) c')) b2 b3 base D n S j0 (l ++ [t]) := by
  have hs := h.sz
  have low : ∀ q, (Value.slice p l.length cap).ownBlock = some q → W.heap.size ≤ q := fun q e => (hp.lt q e).1
  have h3 : w3.heap[b3]? = wr.heap[b3]? := hg.block b3 (by omega) (fun e => by have := low _ e.symm; omega)
  have h2 : w3.heap[b2]? = wr.heap[b2]? := hg.block b2 (by omega) (fun e => by have := low _ e.symm; omega)
  have far : ∀ q, q ≠ b3 → (w3.setCell ⟨b3, j0, none⟩ (.slice p' (l.length + 1) c')).heap[q]? = w3.heap[q]? := fun q hq => far_set hq
  have c3 : ∀ j, j ≠ j0 → (w3.setCell ⟨b3, j0, none⟩ (.slice p' (l.length + 1) c')).cell? ⟨b3, j, none⟩ = wr.cell? ⟨b3, j, none⟩ := fun j hne => by
    rw [World.cell?_setCell_other _ _ _ _ (by simp <;> omega)]
    exact World.cell?_of_block (a := ⟨b3, j, none⟩) h3
  have cj : (w3.setCell ⟨b3, j0, none⟩ (.slice p' (l.length + 1) c')).cell? ⟨b3, j0, none⟩ = some (.slice p' (l.length + 1) c') := by
    obtain ⟨v, hv, _⟩ := h.ex j0 hj
    exact World.cell?_setCell_same _ _ _ ((World.cell?_of_block (a := ⟨b3, j0, none⟩) h3).trans hv)
  have G : w3.grownBy (w3.setCell ⟨b3, j0, none⟩ (.slice p' (l.length + 1) c')) (some b3) := ⟨rfl, rfl, rfl, by simp, fun k _ hk => far k (fun e => hk (by rw [e]))⟩
  have bb := h.b
  refine ⟨fun j hjj => ?_, ?_, fun k h1 h2 => ?_, ?_, ?_, ?_, fun c h1 h2 => ?_, p', c', ?_, ?_⟩
  · by_cases e : j = j0
    · subst e
      exact ⟨_, cj, fun q => absurd q hnD⟩
    · obtain ⟨v, hv, hd⟩ := h.ex j hjj
      exact ⟨v, (c3 j e).trans hv, hd⟩
  · obtain ⟨cs, e1, e2⟩ := h.row
    refine ⟨cs.setIfInBounds j0 (.slice p' (l.length + 1) c'), ?_, by simpa using e2⟩
    simp only [World.setCell, Array.getElem?_modify]
    rw [if_pos trivial, h3, e1]
    rfl
  · rw [far k (by omega), hg.block k (by omega) (fun e => by have := low _ e.symm; omega)]
    exact h.far k h1 h2
  · have := hg.size
    simp
    omega
  · obtain ⟨cs, e1, e2⟩ := h.r
    exact ⟨cs, by rw [far b2 (by omega), h2]; exact e1, e2⟩
  · refine below_cell ⟨hg.os.trans bb.os, hg.tape.trans bb.tape, hg.output.trans bb.output, Nat.le_trans bb.size hg.size, fun k hk => (hg.block k (by have := bb.size; omega) (fun e => by have := low _ e.symm; omega)).trans (bb.block k hk)⟩ ⟨b3, j0, none⟩ (by show w.heap.size ≤ b3; omega) _
  · rw [c3 _ (fun e => hq c h1 h2 e.symm)]
    exact h.q c h1 h2
  · rw [List.length_append]; exact cj
  · rw [List.length_append, show idCells (l ++ [t]) = idCells l ++ [.int .i64 (t : Int)] by simp [idCells]]
    exact ho.kept G (.inr (fun e => by have := (ho.lt b3 e).1; omega))
theorem SF.done {w W wr : World} {b2 b3 base n j0 : Nat} {D D' : Nat → Prop} {S : Snap} {l : List Nat} (h : SF w W wr b2 b3 base D n S j0 l) (hW : base ≤ W.heap.size) (hv : ∀ v, IdsAt wr base v l → SCell wr base S j0 v) (hD : ∀ i, i < 123 → D' i → D i ∨ i = j0) : SB w wr b2 b3 base D' n S := by
  refine ⟨⟨fun j hj => ?_, h.row⟩, h.r, h.b, Nat.le_trans hW h.sz, h.q⟩
  obtain ⟨v, e1, e2⟩ := h.ex j hj
  refine ⟨v, e1, fun q => ?_⟩
  rcases hD j hj q with q | q
  · exact (e2 q).keep h.sz h.far
  · subst q
    obtain ⟨p, cap, e3, e4⟩ := h.own
    rw [e3] at e1
    cases e1
    exact hv _ ((ids_own e4).wide hW)
def mS (m : Mdl) (cu : Nat → Int) (l : List TmR) : Snap :=
  ⟨m.now, m.tk, cu, fun c => preQ (fun b => (m.wt c).filter (fun u => decide ((m.tk u).2.2 = (b : Int)))) 4, fun c => ((homeN m.tk (c : Int) 16 : Nat) : Int), m.st, m.bx, m.ac, l, m.nx⟩
theorem scell_tm {w : World} {base j : Nat} {m : Mdl} {cu : Nat → Int} {l l' : List TmR} {v : Value} (h : SCell w base (mS m cu l) j v) (hj : j ≠ 121) : SCell w base (mS m cu l') j v := by
  unfold SCell at h ⊢
  rw [if_neg hj] at h ⊢
  exact h
end Go.Proofs.Qxb6500877aGreatDoor
