import Derived.Test.Qxb6500877aGreatDoorOe1
set_option linter.unusedVariables false
set_option linter.unusedSimpArgs false
namespace Go.Proofs.Qxb6500877aGreatDoor
open Go.RowKit

def upd {α : Type} (f : Nat → α) (i : Nat) (v : α) : Nat → α := fun j => if j = i then v else f j
theorem upd_same {α : Type} (f : Nat → α) (i : Nat) (v : α) : upd f i v i = v := by simp [upd]
theorem upd_other {α : Type} (f : Nat → α) {i j : Nat} (v : α) (h : j ≠ i) : upd f i v j = f j := by simp [upd, h]
def msg9 (m : MsgV) : List Value := [.int .i64 m.mf, .int .i64 m.mt, .int .u32 m.md, .int .u64 m.mq, .int .u64 m.ma, .int .u64 m.x0, .int .u64 m.x1, .int .u64 m.x2, .int .u64 m.x3]
def msgCells (l : List MsgV) : List Value := l.flatMap msg9
theorem msgCells_snoc (l : List MsgV) (m : MsgV) : msgCells (l ++ [m]) = msgCells l ++ msg9 m := by simp [msgCells]
/-- The abstract model's state. -/
structure Mdl where
  now : Int
  tk : Nat → Int × Int × Int
  wt : Nat → List Nat
  bx : Nat → List MsgV
  ac : Nat → Int
  tm : List TmR
  nx : Int
  st : Nat → Int
/-- Its 21 rows: 4 waiting lists, 16 boxes, the timers: element type, element cells, place in the block. -/
def mRT (r : Nat) : TypeId := if r < 4 then 35 else if r < 20 then 40 else 84
def mRS (r : Nat) : Nat := if r < 4 then 1 else if r < 20 then 9 else 4
def mRO (r : Nat) : Nat := if r < 20 then 49 + r else 85
def Mdl.rn (m : Mdl) (r : Nat) : Nat := if r < 4 then (m.wt r).length else if r < 20 then (m.bx (r - 4)).length else m.tm.length
def Mdl.rc (m : Mdl) (r : Nat) : List Value := if r < 4 then idCells (m.wt r) else if r < 20 then msgCells (m.bx (r - 4)) else tmCells m.tm
def Mdl.enc (m : Mdl) (o : Nat) : Value :=
  if o = 0 then .int .u64 m.now
  else if o < 49 then (if (o - 1) % 3 = 0 then .int .u8 (m.tk ((o - 1) / 3)).1 else if (o - 1) % 3 = 1 then .int .i64 (m.tk ((o - 1) / 3)).2.1 else .int .i64 (m.tk ((o - 1) / 3)).2.2)
  else if o < 85 then .int .u64 (m.ac (o - 69)) else if o = 86 then .int .u64 m.nx else .int .u64 (m.st (o - 87))
/-- The places that hold no slice. -/
def plainO (o : Nat) : Prop := o < 115 ∧ ¬ (49 ≤ o ∧ o < 69) ∧ o ≠ 85
theorem mRO_plain {r o : Nat} (h : r < 21) (ho : plainO o) : mRO r ≠ o := by
  unfold mRO plainO at *
  split <;> omega
theorem mRO_ne {r s : Nat} (h : r < 21) (hs : s < 21) (e : r ≠ s) : mRO r ≠ mRO s := by
  unfold mRO
  split <;> split <;> omega
/-- The model lies in block D; its rows lie in blocks not below base. -/
structure MdlAt (w : World) (D base : Nat) (V : Nat → Value) (m : Mdl) : Prop where
  cell : ∀ o, plainO o → w.cell? ⟨D, o, none⟩ = some (m.enc o)
  sl : ∀ r, r < 21 → w.cell? ⟨D, mRO r, none⟩ = some (V r)
  own : ∀ r, r < 21 → w.ownsRow base (mRT r) (mRS r) (V r) (m.rn r) (m.rc r)
  dis : ∀ r s, r < 21 → s < 21 → r ≠ s → (V r).ownBlock = none ∨ (V r).ownBlock ≠ (V s).ownBlock
  fz : ∀ o, w.frozen? ⟨D, o, none⟩ = false
  lt : D < base
theorem MdlAt.dlt {w : World} {D base : Nat} {V : Nat → Value} {m : Mdl} (h : MdlAt w D base V m) : D < w.heap.size := World.block_lt_of_cell? _ _ (h.cell 0 (by unfold plainO; omega))
/-- What the model's functions leave as it was. -/
structure MFr (D : Nat) (V V' : Nat → Value) (w w' : World) : Prop where
  os : w'.os = w.os
  tape : w'.tape = w.tape
  output : w'.output = w.output
  size : w.heap.size ≤ w'.heap.size
  block : ∀ k, k < w.heap.size → k ≠ D → (∀ r, r < 21 → (V r).ownBlock ≠ some k) → w'.heap[k]? = w.heap[k]?
  rows : ∀ r k, r < 21 → (V' r).ownBlock = some k → (∃ s, s < 21 ∧ (V s).ownBlock = some k) ∨ w.heap.size ≤ k
theorem MFr.refl (D : Nat) (V : Nat → Value) (w : World) : MFr D V V w w := ⟨rfl, rfl, rfl, Nat.le_refl _, fun _ _ _ _ => rfl, fun r k hr hk => .inl ⟨r, hr, hk⟩⟩
theorem MFr.trans {D : Nat} {V V' V'' : Nat → Value} {w w1 w2 : World} (h : MFr D V V' w w1) (k : MFr D V' V'' w1 w2) : MFr D V V'' w w2 :=
  ⟨k.os.trans h.os, k.tape.trans h.tape, k.output.trans h.output, Nat.le_trans h.size k.size, fun q hq h1 h2 => (k.block q (Nat.lt_of_lt_of_le hq h.size) h1 (fun r hr e => by
    rcases h.rows r q hr e with ⟨s, hs, e'⟩ | e'
    · exact h2 s hs e'
    · omega)).trans (h.block q hq h1 h2), fun r q hr e => by
    rcases k.rows r q hr e with ⟨s, hs, e'⟩ | e'
    · exact h.rows s q hs e'
    · exact .inr (Nat.le_trans h.size e')⟩
theorem MFr.below {D : Nat} {V V' : Nat → Value} {w w1 w2 : World} (h : MFr D V V' w w1) (k : Below w1.heap.size w1 w2) : MFr D V V' w w2 :=
  ⟨k.os.trans h.os, k.tape.trans h.tape, k.output.trans h.output, Nat.le_trans h.size k.size, fun q hq h1 h2 => (k.block q (Nat.lt_of_lt_of_le hq h.size)).trans (h.block q hq h1 h2), h.rows⟩
theorem MdlAt.keep {w w' : World} {D base : Nat} {V : Nat → Value} {m : Mdl} (h : MdlAt w D base V m) (hs : w.heap.size ≤ w'.heap.size) (hk : ∀ k, k < w.heap.size → (k = D ∨ ∃ r, r < 21 ∧ (V r).ownBlock = some k) → w'.heap[k]? = w.heap[k]?) : MdlAt w' D base V m := by
  have hD := hk D h.dlt (.inl rfl)
  refine ⟨fun o ho => (World.cell?_of_block (a := ⟨D, o, none⟩) hD).trans (h.cell o ho), fun r hr => (World.cell?_of_block (a := ⟨D, mRO r, none⟩) hD).trans (h.sl r hr), fun r hr => ?_, h.dis, fun o => (World.frozen?_of_block (a := ⟨D, o, none⟩) hD).trans (h.fz o), h.lt⟩
  have ho := h.own r hr
  refine ⟨ho.1, ho.2.imp id ?_⟩
  rintro ⟨g, cap, cur, e, hb, hg, h4⟩
  refine ⟨g, cap, cur, e, hb, ?_, h4⟩
  rw [hk g (ho.lt g (by rw [e]; rfl)).2 (.inr ⟨r, hr, by rw [e]; rfl⟩)]
  exact hg
theorem MdlAt.below {w w' : World} {D base : Nat} {V : Nat → Value} {m : Mdl} (h : MdlAt w D base V m) (hb : Below w.heap.size w w') : MdlAt w' D base V m := h.keep hb.size (fun k hk _ => hb.block k hk)
theorem MdlAt.drew {w : World} {D base : Nat} {V : Nat → Value} {m : Mdl} (h : MdlAt w D base V m) : MdlAt w.drew D base V m := h.below (below_dr (Below.refl _ _))
theorem MFr.drew {D : Nat} {V V' : Nat → Value} {w w1 : World} (h : MFr D V V' w w1) : MFr D V V' w w1.drew := h.below (below_dr (Below.refl _ _))
/-- A plain place written. -/
theorem MdlAt.put {w : World} {D base : Nat} {V : Nat → Value} {m m' : Mdl} (h : MdlAt w D base V m) {o : Nat} {v : Value} (ho : plainO o) (hv : m'.enc o = v) (he : ∀ q, plainO q → q ≠ o → m'.enc q = m.enc q) (hn : ∀ r, r < 21 → m'.rn r = m.rn r ∧ m'.rc r = m.rc r) :
    MdlAt (w.setCell ⟨D, o, none⟩ v) D base V m' ∧ MFr D V V w (w.setCell ⟨D, o, none⟩ v) := by
  have far : ∀ q, q ≠ D → (w.setCell ⟨D, o, none⟩ v).heap[q]? = w.heap[q]? := fun q hq => far_set hq
  have G : w.grownBy (w.setCell ⟨D, o, none⟩ v) (some D) := ⟨rfl, rfl, rfl, by simp, fun k _ hk => far k (fun e => hk (by rw [e]))⟩
  refine ⟨⟨fun q hq => ?_, fun r hr => ?_, fun r hr => ?_, h.dis, fun q => by simpa using h.fz q, h.lt⟩, ⟨rfl, rfl, rfl, by simp, fun k _ hk _ => far k hk, fun r k hr hk => .inl ⟨r, hr, hk⟩⟩⟩
  · by_cases e : q = o
    · subst e; rw [hv]; exact World.cell?_setCell_same _ _ _ (h.cell q hq)
    · rw [he q hq e, World.cell?_setCell_other _ _ _ _ (fun z => e (by simpa using (Addr.mk.inj z).2.1.symm))]
      exact h.cell q hq
  · rw [World.cell?_setCell_other _ _ _ _ (fun z => mRO_plain hr ho (by simpa using (Addr.mk.inj z).2.1.symm))]
    exact h.sl r hr
  · rw [(hn r hr).1, (hn r hr).2]
    refine (h.own r hr).kept G (.inr fun e => ?_)
    have := (h.own r hr).lt D e
    have := h.lt
    omega
/-- A row changed: the world w3 has the new row v', and the place of row r gets it. -/
theorem MdlAt.row {w w3 : World} {D base : Nat} {V : Nat → Value} {m m' : Mdl} {r : Nat} {v' : Value} (h : MdlAt w D base V m) (hr : r < 21) (hg : w.grownBy w3 (V r).ownBlock) (ho : w3.ownsRow base (mRT r) (mRS r) v' (m'.rn r) (m'.rc r)) (hb : v'.ownBlock = (V r).ownBlock ∨ ∃ q, v'.ownBlock = some q ∧ w.heap.size ≤ q)
    (he : ∀ q, plainO q → m'.enc q = m.enc q) (hn : ∀ s, s < 21 → s ≠ r → m'.rn s = m.rn s ∧ m'.rc s = m.rc s) :
    MdlAt (w3.setCell ⟨D, mRO r, none⟩ v') D base (upd V r v') m' ∧ MFr D V (upd V r v') w (w3.setCell ⟨D, mRO r, none⟩ v') := by
  have hlt := h.lt
  have hdl := h.dlt
  have hown : ∀ s, s < 21 → ∀ k, (V s).ownBlock = some k → base ≤ k ∧ k < w.heap.size := fun s hs => (h.own s hs).lt
  have hD3 : w3.heap[D]? = w.heap[D]? := hg.block D hdl (fun e => by have := hown r hr D e.symm; omega)
  have far : ∀ q, q ≠ D → (w3.setCell ⟨D, mRO r, none⟩ v').heap[q]? = w3.heap[q]? := fun q hq => far_set hq
  have G : w3.grownBy (w3.setCell ⟨D, mRO r, none⟩ v') (some D) := ⟨rfl, rfl, rfl, by simp, fun k _ hk => far k (fun e => hk (by rw [e]))⟩
  have c1 : ∀ o, w3.cell? ⟨D, o, none⟩ = w.cell? ⟨D, o, none⟩ := fun o => World.cell?_of_block (a := ⟨D, o, none⟩) hD3
  have nD : ∀ s, s < 21 → (V s).ownBlock ≠ some D := fun s hs e => by have := hown s hs D e; omega
  have nD' : v'.ownBlock ≠ some D := fun e => by
    rcases hb with q | ⟨q, e1, e2⟩
    · exact nD r hr (q.symm.trans e)
    · rw [e1] at e
      have : q = D := Option.some.inj e
      omega
  have nV : ∀ s, s < 21 → s ≠ r → (V s).ownBlock = none ∨ (V s).ownBlock ≠ v'.ownBlock := fun s hs hsr => by
    rcases hb with q | ⟨q, e1, e2⟩
    · rw [q]; exact h.dis s r hs hr hsr
    · rw [e1]
      refine .inr (fun e => ?_)
      have := hown s hs q e
      omega
  refine ⟨⟨fun q hq => ?_, fun s hs => ?_, fun s hs => ?_, fun s q hs hq hsq => ?_, fun o => ?_, hlt⟩, ⟨hg.os, hg.tape, hg.output, by simpa using hg.size, fun k hk hkD hkV => (far k hkD).trans (hg.block k hk (fun e => hkV r hr e.symm)), fun s k hs hk => ?_⟩⟩
  · rw [World.cell?_setCell_other _ _ _ _ (fun z => mRO_plain hr hq (by simpa using (Addr.mk.inj z).2.1)), c1, he q hq]
    exact h.cell q hq
  · by_cases e : s = r
    · subst e; rw [upd_same]; exact World.cell?_setCell_same _ _ _ ((c1 _).trans (h.sl s hs))
    · rw [upd_other _ _ e, World.cell?_setCell_other _ _ _ _ (fun z => mRO_ne hr hs (fun q => e q.symm) (by simpa using (Addr.mk.inj z).2.1)), c1]
      exact h.sl s hs
  · by_cases e : s = r
    · subst e
      rw [upd_same]
      exact ho.kept G (.inr nD')
    · rw [upd_other _ _ e, (hn s hs e).1, (hn s hs e).2]
      refine ((h.own s hs).kept hg ?_).kept G (.inr (nD s hs))
      exact h.dis s r hs hr e
  · by_cases e1 : s = r
    · subst e1
      rw [upd_same, upd_other _ _ (fun q => hsq q.symm)]
      rcases nV q hq (fun z => hsq z.symm) with z | z
      · by_cases e : v'.ownBlock = none
        · exact .inl e
        · exact .inr (fun y => e (y.trans z))
      · exact .inr (fun y => z y.symm)
    · rw [upd_other _ _ e1]
      by_cases e2 : q = r
      · subst e2; rw [upd_same]; exact nV s hs e1
      · rw [upd_other _ _ e2]; exact h.dis s q hs hq hsq
  · rw [World.frozen?_setCell, World.frozen?_of_block (a := ⟨D, o, none⟩) hD3]
    exact h.fz o
  · by_cases e : s = r
    · subst e
      rw [upd_same] at hk
      rcases hb with q | ⟨q, e1, e2⟩
      · exact .inl ⟨s, hs, q.symm.trans hk⟩
      · rw [e1] at hk
        have : q = k := Option.some.inj hk
        exact .inr (by omega)
    · rw [upd_other _ _ e] at hk
      exact .inl ⟨s, hs, hk⟩
end Go.Proofs.Qxb6500877aGreatDoor
