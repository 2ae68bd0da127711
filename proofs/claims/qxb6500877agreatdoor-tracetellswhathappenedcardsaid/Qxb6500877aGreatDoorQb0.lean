import Derived.Test.Qxb6500877aGreatDoorQa
import Derived.Test.Qxb6500877aGreatDoorNd
set_option linter.unusedVariables false
set_option linter.unusedSimpArgs false
namespace Go.Proofs.Qxb6500877aGreatDoor
open Go.RowKit

/-- A message at an offset of a block. -/
structure NineO (w : World) (b q : Nat) (m : MsgV) : Prop where
  c0 : w.cell? ⟨b, q, none⟩ = some (.int .i64 m.mf)
  c1 : w.cell? ⟨b, q + 1, none⟩ = some (.int .i64 m.mt)
  c2 : w.cell? ⟨b, q + 2, none⟩ = some (.int .u32 m.md)
  c3 : w.cell? ⟨b, q + 3, none⟩ = some (.int .u64 m.mq)
  c4 : w.cell? ⟨b, q + 4, none⟩ = some (.int .u64 m.ma)
  c5 : w.cell? ⟨b, q + 5, none⟩ = some (.int .u64 m.x0)
  c6 : w.cell? ⟨b, q + 6, none⟩ = some (.int .u64 m.x1)
  c7 : w.cell? ⟨b, q + 7, none⟩ = some (.int .u64 m.x2)
  c8 : w.cell? ⟨b, q + 8, none⟩ = some (.int .u64 m.x3)
theorem NineO.blk {w w' : World} {b q : Nat} {m : MsgV} (h : NineO w b q m) (e : w'.heap[b]? = w.heap[b]?) : NineO w' b q m :=
  ⟨(World.cell?_of_block (a := ⟨b, q, none⟩) e).trans h.c0, (World.cell?_of_block (a := ⟨b, q + 1, none⟩) e).trans h.c1, (World.cell?_of_block (a := ⟨b, q + 2, none⟩) e).trans h.c2, (World.cell?_of_block (a := ⟨b, q + 3, none⟩) e).trans h.c3, (World.cell?_of_block (a := ⟨b, q + 4, none⟩) e).trans h.c4, (World.cell?_of_block (a := ⟨b, q + 5, none⟩) e).trans h.c5, (World.cell?_of_block (a := ⟨b, q + 6, none⟩) e).trans h.c6, (World.cell?_of_block (a := ⟨b, q + 7, none⟩) e).trans h.c7, (World.cell?_of_block (a := ⟨b, q + 8, none⟩) e).trans h.c8⟩
/-- A list of messages in memory, in a block not below base. -/
def MsgsAt (w : World) (base : Nat) (v : Value) (l : List MsgV) : Prop :=
  (l = [] ∧ v = .slice none 0 0) ∨ ∃ g cap, v = .slice (some ⟨g, 0, none⟩) l.length cap ∧ base ≤ g ∧ g < w.heap.size ∧ ∀ j m, l[j]? = some m → NineO w g (j * 9) m
/-- The messages of a box, the oldest first. -/
def boxL (x : BoxS) : List MsgV := (List.range x.n.toNat).map (fun j => x.ring (plc x.head.toNat j))
theorem boxL_get {x : BoxS} {j : Nat} (hj : j < x.n.toNat) : (boxL x)[j]? = some (x.ring (plc x.head.toNat j)) := by simp [boxL, hj]
theorem boxL_len (x : BoxS) : (boxL x).length = x.n.toNat := by simp [boxL]
theorem info40 : (Tryz.prog.info? 40).map (fun i => (i.zero, i.size, i.bytes)) = some (some (.agg #[.int .i64 0, .int .i64 0, .int .u32 0, .int .u64 0, .int .u64 0, .int .u64 0, .int .u64 0, .int .u64 0, .int .u64 0]), 9, 72) := by kernel_rfl
/-- A row of n messages, the first k of them as told. -/
structure RowK (w : World) (g n k : Nat) (f : Nat → MsgV) : Prop where
  ex : ∀ j, j < n * 9 → ∃ v, w.cell? ⟨g, j, none⟩ = some v
  fz : ∀ o, w.frozen? ⟨g, o, none⟩ = false
  pre : ∀ j, j < k → NineO w g (j * 9) (f j)
theorem RowK.one {w : World} {g n k : Nat} {f : Nat → MsgV} (h : RowK w g n k f) (o : Nat) (ho : k * 9 ≤ o) (v : Value) : RowK (w.setCell ⟨g, o, none⟩ v) g n k f := by
  refine ⟨fun j hj => ?_, fun o => by simpa using h.fz o, fun j hj => ?_⟩
  · obtain ⟨u, hu⟩ := h.ex j hj
    by_cases e : j = o
    · subst e; exact ⟨v, World.cell?_setCell_same _ _ _ hu⟩
    · exact ⟨u, by rw [World.cell?_setCell_other _ _ _ _ (by simp <;> omega)]; exact hu⟩
  · have q := h.pre j hj
    exact ⟨by rw [World.cell?_setCell_other _ _ _ _ (by simp <;> omega)]; exact q.c0, by rw [World.cell?_setCell_other _ _ _ _ (by simp <;> omega)]; exact q.c1, by rw [World.cell?_setCell_other _ _ _ _ (by simp <;> omega)]; exact q.c2, by rw [World.cell?_setCell_other _ _ _ _ (by simp <;> omega)]; exact q.c3, by rw [World.cell?_setCell_other _ _ _ _ (by simp <;> omega)]; exact q.c4, by rw [World.cell?_setCell_other _ _ _ _ (by simp <;> omega)]; exact q.c5, by rw [World.cell?_setCell_other _ _ _ _ (by simp <;> omega)]; exact q.c6, by rw [World.cell?_setCell_other _ _ _ _ (by simp <;> omega)]; exact q.c7, by rw [World.cell?_setCell_other _ _ _ _ (by simp <;> omega)]; exact q.c8⟩
theorem RowK.put {w : World} {g n k : Nat} {f : Nat → MsgV} (h : RowK w g n k f) (hk : k < n) (mm : MsgV) (hm : f k = mm) : RowK (((((((((w.setCell ⟨g, k * 9, none⟩ (.int .i64 mm.mf)).setCell ⟨g, k * 9 + 1, none⟩ (.int .i64 mm.mt)).setCell ⟨g, k * 9 + 2, none⟩ (.int .u32 mm.md)).setCell ⟨g, k * 9 + 3, none⟩ (.int .u64 mm.mq)).setCell ⟨g, k * 9 + 4, none⟩ (.int .u64 mm.ma)).setCell ⟨g, k * 9 + 5, none⟩ (.int .u64 mm.x0)).setCell ⟨g, k * 9 + 6, none⟩ (.int .u64 mm.x1)).setCell ⟨g, k * 9 + 7, none⟩ (.int .u64 mm.x2)).setCell ⟨g, k * 9 + 8, none⟩ (.int .u64 mm.x3)) g n (k + 1) f := by
  have key : ∀ q, q < 9 → ∃ u, w.cell? ⟨g, k * 9 + q, none⟩ = some u := fun q hq => h.ex _ (by omega)
  have h0 := h.one (k * 9) (by omega) (.int .i64 mm.mf)
  have h1 := h0.one (k * 9 + 1) (by omega) (.int .i64 mm.mt)
  have h2 := h1.one (k * 9 + 2) (by omega) (.int .u32 mm.md)
  have h3 := h2.one (k * 9 + 3) (by omega) (.int .u64 mm.mq)
  have h4 := h3.one (k * 9 + 4) (by omega) (.int .u64 mm.ma)
  have h5 := h4.one (k * 9 + 5) (by omega) (.int .u64 mm.x0)
  have h6 := h5.one (k * 9 + 6) (by omega) (.int .u64 mm.x1)
  have h7 := h6.one (k * 9 + 7) (by omega) (.int .u64 mm.x2)
  have h8 := h7.one (k * 9 + 8) (by omega) (.int .u64 mm.x3)
  refine ⟨h8.ex, h8.fz, fun j hj => ?_⟩
  by_cases e : j = k
  · subst e
    rw [hm]
    obtain ⟨u0, e0⟩ := key 0 (by omega)
    obtain ⟨u1, e1⟩ := key 1 (by omega)
    obtain ⟨u2, e2⟩ := key 2 (by omega)
    obtain ⟨u3, e3⟩ := key 3 (by omega)
    obtain ⟨u4, e4⟩ := key 4 (by omega)
    obtain ⟨u5, e5⟩ := key 5 (by omega)
    obtain ⟨u6, e6⟩ := key 6 (by omega)
    obtain ⟨u7, e7⟩ := key 7 (by omega)
    obtain ⟨u8, e8⟩ := key 8 (by omega)
    simp only [Nat.add_zero] at e0
    exact ⟨(by rw [World.cell?_setCell_other _ _ _ _ (by simp)]; rw [World.cell?_setCell_other _ _ _ _ (by simp)]; rw [World.cell?_setCell_other _ _ _ _ (by simp)]; rw [World.cell?_setCell_other _ _ _ _ (by simp)]; rw [World.cell?_setCell_other _ _ _ _ (by simp)]; rw [World.cell?_setCell_other _ _ _ _ (by simp)]; rw [World.cell?_setCell_other _ _ _ _ (by simp)]; rw [World.cell?_setCell_other _ _ _ _ (by simp)]; exact World.cell?_setCell_same _ _ _ (e0)), (by rw [World.cell?_setCell_other _ _ _ _ (by simp)]; rw [World.cell?_setCell_other _ _ _ _ (by simp)]; rw [World.cell?_setCell_other _ _ _ _ (by simp)]; rw [World.cell?_setCell_other _ _ _ _ (by simp)]; rw [World.cell?_setCell_other _ _ _ _ (by simp)]; rw [World.cell?_setCell_other _ _ _ _ (by simp)]; rw [World.cell?_setCell_other _ _ _ _ (by simp)]; exact World.cell?_setCell_same _ _ _ ((World.cell?_setCell_other _ _ _ _ (by simp)).trans (e1))), (by rw [World.cell?_setCell_other _ _ _ _ (by simp)]; rw [World.cell?_setCell_other _ _ _ _ (by simp)]; rw [World.cell?_setCell_other _ _ _ _ (by simp)]; rw [World.cell?_setCell_other _ _ _ _ (by simp)]; rw [World.cell?_setCell_other _ _ _ _ (by simp)]; rw [World.cell?_setCell_other _ _ _ _ (by simp)]; exact World.cell?_setCell_same _ _ _ ((World.cell?_setCell_other _ _ _ _ (by simp)).trans ((World.cell?_setCell_other _ _ _ _ (by simp)).trans (e2)))), (by rw [World.cell?_setCell_other _ _ _ _ (by simp)]; rw [World.cell?_setCell_other _ _ _ _ (by simp)]; rw [World.cell?_setCell_other _ _ _ _ (by simp)]; rw [World.cell?_setCell_other _ _ _ _ (by simp)]; rw [World.cell?_setCell_other _ _ _ _ (by simp)]; exact World.cell?_setCell_same _ _ _ ((World.cell?_setCell_other _ _ _ _ (by simp)).trans ((World.cell?_setCell_other _ _ _ _ (by simp)).trans ((World.cell?_setCell_other _ _ _ _ (by simp)).trans (e3))))), (by rw [World.cell?_setCell_other _ _ _ _ (by simp)]; rw [World.cell?_setCell_other _ _ _ _ (by simp)]; rw [World.cell?_setCell_other _ _ _ _ (by simp)]; rw [World.cell?_setCell_other _ _ _ _ (by simp)]; exact World.cell?_setCell_same _ _ _ ((World.cell?_setCell_other _ _ _ _ (by simp)).trans ((World.cell?_setCell_other _ _ _ _ (by simp)).trans ((World.cell?_setCell_other _ _ _ _ (by simp)).trans ((World.cell?_setCell_other _ _ _ _ (by simp)).trans (e4)))))), (by rw [World.cell?_setCell_other _ _ _ _ (by simp)]; rw [World.cell?_setCell_other _ _ _ _ (by simp)]; rw [World.cell?_setCell_other _ _ _ _ (by simp)]; exact World.cell?_setCell_same _ _ _ ((World.cell?_setCell_other _ _ _ _ (by simp)).trans ((World.cell?_setCell_other _ _ _ _ (by simp)).trans ((World.cell?_setCell_other _ _ _ _ (by simp)).trans ((World.cell?_setCell_other _ _ _ _ (by simp)).trans ((World.cell?_setCell_other _ _ _ _ (by simp)).trans (e5))))))), (by rw [World.cell?_setCell_other _ _ _ _ (by simp)]; rw [World.cell?_setCell_other _ _ _ _ (by simp)]; exact World.cell?_setCell_same _ _ _ ((World.cell?_setCell_other _ _ _ _ (by simp)).trans ((World.cell?_setCell_other _ _ _ _ (by simp)).trans ((World.cell?_setCell_other _ _ _ _ (by simp)).trans ((World.cell?_setCell_other _ _ _ _ (by simp)).trans ((World.cell?_setCell_other _ _ _ _ (by simp)).trans ((World.cell?_setCell_other _ _ _ _ (by simp)).trans (e6)))))))), (by rw [World.cell?_setCell_other _ _ _ _ (by simp)]; exact World.cell?_setCell_same _ _ _ ((World.cell?_setCell_other _ _ _ _ (by simp)).trans ((World.cell?_setCell_other _ _ _ _ (by simp)).trans ((World.cell?_setCell_other _ _ _ _ (by simp)).trans ((World.cell?_setCell_other _ _ _ _ (by simp)).trans ((World.cell?_setCell_other _ _ _ _ (by simp)).trans ((World.cell?_setCell_other _ _ _ _ (by simp)).trans ((World.cell?_setCell_other _ _ _ _ (by simp)).trans (e7))))))))), (by exact World.cell?_setCell_same _ _ _ ((World.cell?_setCell_other _ _ _ _ (by simp)).trans ((World.cell?_setCell_other _ _ _ _ (by simp)).trans ((World.cell?_setCell_other _ _ _ _ (by simp)).trans ((World.cell?_setCell_other _ _ _ _ (by simp)).trans ((World.cell?_setCell_other _ _ _ _ (by simp)).trans ((World.cell?_setCell_other _ _ _ _ (by simp)).trans ((World.cell?_setCell_other _ _ _ _ (by simp)).trans ((World.cell?_setCell_other _ _ _ _ (by simp)).trans (e8))))))))))⟩
  · exact h8.pre j (by omega)
theorem RowK.blk {w w' : World} {g n k : Nat} {f : Nat → MsgV} (h : RowK w g n k f) (e : w'.heap[g]? = w.heap[g]?) : RowK w' g n k f :=
  ⟨fun j hj => by rw [World.cell?_of_block (a := ⟨g, j, none⟩) e]; exact h.ex j hj, fun o => (World.frozen?_of_block (a := ⟨g, o, none⟩) e).trans (h.fz o), fun j hj => (h.pre j hj).blk e⟩
theorem below_dr {n : Nat} {w w1 : World} (h : Below n w w1) : Below n w w1.drew := ⟨h.os, h.tape, h.output, h.size, h.block⟩
theorem below_cell {n : Nat} {w w1 : World} (h : Below n w w1) (q : Addr) (hq : n ≤ q.block) (v : Value) : Below n w (w1.setCell q v) :=
  ⟨h.os, h.tape, h.output, by have := h.size; simpa using this, fun k hk => by rw [← h.block k hk]; simp only [World.setCell, Array.getElem?_modify]; rw [if_neg (by omega)]⟩
theorem NineO.drew {w : World} {b q : Nat} {m : MsgV} (h : NineO w b q m) : NineO w.drew b q m := ⟨h.c0, h.c1, h.c2, h.c3, h.c4, h.c5, h.c6, h.c7, h.c8⟩
theorem RowK.drew {w : World} {g n k : Nat} {f : Nat → MsgV} (h : RowK w g n k f) : RowK w.drew g n k f := ⟨h.ex, h.fz, fun j hj => (h.pre j hj).drew⟩
theorem size_cell (w : World) (q : Addr) (v : Value) : (w.setCell q v).heap.size = w.heap.size := by simp
theorem size_drew (w : World) : w.drew.heap.size = w.heap.size := rfl
theorem rowK_put {w0 w : World} {g n k : Nat} {f : Nat → MsgV} (R : RowK w g n k f) (hb : Below g w0 w) (hg : g < w.heap.size) (hk : k < n) (mm : MsgV) (hm : f k = mm) : RowK (World.drew (((((((((w.setCell ⟨g, k * 9, none⟩ (.int .i64 mm.mf)).setCell ⟨g, k * 9 + 1, none⟩ (.int .i64 mm.mt)).setCell ⟨g, k * 9 + 2, none⟩ (.int .u32 mm.md)).setCell ⟨g, k * 9 + 3, none⟩ (.int .u64 mm.mq)).setCell ⟨g, k * 9 + 4, none⟩ (.int .u64 mm.ma)).setCell ⟨g, k * 9 + 5, none⟩ (.int .u64 mm.x0)).setCell ⟨g, k * 9 + 6, none⟩ (.int .u64 mm.x1)).setCell ⟨g, k * 9 + 7, none⟩ (.int .u64 mm.x2)).setCell ⟨g, k * 9 + 8, none⟩ (.int .u64 mm.x3))) g n (k + 1) f ∧ Below g w0 (World.drew (((((((((w.setCell ⟨g, k * 9, none⟩ (.int .i64 mm.mf)).setCell ⟨g, k * 9 + 1, none⟩ (.int .i64 mm.mt)).setCell ⟨g, k * 9 + 2, none⟩ (.int .u32 mm.md)).setCell ⟨g, k * 9 + 3, none⟩ (.int .u64 mm.mq)).setCell ⟨g, k * 9 + 4, none⟩ (.int .u64 mm.ma)).setCell ⟨g, k * 9 + 5, none⟩ (.int .u64 mm.x0)).setCell ⟨g, k * 9 + 6, none⟩ (.int .u64 mm.x1)).setCell ⟨g, k * 9 + 7, none⟩ (.int .u64 mm.x2)).setCell ⟨g, k * 9 + 8, none⟩ (.int .u64 mm.x3))) ∧ g < (World.drew (((((((((w.setCell ⟨g, k * 9, none⟩ (.int .i64 mm.mf)).setCell ⟨g, k * 9 + 1, none⟩ (.int .i64 mm.mt)).setCell ⟨g, k * 9 + 2, none⟩ (.int .u32 mm.md)).setCell ⟨g, k * 9 + 3, none⟩ (.int .u64 mm.mq)).setCell ⟨g, k * 9 + 4, none⟩ (.int .u64 mm.ma)).setCell ⟨g, k * 9 + 5, none⟩ (.int .u64 mm.x0)).setCell ⟨g, k * 9 + 6, none⟩ (.int .u64 mm.x1)).setCell ⟨g, k * 9 + 7, none⟩ (.int .u64 mm.x2)).setCell ⟨g, k * 9 + 8, none⟩ (.int .u64 mm.x3))).heap.size := by
  have b0 := below_cell hb ⟨g, k * 9, none⟩ (Nat.le_refl g) (.int .i64 mm.mf)
  have b1 := below_cell b0 ⟨g, k * 9 + 1, none⟩ (Nat.le_refl g) (.int .i64 mm.mt)
  have b2 := below_cell b1 ⟨g, k * 9 + 2, none⟩ (Nat.le_refl g) (.int .u32 mm.md)
  have b3 := below_cell b2 ⟨g, k * 9 + 3, none⟩ (Nat.le_refl g) (.int .u64 mm.mq)
  have b4 := below_cell b3 ⟨g, k * 9 + 4, none⟩ (Nat.le_refl g) (.int .u64 mm.ma)
  have b5 := below_cell b4 ⟨g, k * 9 + 5, none⟩ (Nat.le_refl g) (.int .u64 mm.x0)
  have b6 := below_cell b5 ⟨g, k * 9 + 6, none⟩ (Nat.le_refl g) (.int .u64 mm.x1)
  have b7 := below_cell b6 ⟨g, k * 9 + 7, none⟩ (Nat.le_refl g) (.int .u64 mm.x2)
  have b8 := below_cell b7 ⟨g, k * 9 + 8, none⟩ (Nat.le_refl g) (.int .u64 mm.x3)
  refine ⟨(R.put hk mm hm).drew, below_dr b8, ?_⟩
  · rw [size_drew]
    simp only [size_cell]
    exact hg
end Go.Proofs.Qxb6500877aGreatDoor
