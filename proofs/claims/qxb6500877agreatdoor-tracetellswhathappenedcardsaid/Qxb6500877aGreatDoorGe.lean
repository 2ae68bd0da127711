import Derived.Test.Qxb6500877aGreatDoorGd
set_option linter.unusedVariables false
set_option linter.unusedSimpArgs false
namespace Go.Proofs.Qxb6500877aGreatDoor
open Go.RowKit

/-- The law's own counts, in block b. -/
structure HeldAt (w : World) (b : Nat) (η : Nat → Int) : Prop where
  cell : ∀ i, i < 16 → w.cell? ⟨b, i, none⟩ = some (.int .i64 (η i))
  fz : ∀ o, w.frozen? ⟨b, o, none⟩ = false
theorem HeldAt.lt {w : World} {b : Nat} {η : Nat → Int} (h : HeldAt w b η) : b < w.heap.size := World.block_lt_of_cell? _ _ (h.cell 0 (by omega))
theorem HeldAt.blk {w w' : World} {b : Nat} {η : Nat → Int} (h : HeldAt w b η) (e : w'.heap[b]? = w.heap[b]?) : HeldAt w' b η :=
  ⟨fun i hi => (World.cell?_of_block (a := ⟨b, i, none⟩) e).trans (h.cell i hi), fun o => (World.frozen?_of_block (a := ⟨b, o, none⟩) e).trans (h.fz o)⟩
theorem HeldAt.put {w : World} {b : Nat} {η : Nat → Int} (h : HeldAt w b η) {i : Nat} (hi : i < 16) (v : Int) : HeldAt (w.setCell ⟨b, i, none⟩ (.int .i64 v)) b (fun j => if j = i then v else η j) := by
  refine ⟨fun j hj => ?_, fun o => by simpa using h.fz o⟩
  by_cases e : j = i
  · subst e
    rw [if_pos rfl]
    exact World.cell?_setCell_same _ _ _ (h.cell j hj)
  · rw [if_neg e, World.cell?_setCell_other _ _ _ _ (by simp <;> omega)]
    exact h.cell j hj
theorem HeldAt.same {w : World} {b : Nat} {η η' : Nat → Int} (h : HeldAt w b η) (e : ∀ i, i < 16 → η' i = η i) : HeldAt w b η' := ⟨fun i hi => by rw [e i hi]; exact h.cell i hi, h.fz⟩
def heldV (η : Nat → Int) : Value := .agg #[.int .i64 (η 0), .int .i64 (η 1), .int .i64 (η 2), .int .i64 (η 3), .int .i64 (η 4), .int .i64 (η 5), .int .i64 (η 6), .int .i64 (η 7), .int .i64 (η 8), .int .i64 (η 9), .int .i64 (η 10), .int .i64 (η 11), .int .i64 (η 12), .int .i64 (η 13), .int .i64 (η 14), .int .i64 (η 15)]
theorem load74 {w : World} {b : Nat} {η : Nat → Int} (h : HeldAt w b η) : (loadVar 74 ⟨b, 0, none⟩).run Tryz.prog w = .ok (heldV η) w := by
  have c0 := h.cell 0 (by omega)
  have c1 := h.cell 1 (by omega)
  have c2 := h.cell 2 (by omega)
  have c3 := h.cell 3 (by omega)
  have c4 := h.cell 4 (by omega)
  have c5 := h.cell 5 (by omega)
  have c6 := h.cell 6 (by omega)
  have c7 := h.cell 7 (by omega)
  have c8 := h.cell 8 (by omega)
  have c9 := h.cell 9 (by omega)
  have c10 := h.cell 10 (by omega)
  have c11 := h.cell 11 (by omega)
  have c12 := h.cell 12 (by omega)
  have c13 := h.cell 13 (by omega)
  have c14 := h.cell 14 (by omega)
  have c15 := h.cell 15 (by omega)
  unfold heldV
  go_simp
end Go.Proofs.Qxb6500877aGreatDoor
