import Derived.Test.Qxb6500877aGreatDoorNPg0
set_option linter.unusedVariables false
set_option linter.unusedSimpArgs false
namespace Go.Proofs.Qxb6500877aGreatDoor
open Go.RowKit

theorem nils (w : World) (t : TypeId) {i : Nat} (hi : i < 16) : (w.alloc (.cells #[.slice none 0 0, .slice none 0 0, .slice none 0 0, .slice none 0 0, .slice none 0 0, .slice none 0 0, .slice none 0 0, .slice none 0 0, .slice none 0 0, .slice none 0 0, .slice none 0 0, .slice none 0 0, .slice none 0 0, .slice none 0 0, .slice none 0 0, .slice none 0 0] t)).cell? ⟨w.heap.size, i, none⟩ = some (.slice none 0 0) := by
  have : i = 0 ∨ i = 1 ∨ i = 2 ∨ i = 3 ∨ i = 4 ∨ i = 5 ∨ i = 6 ∨ i = 7 ∨ i = 8 ∨ i = 9 ∨ i = 10 ∨ i = 11 ∨ i = 12 ∨ i = 13 ∨ i = 14 ∨ i = 15 := by omega
  rcases this with rfl | rfl | rfl | rfl | rfl | rfl | rfl | rfl | rfl | rfl | rfl | rfl | rfl | rfl | rfl | rfl <;> simp
theorem ls_new {w w1 : World} {B mb : Nat} (M : Mach w1 B mb 0 0 net0) (hb : Below w.heap.size w w1) (hwB : w.heap.size ≤ B) (hwm : w.heap.size ≤ mb) (h2 : 2 < w.heap.size) (t1 t2 t3 : TypeId) :
    LP w.heap.size B mb (w1.heap.size + 3) (w1.heap.size + 1) (w1.heap.size + 2) w1.heap.size ∧
    LS w.heap.size w (((w1.alloc (.cells #[.pointer (some ⟨B, 0, none⟩)] t1)).alloc (.cells #[.slice none 0 0, .slice none 0 0, .slice none 0 0, .slice none 0 0, .slice none 0 0, .slice none 0 0, .slice none 0 0, .slice none 0 0, .slice none 0 0, .slice none 0 0, .slice none 0 0, .slice none 0 0, .slice none 0 0, .slice none 0 0, .slice none 0 0, .slice none 0 0] t2)).alloc (.cells #[.slice none 0 0, .slice none 0 0, .slice none 0 0, .slice none 0 0, .slice none 0 0, .slice none 0 0, .slice none 0 0, .slice none 0 0, .slice none 0 0, .slice none 0 0, .slice none 0 0, .slice none 0 0, .slice none 0 0, .slice none 0 0, .slice none 0 0, .slice none 0 0] t3)) B mb 0 0 net0 (w1.heap.size + 3) (w1.heap.size + 1) (w1.heap.size + 2) w1.heap.size (fun _ => []) (fun _ => 0) := by
  have hB := M.lt
  have hm := M.mlt
  have hs := hb.size
  generalize hW1 : w1.alloc (.cells #[.pointer (some ⟨B, 0, none⟩)] t1) = W1
  have b1 : Below w1.heap.size w1 W1 := by rw [← hW1]; exact one_alloc _ _
  have s1 : W1.heap.size = w1.heap.size + 1 := by rw [← hW1]; simp
  have c1 : W1.cell? ⟨w1.heap.size, 0, none⟩ = some (.pointer (some ⟨B, 0, none⟩)) := by rw [← hW1]; simp
  clear hW1
  generalize hW2 : W1.alloc (.cells #[.slice none 0 0, .slice none 0 0, .slice none 0 0, .slice none 0 0, .slice none 0 0, .slice none 0 0, .slice none 0 0, .slice none 0 0, .slice none 0 0, .slice none 0 0, .slice none 0 0, .slice none 0 0, .slice none 0 0, .slice none 0 0, .slice none 0 0, .slice none 0 0] t2) = W2
  have b2 : Below W1.heap.size W1 W2 := by rw [← hW2]; exact one_alloc _ _
  have s2 : W2.heap.size = w1.heap.size + 2 := by rw [← hW2]; simp [s1]
  have c2 : ∀ i, i < 16 → W2.cell? ⟨w1.heap.size + 1, i, none⟩ = some (.slice none 0 0) := fun i hi => by rw [← hW2, ← s1]; exact nils W1 t2 hi
  have f2 : ∀ o, W2.frozen? ⟨w1.heap.size + 1, o, none⟩ = false := fun o => by rw [← hW2, ← s1]; simp
  clear hW2
  generalize hW3 : W2.alloc (.cells #[.slice none 0 0, .slice none 0 0, .slice none 0 0, .slice none 0 0, .slice none 0 0, .slice none 0 0, .slice none 0 0, .slice none 0 0, .slice none 0 0, .slice none 0 0, .slice none 0 0, .slice none 0 0, .slice none 0 0, .slice none 0 0, .slice none 0 0, .slice none 0 0] t3) = W3
  have b3 : Below W2.heap.size W2 W3 := by rw [← hW3]; exact one_alloc _ _
  have s3 : W3.heap.size = w1.heap.size + 3 := by rw [← hW3]; simp [s2]
  have c3 : ∀ i, i < 16 → W3.cell? ⟨w1.heap.size + 2, i, none⟩ = some (.slice none 0 0) := fun i hi => by rw [← hW3, ← s2]; exact nils W2 t3 hi
  have f3 : ∀ o, W3.frozen? ⟨w1.heap.size + 2, o, none⟩ = false := fun o => by rw [← hW3, ← s2]; simp
  clear hW3
  have e2 : W3.heap[w1.heap.size + 1]? = W2.heap[w1.heap.size + 1]? := b3.block _ (by omega)
  have e1 : W3.heap[w1.heap.size]? = W1.heap[w1.heap.size]? := (b3.block _ (by omega)).trans (b2.block _ (by omega))
  refine ⟨⟨h2, by omega, by omega, by omega⟩, ⟨((M.below b1).below b2).below b3, netL0, ⟨fun _ => .slice none 0 0, ⟨fun r hr => ?_, fun r hr => ?_, fun r s _ _ _ => .inl rfl, fun o => ?_, f3, by omega, by omega, by omega⟩⟩, ?_, ?_, by omega⟩⟩
  · by_cases h : r < 16
    · rw [rowA_s h, World.cell?_of_block (a := ⟨w1.heap.size + 1, r, none⟩) e2]
      exact c2 r h
    · obtain ⟨i, rfl⟩ : ∃ i, r = 16 + i := ⟨r - 16, by omega⟩
      rw [rowA_g]
      exact c3 i (by omega)
  · have e : rowsOf (fun _ => []) (fun _ => 0) r = [] := by unfold rowsOf; split <;> simp
    rw [e]
    exact World.ownsRow_nil _ _ _ _
  · rw [World.frozen?_of_block (a := ⟨w1.heap.size + 1, o, none⟩) e2]; exact f2 o
  · rw [World.cell?_of_block (a := ⟨w1.heap.size, 0, none⟩) e1]; exact c1
  · exact below_to (below_to (below_to hb b1 (by omega)) b2 (by omega)) b3 (by omega)
theorem ls_new' {w w1 : World} {B mb Sb Gb base : Nat} (M : Mach w1 B mb 0 0 net0) (hb : Below w.heap.size w w1) (hwB : w.heap.size ≤ B) (hwm : w.heap.size ≤ mb) (h2 : 2 < w.heap.size) (t1 t2 t3 : TypeId) (e1 : Sb = w1.heap.size + 1) (e2 : Gb = Sb + 1) (e3 : base = Gb + 1) :
    LP w.heap.size B mb base Sb Gb w1.heap.size ∧
    LS w.heap.size w (((w1.alloc (.cells #[.pointer (some ⟨B, 0, none⟩)] t1)).alloc (.cells #[.slice none 0 0, .slice none 0 0, .slice none 0 0, .slice none 0 0, .slice none 0 0, .slice none 0 0, .slice none 0 0, .slice none 0 0, .slice none 0 0, .slice none 0 0, .slice none 0 0, .slice none 0 0, .slice none 0 0, .slice none 0 0, .slice none 0 0, .slice none 0 0] t2)).alloc (.cells #[.slice none 0 0, .slice none 0 0, .slice none 0 0, .slice none 0 0, .slice none 0 0, .slice none 0 0, .slice none 0 0, .slice none 0 0, .slice none 0 0, .slice none 0 0, .slice none 0 0, .slice none 0 0, .slice none 0 0, .slice none 0 0, .slice none 0 0, .slice none 0 0] t3)) B mb 0 0 net0 base Sb Gb w1.heap.size (fun _ => []) (fun _ => 0) := by
  subst e1 e2 e3
  exact ls_new M hb hwB hwm h2 t1 t2 t3
end Go.Proofs.Qxb6500877aGreatDoor
