import Derived.Laws.CopyRow
import Derived.Test.Qxb6500877aGreatDoorQn
set_option linter.unusedVariables false
set_option linter.unusedSimpArgs false
namespace Go.Proofs.Qxb6500877aGreatDoor
open Go.RowKit

theorem node_one (n : NodeS) (j : Nat) : (nodeCell n j).oneCell' = true := by
  unfold nodeCell; split <;> rfl
theorem wheel_one (s : Wheel) (o : Nat) : (s.enc o).oneCell' = true := by
  unfold Wheel.enc slotCell
  repeat' split
  all_goals first | rfl | exact node_one _ _
theorem msg_one (m : MsgV) (j : Nat) : (msgCell m j).oneCell' = true := by
  unfold msgCell; split <;> rfl
theorem net_one (s : Net) (o : Nat) : (s.enc o).oneCell' = true := by
  unfold Net.enc BoxS.enc
  repeat' split
  all_goals first | rfl | exact msg_one _ _
theorem task_one (n : TaskN) (j : Nat) : (taskCell n j).oneCell' = true := by
  unfold taskCell; split <;> rfl
theorem sched_one (s : Sched) (o : Nat) : (s.enc o).oneCell' = true := by
  unfold Sched.enc Sched.qCell
  repeat' split
  all_goals first | rfl | exact task_one _ _
/-- All cells of a machine. -/
theorem Mach.cells {w : World} {B mb t k : Nat} {ν : Net} {τ : TSt} {σ : Sg} (M : Mach w B mb t k ν τ σ) : ∃ f : Nat → Value, ∀ j, j < 6753 → w.cell? ⟨B, j, none⟩ = some (f j) ∧ (f j).oneCell' = true := by
  obtain ⟨s, L, fr, g, T, _⟩ := M.tim
  refine ⟨fun j => (w.cell? ⟨B, j, none⟩).getD undef, fun j hj => ?_⟩
  have key : ∀ v : Value, w.cell? ⟨B, j, none⟩ = some v → v.oneCell' = true → w.cell? ⟨B, j, none⟩ = some ((w.cell? ⟨B, j, none⟩).getD undef) ∧ ((w.cell? ⟨B, j, none⟩).getD undef).oneCell' = true := fun v h1 h2 => by
    rw [h1]
    exact ⟨rfl, h2⟩
  by_cases h0 : j = 0
  · subst h0; exact key _ M.clk rfl
  by_cases h1 : j < 1939
  · have := T.wh.cell (j - 1) (by omega)
    rw [show 1 + (j - 1) = j by omega] at this
    exact key _ this (wheel_one _ _)
  by_cases h2 : j < 6596
  · have := M.net.1.cell (j - 1939) (by omega)
    rw [show 1939 + (j - 1939) = j by omega] at this
    exact key _ this (net_one _ _)
  by_cases h3 : j < 6724
  · have := M.sch.1.cell (j - 6596) (by omega)
    rw [show 6596 + (j - 6596) = j by omega] at this
    exact key _ this (sched_one _ _)
  by_cases h4 : j < 6752
  · have := M.sts (j - 6724) (by omega)
    rw [show 6724 + (j - 6724) = j by omega] at this
    exact key _ this rfl
  · have : j = 6752 := by omega
    subst this
    exact key _ M.snk rfl
def cellsA (f : Nat → Value) : Array Value := ((List.range 6753).map f).toArray
def cellsW (f : Nat → Value) : List Value := (List.range 1938).map (fun j => f (1 + j))
theorem cellsA_size (f : Nat → Value) : (cellsA f).size = 6753 := by simp [cellsA]
theorem cellsA_get (f : Nat → Value) {j : Nat} (hj : j < 6753) : (cellsA f)[j]? = some (f j) := by simp [cellsA, hj]
theorem cellsA_one {f : Nat → Value} (h : ∀ j, j < 6753 → (f j).oneCell' = true) : ((cellsA f).all fun x => x.oneCell') = true := by
  rw [Array.all_eq_true]
  intro i hi
  have hi' : i < 6753 := by rw [cellsA_size] at hi; exact hi
  have e := cellsA_get f hi'
  rw [Array.getElem?_eq_getElem hi] at e
  simp only [Option.some.injEq] at e
  rw [e]
  exact h i hi'
theorem info190 : (Tryz.prog.info? 190).map (fun i => (i.zero, i.size)) = some (some (.agg Tryz.zeroCells190), 6753) := by kernel_rfl
theorem zv190 : ∀ w, (zeroValue 190).run Tryz.prog w = .ok (.agg Tryz.zeroCells190) w := (zero_of_info info190).1
theorem sz190 : (Tryz.prog.info? 190).map (·.size) = some 6753 := (zero_of_info info190).2
theorem zc190_size : Tryz.zeroCells190.size = 6753 := by kernel_rfl
theorem agg190 (w : World) : (isAgg 190).run Tryz.prog w = .ok true w := by kernel_rfl
theorem size190 (w : World) : (sizeOf 190).run Tryz.prog w = .ok 6753 w := by kernel_rfl
theorem agg168 (w : World) : (isAgg 168).run Tryz.prog w = .ok true w := by kernel_rfl
theorem size168 (w : World) : (sizeOf 168).run Tryz.prog w = .ok 1938 w := by kernel_rfl
theorem load190 {w : World} {B : Nat} {f : Nat → Value} (h : ∀ j, j < 6753 → w.cell? ⟨B, j, none⟩ = some (f j)) : (loadVar 190 ⟨B, 0, none⟩).run Tryz.prog w = .ok (.agg (cellsA f)) w :=
  loadVar_of (agg190 w) (size190 w) (run_loadCells (P := Tryz.prog) w ⟨B, 0, none⟩ 6753 f (fun j hj => by rw [add_at, Nat.zero_add]; exact h j hj))
theorem load168 {w : World} {B : Nat} {f : Nat → Value} (h : ∀ j, j < 6753 → w.cell? ⟨B, j, none⟩ = some (f j)) : (loadVar 168 ⟨B, 1, none⟩).run Tryz.prog w = .ok (.agg (cellsW f).toArray) w :=
  loadVar_of (agg168 w) (size168 w) (run_loadCells (P := Tryz.prog) w ⟨B, 1, none⟩ 1938 (fun j => f (1 + j)) (fun j hj => by rw [add_at]; exact h (1 + j) (by omega)))
theorem store190 (w : World) {f : Nat → Value} (h : ∀ j, j < 6753 → (f j).oneCell' = true) : (storeVar 190 ⟨w.heap.size, 0, none⟩ (.agg (cellsA f))).run Tryz.prog (w.alloc (.cells Tryz.zeroCells190 190)) = .ok () (w.alloc (.cells (cellsA f) 190)) :=
  run_storeVar_new w 190 Tryz.zeroCells190 (cellsA f) (by rw [cellsA_size]; exact sz190) (by rw [zc190_size, cellsA_size]) (cellsA_one h)
theorem cellsW_mid (f : Nat → Value) : (cellsA f).toList.take (1 + 0) ++ cellsW f ++ (cellsA f).toList.drop (1 + 0 + (cellsW f).length) = (cellsA f).toList := by
  have hl : (cellsW f).length = 1938 := by simp [cellsW]
  rw [hl]
  have e : cellsW f = ((cellsA f).toList.drop 1).take 1938 := by
    apply List.ext_getElem?
    intro j
    rw [List.getElem?_take]
    by_cases hj : j < 1938
    · rw [if_pos hj, List.getElem?_drop]
      rw [show (cellsW f)[j]? = some (f (1 + j)) by simp [cellsW, hj], show (cellsA f).toList[1 + j]? = some (f (1 + j)) by rw [Array.getElem?_toList]; exact cellsA_get f (by omega)]
    · rw [if_neg hj, List.getElem?_eq_none (by rw [hl]; omega)]
  rw [e, List.append_assoc]
  have e2 : ((cellsA f).toList.drop (1 + 0 + 1938)) = ((cellsA f).toList.drop 1).drop 1938 := by rw [List.drop_drop]
  rw [e2, List.take_append_drop]
  exact List.take_append_drop 1 _
/-- The wheel, copied over its like. -/
theorem store168 {w : World} {b : Nat} {f : Nat → Value} (hr : w.heap[b]? = some (.cells (cellsA f) 190)) (h : ∀ j, j < 6753 → (f j).oneCell' = true) : (storeVar 168 ⟨b, 1, none⟩ (.agg (cellsW f).toArray)).run Tryz.prog w = .ok () w := by
  have hl : (cellsW f).length = 1938 := by simp [cellsW]
  have := run_storeCells_at (P := Tryz.prog) b 1 190 (cellsW f) 0 (cellsA f) w hr (by rw [hl, cellsA_size]; omega) (fun v hv => by
    obtain ⟨j, hj, rfl⟩ := List.mem_map.1 hv
    exact h _ (by have := List.mem_range.1 hj; omega))
  rw [cellsW_mid, Array.toArray_toList, setRow_self w b (cellsA f) 190 (0, 0) hr] at this
  have hs : (Value.agg (cellsW f).toArray).cells.size = 1938 := by simp [Value.cells, hl]
  have hc : (Value.agg (cellsW f).toArray).cells.toList = cellsW f := by simp [Value.cells]
  unfold storeVar
  simp only [Sem.run_bind, size168, Result.andThen_ok]
  rw [if_neg (by rw [hs]; simp), hc]
  exact this
/-- A machine copied: the same cells. -/
theorem Mach.copied {w : World} {B mb t k : Nat} {ν : Net} {τ : TSt} {σ : Sg} (M : Mach w B mb t k ν τ σ) {f : Nat → Value} (hf : ∀ j, j < 6753 → w.cell? ⟨B, j, none⟩ = some (f j)) {W : World} {B2 : Nat} (hr : W.heap[B2]? = some (.cells (cellsA f) 190)) :
    (∀ j, j < 6753 → W.cell? ⟨B2, j, none⟩ = w.cell? ⟨B, j, none⟩) ∧ ∀ o, W.frozen? ⟨B2, o, none⟩ = false := by
  refine ⟨fun j hj => ?_, fun o => by simp [World.frozen?, hr]⟩
  rw [hf j hj, cell_of_row _ _ _ _ 190 (0, 0) hr, cellsA_get f hj]
end Go.Proofs.Qxb6500877aGreatDoor
