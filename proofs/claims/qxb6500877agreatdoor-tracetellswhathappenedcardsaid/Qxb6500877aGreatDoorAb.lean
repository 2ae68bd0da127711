import Derived.Test.Qxb6500877aGreatDoorAa
import Derived.Test.Qxb6500877aGreatDoorIe
set_option linter.unusedVariables false
set_option linter.unusedSimpArgs false
namespace Go.Proofs.Qxb6500877aGreatDoor
open Go.RowKit

/-- The cells of a task in the model. -/
theorem MdlAt.task {w : World} {D base : Nat} {V : Nat → Value} {m : Mdl} (h : MdlAt w D base V m) {i : Nat} (hi : i < 16) : w.cell? ⟨D, 1 + i * 3, none⟩ = some (.int .u8 (m.tk i).1) ∧ w.cell? ⟨D, 1 + i * 3 + 1, none⟩ = some (.int .i64 (m.tk i).2.1) ∧ w.cell? ⟨D, 1 + i * 3 + 2, none⟩ = some (.int .i64 (m.tk i).2.2) := by
  have c0 := h.cell (1 + i * 3) (by unfold plainO; omega)
  have c1 := h.cell (1 + i * 3 + 1) (by unfold plainO; omega)
  have c2 := h.cell (1 + i * 3 + 2) (by unfold plainO; omega)
  have e0 : m.enc (1 + i * 3) = .int .u8 (m.tk i).1 := by
    unfold Mdl.enc
    rw [if_neg (by omega), if_pos (by omega), if_pos (by omega), show (1 + i * 3 - 1) / 3 = i by omega]
  have e1 : m.enc (1 + i * 3 + 1) = .int .i64 (m.tk i).2.1 := by
    unfold Mdl.enc
    rw [if_neg (by omega), if_pos (by omega), if_neg (by omega), if_pos (by omega), show (1 + i * 3 + 1 - 1) / 3 = i by omega]
  have e2 : m.enc (1 + i * 3 + 2) = .int .i64 (m.tk i).2.2 := by
    unfold Mdl.enc
    rw [if_neg (by omega), if_pos (by omega), if_neg (by omega), if_neg (by omega), show (1 + i * 3 + 2 - 1) / 3 = i by omega]
  rw [e0] at c0
  rw [e1] at c1
  rw [e2] at c2
  exact ⟨c0, c1, c2⟩
theorem MdlAt.nowc {w : World} {D base : Nat} {V : Nat → Value} {m : Mdl} (h : MdlAt w D base V m) : w.cell? ⟨D, 0, none⟩ = some (.int .u64 m.now) := h.cell 0 (by unfold plainO; omega)
theorem MdlAt.accc {w : World} {D base : Nat} {V : Nat → Value} {m : Mdl} (h : MdlAt w D base V m) {b : Nat} (hb : b < 16) : w.cell? ⟨D, 69 + b, none⟩ = some (.int .u64 (m.ac b)) := by
  have c := h.cell (69 + b) (by unfold plainO; omega)
  have e : m.enc (69 + b) = .int .u64 (m.ac b) := by
    unfold Mdl.enc
    rw [if_neg (by omega), if_neg (by omega), if_pos (by omega), show 69 + b - 69 = b by omega]
  rw [e] at c
  exact c
theorem MdlAt.nxc {w : World} {D base : Nat} {V : Nat → Value} {m : Mdl} (h : MdlAt w D base V m) : w.cell? ⟨D, 86, none⟩ = some (.int .u64 m.nx) := by
  have c := h.cell 86 (by unfold plainO; omega)
  exact c
theorem MdlAt.stc {w : World} {D base : Nat} {V : Nat → Value} {m : Mdl} (h : MdlAt w D base V m) {j : Nat} (hj : j < 28) : w.cell? ⟨D, 87 + j, none⟩ = some (.int .u64 (m.st j)) := by
  have c := h.cell (87 + j) (by unfold plainO; omega)
  have e : m.enc (87 + j) = .int .u64 (m.st j) := by
    unfold Mdl.enc
    rw [if_neg (by omega), if_neg (by omega), if_neg (by omega), if_neg (by omega), show 87 + j - 87 = j by omega]
  rw [e] at c
  exact c
theorem idx131_0 (f : Nat → Int × Int × Int) (w : World) : (Instr.index 131 (.agg (tsk f)) (.int .i64 0)).run Tryz.prog w = .ok (.agg #[.int .u8 (f 0).1, .int .i64 (f 0).2.1, .int .i64 (f 0).2.2]) w := by kernel_rfl
theorem idx131_1 (f : Nat → Int × Int × Int) (w : World) : (Instr.index 131 (.agg (tsk f)) (.int .i64 1)).run Tryz.prog w = .ok (.agg #[.int .u8 (f 1).1, .int .i64 (f 1).2.1, .int .i64 (f 1).2.2]) w := by kernel_rfl
theorem idx131_2 (f : Nat → Int × Int × Int) (w : World) : (Instr.index 131 (.agg (tsk f)) (.int .i64 2)).run Tryz.prog w = .ok (.agg #[.int .u8 (f 2).1, .int .i64 (f 2).2.1, .int .i64 (f 2).2.2]) w := by kernel_rfl
theorem idx131_3 (f : Nat → Int × Int × Int) (w : World) : (Instr.index 131 (.agg (tsk f)) (.int .i64 3)).run Tryz.prog w = .ok (.agg #[.int .u8 (f 3).1, .int .i64 (f 3).2.1, .int .i64 (f 3).2.2]) w := by kernel_rfl
theorem idx131_4 (f : Nat → Int × Int × Int) (w : World) : (Instr.index 131 (.agg (tsk f)) (.int .i64 4)).run Tryz.prog w = .ok (.agg #[.int .u8 (f 4).1, .int .i64 (f 4).2.1, .int .i64 (f 4).2.2]) w := by kernel_rfl
theorem idx131_5 (f : Nat → Int × Int × Int) (w : World) : (Instr.index 131 (.agg (tsk f)) (.int .i64 5)).run Tryz.prog w = .ok (.agg #[.int .u8 (f 5).1, .int .i64 (f 5).2.1, .int .i64 (f 5).2.2]) w := by kernel_rfl
theorem idx131_6 (f : Nat → Int × Int × Int) (w : World) : (Instr.index 131 (.agg (tsk f)) (.int .i64 6)).run Tryz.prog w = .ok (.agg #[.int .u8 (f 6).1, .int .i64 (f 6).2.1, .int .i64 (f 6).2.2]) w := by kernel_rfl
theorem idx131_7 (f : Nat → Int × Int × Int) (w : World) : (Instr.index 131 (.agg (tsk f)) (.int .i64 7)).run Tryz.prog w = .ok (.agg #[.int .u8 (f 7).1, .int .i64 (f 7).2.1, .int .i64 (f 7).2.2]) w := by kernel_rfl
theorem idx131_8 (f : Nat → Int × Int × Int) (w : World) : (Instr.index 131 (.agg (tsk f)) (.int .i64 8)).run Tryz.prog w = .ok (.agg #[.int .u8 (f 8).1, .int .i64 (f 8).2.1, .int .i64 (f 8).2.2]) w := by kernel_rfl
theorem idx131_9 (f : Nat → Int × Int × Int) (w : World) : (Instr.index 131 (.agg (tsk f)) (.int .i64 9)).run Tryz.prog w = .ok (.agg #[.int .u8 (f 9).1, .int .i64 (f 9).2.1, .int .i64 (f 9).2.2]) w := by kernel_rfl
theorem idx131_10 (f : Nat → Int × Int × Int) (w : World) : (Instr.index 131 (.agg (tsk f)) (.int .i64 10)).run Tryz.prog w = .ok (.agg #[.int .u8 (f 10).1, .int .i64 (f 10).2.1, .int .i64 (f 10).2.2]) w := by kernel_rfl
theorem idx131_11 (f : Nat → Int × Int × Int) (w : World) : (Instr.index 131 (.agg (tsk f)) (.int .i64 11)).run Tryz.prog w = .ok (.agg #[.int .u8 (f 11).1, .int .i64 (f 11).2.1, .int .i64 (f 11).2.2]) w := by kernel_rfl
theorem idx131_12 (f : Nat → Int × Int × Int) (w : World) : (Instr.index 131 (.agg (tsk f)) (.int .i64 12)).run Tryz.prog w = .ok (.agg #[.int .u8 (f 12).1, .int .i64 (f 12).2.1, .int .i64 (f 12).2.2]) w := by kernel_rfl
theorem idx131_13 (f : Nat → Int × Int × Int) (w : World) : (Instr.index 131 (.agg (tsk f)) (.int .i64 13)).run Tryz.prog w = .ok (.agg #[.int .u8 (f 13).1, .int .i64 (f 13).2.1, .int .i64 (f 13).2.2]) w := by kernel_rfl
theorem idx131_14 (f : Nat → Int × Int × Int) (w : World) : (Instr.index 131 (.agg (tsk f)) (.int .i64 14)).run Tryz.prog w = .ok (.agg #[.int .u8 (f 14).1, .int .i64 (f 14).2.1, .int .i64 (f 14).2.2]) w := by kernel_rfl
theorem idx131_15 (f : Nat → Int × Int × Int) (w : World) : (Instr.index 131 (.agg (tsk f)) (.int .i64 15)).run Tryz.prog w = .ok (.agg #[.int .u8 (f 15).1, .int .i64 (f 15).2.1, .int .i64 (f 15).2.2]) w := by kernel_rfl
theorem idx131 (f : Nat → Int × Int × Int) {j : Nat} (hj : j < 16) (w : World) : (Instr.index 131 (.agg (tsk f)) (.int .i64 (j : Int))).run Tryz.prog w = .ok (.agg #[.int .u8 (f j).1, .int .i64 (f j).2.1, .int .i64 (f j).2.2]) w := by
  have : j = 0 ∨ j = 1 ∨ j = 2 ∨ j = 3 ∨ j = 4 ∨ j = 5 ∨ j = 6 ∨ j = 7 ∨ j = 8 ∨ j = 9 ∨ j = 10 ∨ j = 11 ∨ j = 12 ∨ j = 13 ∨ j = 14 ∨ j = 15 := by omega
  rcases this with rfl | rfl | rfl | rfl | rfl | rfl | rfl | rfl | rfl | rfl | rfl | rfl | rfl | rfl | rfl | rfl
  · exact idx131_0 f w
  · exact idx131_1 f w
  · exact idx131_2 f w
  · exact idx131_3 f w
  · exact idx131_4 f w
  · exact idx131_5 f w
  · exact idx131_6 f w
  · exact idx131_7 f w
  · exact idx131_8 f w
  · exact idx131_9 f w
  · exact idx131_10 f w
  · exact idx131_11 f w
  · exact idx131_12 f w
  · exact idx131_13 f w
  · exact idx131_14 f w
  · exact idx131_15 f w
theorem wpList_index131 {w : World} {ops : Array Oper} {rest : List Oper} {o : Oper} {a : Act} {Q : Exit → Act → World → Prop} (hgd : o.guard = none) (x y : Operand) (ho : o.op = .index 131 x y) {f : Nat → Int × Int × Int} {j : Nat} (hj : j < 16) (hx : a.eval x = .agg (tsk f)) (hy : a.eval y = .int .i64 (j : Int))
    (h : wpList Tryz.prog ops Q rest (a.put o.dst (.agg #[.int .u8 (f j).1, .int .i64 (f j).2.1, .int .i64 (f j).2.2])) w) : wpList Tryz.prog ops Q (o :: rest) a w := by
  refine wpList_plain hgd fun K hK' => ?_
  unfold Oper.wp
  simp [execOp, ho, hx, hy, idx131 f hj w, Result.andThen]
  exact hK' _ _ h
theorem agg131 (w : World) : (isAgg 131).run Tryz.prog w = .ok true w := by kernel_rfl
theorem size131 (w : World) : (sizeOf 131).run Tryz.prog w = .ok 48 w := by kernel_rfl
theorem MdlAt.lv131 {w : World} {D base : Nat} {V : Nat → Value} {m : Mdl} (h : MdlAt w D base V m) : (loadVar 131 ⟨D, 1, none⟩).run Tryz.prog w = .ok (.agg (tsk m.tk)) w := by
  have := run_loadCells (P := Tryz.prog) w ⟨D, 1, none⟩ 48 (tskC m.tk) (fun j hj => by
    obtain ⟨p0, p1, p2⟩ := h.task (i := j / 3) (by omega)
    rw [add_at]
    unfold tskC
    by_cases e0 : j % 3 = 0
    · rw [if_pos e0, show 1 + j = 1 + j / 3 * 3 by omega]; exact p0
    · rw [if_neg e0]
      by_cases e1 : j % 3 = 1
      · rw [if_pos e1, show 1 + j = 1 + j / 3 * 3 + 1 by omega]; exact p1
      · rw [if_neg e1, show 1 + j = 1 + j / 3 * 3 + 2 by omega]; exact p2)
  exact loadVar_of (agg131 w) (size131 w) this
theorem sz43 : (Tryz.prog.info? 43).map (·.size) = some 15 := by kernel_rfl
set_option maxHeartbeats 2000000 in
theorem answer_any (z : Int) (w : World) : Calls Tryz.prog 85 #[.int .i64 z] w fun e w' => e = .returned (resV z (-1) (-1) 0 false msg0 none 0 0) ∧ Below w.heap.size w w' := by
  unfold resV
  go_enter Tryz.func85, Tryz.ntmps85
  go_wp2
  refine bodyPost_ret (v := .agg #[.int .i64 z, .int .i64 (-1), .int .i64 (-1), .int .u64 0, .bool false, .int .i64 0, .int .i64 0, .int .u32 0, .int .u64 0, .int .u64 0, .int .u64 0, .int .u64 0, .int .u64 0, .int .u64 0, .slice none 0 0]) (results_cell_row rfl _ _ w.heap.size 43 _ (0, 0) _ rfl (heap_alloc_last w _) Tryz.underlying43 rfl sz43) rfl ⟨rfl, one_alloc w _⟩
theorem isCore_any (v : Int) (w : World) : Calls Tryz.prog 156 #[.int .i64 v] w fun e w' => e = .returned (.bool (decide (0 ≤ v ∧ v < 4))) ∧ w' = w := by
  by_cases h0 : 0 ≤ v
  · by_cases h1 : v < 4
    · rw [decide_eq_true ⟨h0, h1⟩]
      go_enter Tryz.func156, Tryz.ntmps156
      go_wp2
      go_ret
      exact ⟨rfl, rfl⟩
    · rw [decide_eq_false (fun z => h1 z.2)]
      go_enter Tryz.func156, Tryz.ntmps156
      go_wp2
      go_ret
      exact ⟨rfl, rfl⟩
  · rw [decide_eq_false (fun z => h0 z.1)]
    go_enter Tryz.func156, Tryz.ntmps156
    go_wp2
    go_ret
    exact ⟨rfl, rfl⟩
theorem isTaskM_any (v : Int) (w : World) : Calls Tryz.prog 160 #[.int .i64 v] w fun e w' => e = .returned (.bool (decide (0 ≤ v ∧ v < 16))) ∧ w' = w := by
  by_cases h0 : 0 ≤ v
  · by_cases h1 : v < 16
    · rw [decide_eq_true ⟨h0, h1⟩]
      go_enter Tryz.func160, Tryz.ntmps160
      go_wp2
      go_ret
      exact ⟨rfl, rfl⟩
    · rw [decide_eq_false (fun z => h1 z.2)]
      go_enter Tryz.func160, Tryz.ntmps160
      go_wp2
      go_ret
      exact ⟨rfl, rfl⟩
  · rw [decide_eq_false (fun z => h0 z.1)]
    go_enter Tryz.func160, Tryz.ntmps160
    go_wp2
    go_ret
    exact ⟨rfl, rfl⟩
theorem isBandM_any (v : Int) (w : World) : Calls Tryz.prog 161 #[.int .i64 v] w fun e w' => e = .returned (.bool (decide (0 ≤ v ∧ v < 4))) ∧ w' = w := by
  by_cases h0 : 0 ≤ v
  · by_cases h1 : v < 4
    · rw [decide_eq_true ⟨h0, h1⟩]
      go_enter Tryz.func161, Tryz.ntmps161
      go_wp2
      go_ret
      exact ⟨rfl, rfl⟩
    · rw [decide_eq_false (fun z => h1 z.2)]
      go_enter Tryz.func161, Tryz.ntmps161
      go_wp2
      go_ret
      exact ⟨rfl, rfl⟩
  · rw [decide_eq_false (fun z => h0 z.1)]
    go_enter Tryz.func161, Tryz.ntmps161
    go_wp2
    go_ret
    exact ⟨rfl, rfl⟩
theorem mod_val (v : Int) {n : Int} (hn : n = 4 ∨ n = 16) : (-n < v.tmod n ∧ v.tmod n < n) ∧ (v.tmod n + n).tmod n = v % n := by
  have key : (0 ≤ v ∧ v.tmod n = v % n) ∨ (v < 0 ∧ v.tmod n = -((-v) % n)) := by
    by_cases h : 0 ≤ v
    · exact .inl ⟨h, Int.tmod_eq_emod_of_nonneg h⟩
    · refine .inr ⟨by omega, ?_⟩
      have h2 := Int.neg_tmod (-v) n
      rw [Int.neg_neg] at h2
      rw [h2, Int.tmod_eq_emod_of_nonneg (by omega)]
  have hb : -n < v.tmod n ∧ v.tmod n < n := by
    rcases key with ⟨_, e⟩ | ⟨_, e⟩ <;> rw [e] <;> rcases hn with rfl | rfl <;> omega
  refine ⟨hb, ?_⟩
  rw [Int.tmod_eq_emod_of_nonneg (by omega)]
  rcases key with ⟨_, e⟩ | ⟨_, e⟩ <;> rw [e] <;> rcases hn with rfl | rfl <;> omega
theorem mod_any (v n : Int) (hn : n = 4 ∨ n = 16) (w : World) : Calls Tryz.prog 152 #[.int .i64 v, .int .i64 n] w fun e w' => e = .returned (.int .i64 (v % n)) ∧ w' = w := by
  obtain ⟨hb, hm⟩ := mod_val v hn
  have hw : IntKind.i64.wrap (v.tmod n + n) = v.tmod n + n := by rw [IntKind.wrap_i64]; rcases hn with rfl | rfl <;> omega
  have hn0 : ¬ (n = 0) := by rcases hn with rfl | rfl <;> omega
  go_enter Tryz.func152, Tryz.ntmps152
  go_wp2
  go_ret
  exact ⟨rfl, rfl⟩
end Go.Proofs.Qxb6500877aGreatDoor
