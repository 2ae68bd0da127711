import Derived.Test.Qxb6500877aGreatDoorQi
set_option linter.unusedVariables false
set_option linter.unusedSimpArgs false
namespace Go.Proofs.Qxb6500877aGreatDoor
open Go.RowKit

theorem eqItems_same {P : Program} {d : Nat} {e : TypeId} {c : Nat} {xs : Array Value} (w : World) : ∀ is : List Nat, (∀ i ∈ is, ∃ a, (part e xs (i * c)).run P w = .ok a w ∧ (Op.equalIn d e a a).run P w = .ok true w) → (Op.eqItems d e c xs xs is).run P w = .ok true w
  | [], _ => by simp [Op.eqItems]
  | i :: is, h => by
    obtain ⟨a, h1, h2⟩ := h i (by simp)
    simp only [Op.eqItems, Sem.run_bind, h1, Result.andThen_ok, h2, Bool.not_true, Bool.false_eq_true, if_false]
    exact eqItems_same w is (fun j hj => h j (by simp [hj]))
/-- The task states of a state, as one value. -/
def tskC (f : Nat → Int × Int × Int) (j : Nat) : Value := if j % 3 = 0 then .int .u8 (f (j / 3)).1 else if j % 3 = 1 then .int .i64 (f (j / 3)).2.1 else .int .i64 (f (j / 3)).2.2
def tsk (f : Nat → Int × Int × Int) : Array Value := ((List.range 48).map (tskC f)).toArray
def accA (f : Nat → Int) : Array Value := ((List.range 16).map (fun j => Value.int .u64 (f j))).toArray
theorem tsk_part0 (f : Nat → Int × Int × Int) (w : World) : (part 48 (tsk f) (0 * 3)).run Tryz.prog w = .ok (.agg #[.int .u8 (f 0).1, .int .i64 (f 0).2.1, .int .i64 (f 0).2.2]) w := by kernel_rfl
theorem acc_part0 (f : Nat → Int) (w : World) : (part 28 (accA f) (0 * 1)).run Tryz.prog w = .ok (.int .u64 (f 0)) w := by kernel_rfl
theorem tsk_part1 (f : Nat → Int × Int × Int) (w : World) : (part 48 (tsk f) (1 * 3)).run Tryz.prog w = .ok (.agg #[.int .u8 (f 1).1, .int .i64 (f 1).2.1, .int .i64 (f 1).2.2]) w := by kernel_rfl
theorem acc_part1 (f : Nat → Int) (w : World) : (part 28 (accA f) (1 * 1)).run Tryz.prog w = .ok (.int .u64 (f 1)) w := by kernel_rfl
theorem tsk_part2 (f : Nat → Int × Int × Int) (w : World) : (part 48 (tsk f) (2 * 3)).run Tryz.prog w = .ok (.agg #[.int .u8 (f 2).1, .int .i64 (f 2).2.1, .int .i64 (f 2).2.2]) w := by kernel_rfl
theorem acc_part2 (f : Nat → Int) (w : World) : (part 28 (accA f) (2 * 1)).run Tryz.prog w = .ok (.int .u64 (f 2)) w := by kernel_rfl
theorem tsk_part3 (f : Nat → Int × Int × Int) (w : World) : (part 48 (tsk f) (3 * 3)).run Tryz.prog w = .ok (.agg #[.int .u8 (f 3).1, .int .i64 (f 3).2.1, .int .i64 (f 3).2.2]) w := by kernel_rfl
theorem acc_part3 (f : Nat → Int) (w : World) : (part 28 (accA f) (3 * 1)).run Tryz.prog w = .ok (.int .u64 (f 3)) w := by kernel_rfl
theorem tsk_part4 (f : Nat → Int × Int × Int) (w : World) : (part 48 (tsk f) (4 * 3)).run Tryz.prog w = .ok (.agg #[.int .u8 (f 4).1, .int .i64 (f 4).2.1, .int .i64 (f 4).2.2]) w := by kernel_rfl
theorem acc_part4 (f : Nat → Int) (w : World) : (part 28 (accA f) (4 * 1)).run Tryz.prog w = .ok (.int .u64 (f 4)) w := by kernel_rfl
theorem tsk_part5 (f : Nat → Int × Int × Int) (w : World) : (part 48 (tsk f) (5 * 3)).run Tryz.prog w = .ok (.agg #[.int .u8 (f 5).1, .int .i64 (f 5).2.1, .int .i64 (f 5).2.2]) w := by kernel_rfl
theorem acc_part5 (f : Nat → Int) (w : World) : (part 28 (accA f) (5 * 1)).run Tryz.prog w = .ok (.int .u64 (f 5)) w := by kernel_rfl
theorem tsk_part6 (f : Nat → Int × Int × Int) (w : World) : (part 48 (tsk f) (6 * 3)).run Tryz.prog w = .ok (.agg #[.int .u8 (f 6).1, .int .i64 (f 6).2.1, .int .i64 (f 6).2.2]) w := by kernel_rfl
theorem acc_part6 (f : Nat → Int) (w : World) : (part 28 (accA f) (6 * 1)).run Tryz.prog w = .ok (.int .u64 (f 6)) w := by kernel_rfl
theorem tsk_part7 (f : Nat → Int × Int × Int) (w : World) : (part 48 (tsk f) (7 * 3)).run Tryz.prog w = .ok (.agg #[.int .u8 (f 7).1, .int .i64 (f 7).2.1, .int .i64 (f 7).2.2]) w := by kernel_rfl
theorem acc_part7 (f : Nat → Int) (w : World) : (part 28 (accA f) (7 * 1)).run Tryz.prog w = .ok (.int .u64 (f 7)) w := by kernel_rfl
theorem tsk_part8 (f : Nat → Int × Int × Int) (w : World) : (part 48 (tsk f) (8 * 3)).run Tryz.prog w = .ok (.agg #[.int .u8 (f 8).1, .int .i64 (f 8).2.1, .int .i64 (f 8).2.2]) w := by kernel_rfl
theorem acc_part8 (f : Nat → Int) (w : World) : (part 28 (accA f) (8 * 1)).run Tryz.prog w = .ok (.int .u64 (f 8)) w := by kernel_rfl
theorem tsk_part9 (f : Nat → Int × Int × Int) (w : World) : (part 48 (tsk f) (9 * 3)).run Tryz.prog w = .ok (.agg #[.int .u8 (f 9).1, .int .i64 (f 9).2.1, .int .i64 (f 9).2.2]) w := by kernel_rfl
theorem acc_part9 (f : Nat → Int) (w : World) : (part 28 (accA f) (9 * 1)).run Tryz.prog w = .ok (.int .u64 (f 9)) w := by kernel_rfl
theorem tsk_part10 (f : Nat → Int × Int × Int) (w : World) : (part 48 (tsk f) (10 * 3)).run Tryz.prog w = .ok (.agg #[.int .u8 (f 10).1, .int .i64 (f 10).2.1, .int .i64 (f 10).2.2]) w := by kernel_rfl
theorem acc_part10 (f : Nat → Int) (w : World) : (part 28 (accA f) (10 * 1)).run Tryz.prog w = .ok (.int .u64 (f 10)) w := by kernel_rfl
theorem tsk_part11 (f : Nat → Int × Int × Int) (w : World) : (part 48 (tsk f) (11 * 3)).run Tryz.prog w = .ok (.agg #[.int .u8 (f 11).1, .int .i64 (f 11).2.1, .int .i64 (f 11).2.2]) w := by kernel_rfl
theorem acc_part11 (f : Nat → Int) (w : World) : (part 28 (accA f) (11 * 1)).run Tryz.prog w = .ok (.int .u64 (f 11)) w := by kernel_rfl
theorem tsk_part12 (f : Nat → Int × Int × Int) (w : World) : (part 48 (tsk f) (12 * 3)).run Tryz.prog w = .ok (.agg #[.int .u8 (f 12).1, .int .i64 (f 12).2.1, .int .i64 (f 12).2.2]) w := by kernel_rfl
theorem acc_part12 (f : Nat → Int) (w : World) : (part 28 (accA f) (12 * 1)).run Tryz.prog w = .ok (.int .u64 (f 12)) w := by kernel_rfl
theorem tsk_part13 (f : Nat → Int × Int × Int) (w : World) : (part 48 (tsk f) (13 * 3)).run Tryz.prog w = .ok (.agg #[.int .u8 (f 13).1, .int .i64 (f 13).2.1, .int .i64 (f 13).2.2]) w := by kernel_rfl
theorem acc_part13 (f : Nat → Int) (w : World) : (part 28 (accA f) (13 * 1)).run Tryz.prog w = .ok (.int .u64 (f 13)) w := by kernel_rfl
theorem tsk_part14 (f : Nat → Int × Int × Int) (w : World) : (part 48 (tsk f) (14 * 3)).run Tryz.prog w = .ok (.agg #[.int .u8 (f 14).1, .int .i64 (f 14).2.1, .int .i64 (f 14).2.2]) w := by kernel_rfl
theorem acc_part14 (f : Nat → Int) (w : World) : (part 28 (accA f) (14 * 1)).run Tryz.prog w = .ok (.int .u64 (f 14)) w := by kernel_rfl
theorem tsk_part15 (f : Nat → Int × Int × Int) (w : World) : (part 48 (tsk f) (15 * 3)).run Tryz.prog w = .ok (.agg #[.int .u8 (f 15).1, .int .i64 (f 15).2.1, .int .i64 (f 15).2.2]) w := by kernel_rfl
theorem acc_part15 (f : Nat → Int) (w : World) : (part 28 (accA f) (15 * 1)).run Tryz.prog w = .ok (.int .u64 (f 15)) w := by kernel_rfl
theorem tsk_part (f : Nat → Int × Int × Int) {i : Nat} (hi : i < 16) (w : World) : (part 48 (tsk f) (i * 3)).run Tryz.prog w = .ok (.agg #[.int .u8 (f i).1, .int .i64 (f i).2.1, .int .i64 (f i).2.2]) w := by
  have : i = 0 ∨ i = 1 ∨ i = 2 ∨ i = 3 ∨ i = 4 ∨ i = 5 ∨ i = 6 ∨ i = 7 ∨ i = 8 ∨ i = 9 ∨ i = 10 ∨ i = 11 ∨ i = 12 ∨ i = 13 ∨ i = 14 ∨ i = 15 := by omega
  rcases this with rfl | rfl | rfl | rfl | rfl | rfl | rfl | rfl | rfl | rfl | rfl | rfl | rfl | rfl | rfl | rfl
  · exact tsk_part0 f w
  · exact tsk_part1 f w
  · exact tsk_part2 f w
  · exact tsk_part3 f w
  · exact tsk_part4 f w
  · exact tsk_part5 f w
  · exact tsk_part6 f w
  · exact tsk_part7 f w
  · exact tsk_part8 f w
  · exact tsk_part9 f w
  · exact tsk_part10 f w
  · exact tsk_part11 f w
  · exact tsk_part12 f w
  · exact tsk_part13 f w
  · exact tsk_part14 f w
  · exact tsk_part15 f w
theorem acc_part (f : Nat → Int) {i : Nat} (hi : i < 16) (w : World) : (part 28 (accA f) (i * 1)).run Tryz.prog w = .ok (.int .u64 (f i)) w := by
  have : i = 0 ∨ i = 1 ∨ i = 2 ∨ i = 3 ∨ i = 4 ∨ i = 5 ∨ i = 6 ∨ i = 7 ∨ i = 8 ∨ i = 9 ∨ i = 10 ∨ i = 11 ∨ i = 12 ∨ i = 13 ∨ i = 14 ∨ i = 15 := by omega
  rcases this with rfl | rfl | rfl | rfl | rfl | rfl | rfl | rfl | rfl | rfl | rfl | rfl | rfl | rfl | rfl | rfl
  · exact acc_part0 f w
  · exact acc_part1 f w
  · exact acc_part2 f w
  · exact acc_part3 f w
  · exact acc_part4 f w
  · exact acc_part5 f w
  · exact acc_part6 f w
  · exact acc_part7 f w
  · exact acc_part8 f w
  · exact acc_part9 f w
  · exact acc_part10 f w
  · exact acc_part11 f w
  · exact acc_part12 f w
  · exact acc_part13 f w
  · exact acc_part14 f w
  · exact acc_part15 f w
theorem task_same (a b c : Int) (w : World) : (Op.equalIn 9999 48 (.agg #[.int .u8 a, .int .i64 b, .int .i64 c]) (.agg #[.int .u8 a, .int .i64 b, .int .i64 c])).run Tryz.prog w = .ok true w := by
  have hS : Tryz.prog.underlying 48 = some (.struct (Tryz.prog.fieldsOf 48)) := by kernel_rfl
  have hp : Tryz.prog.stoodInHeld 48 = false := by kernel_rfl
  rw [show (9999 : Nat) = 9998 + 1 from rfl, run_equalIn_agg w 9998 48 _ _ hS hp]
  simp only [Program.fieldsOf, Tryz.underlying48]
  go_simp
theorem num_same (a : Int) (w : World) : (Op.equalIn 9999 28 (.int .u64 a) (.int .u64 a)).run Tryz.prog w = .ok true w := by
  go_simp
theorem tasks_neq (f : Nat → Int × Int × Int) (w : World) : (binOp .neq 49 (.agg (tsk f)) (.agg (tsk f))).run Tryz.prog w = .ok (.bool false) w := by
  obtain ⟨i, hi⟩ : ∃ i, Tryz.prog.info? 48 = some i := info_of_underlying Tryz.underlying48
  have hc : Tryz.prog.cellsOf 48 = 3 := by kernel_rfl
  rw [run_neq_struct, show (10000 : Nat) = 9999 + 1 from rfl, run_equalIn_array w 9999 _ _ Tryz.underlying49 hi, hc, eqItems_same w _ (fun j hj => ⟨_, tsk_part f (by simpa using hj) w, task_same _ _ _ w⟩)]
  rfl
theorem accs_neq (f : Nat → Int) (w : World) : (binOp .neq 58 (.agg (accA f)) (.agg (accA f))).run Tryz.prog w = .ok (.bool false) w := by
  obtain ⟨i, hi⟩ : ∃ i, Tryz.prog.info? 28 = some i := info_of_underlying Tryz.underlying28
  have hc : Tryz.prog.cellsOf 28 = 1 := by kernel_rfl
  rw [run_neq_struct, show (10000 : Nat) = 9999 + 1 from rfl, run_equalIn_array w 9999 _ _ Tryz.underlying58 hi, hc, eqItems_same w _ (fun j hj => ⟨_, acc_part f (by simpa using hj) w, num_same _ w⟩)]
  rfl
theorem stats_neq (a0 a1 a2 a3 a4 a5 a6 : Int) (w : World) : (binOp .neq 52 (.agg #[.int .u64 a0, .int .u64 a1, .int .u64 a2, .int .u64 a3, .int .u64 a4, .int .u64 a5, .int .u64 a6]) (.agg #[.int .u64 a0, .int .u64 a1, .int .u64 a2, .int .u64 a3, .int .u64 a4, .int .u64 a5, .int .u64 a6])).run Tryz.prog w = .ok (.bool false) w := by
  have hS : Tryz.prog.underlying 52 = some (.struct (Tryz.prog.fieldsOf 52)) := by kernel_rfl
  have hp : Tryz.prog.stoodInHeld 52 = false := by kernel_rfl
  rw [run_neq_struct, show (10000 : Nat) = 9999 + 1 from rfl, run_equalIn_agg w 9999 52 _ _ hS hp]
  simp only [Program.fieldsOf, Tryz.underlying52]
  go_simp
theorem guard49 : Tryz.prog.eqGuardType Tryz.prog.depth 49 = false := by kernel_rfl
theorem guard58 : Tryz.prog.eqGuardType Tryz.prog.depth 58 = false := by kernel_rfl
theorem guard52 : Tryz.prog.eqGuardType Tryz.prog.depth 52 = false := by kernel_rfl
/-- Two states tell the same. -/
structure SnapEq (S T : Snap) : Prop where
  now : S.now = T.now
  tk : ∀ x, x < 16 → S.tk x = T.tk x
  cur : ∀ c, c < 4 → S.cur c = T.cur c
  q : ∀ c, c < 4 → S.q c = T.q c
  ld : ∀ c, c < 4 → S.ld c = T.ld c
  st : ∀ j, j < 28 → S.st j = T.st j
  box : ∀ b, b < 16 → S.box b = T.box b
  acc : ∀ b, b < 16 → S.acc b = T.acc b
  tm : S.tm = T.tm
  nx : S.nx = T.nx
/-- The lists of a state are not long. -/
structure SnapSm (S : Snap) : Prop where
  q : ∀ c, c < 4 → (S.q c).length ≤ 1000000
  box : ∀ b, b < 16 → (S.box b).length ≤ 1000000
  tm : S.tm.length ≤ 1000000
/-- A state in memory. -/
def StAt (w : World) (b base : Nat) (S : Snap) : Prop := StX w b base (fun _ => True) S
theorem StAt.cell {w : World} {b base : Nat} {S : Snap} (h : StAt w b base S) {j : Nat} (hj : j < 123) : ∃ v, w.cell? ⟨b, j, none⟩ = some v ∧ SCell w base S j v := by
  obtain ⟨v, h1, h2⟩ := h.ex j hj
  exact ⟨v, h1, h2 trivial⟩
theorem StAt.now {w : World} {b base : Nat} {S : Snap} (h : StAt w b base S) : w.cell? ⟨b, 0, none⟩ = some (.int .u64 S.now) := by
  obtain ⟨v, h1, h2⟩ := h.cell (j := 0) (by omega)
  unfold SCell at h2
  rw [if_pos rfl] at h2
  rw [h1, h2]
theorem StAt.task {w : World} {b base : Nat} {S : Snap} (h : StAt w b base S) {i : Nat} (hi : i < 16) : w.cell? ⟨b, 1 + i * 3, none⟩ = some (.int .u8 (S.tk i).1) ∧ w.cell? ⟨b, 1 + i * 3 + 1, none⟩ = some (.int .i64 (S.tk i).2.1) ∧ w.cell? ⟨b, 1 + i * 3 + 2, none⟩ = some (.int .i64 (S.tk i).2.2) := by
  obtain ⟨v0, p0, q0⟩ := h.cell (j := 1 + i * 3) (by omega)
  obtain ⟨v1, p1, q1⟩ := h.cell (j := 1 + i * 3 + 1) (by omega)
  obtain ⟨v2, p2, q2⟩ := h.cell (j := 1 + i * 3 + 2) (by omega)
  unfold SCell at q0 q1 q2
  rw [if_neg (by omega), if_pos (by omega), if_pos (by omega), show (1 + i * 3 - 1) / 3 = i by omega] at q0
  rw [if_neg (by omega), if_pos (by omega), if_neg (by omega), if_pos (by omega), show (1 + i * 3 + 1 - 1) / 3 = i by omega] at q1
  rw [if_neg (by omega), if_pos (by omega), if_neg (by omega), if_neg (by omega), show (1 + i * 3 + 2 - 1) / 3 = i by omega] at q2
  rw [p0, p1, p2, q0, q1, q2]
  exact ⟨rfl, rfl, rfl⟩
theorem StAt.cores {w : World} {b base : Nat} {S : Snap} (h : StAt w b base S) {c : Nat} (hc : c < 4) : w.cell? ⟨b, 49 + c * 10, none⟩ = some (.int .i64 (S.cur c)) ∧ (∃ v, w.cell? ⟨b, 49 + c * 10 + 1, none⟩ = some v ∧ IdsAt w base v (S.q c)) ∧ w.cell? ⟨b, 49 + c * 10 + 2, none⟩ = some (.int .i64 (S.ld c)) ∧ ∀ f, f < 7 → w.cell? ⟨b, 49 + c * 10 + 3 + f, none⟩ = some (.int .u64 (S.st (c * 7 + f))) := by
  obtain ⟨v0, p0, q0⟩ := h.cell (j := 49 + c * 10) (by omega)
  obtain ⟨v1, p1, q1⟩ := h.cell (j := 49 + c * 10 + 1) (by omega)
  obtain ⟨v2, p2, q2⟩ := h.cell (j := 49 + c * 10 + 2) (by omega)
  unfold SCell at q0 q1 q2
  rw [if_neg (by omega), if_neg (by omega), if_pos (by omega), if_pos (by omega), show (49 + c * 10 - 49) / 10 = c by omega] at q0
  rw [if_neg (by omega), if_neg (by omega), if_pos (by omega), if_neg (by omega), if_pos (by omega), show (49 + c * 10 + 1 - 49) / 10 = c by omega] at q1
  rw [if_neg (by omega), if_neg (by omega), if_pos (by omega), if_neg (by omega), if_neg (by omega), if_pos (by omega), show (49 + c * 10 + 2 - 49) / 10 = c by omega] at q2
  refine ⟨by rw [p0, q0], ⟨v1, p1, q1⟩, by rw [p2, q2], fun f hf => ?_⟩
  obtain ⟨v3, p3, q3⟩ := h.cell (j := 49 + c * 10 + 3 + f) (by omega)
  unfold SCell at q3
  rw [if_neg (by omega), if_neg (by omega), if_pos (by omega), if_neg (by omega), if_neg (by omega), if_neg (by omega), show (49 + c * 10 + 3 + f - 49) / 10 * 7 + ((49 + c * 10 + 3 + f - 49) % 10 - 3) = c * 7 + f by omega] at q3
  rw [p3, q3]
theorem StAt.boxes {w : World} {b base : Nat} {S : Snap} (h : StAt w b base S) {i : Nat} (hi : i < 16) : (∃ v, w.cell? ⟨b, 89 + i, none⟩ = some v ∧ MsgsAt w base v (S.box i)) ∧ w.cell? ⟨b, 105 + i, none⟩ = some (.int .u64 (S.acc i)) := by
  obtain ⟨v0, p0, q0⟩ := h.cell (j := 89 + i) (by omega)
  obtain ⟨v1, p1, q1⟩ := h.cell (j := 105 + i) (by omega)
  unfold SCell at q0 q1
  rw [if_neg (by omega), if_neg (by omega), if_neg (by omega), if_pos (by omega), show 89 + i - 89 = i by omega] at q0
  rw [if_neg (by omega), if_neg (by omega), if_neg (by omega), if_neg (by omega), if_pos (by omega), show 105 + i - 105 = i by omega] at q1
  exact ⟨⟨v0, p0, q0⟩, by rw [p1, q1]⟩
theorem StAt.ends {w : World} {b base : Nat} {S : Snap} (h : StAt w b base S) : (∃ v, w.cell? ⟨b, 121, none⟩ = some v ∧ TmsAt w base v S.tm) ∧ w.cell? ⟨b, 122, none⟩ = some (.int .u64 S.nx) := by
  obtain ⟨v0, p0, q0⟩ := h.cell (j := 121) (by omega)
  obtain ⟨v1, p1, q1⟩ := h.cell (j := 122) (by omega)
  unfold SCell at q0 q1
  simp at q0 q1
  exact ⟨⟨v0, p0, q0⟩, by rw [p1, q1]⟩
theorem add_at (b o j : Nat) : (⟨b, o, none⟩ : Addr).add j = ⟨b, o + j, none⟩ := by first | (simp [Addr.add]; done) | (simp [Addr.add]; intro h; omega)
theorem StAt.tsk {w : World} {b base : Nat} {S : Snap} (h : StAt w b base S) : (loadCellsFrom ⟨b, 1, none⟩ 0 48 #[]).run Tryz.prog w = .ok (tsk S.tk) w := by
  have := run_loadCells (P := Tryz.prog) w ⟨b, 1, none⟩ 48 (tskC S.tk) (fun j hj => by
    obtain ⟨p0, p1, p2⟩ := h.task (i := j / 3) (by omega)
    rw [add_at]
    unfold tskC
    by_cases e0 : j % 3 = 0
    · rw [if_pos e0, show 1 + j = 1 + j / 3 * 3 by omega]; exact p0
    · rw [if_neg e0]
      by_cases e1 : j % 3 = 1
      · rw [if_pos e1, show 1 + j = 1 + j / 3 * 3 + 1 by omega]; exact p1
      · rw [if_neg e1, show 1 + j = 1 + j / 3 * 3 + 2 by omega]; exact p2)
  exact this
theorem StAt.accs {w : World} {b base : Nat} {S : Snap} (h : StAt w b base S) : (loadCellsFrom ⟨b, 105, none⟩ 0 16 #[]).run Tryz.prog w = .ok (accA S.acc) w := by
  have := run_loadCells (P := Tryz.prog) w ⟨b, 105, none⟩ 16 (fun j => Value.int .u64 (S.acc j)) (fun j hj => by
    rw [add_at]
    exact (h.boxes hj).2)
  exact this
theorem loadVar_of {P : Program} {w : World} {a : Addr} {t n : Nat} {cs : Array Value} (hagg : (isAgg t).run P w = .ok true w) (hsz : (sizeOf t).run P w = .ok n w) (h : (loadCells a n).run P w = .ok cs w) : (loadVar t a).run P w = .ok (.agg cs) w := by
  simp [loadVar, hagg, hsz, h]
theorem agg49 (w : World) : (isAgg 49).run Tryz.prog w = .ok true w := by kernel_rfl
theorem agg58 (w : World) : (isAgg 58).run Tryz.prog w = .ok true w := by kernel_rfl
theorem size49 (w : World) : (sizeOf 49).run Tryz.prog w = .ok 48 w := by kernel_rfl
theorem size58 (w : World) : (sizeOf 58).run Tryz.prog w = .ok 16 w := by kernel_rfl
theorem StAt.lv49 {w : World} {b base : Nat} {S : Snap} (h : StAt w b base S) : (loadVar 49 ⟨b, 1, none⟩).run Tryz.prog w = .ok (.agg (Go.Proofs.Qxb6500877aGreatDoor.tsk S.tk)) w := loadVar_of (agg49 w) (size49 w) h.tsk
theorem StAt.lv58 {w : World} {b base : Nat} {S : Snap} (h : StAt w b base S) : (loadVar 58 ⟨b, 105, none⟩).run Tryz.prog w = .ok (.agg (accA S.acc)) w := loadVar_of (agg58 w) (size58 w) h.accs
theorem exec_load {P : Program} {w : World} {ev : Operand → Value} {o : Oper} (t : TypeId) (x : Operand) (hop : o.op = .load t x) (ad : Addr) (v : Value) (hx : ev x = .pointer (some ad)) (hr : (loadVar t ad).run P w = .ok v w) : (execOp ev o).run P w = .ok (.value v) w := by
  simp [execOp, hop, hx, Instr.loadAt, Instr.sureAddr, hr, Result.andThen]
theorem tsk_congr {f g : Nat → Int × Int × Int} (h : ∀ x, x < 16 → f x = g x) : tsk f = tsk g := by
  unfold tsk
  congr 1
  apply List.map_congr_left
  intro j hj
  have : j < 48 := by simpa using hj
  unfold tskC
  rw [h (j / 3) (by omega)]
theorem acc_congr {f g : Nat → Int} (h : ∀ x, x < 16 → f x = g x) : accA f = accA g := by
  unfold accA
  congr 1
  apply List.map_congr_left
  intro j hj
  rw [h j (by simpa using hj)]
end Go.Proofs.Qxb6500877aGreatDoor
