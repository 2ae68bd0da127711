import Derived.Test.Qxb6500877aGreatDoorYa
set_option linter.unusedVariables false
set_option linter.unusedSimpArgs false
namespace Go.Proofs.Qxb6500877aGreatDoor
open Go.RowKit

theorem below_set {n : Nat} {w w1 : World} (h : Below n w w1) (q : Addr) (hq : n ≤ q.block) (v : Value) : Below n w (w1.setCell q v) :=
  ⟨h.os, h.tape, h.output, by have := h.size; simpa using this, fun k hk => (heap_set (by omega)).trans (h.block k hk)⟩
set_option maxHeartbeats 4000000 in
theorem lookup_none {w : World} {B n : Nat} {s : Wheel} {f : Int → Option Int} {id : Int} (T : TimersAt w B n s f) (h0 : 0 ≤ id) (h1 : id < 18446744073709551616) (hf : f id = none) :
    Calls Tryz.prog 101 #[.pointer (some ⟨B, 1, none⟩), .int .u64 id] w fun e w' => e = .returned (.tuple #[timerV 0 0 0 0, .bool false]) ∧ Below w.heap.size w w' := by
  have hlt : B < w.heap.size := World.block_lt_of_cell? _ _ T.wh.one.1
  have hlm := T.mp.lt
  generalize hW : w.alloc (.cells #[.int .u64 0, .int .i64 0, .int .u64 0, .int .u64 0] 84) = W at *
  have BL : Below w.heap.size w W := by rw [← hW]; exact one_alloc _ _
  have F0 : Four W w.heap.size 0 0 0 0 := by rw [← hW]; exact four_new _ _ _ _ _ _
  have TW := T.below BL
  have hrun := TW.mp.look h0 h1
  rw [hf] at hrun
  have hrun' : (Instr.lookup 161 (.map (some s.mb)) (.int .u64 id) true).run Tryz.prog W = .ok (.tuple #[.int .i16 0, .bool false]) W := hrun
  obtain ⟨_, _, _, _, o4⟩ := TW.wh.one
  obtain ⟨g0, g1, g2, g3, fz⟩ := F0
  clear hrun hf
  go_enter Tryz.func101, Tryz.ntmps101
  go_wp2
  exact bodyPost_ret (v := .tuple #[timerV 0 0 0 0, .bool false]) (by simp [timerV, results, Tryz.results101, go_sem, g0, g1, g2, g3]) rfl
    ⟨rfl, below_set (below_set (below_set (below_set BL ⟨w.heap.size, 0, none⟩ (Nat.le_refl _) _) ⟨w.heap.size, 1, none⟩ (Nat.le_refl _) _) ⟨w.heap.size, 2, none⟩ (Nat.le_refl _) _) ⟨w.heap.size, 3, none⟩ (Nat.le_refl _) _⟩
set_option maxHeartbeats 4000000 in
theorem lookup_some {w : World} {B n x : Nat} {s : Wheel} {f : Int → Option Int} {id : Int} (T : TimersAt w B n s f) (h0 : 0 ≤ id) (h1 : id < 18446744073709551616) (hf : f id = some (x : Int)) (hx : x < 64) :
    Calls Tryz.prog 101 #[.pointer (some ⟨B, 1, none⟩), .int .u64 id] w fun e w' => e = .returned (.tuple #[timerV (s.nd x).id (s.nd x).core (s.nd x).dl (s.nd x).ck, .bool true]) ∧ Below w.heap.size w w' := by
  have hlt : B < w.heap.size := World.block_lt_of_cell? _ _ T.wh.one.1
  have hlm := T.mp.lt
  have x0 : (0 : Int) ≤ x := by omega
  have x1 : (x : Int) < 64 := by omega
  generalize hW : w.alloc (.cells #[.int .u64 0, .int .i64 0, .int .u64 0, .int .u64 0] 84) = W at *
  have BL : Below w.heap.size w W := by rw [← hW]; exact one_alloc _ _
  have F0 : Four W w.heap.size 0 0 0 0 := by rw [← hW]; exact four_new _ _ _ _ _ _
  have TW := T.below BL
  have hrun := TW.mp.look h0 h1
  rw [hf] at hrun
  have hrun' : (Instr.lookup 161 (.map (some s.mb)) (.int .u64 id) true).run Tryz.prog W = .ok (.tuple #[.int .i16 x, .bool true]) W := hrun
  obtain ⟨_, _, _, _, o4⟩ := TW.wh.one
  obtain ⟨y0, y1, y2, y3, _, _, _, _⟩ := TW.wh.node hx
  obtain ⟨g0, g1, g2, g3, fz⟩ := F0
  have q1 : ¬ (w.heap.size = B) := by omega
  have q2 : ¬ (B = w.heap.size) := by omega
  clear hrun hf
  go_enter Tryz.func101, Tryz.ntmps101
  go_wp2
  exact bodyPost_ret (v := .tuple #[timerV (s.nd x).id (s.nd x).core (s.nd x).dl (s.nd x).ck, .bool true]) (by simp [timerV, results, Tryz.results101, go_sem, g0, g1, g2, g3]) rfl
    ⟨rfl, below_set (below_set (below_set (below_set BL ⟨w.heap.size, 0, none⟩ (Nat.le_refl _) _) ⟨w.heap.size, 1, none⟩ (Nat.le_refl _) _) ⟨w.heap.size, 2, none⟩ (Nat.le_refl _) _) ⟨w.heap.size, 3, none⟩ (Nat.le_refl _) _⟩
set_option maxHeartbeats 4000000 in
theorem timer_any {w : World} {B mb t k : Nat} {ν : Net} {τ : TSt} (M : Mach w B mb t k ν τ) {id : Int} (h0 : 0 ≤ id) (h1 : id < 18446744073709551616) :
    Calls Tryz.prog 42 #[.pointer (some ⟨B, 0, none⟩), .int .u64 id] w fun e w' => ∃ a c d q : Int, e = .returned (.tuple #[timerV a c d q, .bool (τ.tm id).isSome]) ∧ Below w.heap.size w w' := by
  obtain ⟨s, L, fr, f, T, I, q1, q2, q3⟩ := M.tim
  have hB := M.lt
  generalize hW : w.alloc (.cells #[.int .u64 0, .int .i64 0, .int .u64 0, .int .u64 0] 84) = W at *
  have BL : Below w.heap.size w W := by rw [← hW]; exact one_alloc _ _
  have F0 : Four W w.heap.size 0 0 0 0 := by rw [← hW]; exact four_new _ _ _ _ _ _
  have hsz : W.heap.size = w.heap.size + 1 := by rw [← hW]; simp
  have TW := T.below BL
  have key : Calls Tryz.prog 101 #[.pointer (some ⟨B, 1, none⟩), .int .u64 id] W fun e w' => ∃ a c d q : Int, e = .returned (.tuple #[timerV a c d q, .bool (τ.tm id).isSome]) ∧ Below W.heap.size W w' := by
    rw [← q3.tm]
    unfold tmOf
    cases hf : f id with
    | none => exact (lookup_none TW h0 h1 hf).mono fun e w' h => ⟨0, 0, 0, 0, by simpa using h.1, h.2⟩
    | some i =>
      obtain ⟨x, rfl, hx, _⟩ := I.map id i hf
      exact (lookup_some TW h0 h1 hf hx).mono fun e w' h => ⟨_, _, _, _, by simpa using h.1, h.2⟩
  have HK := hideIt (And.intro q1 (And.intro q2 q3))
  clear q1 q2 q3 I T TW
  generalize (τ.tm id).isSome = lv at *
  go_enter Tryz.func42, Tryz.ntmps42
  go_wp2_with fail
  refine key.mono ?_
  rintro e w1 ⟨a, c, d, q, rfl, hb1⟩
  have F1 := F0.of_block (hb1.block _ (by omega))
  obtain ⟨g0, g1, g2, g3, fz⟩ := F1
  have B1 : Below w.heap.size w w1 := below_to BL hb1 (by omega)
  clear key hb1 BL F0
  simp only [timerV]
  go_wp2
  exact bodyPost_ret (v := .tuple #[timerV a c d q, .bool lv]) (by simp [timerV, results, Tryz.results42, go_sem, g0, g1, g2, g3]) rfl
    ⟨a, c, d, q, rfl, below_set (below_set (below_set (below_set B1 ⟨w.heap.size, 0, none⟩ (Nat.le_refl _) _) ⟨w.heap.size, 1, none⟩ (Nat.le_refl _) _) ⟨w.heap.size, 2, none⟩ (Nat.le_refl _) _) ⟨w.heap.size, 3, none⟩ (Nat.le_refl _) _⟩
end Go.Proofs.Qxb6500877aGreatDoor
