import Derived.Deep.CutBlock
import Derived.OwnWalk
import Derived.Maps.AppendAt
import Derived.Maps.OwnSet
import Derived.Maps.OwnOps
import Derived.Laws.ResultCell
import Derived.Test.Qxb6500880aZt
set_option linter.unusedVariables false
set_option linter.unusedSimpArgs false
namespace Go.Proofs.Qxb6500880a
open Go.RowKit

/-- The engine's cells when it is made. -/
def cI (B SB nb : Nat) : Nat → Value
  | 0 => .int .i64 (B : Int)
  | 1 => .int .u8 0
  | 2 => .int .u64 0
  | 3 => .bool false
  | 4 => .pointer (some ⟨SB, 0, none⟩)
  | 6 => .map (some nb)
  | 8 => .int .i64 0
  | 9 => .int .u8 0
  | 10 => .int .i64 0
  | 11 => .int .i64 0
  | 15 => .int .i64 0
  | 16 => .int .i64 0
  | 17 => .int .i64 0
  | 18 => .int .i64 0
  | 19 => .int .i64 0
  | 20 => .int .i64 0
  | _ => .slice none 0 0
set_option maxRecDepth 20000 in
set_option maxHeartbeats 8000000 in
theorem new_opt {w : World} {gp gu gd : Nat} {B : Int} (hB : B < 0 ∨ 16777216 < B) :
    Calls Try.prog 6 #[.agg #[.slice (some ⟨gp, 0, none⟩) 2 2, .slice (some ⟨gu, 0, none⟩) 1 1, .int .i64 1], .slice (some ⟨gd, 0, none⟩) 1 1, .agg #[.int .i64 B, .int .u8 0, .int .u64 0, .bool false]] w fun e w' => e = .returned (.tuple #[.pointer none, .agg #[.int .u8 1, .int .i64 0, .int .i64 0]]) ∧ Below w.heap.size w w' := by
  rcases hB with hB | hB
  · have h1 : B < 0 := hB
    go_enter Try.func6, Try.ntmps6
    go_wp2
    refine bodyPost_ret (v := .tuple #[.pointer none, .agg #[.int .u8 1, .int .i64 0, .int .i64 0]]) ?_ rfl ?_
    · rw [results_tmp_cell rfl]
      go_simp
    · exact ⟨rfl, then_ (then_ (one_alloc _ _) (one_alloc _ _)) (one_alloc _ _)⟩
  · have h1 : ¬ (B < 0) := by omega
    have h2 : B > 16777216 := hB
    have h3 : 16777216 < B := hB
    go_enter Try.func6, Try.ntmps6
    go_wp2
    refine bodyPost_ret (v := .tuple #[.pointer none, .agg #[.int .u8 1, .int .i64 0, .int .i64 0]]) ?_ rfl ?_
    · rw [results_tmp_cell rfl]
      go_simp
    · exact ⟨rfl, then_ (then_ (one_alloc _ _) (one_alloc _ _)) (one_alloc _ _)⟩
end Go.Proofs.Qxb6500880a
