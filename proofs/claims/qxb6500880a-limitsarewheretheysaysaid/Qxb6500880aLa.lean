import Derived.Deep.CutBlock
import Derived.OwnWalk
import Derived.Maps.AppendAt
import Derived.Maps.OwnSet
import Derived.Maps.OwnOps
import Derived.Laws.ResultCell
import Derived.Test.Qxb6500880aNa
set_option linter.unusedVariables false
set_option linter.unusedSimpArgs false
namespace Go.Proofs.Qxb6500880a
open Go.RowKit

set_option maxRecDepth 20000 in
set_option maxHeartbeats 8000000 in
theorem is_any {w : World} {c : Int} {b : Bool} :
    Calls Try.prog 9 #[.agg #[.int .u8 c, .bool b]] w fun e w' => e = .returned (.func (.func 10) #[] #[.pointer (some ⟨w.heap.size, 0, none⟩)]) ∧ w' = w.alloc (.cells #[.int .u8 c, .bool b] 57) := by
  go_enter Try.func9, Try.ntmps9
  go_wp2
  go_ret
  exact ⟨rfl, rfl⟩
theorem eq57 (c : Int) (b : Bool) (w : World) : (binOp .eql 57 (.agg #[.int .u8 c, .bool b]) (.agg #[.int .u8 c, .bool b])).run Try.prog w = .ok (.bool true) w := by
  have hp0 : (part 36 #[.int .u8 c, .bool b] 0).run Try.prog w = .ok (.int .u8 c) w := by kernel_rfl
  have hp1 : (part 4 #[.int .u8 c, .bool b] 1).run Try.prog w = .ok (.bool b) w := by kernel_rfl
  have hs0 : (sizeOf 36).run Try.prog w = .ok 1 w := by kernel_rfl
  have hs1 : (sizeOf 4).run Try.prog w = .ok 1 w := by kernel_rfl
  have h : ∀ d, (Op.equalIn (d + 2) 57 (.agg #[.int .u8 c, .bool b]) (.agg #[.int .u8 c, .bool b])).run Try.prog w = .ok true w := fun d => by simp [Op.equalIn, run_underlying Try.underlying57, run_underlying Try.underlying36, run_underlying Try.underlying4, hp0, hp1, hs0, hs1]
  simp [binOp, Op.equal, Op.maxDepth, h 9998]
set_option maxRecDepth 20000 in
set_option maxHeartbeats 8000000 in
theorem chk_any {w : World} {P : Nat} {c : Int} {b : Bool} (h0 : w.cell? ⟨P, 0, none⟩ = some (.int .u8 c)) (h1 : w.cell? ⟨P, 1, none⟩ = some (.bool b)) :
    Calls Try.prog 10 #[.int .u8 c, .bool b, .pointer (some ⟨P, 0, none⟩)] w fun e w' => e = .returned (.bool true) ∧ w' = w := by
  have he := eq57 c b
  go_enter Try.func10, Try.ntmps10
  go_wp2
  go_ret
  exact ⟨rfl, rfl⟩
end Go.Proofs.Qxb6500880a
