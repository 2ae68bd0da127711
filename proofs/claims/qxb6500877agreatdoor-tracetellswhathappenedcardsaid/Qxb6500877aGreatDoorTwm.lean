import Derived.Deep.CutBlock
import Derived.OwnWalk
import Derived.Maps.AppendAt
import Derived.Test.Qxb6500877aGreatDoorTwn
import Derived.Test.Qxb6500877aGreatDoorTwi
import Derived.Test.Qxb6500877aGreatDoorTwk
import Derived.Test.Qxb6500877aGreatDoorTwe
import Derived.Test.Qxb6500877aGreatDoorPMq
set_option linter.unusedVariables false
set_option linter.unusedSimpArgs false
namespace Go.Proofs.Qxb6500877aGreatDoor
open Go.RowKit

namespace W
/-- Where a step begins, its frame made. -/
structure Begun (w W : World) (B mb t k : Nat) (ν : Net) (τ : TSt) (σ : Sg) (Λ : LS) (o : OpS) : Prop where
  d : Done w W B mb t k ν τ σ Λ Λ
  sz : W.heap.size = w.heap.size + 3
  op : OpAt W w.heap.size o
  ra : ResAt W (w.heap.size + 1)
  rb : ResX W (w.heap.size + 2) ⟨0, -1, -1, 0⟩
theorem begun {w : World} {B mb t k : Nat} {ν : Net} {τ : TSt} {σ : Sg} {Λ : LS} (M : Mach w B mb t k ν τ σ Λ) (o : OpS) : Begun w (((w.alloc (.cells #[.int .u8 o.kd, .int .i64 o.a, .int .i64 o.b, .int .i64 o.c, .int .u64 o.x, .int .u64 o.y] 32)).alloc (.cells #[.int .i64 0, .int .i64 0, .int .i64 0, .int .u64 0, .bool false, .int .i64 0, .int .i64 0, .int .u32 0, .int .u64 0, .int .u64 0, .int .u64 0, .int .u64 0, .int .u64 0, .int .u64 0, .slice none 0 0] 43)).alloc (.cells #[.int .i64 0, .int .i64 (-1), .int .i64 (-1), .int .u64 0, .bool false, .int .i64 0, .int .i64 0, .int .u32 0, .int .u64 0, .int .u64 0, .int .u64 0, .int .u64 0, .int .u64 0, .int .u64 0, .slice none 0 0] 43)) B mb t k ν τ σ Λ o := by
  have s1 : (w.alloc (.cells #[.int .u8 o.kd, .int .i64 o.a, .int .i64 o.b, .int .i64 o.c, .int .u64 o.x, .int .u64 o.y] 32)).heap.size = w.heap.size + 1 := by simp
  have s2 : ((w.alloc (.cells #[.int .u8 o.kd, .int .i64 o.a, .int .i64 o.b, .int .i64 o.c, .int .u64 o.x, .int .u64 o.y] 32)).alloc (.cells #[.int .i64 0, .int .i64 0, .int .i64 0, .int .u64 0, .bool false, .int .i64 0, .int .i64 0, .int .u32 0, .int .u64 0, .int .u64 0, .int .u64 0, .int .u64 0, .int .u64 0, .int .u64 0, .slice none 0 0] 43)).heap.size = w.heap.size + 2 := by simp
  have h1 := op_new w o 32
  have h2 := res_new (w.alloc (.cells #[.int .u8 o.kd, .int .i64 o.a, .int .i64 o.b, .int .i64 o.c, .int .u64 o.x, .int .u64 o.y] 32)) 0 0 0 43
  have h3 := res_newX ((w.alloc (.cells #[.int .u8 o.kd, .int .i64 o.a, .int .i64 o.b, .int .i64 o.c, .int .u64 o.x, .int .u64 o.y] 32)).alloc (.cells #[.int .i64 0, .int .i64 0, .int .i64 0, .int .u64 0, .bool false, .int .i64 0, .int .i64 0, .int .u32 0, .int .u64 0, .int .u64 0, .int .u64 0, .int .u64 0, .int .u64 0, .int .u64 0, .slice none 0 0] 43)) 43
  rw [s1] at h2
  rw [s2] at h3
  refine ⟨(((Done.refl M).below (one_alloc _ _)).below (one_alloc _ _)).below (one_alloc _ _), by simp, ?_, h2.blk ((one_alloc _ _).block _ (by omega)), h3⟩
  exact (h1.blk ((one_alloc _ _).block _ (by omega))).blk ((one_alloc _ _).block _ (by omega))
end W
end Go.Proofs.Qxb6500877aGreatDoor
