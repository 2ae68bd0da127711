import Derived.Test.Qxb6500877aGreatDoorMn
import Derived.Test.Qxb6500877aGreatDoorMp
import Derived.Test.Qxb6500877aGreatDoorMk
set_option linter.unusedVariables false
set_option linter.unusedSimpArgs false
namespace Go.Proofs.Qxb6500877aGreatDoor
open Go.RowKit

/-- Something is returned. -/
def Any (e : Ending) : Prop := ∃ v, e = .returned v
theorem any_mk (v : Value) : Any (.returned v) := ⟨v, rfl⟩
def tickOf (o : OpS) : Nat := if o.kd = 2 then 1 else if o.kd = 3 then o.x else 0
theorem res_new (w : World) (a b c : Int) (t : TypeId) : ResAt (w.alloc (.cells #[.int .i64 0, .int .i64 a, .int .i64 b, .int .u64 c, .bool false, .int .i64 0, .int .i64 0, .int .u32 0, .int .u64 0, .int .u64 0, .int .u64 0, .int .u64 0, .int .u64 0, .int .u64 0, .slice none 0 0] t)) w.heap.size := by
  refine ⟨fun j hj => ?_, fun o => by simp⟩
  match j, hj with
  | 0, _ => exact ⟨.int .i64 0, by simp, _, rfl⟩
  | 1, _ => exact ⟨.int .i64 a, by simp, _, rfl⟩
  | 2, _ => exact ⟨.int .i64 b, by simp, _, rfl⟩
  | 3, _ => exact ⟨.int .u64 c, by simp, _, rfl⟩
  | 4, _ => exact ⟨.bool false, by simp, _, rfl⟩
  | 5, _ => exact ⟨.int .i64 0, by simp, _, rfl⟩
  | 6, _ => exact ⟨.int .i64 0, by simp, _, rfl⟩
  | 7, _ => exact ⟨.int .u32 0, by simp, _, rfl⟩
  | 8, _ => exact ⟨.int .u64 0, by simp, _, rfl⟩
  | 9, _ => exact ⟨.int .u64 0, by simp, _, rfl⟩
  | 10, _ => exact ⟨.int .u64 0, by simp, _, rfl⟩
  | 11, _ => exact ⟨.int .u64 0, by simp, _, rfl⟩
  | 12, _ => exact ⟨.int .u64 0, by simp, _, rfl⟩
  | 13, _ => exact ⟨.int .u64 0, by simp, _, rfl⟩
  | 14, _ => exact ⟨.slice none 0 0, by simp, _, _, _, rfl⟩
/-- Where a step begins, its frame made. -/
structure Begun (w W : World) (B mb t k : Nat) (o : OpS) : Prop where
  d : Done w W B mb t k
  sz : W.heap.size = w.heap.size + 3
  op : OpAt W w.heap.size o
  ra : ResAt W (w.heap.size + 1)
  rb : ResAt W (w.heap.size + 2)
theorem begun {w : World} {B mb t k : Nat} (M : Mach w B mb t k) (o : OpS) : Begun w (((w.alloc (.cells #[.int .u8 o.kd, .int .i64 o.a, .int .i64 o.b, .int .i64 o.c, .int .u64 o.x, .int .u64 o.y] 32)).alloc (.cells #[.int .i64 0, .int .i64 0, .int .i64 0, .int .u64 0, .bool false, .int .i64 0, .int .i64 0, .int .u32 0, .int .u64 0, .int .u64 0, .int .u64 0, .int .u64 0, .int .u64 0, .int .u64 0, .slice none 0 0] 43)).alloc (.cells #[.int .i64 0, .int .i64 (-1), .int .i64 (-1), .int .u64 0, .bool false, .int .i64 0, .int .i64 0, .int .u32 0, .int .u64 0, .int .u64 0, .int .u64 0, .int .u64 0, .int .u64 0, .int .u64 0, .slice none 0 0] 43)) B mb t k o := by
  have s1 : (w.alloc (.cells #[.int .u8 o.kd, .int .i64 o.a, .int .i64 o.b, .int .i64 o.c, .int .u64 o.x, .int .u64 o.y] 32)).heap.size = w.heap.size + 1 := by simp
  have s2 : ((w.alloc (.cells #[.int .u8 o.kd, .int .i64 o.a, .int .i64 o.b, .int .i64 o.c, .int .u64 o.x, .int .u64 o.y] 32)).alloc (.cells #[.int .i64 0, .int .i64 0, .int .i64 0, .int .u64 0, .bool false, .int .i64 0, .int .i64 0, .int .u32 0, .int .u64 0, .int .u64 0, .int .u64 0, .int .u64 0, .int .u64 0, .int .u64 0, .slice none 0 0] 43)).heap.size = w.heap.size + 2 := by simp
  have h1 := op_new w o 32
  have h2 := res_new (w.alloc (.cells #[.int .u8 o.kd, .int .i64 o.a, .int .i64 o.b, .int .i64 o.c, .int .u64 o.x, .int .u64 o.y] 32)) 0 0 0 43
  have h3 := res_new ((w.alloc (.cells #[.int .u8 o.kd, .int .i64 o.a, .int .i64 o.b, .int .i64 o.c, .int .u64 o.x, .int .u64 o.y] 32)).alloc (.cells #[.int .i64 0, .int .i64 0, .int .i64 0, .int .u64 0, .bool false, .int .i64 0, .int .i64 0, .int .u32 0, .int .u64 0, .int .u64 0, .int .u64 0, .int .u64 0, .int .u64 0, .int .u64 0, .slice none 0 0] 43)) (-1) (-1) 0 43
  rw [s1] at h2
  rw [s2] at h3
  refine ⟨(((Done.refl M).below (one_alloc _ _)).below (one_alloc _ _)).below (one_alloc _ _), by simp, ?_, h2.blk ((one_alloc _ _).block _ (by omega)), h3⟩
  exact (h1.blk ((one_alloc _ _).block _ (by omega))).blk ((one_alloc _ _).block _ (by omega))

end Go.Proofs.Qxb6500877aGreatDoor
