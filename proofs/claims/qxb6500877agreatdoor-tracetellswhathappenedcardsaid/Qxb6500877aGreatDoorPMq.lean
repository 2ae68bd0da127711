import Derived.Test.Qxb6500877aGreatDoorPMn
import Derived.Test.Qxb6500877aGreatDoorPMp
import Derived.Test.Qxb6500877aGreatDoorPMk
import Derived.Test.Qxb6500877aGreatDoorPMl0
set_option linter.unusedVariables false
set_option linter.unusedSimpArgs false
namespace Go.Proofs.Qxb6500877aGreatDoor
open Go.RowKit




/-- A result without a message is returned, of code c. -/
def ResF (c : Int) (e : Ending) : Prop := ∃ co tk tm m, e = .returned (resV c co tk tm false m none 0 0)
def Any (e : Ending) : Prop := ∃ c, ResF c e
theorem res_mk (c co tk tm mf mt md mq ma x0 x1 x2 x3 : Int) : ResF c (.returned (.agg #[.int .i64 c, .int .i64 co, .int .i64 tk, .int .u64 tm, .bool false, .int .i64 mf, .int .i64 mt, .int .u32 md, .int .u64 mq, .int .u64 ma, .int .u64 x0, .int .u64 x1, .int .u64 x2, .int .u64 x3, .slice none 0 0])) := ⟨co, tk, tm, ⟨mf, mt, md, mq, ma, x0, x1, x2, x3⟩, rfl⟩
theorem any_mk (c co tk tm mf mt md mq ma x0 x1 x2 x3 : Int) : Any (.returned (.agg #[.int .i64 c, .int .i64 co, .int .i64 tk, .int .u64 tm, .bool false, .int .i64 mf, .int .i64 mt, .int .u32 md, .int .u64 mq, .int .u64 ma, .int .u64 x0, .int .u64 x1, .int .u64 x2, .int .u64 x3, .slice none 0 0])) := ⟨c, res_mk c co tk tm mf mt md mq ma x0 x1 x2 x3⟩
theorem FiredAt.set {w : World} {base : Nat} {v : Value} {l : List FiredS} (h : FiredAt w base v l) (q : Addr) (hq : q.block < base) (u : Value) : FiredAt (w.setCell q u) base v l := by
  refine World.ownsRow.kept (row := some q.block) h ⟨rfl, rfl, rfl, by simp, fun k _ hk => ?_⟩ (.inr fun e => ?_)
  · simp only [World.setCell, Array.getElem?_modify]
    rw [if_neg (fun e => hk (by rw [e]))]
  · have := (World.ownsRow.lt h _ e).1
    omega
theorem FiredAt.wide {w : World} {base base' : Nat} {v : Value} {l : List FiredS} (h : FiredAt w base v l) (hb : base' ≤ base) : FiredAt w base' v l :=
  ⟨h.1, h.2.imp id (fun ⟨g, cap, cur, h1, h2, h3⟩ => ⟨g, cap, cur, h1, Nat.le_trans hb h2, h3⟩)⟩
theorem fired_shape {w : World} {base : Nat} {v : Value} {l : List FiredS} (h : FiredAt w base v l) : ∃ p c, v = .slice p l.length c := by
  rcases h.2 with ⟨e1, e2⟩ | ⟨g, cap, cur, e1, _⟩
  · exact ⟨none, 0, by rw [e1, e2]⟩
  · exact ⟨_, _, e1⟩
/-- A result without a message, of code c and timer tm, the timers that went off in v. -/
def ResT (c tm : Int) (v : Value) (e : Ending) : Prop := ∃ co tk m p a n, v = .slice p a n ∧ e = .returned (resV c co tk tm false m p a n)
theorem rest_mk (c co tk tm mf mt md mq ma x0 x1 x2 x3 : Int) (p : Option Addr) (a n : Nat) : ResT c tm (.slice p a n) (.returned (.agg #[.int .i64 c, .int .i64 co, .int .i64 tk, .int .u64 tm, .bool false, .int .i64 mf, .int .i64 mt, .int .u32 md, .int .u64 mq, .int .u64 ma, .int .u64 x0, .int .u64 x1, .int .u64 x2, .int .u64 x3, .slice p a n])) := ⟨co, tk, ⟨mf, mt, md, mq, ma, x0, x1, x2, x3⟩, p, a, n, rfl, rfl⟩
/-- What a delivery answers: box i's oldest message, or that the box is empty. -/
def ResD (i : Nat) (z : Int) (m : MsgV) (e : Ending) : Prop := e = .returned (resV z (i % 4 : Nat) (-1) 0 (decide (z = 0)) m none 0 0)
def tickOf (o : OpS) : Nat := if o.kd = 2 then 1 else if o.kd = 3 then o.x else 0
theorem res_new (w : World) (a b c : Int) (t : TypeId) : ResAt (w.alloc (.cells #[.int .i64 0, .int .i64 a, .int .i64 b, .int .u64 c, .bool false, .int .i64 0, .int .i64 0, .int .u32 0, .int .u64 0, .int .u64 0, .int .u64 0, .int .u64 0, .int .u64 0, .int .u64 0, .slice none 0 0] t)) w.heap.size := by
  refine ⟨fun j hj => ?_, fun o => by simp⟩
  match j, hj with
  | 0, _ => exact ⟨.int .i64 0, by simp, _, rfl⟩
  | 1, _ => exact ⟨.int .i64 a, by simp, _, rfl⟩
  | 2, _ => exact ⟨.int .i64 b, by simp, _, rfl⟩
  | 3, _ => exact ⟨.int .u64 c, by simp, _, rfl⟩
  | 4, _ => exact ⟨.bool false, by simp, rfl⟩
  | 5, _ => exact ⟨.int .i64 0, by simp, _, rfl⟩
  | 6, _ => exact ⟨.int .i64 0, by simp, _, rfl⟩
  | 7, _ => exact ⟨.int .u32 0, by simp, _, rfl⟩
  | 8, _ => exact ⟨.int .u64 0, by simp, _, rfl⟩
  | 9, _ => exact ⟨.int .u64 0, by simp, _, rfl⟩
  | 10, _ => exact ⟨.int .u64 0, by simp, _, rfl⟩
  | 11, _ => exact ⟨.int .u64 0, by simp, _, rfl⟩
  | 12, _ => exact ⟨.int .u64 0, by simp, _, rfl⟩
  | 13, _ => exact ⟨.int .u64 0, by simp, _, rfl⟩
  | 14, _ => exact ⟨.slice none 0 0, by simp, rfl⟩
theorem res_newX (w : World) (t : TypeId) : ResX (w.alloc (.cells #[.int .i64 0, .int .i64 (-1), .int .i64 (-1), .int .u64 0, .bool false, .int .i64 0, .int .i64 0, .int .u32 0, .int .u64 0, .int .u64 0, .int .u64 0, .int .u64 0, .int .u64 0, .int .u64 0, .slice none 0 0] t)) w.heap.size ⟨0, -1, -1, 0⟩ := by
  refine ⟨fun j hj => ?_, fun o => by simp⟩
  match j, hj with
  | 0, _ => exact ⟨.int .i64 0, by simp, _, hideIt rfl, rfl⟩
  | 1, _ => exact ⟨.int .i64 (-1), by simp, _, hideIt rfl, rfl⟩
  | 2, _ => exact ⟨.int .i64 (-1), by simp, _, hideIt rfl, rfl⟩
  | 3, _ => exact ⟨.int .u64 0, by simp, _, hideIt rfl, rfl⟩
  | 4, _ => exact ⟨.bool false, by simp, rfl⟩
  | 5, _ => exact ⟨.int .i64 0, by simp, _, hideIt rfl, rfl⟩
  | 6, _ => exact ⟨.int .i64 0, by simp, _, hideIt rfl, rfl⟩
  | 7, _ => exact ⟨.int .u32 0, by simp, _, hideIt rfl, rfl⟩
  | 8, _ => exact ⟨.int .u64 0, by simp, _, hideIt rfl, rfl⟩
  | 9, _ => exact ⟨.int .u64 0, by simp, _, hideIt rfl, rfl⟩
  | 10, _ => exact ⟨.int .u64 0, by simp, _, hideIt rfl, rfl⟩
  | 11, _ => exact ⟨.int .u64 0, by simp, _, hideIt rfl, rfl⟩
  | 12, _ => exact ⟨.int .u64 0, by simp, _, hideIt rfl, rfl⟩
  | 13, _ => exact ⟨.int .u64 0, by simp, _, hideIt rfl, rfl⟩
  | 14, _ => exact ⟨.slice none 0 0, by simp, rfl⟩
/-- A result with neither a message nor timers. -/
def ResE (r : RS) (e : Ending) : Prop := e = .returned (resV r.c r.co r.tk r.tm false msg0 none 0 0)
theorem resE_mk {r : RS} {x0 x1 x2 x3 x5 x6 x7 x8 x9 x10 x11 x12 x13 : Int} (e0 : Hid (x0 = r.c)) (e1 : Hid (x1 = r.co)) (e2 : Hid (x2 = r.tk)) (e3 : Hid (x3 = r.tm)) (e5 : Hid (x5 = 0)) (e6 : Hid (x6 = 0)) (e7 : Hid (x7 = 0)) (e8 : Hid (x8 = 0)) (e9 : Hid (x9 = 0)) (e10 : Hid (x10 = 0)) (e11 : Hid (x11 = 0)) (e12 : Hid (x12 = 0)) (e13 : Hid (x13 = 0)) :
    ResE r (.returned (.agg #[.int .i64 x0, .int .i64 x1, .int .i64 x2, .int .u64 x3, .bool false, .int .i64 x5, .int .i64 x6, .int .u32 x7, .int .u64 x8, .int .u64 x9, .int .u64 x10, .int .u64 x11, .int .u64 x12, .int .u64 x13, .slice none 0 0])) := by
  rw [e0.out, e1.out, e2.out, e3.out, e5.out, e6.out, e7.out, e8.out, e9.out, e10.out, e11.out, e12.out, e13.out]
  rfl
/-- A result that lists timers. -/
def ResL (v : Value) (e : Ending) : Prop := ∃ p a n, v = .slice p a n ∧ e = .returned (resV 0 (-1) (-1) 0 false msg0 p a n)
theorem resL_mk {x0 x1 x2 x3 x5 x6 x7 x8 x9 x10 x11 x12 x13 : Int} {p : Option Addr} {a n : Nat} (e0 : Hid (x0 = (⟨0, -1, -1, 0⟩ : RS).c)) (e1 : Hid (x1 = (⟨0, -1, -1, 0⟩ : RS).co)) (e2 : Hid (x2 = (⟨0, -1, -1, 0⟩ : RS).tk)) (e3 : Hid (x3 = (⟨0, -1, -1, 0⟩ : RS).tm)) (e5 : Hid (x5 = 0)) (e6 : Hid (x6 = 0)) (e7 : Hid (x7 = 0)) (e8 : Hid (x8 = 0)) (e9 : Hid (x9 = 0)) (e10 : Hid (x10 = 0)) (e11 : Hid (x11 = 0)) (e12 : Hid (x12 = 0)) (e13 : Hid (x13 = 0)) :
    ResL (.slice p a n) (.returned (.agg #[.int .i64 x0, .int .i64 x1, .int .i64 x2, .int .u64 x3, .bool false, .int .i64 x5, .int .i64 x6, .int .u32 x7, .int .u64 x8, .int .u64 x9, .int .u64 x10, .int .u64 x11, .int .u64 x12, .int .u64 x13, .slice p a n])) := by
  rw [e0.out, e1.out, e2.out, e3.out, e5.out, e6.out, e7.out, e8.out, e9.out, e10.out, e11.out, e12.out, e13.out]
  exact ⟨p, a, n, rfl, rfl⟩
theorem resD_mk {z co x2 x3 : Int} {b : Bool} {m : MsgV} (e2 : Hid (x2 = (⟨0, -1, -1, 0⟩ : RS).tk)) (e3 : Hid (x3 = (⟨0, -1, -1, 0⟩ : RS).tm)) :
    Ending.returned (.agg #[.int .i64 z, .int .i64 co, .int .i64 x2, .int .u64 x3, .bool b, .int .i64 m.mf, .int .i64 m.mt, .int .u32 m.md, .int .u64 m.mq, .int .u64 m.ma, .int .u64 m.x0, .int .u64 m.x1, .int .u64 m.x2, .int .u64 m.x3, .slice none 0 0]) = .returned (resV z co (-1) 0 b m none 0 0) := by
  rw [e2.out, e3.out]
  rfl
/-- The result of a timer's step: the timer and its core, if it was served. -/
def tmRS (z c a : Int) : RS := if z = 0 then ⟨0, c, -1, a⟩ else ⟨z, -1, -1, 0⟩
/-- Where a step begins, its frame made. -/
structure Begun (w W : World) (B mb t k : Nat) (ν : Net) (τ : TSt) (σ : Sg) (o : OpS) : Prop where
  d : Done w W B mb t k ν τ σ
  sz : W.heap.size = w.heap.size + 3
  op : OpAt W w.heap.size o
  ra : ResAt W (w.heap.size + 1)
  rb : ResX W (w.heap.size + 2) ⟨0, -1, -1, 0⟩
theorem begun {w : World} {B mb t k : Nat} {ν : Net} {τ : TSt} {σ : Sg} (M : Mach w B mb t k ν τ σ) (o : OpS) : Begun w (((w.alloc (.cells #[.int .u8 o.kd, .int .i64 o.a, .int .i64 o.b, .int .i64 o.c, .int .u64 o.x, .int .u64 o.y] 32)).alloc (.cells #[.int .i64 0, .int .i64 0, .int .i64 0, .int .u64 0, .bool false, .int .i64 0, .int .i64 0, .int .u32 0, .int .u64 0, .int .u64 0, .int .u64 0, .int .u64 0, .int .u64 0, .int .u64 0, .slice none 0 0] 43)).alloc (.cells #[.int .i64 0, .int .i64 (-1), .int .i64 (-1), .int .u64 0, .bool false, .int .i64 0, .int .i64 0, .int .u32 0, .int .u64 0, .int .u64 0, .int .u64 0, .int .u64 0, .int .u64 0, .int .u64 0, .slice none 0 0] 43)) B mb t k ν τ σ o := by
  have s1 : (w.alloc (.cells #[.int .u8 o.kd, .int .i64 o.a, .int .i64 o.b, .int .i64 o.c, .int .u64 o.x, .int .u64 o.y] 32)).heap.size = w.heap.size + 1 := by simp
  have s2 : ((w.alloc (.cells #[.int .u8 o.kd, .int .i64 o.a, .int .i64 o.b, .int .i64 o.c, .int .u64 o.x, .int .u64 o.y] 32)).alloc (.cells #[.int .i64 0, .int .i64 0, .int .i64 0, .int .u64 0, .bool false, .int .i64 0, .int .i64 0, .int .u32 0, .int .u64 0, .int .u64 0, .int .u64 0, .int .u64 0, .int .u64 0, .int .u64 0, .slice none 0 0] 43)).heap.size = w.heap.size + 2 := by simp
  have h1 := op_new w o 32
  have h2 := res_new (w.alloc (.cells #[.int .u8 o.kd, .int .i64 o.a, .int .i64 o.b, .int .i64 o.c, .int .u64 o.x, .int .u64 o.y] 32)) 0 0 0 43
  have h3 := res_newX ((w.alloc (.cells #[.int .u8 o.kd, .int .i64 o.a, .int .i64 o.b, .int .i64 o.c, .int .u64 o.x, .int .u64 o.y] 32)).alloc (.cells #[.int .i64 0, .int .i64 0, .int .i64 0, .int .u64 0, .bool false, .int .i64 0, .int .i64 0, .int .u32 0, .int .u64 0, .int .u64 0, .int .u64 0, .int .u64 0, .int .u64 0, .int .u64 0, .slice none 0 0] 43)) 43
  rw [s1] at h2
  rw [s2] at h3
  refine ⟨(((Done.refl M).below (one_alloc _ _)).below (one_alloc _ _)).below (one_alloc _ _), by simp, ?_, h2.blk ((one_alloc _ _).block _ (by omega)), h3⟩
  exact (h1.blk ((one_alloc _ _).block _ (by omega))).blk ((one_alloc _ _).block _ (by omega))

end Go.Proofs.Qxb6500877aGreatDoor
