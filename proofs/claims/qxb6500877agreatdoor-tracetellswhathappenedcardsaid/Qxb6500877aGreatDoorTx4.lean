import Derived.Deep.CutBlock
import Derived.OwnWalk
import Derived.Maps.AppendAt
import Derived.Test.Qxb6500877aGreatDoorTx3
import Derived.Test.Qxb6500877aGreatDoorAg
set_option linter.unusedVariables false
set_option linter.unusedSimpArgs false
namespace Go.Proofs.Qxb6500877aGreatDoor
open Go.RowKit

theorem xb_new {w : World} {o : OpS} {z co tk tm : Int} {hm : Bool} {mm : MsgV} {pf : Option Addr} {nf cf now : Nat} {was st : Int} {sb so : Nat} : XB (World.alloc (World.alloc (World.alloc (World.alloc (World.alloc (World.alloc (World.alloc w (.cells #[.int .u8 o.kd, .int .i64 o.a, .int .i64 o.b, .int .i64 o.c, .int .u64 o.x, .int .u64 o.y] 32)) (.cells #[.int .i64 z, .int .i64 co, .int .i64 tk, .int .u64 tm, .bool hm, .int .i64 mm.mf, .int .i64 mm.mt, .int .u32 mm.md, .int .u64 mm.mq, .int .u64 mm.ma, .int .u64 mm.x0, .int .u64 mm.x1, .int .u64 mm.x2, .int .u64 mm.x3, .slice pf nf cf] 43)) (.cells #[.int .i64 was] 35)) (.cells #[.int .u8 st] 46)) (.cells #[.pointer (some ⟨sb, so, none⟩)] 125)) (.cells #[.int .u8 0, .int .u64 (now : Int), .int .i64 (-1), .int .i64 (-1), .int .u64 0, .int .i64 (-1), .int .u64 0, .int .u8 0, .int .i64 0] 123)) (.cells #[.func (.func 116) #[] #[.pointer (some ⟨w.heap.size + 1 + 1 + 1 + 1 + 1, 0, none⟩)]] 223)) (w.heap.size) (w.heap.size + 1) (w.heap.size + 1 + 1) (w.heap.size + 1 + 1 + 1) (w.heap.size + 1 + 1 + 1 + 1) (w.heap.size + 1 + 1 + 1 + 1 + 1) (w.heap.size + 1 + 1 + 1 + 1 + 1 + 1) o (resCs z co tk tm hm mm pf nf cf) now was st sb so ∧ Below w.heap.size w (World.alloc (World.alloc (World.alloc (World.alloc (World.alloc (World.alloc (World.alloc w (.cells #[.int .u8 o.kd, .int .i64 o.a, .int .i64 o.b, .int .i64 o.c, .int .u64 o.x, .int .u64 o.y] 32)) (.cells #[.int .i64 z, .int .i64 co, .int .i64 tk, .int .u64 tm, .bool hm, .int .i64 mm.mf, .int .i64 mm.mt, .int .u32 mm.md, .int .u64 mm.mq, .int .u64 mm.ma, .int .u64 mm.x0, .int .u64 mm.x1, .int .u64 mm.x2, .int .u64 mm.x3, .slice pf nf cf] 43)) (.cells #[.int .i64 was] 35)) (.cells #[.int .u8 st] 46)) (.cells #[.pointer (some ⟨sb, so, none⟩)] 125)) (.cells #[.int .u8 0, .int .u64 (now : Int), .int .i64 (-1), .int .i64 (-1), .int .u64 0, .int .i64 (-1), .int .u64 0, .int .u8 0, .int .i64 0] 123)) (.cells #[.func (.func 116) #[] #[.pointer (some ⟨w.heap.size + 1 + 1 + 1 + 1 + 1, 0, none⟩)]] 223)) ∧ (World.alloc (World.alloc (World.alloc (World.alloc (World.alloc (World.alloc (World.alloc w (.cells #[.int .u8 o.kd, .int .i64 o.a, .int .i64 o.b, .int .i64 o.c, .int .u64 o.x, .int .u64 o.y] 32)) (.cells #[.int .i64 z, .int .i64 co, .int .i64 tk, .int .u64 tm, .bool hm, .int .i64 mm.mf, .int .i64 mm.mt, .int .u32 mm.md, .int .u64 mm.mq, .int .u64 mm.ma, .int .u64 mm.x0, .int .u64 mm.x1, .int .u64 mm.x2, .int .u64 mm.x3, .slice pf nf cf] 43)) (.cells #[.int .i64 was] 35)) (.cells #[.int .u8 st] 46)) (.cells #[.pointer (some ⟨sb, so, none⟩)] 125)) (.cells #[.int .u8 0, .int .u64 (now : Int), .int .i64 (-1), .int .i64 (-1), .int .u64 0, .int .i64 (-1), .int .u64 0, .int .u8 0, .int .i64 0] 123)) (.cells #[.func (.func 116) #[] #[.pointer (some ⟨w.heap.size + 1 + 1 + 1 + 1 + 1, 0, none⟩)]] 223)).heap.size = w.heap.size + 1 + 1 + 1 + 1 + 1 + 1 + 1 := by
  obtain ⟨W1, hW1⟩ : ∃ W1, W1 = World.alloc w (.cells #[.int .u8 o.kd, .int .i64 o.a, .int .i64 o.b, .int .i64 o.c, .int .u64 o.x, .int .u64 o.y] 32) := ⟨_, rfl⟩
  have z1 : W1.heap.size = w.heap.size + 1 := by rw [hW1]; simp
  obtain ⟨W2, hW2⟩ : ∃ W2, W2 = World.alloc W1 (.cells #[.int .i64 z, .int .i64 co, .int .i64 tk, .int .u64 tm, .bool hm, .int .i64 mm.mf, .int .i64 mm.mt, .int .u32 mm.md, .int .u64 mm.mq, .int .u64 mm.ma, .int .u64 mm.x0, .int .u64 mm.x1, .int .u64 mm.x2, .int .u64 mm.x3, .slice pf nf cf] 43) := ⟨_, rfl⟩
  have z2 : W2.heap.size = w.heap.size + 1 + 1 := by rw [hW2]; simp [z1]
  obtain ⟨W3, hW3⟩ : ∃ W3, W3 = World.alloc W2 (.cells #[.int .i64 was] 35) := ⟨_, rfl⟩
  have z3 : W3.heap.size = w.heap.size + 1 + 1 + 1 := by rw [hW3]; simp [z2]
  obtain ⟨W4, hW4⟩ : ∃ W4, W4 = World.alloc W3 (.cells #[.int .u8 st] 46) := ⟨_, rfl⟩
  have z4 : W4.heap.size = w.heap.size + 1 + 1 + 1 + 1 := by rw [hW4]; simp [z3]
  obtain ⟨W5, hW5⟩ : ∃ W5, W5 = World.alloc W4 (.cells #[.pointer (some ⟨sb, so, none⟩)] 125) := ⟨_, rfl⟩
  have z5 : W5.heap.size = w.heap.size + 1 + 1 + 1 + 1 + 1 := by rw [hW5]; simp [z4]
  obtain ⟨W6, hW6⟩ : ∃ W6, W6 = World.alloc W5 (.cells #[.int .u8 0, .int .u64 (now : Int), .int .i64 (-1), .int .i64 (-1), .int .u64 0, .int .i64 (-1), .int .u64 0, .int .u8 0, .int .i64 0] 123) := ⟨_, rfl⟩
  have z6 : W6.heap.size = w.heap.size + 1 + 1 + 1 + 1 + 1 + 1 := by rw [hW6]; simp [z5]
  obtain ⟨W7, hW7⟩ : ∃ W7, W7 = World.alloc W6 (.cells #[.func (.func 116) #[] #[.pointer (some ⟨w.heap.size + 1 + 1 + 1 + 1 + 1, 0, none⟩)]] 223) := ⟨_, rfl⟩
  have z7 : W7.heap.size = w.heap.size + 1 + 1 + 1 + 1 + 1 + 1 + 1 := by rw [hW7]; simp [z6]
  rw [← hW1, ← hW2, ← hW3, ← hW4, ← hW5, ← hW6, ← hW7]
  have s0 : ∀ q, q < w.heap.size → W1.heap[q]? = w.heap[q]? := fun q hq => by rw [hW1]; exact (one_alloc w _).block q hq
  have s1 : ∀ q, q < W1.heap.size → W2.heap[q]? = W1.heap[q]? := fun q hq => by rw [hW2]; exact (one_alloc W1 _).block q hq
  have s2 : ∀ q, q < W2.heap.size → W3.heap[q]? = W2.heap[q]? := fun q hq => by rw [hW3]; exact (one_alloc W2 _).block q hq
  have s3 : ∀ q, q < W3.heap.size → W4.heap[q]? = W3.heap[q]? := fun q hq => by rw [hW4]; exact (one_alloc W3 _).block q hq
  have s4 : ∀ q, q < W4.heap.size → W5.heap[q]? = W4.heap[q]? := fun q hq => by rw [hW5]; exact (one_alloc W4 _).block q hq
  have s5 : ∀ q, q < W5.heap.size → W6.heap[q]? = W5.heap[q]? := fun q hq => by rw [hW6]; exact (one_alloc W5 _).block q hq
  have s6 : ∀ q, q < W6.heap.size → W7.heap[q]? = W6.heap[q]? := fun q hq => by rw [hW7]; exact (one_alloc W6 _).block q hq
  have k6 : ∀ q, q < W6.heap.size → W7.heap[q]? = W6.heap[q]? := fun q hq => s6 q hq
  have k5 : ∀ q, q < W5.heap.size → W7.heap[q]? = W5.heap[q]? := fun q hq => (k6 q (by omega)).trans (s5 q hq)
  have k4 : ∀ q, q < W4.heap.size → W7.heap[q]? = W4.heap[q]? := fun q hq => (k5 q (by omega)).trans (s4 q hq)
  have k3 : ∀ q, q < W3.heap.size → W7.heap[q]? = W3.heap[q]? := fun q hq => (k4 q (by omega)).trans (s3 q hq)
  have k2 : ∀ q, q < W2.heap.size → W7.heap[q]? = W2.heap[q]? := fun q hq => (k3 q (by omega)).trans (s2 q hq)
  have k1 : ∀ q, q < W1.heap.size → W7.heap[q]? = W1.heap[q]? := fun q hq => (k2 q (by omega)).trans (s1 q hq)
  have k0 : ∀ q, q < w.heap.size → W7.heap[q]? = w.heap[q]? := fun q hq => (k1 q (by omega)).trans (s0 q hq)
  have e7 : W7.os = w.os ∧ W7.tape = w.tape ∧ W7.output = w.output := by
    rw [hW7, hW6, hW5, hW4, hW3, hW2, hW1]
    exact ⟨rfl, rfl, rfl⟩
  refine ⟨⟨?_, ?_, ?_, ?_, ?_, ?_, ?_⟩, ⟨e7.1, e7.2.1, e7.2.2, by omega, k0⟩, z7⟩
  · refine OpAt.blk (w := W1) ?_ (k1 _ (by omega))
    rw [hW1]; exact op_new w o 32
  · intro j v hv
    refine (World.cell?_of_block (a := ⟨w.heap.size + 1, j, none⟩) (k2 (w.heap.size + 1) (by omega))).trans ?_
    rw [← z1, hW2]
    exact (RowR.new W1 (resCs z co tk tm hm mm pf nf cf)).cell hv
  · refine (World.cell?_of_block (a := ⟨w.heap.size + 1 + 1, 0, none⟩) (k3 (w.heap.size + 1 + 1) (by omega))).trans ?_
    rw [← z2, hW3]
    simp
  · refine (World.cell?_of_block (a := ⟨w.heap.size + 1 + 1 + 1, 0, none⟩) (k4 (w.heap.size + 1 + 1 + 1) (by omega))).trans ?_
    rw [← z3, hW4]
    simp
  · refine (World.cell?_of_block (a := ⟨w.heap.size + 1 + 1 + 1 + 1, 0, none⟩) (k5 (w.heap.size + 1 + 1 + 1 + 1) (by omega))).trans ?_
    rw [← z4, hW5]
    simp
  · refine Ev9.blk (w := W6) ?_ (k6 _ (by omega))
    rw [← z5, hW6]
    exact Ev9.new W5 (bl now 0) 123
  · have : (World.alloc W6 (.cells #[.func (.func 116) #[] #[.pointer (some ⟨w.heap.size + 1 + 1 + 1 + 1 + 1, 0, none⟩)]] 223)).cell? ⟨W6.heap.size, 0, none⟩ = some (.func (.func 116) #[] #[.pointer (some ⟨w.heap.size + 1 + 1 + 1 + 1 + 1, 0, none⟩)]) := by simp
    rw [z6, ← hW7] at this
    exact this
/-- Events in memory. -/
def EvIn (w : World) (v : Value) (l : List EvS) : Prop := ∃ p c, v = .slice p l.length c ∧ (l = [] ∨ ∃ g off, p = some ⟨g, off, none⟩ ∧ ∀ j e, l[j]? = some e → Ev9 w g (off + j * 9) e)
theorem evCells_get : ∀ (l : List EvS) (i : Nat) (e : EvS), l[i]? = some e → ∀ k, k < 9 → (evCells l)[i * 9 + k]? = (ev9 e)[k]?
  | [], i, e, h, _, _ => by simp at h
  | y :: l, 0, e, h, k, hk => by
    simp at h
    subst h
    have e3 : evCells (y :: l) = ev9 y ++ evCells l := by simp [evCells]
    rw [e3, Nat.zero_mul, Nat.zero_add, List.getElem?_append_left (by simpa [ev9] using hk)]
  | y :: l, i + 1, e, h, k, hk => by
    have h' : l[i]? = some e := by simpa using h
    have ih := evCells_get l i e h' k hk
    have e1 : (i + 1) * 9 + k = (i * 9 + k) + 9 := by omega
    have e3 : evCells (y :: l) = ev9 y ++ evCells l := by simp [evCells]
    rw [e1, e3, List.getElem?_append_right (by simp [ev9])]
    simpa [ev9] using ih
theorem EvIn.of_own {w : World} {base : Nat} {v : Value} {l : List EvS} (h : w.ownsRow base 123 9 v l.length (evCells l)) : EvIn w v l := by
  have hc := fun g e => World.ownsRow.cells (g := g) h e
  rcases h.2 with ⟨e1, e2⟩ | ⟨g, cap, cur, e1, _⟩
  · have : l = [] := List.eq_nil_of_length_eq_zero e2
    exact ⟨none, 0, by rw [e1, e2], .inl this⟩
  · refine ⟨_, cap, e1, .inr ⟨g, 0, rfl, fun j e he => ?_⟩⟩
    have key : ∀ k u, k < 9 → (ev9 e)[k]? = some u → w.cell? ⟨g, 0 + j * 9 + k, none⟩ = some u := fun k u hk hu => by
      have := hc g (by rw [e1]; rfl) (j * 9 + k) u ((evCells_get l j e he k hk).trans hu)
      by_cases q : j * 9 + k = 0
      · rw [Nat.zero_add, q]; rw [q] at this; simpa [Addr.add] using this
      · rw [Nat.zero_add]
        have h2 : (⟨g, 0, none⟩ : Addr).add (j * 9 + k) = ⟨g, j * 9 + k, none⟩ := by
          unfold Addr.add
          rw [if_neg q]
          simp
        rw [h2] at this
        exact this
    exact ⟨key 0 _ (by omega) rfl, key 1 _ (by omega) rfl, key 2 _ (by omega) rfl, key 3 _ (by omega) rfl, key 4 _ (by omega) rfl, key 5 _ (by omega) rfl, key 6 _ (by omega) rfl, key 7 _ (by omega) rfl, key 8 _ (by omega) rfl⟩
end Go.Proofs.Qxb6500877aGreatDoor
