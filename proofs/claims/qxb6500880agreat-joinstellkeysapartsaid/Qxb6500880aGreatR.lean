import Derived.Deep.CutBlock
import Derived.OwnWalk
import Derived.Maps.AppendAt
import Derived.Maps.OwnSet
import Derived.Maps.OwnOps
import Derived.Laws.ResultCell
import Derived.Test.Qxb6500880aGreatQ
import Derived.Test.Qxb6500880aGreatR0
set_option linter.unusedVariables false
set_option linter.unusedSimpArgs false
namespace Go.Proofs.Qxb6500880aGreat
open Go.RowKit

theorem info99 : (Tryz.prog.info? 99).map (fun i => (i.zero, i.size, i.bytes)) = some (some (.pointer none), 1, 8) := by kernel_rfl
theorem info92 : (Tryz.prog.info? 92).map (fun i => (i.zero, i.size, i.bytes)) = some (some (.pointer none), 1, 8) := by kernel_rfl
theorem info26 : (Tryz.prog.info? 26).map (fun i => (i.zero, i.size, i.bytes)) = some (some (.agg #[.int .u8 0, .int .i64 0, .int .i64 0, .string ByteArray.empty]), 4, 40) := by kernel_rfl
theorem info112 : (Tryz.prog.info? 112).map (fun i => (i.zero, i.size, i.bytes)) = some (some (.agg #[.int .i64 0, .int .i64 0, .int .i64 0, .int .i32 0, .int .i64 0, .slice none 0 0]), 6, 64) := by kernel_rfl

/-- The engine's 24 cells. -/
structure EngAt (w : World) (E : Nat) (c : Nat → Value) : Prop where
  c : ∀ k, k < 24 → w.cell? ⟨E, k, none⟩ = some (c k)
  fz : ∀ o, w.frozen? ⟨E, o, none⟩ = false
theorem EngAt.blk {w w' : World} {E : Nat} {c : Nat → Value} (h : EngAt w E c) (e : w'.heap[E]? = w.heap[E]?) : EngAt w' E c :=
  ⟨fun k hk => (World.cell?_of_block (a := ⟨E, k, none⟩) e).trans (h.c k hk), fun o => (World.frozen?_of_block (a := ⟨E, o, none⟩) e).trans (h.fz o)⟩
theorem EngAt.lt {w : World} {E : Nat} {c : Nat → Value} (h : EngAt w E c) : E < w.heap.size := World.block_lt_of_cell? _ _ (h.c 0 (by omega))
theorem EngAt.below {w w' : World} {E : Nat} {c : Nat → Value} (h : EngAt w E c) (hb : Below w.heap.size w w') : EngAt w' E c := h.blk (hb.block E h.lt)
theorem EngAt.put {w : World} {E : Nat} {c : Nat → Value} (h : EngAt w E c) {k : Nat} (hk : k < 24) (v : Value) : EngAt (w.setCell ⟨E, k, none⟩ v) E (updV c k v) := by
  refine ⟨fun j hj => ?_, fun o => (World.frozen?_setCell _ _ _ _).trans (h.fz o)⟩
  by_cases q : j = k
  · subst q
    have : updV c j v j = v := if_pos rfl
    rw [this]
    exact World.cell?_setCell_same _ _ _ (h.c j hj)
  · have : updV c k v j = c j := if_neg q
    rw [this]
    exact (World.cell?_setCell_other _ _ _ _ (by simp <;> omega)).trans (h.c j hj)
theorem EngAt.get {w : World} {E : Nat} {c : Nat → Value} (h : EngAt w E c) {k : Nat} {v : Value} (e : c k = v) (hk : k < 24) : w.cell? ⟨E, k, none⟩ = some v := e ▸ h.c k hk
theorem updV_same (c : Nat → Value) (k : Nat) (v : Value) : updV c k v k = v := if_pos rfl
theorem updV_other (c : Nat → Value) {k j : Nat} (v : Value) (h : j ≠ k) : updV c k v j = c j := if_neg h
theorem cell_new1 (w : World) (v : Value) (ty : TypeId) : ∀ j u, ([v] : List Value)[j]? = some u → (w.alloc (.cells #[v] ty)).cell? ((⟨w.heap.size, 0, none⟩ : Addr).add j) = some u := by
  intro j u h
  match j, h with
  | 0, h => simp at h; subst h; simp [Addr.add]
  | j + 1, h => simp at h
theorem Ws.keep {S : Nat → Prop} {w w1 : World} (h : Ws S w w1) {n : Nat} (hn : n ≤ w.heap.size) (hs : ∀ q, q < n → ¬ S q) : Below n w w1 := ⟨h.os, h.tape, h.output, h.size, fun q hq => h.block q (by omega) (hs q hq)⟩
set_option maxRecDepth 20000 in
set_option maxHeartbeats 8000000 in
theorem grown15 {w : World} {n : Nat} (hn : n ≤ 1000) (hn0 : 0 < n) :
    Calls Tryz.prog 15 #[.slice none 0 0, .int .i64 (n : Int)] w fun e w' => e = .returned (.slice (some ⟨w.heap.size, 0, none⟩) n n) ∧ w'.ownsRow w.heap.size 109 1 (.slice (some ⟨w.heap.size, 0, none⟩) n n) n (List.replicate n (.int .u32 0)) ∧ Below w.heap.size w w' := by
  obtain ⟨i9, hi9, hx0, hx1, hx2⟩ := info_parts info109
  have h1 : ¬ ((0 : Int) ≥ (n : Int)) := by omega
  have h2 : ¬ ((n : Int) ≤ 0) := by omega
  have h3 : (0 : Int) < (n : Int) := by omega
  go_enter Tryz.func15, Tryz.ntmps15
  go_wp2_with (first | (at_make; refine wpList_make_full _ rfl _ _ 83 rfl w.heap.size 109 i9 _ 1 Tryz.underlying83 hi9 hx0 hx1 .i64 .i64 (n : Int) (n : Int) n rfl rfl rfl rfl (by rw [hx2]; omega) (by unfold maxLen; omega) (Nat.le_refl _) ?_) | go_in)
  intro w3 hown3 hgrow3
  have hb3 : Below w.heap.size w w3 := ⟨hgrow3.os, hgrow3.tape, hgrow3.output, hgrow3.size, fun k hk => hgrow3.block k hk (by simp)⟩
  rw [made_one] at hown3
  have HQ := hideIt (And.intro hown3 hb3)
  clear hown3 hb3 hgrow3
  go_wp2
  go_ret
  exact ⟨rfl, HQ.out.1, HQ.out.2⟩
/-- m cursors, all of them zero. -/
def curZ : List Value := [.int .i64 0, .int .i64 0, .int .i64 0, .int .i32 0, .int .i64 0, .slice none 0 0]
set_option maxRecDepth 20000 in
set_option maxHeartbeats 8000000 in
theorem grown16 {w : World} {n : Nat} (hn : n ≤ 1000) (hn0 : 0 < n) :
    Calls Tryz.prog 16 #[.slice none 0 0, .int .i64 (n : Int)] w fun e w' => e = .returned (.slice (some ⟨w.heap.size, 0, none⟩) n n) ∧ w'.ownsRow w.heap.size 112 6 (.slice (some ⟨w.heap.size, 0, none⟩) n n) n (madeCells #[.int .i64 0, .int .i64 0, .int .i64 0, .int .i32 0, .int .i64 0, .slice none 0 0] (n * 6)).toList ∧ Below w.heap.size w w' := by
  obtain ⟨i9, hi9, hx0, hx1, hx2⟩ := info_parts info112
  have h1 : ¬ ((0 : Int) ≥ (n : Int)) := by omega
  have h2 : ¬ ((n : Int) ≤ 0) := by omega
  have h3 : (0 : Int) < (n : Int) := by omega
  go_enter Tryz.func16, Tryz.ntmps16
  go_wp2_with (first | (at_make; refine wpList_make_full _ rfl _ _ 84 rfl w.heap.size 112 i9 _ 6 Tryz.underlying84 hi9 hx0 hx1 .i64 .i64 (n : Int) (n : Int) n rfl rfl rfl rfl (by rw [hx2]; omega) (by unfold maxLen; omega) (Nat.le_refl _) ?_) | go_in)
  intro w3 hown3 hgrow3
  have hb3 : Below w.heap.size w w3 := ⟨hgrow3.os, hgrow3.tape, hgrow3.output, hgrow3.size, fun k hk => hgrow3.block k hk (by simp)⟩
  have HQ := hideIt (And.intro hown3 hb3)
  clear hown3 hb3 hgrow3
  go_wp2
  go_ret
  exact ⟨rfl, HQ.out.1, HQ.out.2⟩
end Go.Proofs.Qxb6500880aGreat
