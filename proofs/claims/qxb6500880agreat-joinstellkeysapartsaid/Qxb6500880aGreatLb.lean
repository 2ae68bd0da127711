import Derived.Deep.CutBlock
import Derived.OwnWalk
import Derived.Maps.AppendAt
import Derived.Maps.OwnSet
import Derived.Maps.OwnOps
import Derived.Laws.ResultCell
import Derived.Test.Qxb6500880aGreatLa
set_option linter.unusedVariables false
set_option linter.unusedSimpArgs false
namespace Go.Proofs.Qxb6500880aGreat
open Go.RowKit

/-- The dice. -/
structure DiceAt (w : World) (b : Nat) : Prop where
  c : ∃ x : Int, w.cell? ⟨b, 0, none⟩ = some (.int .u64 x)
  fz : ∀ o, w.frozen? ⟨b, o, none⟩ = false
theorem DiceAt.blk {w w' : World} {b : Nat} (h : DiceAt w b) (e : w'.heap[b]? = w.heap[b]?) : DiceAt w' b := by
  obtain ⟨x, hx⟩ := h.c
  exact ⟨⟨x, (World.cell?_of_block (a := ⟨b, 0, none⟩) e).trans hx⟩, fun o => (World.frozen?_of_block (a := ⟨b, o, none⟩) e).trans (h.fz o)⟩
theorem DiceAt.lt {w : World} {b : Nat} (h : DiceAt w b) : b < w.heap.size := by
  obtain ⟨x, hx⟩ := h.c
  exact World.block_lt_of_cell? _ _ hx
theorem DiceAt.below {w w' : World} {b : Nat} (h : DiceAt w b) (hb : Below w.heap.size w w') : DiceAt w' b := h.blk (hb.block b h.lt)
theorem u64_nonneg (z : Int) : 0 ≤ IntKind.u64.wrap z := by
  show 0 ≤ z % 18446744073709551616
  exact Int.emod_nonneg _ (by decide)
theorem wrap64_id {z : Int} (h0 : (-9223372036854775808) ≤ z) (h1 : z < 9223372036854775808) : wrap64 z = z := by
  unfold wrap64
  omega
theorem wr_cell (w : World) (b o : Nat) (v : Value) : Wr b w (w.setCell ⟨b, o, none⟩ v) := ⟨rfl, rfl, rfl, by simp, fun q _ h2 => far_set h2⟩
set_option maxRecDepth 20000 in
set_option maxHeartbeats 8000000 in
theorem roll_any {w : World} {b n : Nat} (D : DiceAt w b) (hn0 : 0 < n) (hn : n ≤ 1000) :
    Calls Tryz.prog 6 #[.pointer (some ⟨b, 0, none⟩), .int .i64 (n : Int)] w fun e w' => ∃ v : Nat, e = .returned (.int .i64 (v : Int)) ∧ v < n ∧ DiceAt w' b ∧ Wr b w w' := by
  obtain ⟨x, hx⟩ := D.c
  have fz := D.fz
  have hn1 : ¬ ((n : Int) = 0) := by omega
  go_enter Tryz.func6, Tryz.ntmps6
  go_wp2
  have hy : 0 ≤ IntKind.u64.wrap (IntKind.u64.wrap (x * 6364136223846793005) + 1442695040888963407) := u64_nonneg _
  go_ret
  generalize IntKind.u64.wrap (IntKind.u64.wrap (x * 6364136223846793005) + 1442695040888963407) = y at *
  have hq : 0 ≤ y / 8589934592 := Int.ediv_nonneg hy (by decide)
  generalize y / 8589934592 = q at *
  have h1 : q.tmod (n : Int) = q % (n : Int) := Int.tmod_eq_emod_of_nonneg hq
  have h2 : 0 ≤ q % (n : Int) := Int.emod_nonneg _ (by omega)
  have h3 : q % (n : Int) < (n : Int) := Int.emod_lt_of_pos _ (by omega)
  refine ⟨(q % (n : Int)).toNat, ?_, by omega, ⟨⟨y, World.cell?_setCell_same _ _ _ hx⟩, fun o => (World.frozen?_setCell _ _ _ _).trans (fz o)⟩, wr_cell _ _ _ _⟩
  rw [h1, Int.toNat_of_nonneg h2]
  rw [wrap64_id (by omega) (by omega)]
  rfl
set_option maxRecDepth 20000 in
set_option maxHeartbeats 8000000 in
theorem num_any {w : World} {x : Nat} (hx : x ≤ 1000) :
    Calls Tryz.prog 5 #[.int .i64 (x : Int)] w fun e w' => e = .returned (tInt x) ∧ Below w.heap.size w w' := by
  go_enter Tryz.func5, Tryz.ntmps5
  go_wp2
  refine bodyPost_ret (v := tInt x) ?_ rfl ?_
  · rw [results_one_cell rfl]
    go_simp
    rfl
  · exact ⟨rfl, one_alloc _ _⟩
end Go.Proofs.Qxb6500880aGreat
