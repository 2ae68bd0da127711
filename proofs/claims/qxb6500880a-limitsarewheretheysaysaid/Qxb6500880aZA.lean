import Derived.Deep.CutBlock
import Derived.OwnWalk
import Derived.Maps.AppendAt
import Derived.Maps.OwnSet
import Derived.Maps.OwnOps
import Derived.Laws.ResultCell
import Derived.Lib.AppendZerosOnto
import Derived.Test.Qxb6500880aYa
set_option linter.unusedVariables false
set_option linter.unusedSimpArgs false
namespace Go.Proofs.Qxb6500880a
open Go.RowKit

theorem zc_one (z : Value) (n : Nat) (hz : z.cells = #[z]) : (Builtin.zeroCells z.cells n) = (List.replicate n z).toArray := by
  rw [hz]
  unfold Builtin.zeroCells
  apply Array.ext
  · simp
  · intro i h1 h2
    simp [Nat.mod_one]
theorem append_zeros {w : World} {base g n cap m : Nat} (own : w.ownsRow base 21 1 (.slice (some ⟨g, 0, none⟩) n cap) n (List.replicate n (.int .i32 0))) (hm : 0 < m) (hnm : n + m ≤ 10000) (hbase : base ≤ w.heap.size) (ty : TypeId) :
    ∃ p' c' w', (Builtin.append_ #[69, 3] ty #[.slice (some ⟨g, 0, none⟩) n cap, .int .i64 (m : Int)]).run Try.prog w = .ok (.slice p' (n + m) c') w' ∧ w'.ownsRow base 21 1 (.slice p' (n + m) c') (n + m) (List.replicate (n + m) (.int .i32 0)) ∧ w.grownBy w' (some g) := by
  obtain ⟨i, hi, hz0, hz1, hz2⟩ := info_parts info21
  have hzc : (Value.int .i32 0).cells = #[.int .i32 0] := rfl
  have hlen : (List.replicate n (Value.int .i32 0) ++ List.replicate m (Value.int .i32 0)) = List.replicate (n + m) (.int .i32 0) := by rw [List.replicate_append_replicate]
  have hown := own
  rcases own.2 with ⟨e1, _⟩ | ⟨g', cap', cur, e1, hbg, hg, hnc, hcm, hcs, htake⟩
  · simp at e1
  · simp only [Value.slice.injEq, Option.some.injEq, Addr.mk.injEq, true_and, and_true] at e1
    obtain ⟨rfl, rfl⟩ := e1
    simp only [Nat.mul_one] at hcs htake
    by_cases hroom : n + m ≤ cap
    · have hfit : n + (List.replicate m (Value.int .i32 0)).length ≤ cur.size := by simp; omega
      have hst := run_storeCells_at Try.prog g n 21 (List.replicate m (Value.int .i32 0)) 0 cur w hg (by simpa using hfit) (fun u hu => by rw [List.eq_of_mem_replicate hu]; rfl)
      simp only [Nat.add_zero] at hst
      refine ⟨some ⟨g, 0, none⟩, cap, w.setRow g (cur.toList.take n ++ List.replicate m (Value.int .i32 0) ++ cur.toList.drop (n + (List.replicate m (Value.int .i32 0)).length)).toArray, ?_, ?_, ?_⟩
      · have hw : IntKind.i64.wrap (m : Int) = m := by rw [IntKind.wrap_i64]; omega
        have hneg : ¬ ((m : Int) < 0) := by omega
        have h48i : ¬ (281474976710656 < (m : Int) * 4) := by omega
        have hm0 : m ≠ 0 := by omega
        simp [Builtin.append_, run_underlying Try.underlying69, run_underlying Try.underlying3, sizeOf, typeInfo, zeroValue, hi, hz0, hz1, hz2, asInt, asIntOf, hw, hneg, h48i, hm0, hroom, zc_one _ _ hzc, Addr.add_lit, hst]
      · refine ⟨by simp, .inr ⟨g, cap, _, rfl, hbg, setRow_heap w g cur _ 21 _ hg, hroom, hcm, ?_, ?_⟩⟩
        · simp only [List.size_toArray, List.length_append, List.length_take, List.length_drop, Array.length_toList, List.length_replicate]
          omega
        · rw [htake, hlen]
          simp
      · exact ⟨rfl, rfl, rfl, by simp, fun k _ hk => setRow_other w g k _ (fun e => hk (by simp [e]))⟩
    · have hold : (Builtin.firstCells i.size n (.slice (some ⟨g, 0, none⟩) n cap)).run Try.prog w.drew = .ok (List.replicate n (Value.int .i32 0)).toArray w.drew := by
        rw [hz1]
        refine run_firstCells_some (P := Try.prog) w.drew 1 n ⟨g, 0, none⟩ n cap _ (by simp) ?_
        intro j u hu
        exact hown.cells (g := g) rfl j u hu
      have hr := Go.Lib.run_append_grow_zeros (P := Try.prog) w 69 3 ty 21 i (.int .i32 0) .i64 .i64 Try.underlying69 Try.underlying3 hi hz0 (some ⟨g, 0, none⟩) n cap (List.replicate n (.int .i32 0)) hold m hm (by omega) (by omega) (by omega) (by rw [hz2]; omega) (growslice_fits (by omega) (by rw [hz2]; omega))
      have hge := grownCap_ge w (n + m) cap 21
      have hcm' : grownCap w (n + m) cap 21 ≤ maxLen := grownCap_le_maxLen w (n + m) cap 21 (by unfold maxLen; omega)
      refine ⟨_, _, _, hr, ⟨by simp, .inr ⟨w.heap.size, _, _, rfl, hbase, heap_alloc_new w.drew _, hge, hcm', ?_, ?_⟩⟩, ⟨rfl, rfl, rfl, by simp, fun k hk _ => (one_alloc w.drew _).block k hk⟩⟩
      · rw [zc_one _ _ hzc, zc_one _ _ hzc]
        simp
        omega
      · rw [zc_one _ _ hzc, zc_one _ _ hzc]
        simp only [Array.toList_append, List.toList_toArray, List.append_assoc]
        rw [← List.append_assoc, hlen]
        simp
end Go.Proofs.Qxb6500880a
