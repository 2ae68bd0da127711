import Derived.Deep.CutBlock
import Derived.OwnWalk
import Derived.Maps.AppendAt
import Derived.Maps.OwnSet
import Derived.Maps.OwnOps
import Derived.Laws.ResultCell
import Derived.Lib.AppendZerosOnto
import Derived.Test.Qxb6500880aGreatPh
set_option linter.unusedVariables false
set_option linter.unusedSimpArgs false
namespace Go.Proofs.Qxb6500880aGreat
open Go.RowKit

theorem zc_one (z : Value) (n : Nat) (hz : z.cells = #[z]) : (Builtin.zeroCells z.cells n) = (List.replicate n z).toArray := by
  rw [hz]
  unfold Builtin.zeroCells
  apply Array.ext
  · simp
  · intro i h1 h2
    simp [Nat.mod_one]
theorem append_zeros {w : World} {base g n cap m : Nat} {xs : List Value} (own : w.ownsRow base 21 1 (.slice (some ⟨g, 0, none⟩) n cap) n xs) (hm : 0 < m) (hnm : n + m ≤ 10000) (hbase : base ≤ w.heap.size) (ty : TypeId) :
    ∃ p' c' w', (Builtin.append_ #[80, 3] ty #[.slice (some ⟨g, 0, none⟩) n cap, .int .i64 (m : Int)]).run Tryz.prog w = .ok (.slice p' (n + m) c') w' ∧ w'.ownsRow base 21 1 (.slice p' (n + m) c') (n + m) (xs ++ List.replicate m (.int .i32 0)) ∧ w.grownBy w' (some g) ∧ (p' = some ⟨g, 0, none⟩ ∨ p' = some ⟨w.heap.size, 0, none⟩) := by
  obtain ⟨i, hi, hz0, hz1, hz2⟩ := info_parts info21
  have hzc : (Value.int .i32 0).cells = #[.int .i32 0] := rfl
  have hxl : xs.length = n := by simpa using own.1
  have hown := own
  rcases own.2 with ⟨e1, _⟩ | ⟨g', cap', cur, e1, hbg, hg, hnc, hcm, hcs, htake⟩
  · simp at e1
  · simp only [Value.slice.injEq, Option.some.injEq, Addr.mk.injEq, true_and, and_true] at e1
    obtain ⟨rfl, rfl⟩ := e1
    simp only [Nat.mul_one] at hcs htake
    by_cases hroom : n + m ≤ cap
    · have hfit : n + (List.replicate m (Value.int .i32 0)).length ≤ cur.size := by simp; omega
      have hst := run_storeCells_at Tryz.prog g n 21 (List.replicate m (Value.int .i32 0)) 0 cur w hg (by simpa using hfit) (fun u hu => by rw [List.eq_of_mem_replicate hu]; rfl)
      simp only [Nat.add_zero] at hst
      refine ⟨some ⟨g, 0, none⟩, cap, w.setRow g (cur.toList.take n ++ List.replicate m (Value.int .i32 0) ++ cur.toList.drop (n + (List.replicate m (Value.int .i32 0)).length)).toArray, ?_, ?_, ?_, .inl rfl⟩
      · have hw : IntKind.i64.wrap (m : Int) = m := by rw [IntKind.wrap_i64]; omega
        have hneg : ¬ ((m : Int) < 0) := by omega
        have h48i : ¬ (281474976710656 < (m : Int) * 4) := by omega
        have hm0 : m ≠ 0 := by omega
        simp [Builtin.append_, run_underlying Tryz.underlying80, run_underlying Tryz.underlying3, sizeOf, typeInfo, zeroValue, hi, hz0, hz1, hz2, asInt, asIntOf, hw, hneg, h48i, hm0, hroom, zc_one _ _ hzc, Addr.add_lit, hst]
      · refine ⟨by simp [hxl], .inr ⟨g, cap, _, rfl, hbg, setRow_heap w g cur _ 21 _ hg, hroom, hcm, ?_, ?_⟩⟩
        · simp only [List.size_toArray, List.length_append, List.length_take, List.length_drop, Array.length_toList, List.length_replicate]
          omega
        · rw [htake]
          simp only [List.toList_toArray, Nat.mul_one]
          exact List.take_left' (by simp [hxl])
      · exact ⟨rfl, rfl, rfl, by simp, fun k _ hk => setRow_other w g k _ (fun e => hk (by simp [e]))⟩
    · have hold : (Builtin.firstCells i.size n (.slice (some ⟨g, 0, none⟩) n cap)).run Tryz.prog w.drew = .ok xs.toArray w.drew := by
        rw [hz1]
        refine run_firstCells_some (P := Tryz.prog) w.drew 1 n ⟨g, 0, none⟩ n cap _ (by simp [hxl]) ?_
        intro j u hu
        exact hown.cells (g := g) rfl j u hu
      have hr := Go.Lib.run_append_grow_zeros (P := Tryz.prog) w 80 3 ty 21 i (.int .i32 0) .i64 .i64 Tryz.underlying80 Tryz.underlying3 hi hz0 (some ⟨g, 0, none⟩) n cap xs hold m hm (by omega) (by omega) (by omega) (by rw [hz2]; omega) (growslice_fits (by omega) (by rw [hz2]; omega))
      have hge := grownCap_ge w (n + m) cap 21
      have hcm' : grownCap w (n + m) cap 21 ≤ maxLen := grownCap_le_maxLen w (n + m) cap 21 (by unfold maxLen; omega)
      refine ⟨_, _, _, hr, ⟨by simp [hxl], .inr ⟨w.heap.size, _, _, rfl, hbase, heap_alloc_new w.drew _, hge, hcm', ?_, ?_⟩⟩, ⟨rfl, rfl, rfl, by simp, fun k hk _ => (one_alloc w.drew _).block k hk⟩, .inr rfl⟩
      · rw [zc_one _ _ hzc, zc_one _ _ hzc]
        simp [hxl]
        omega
      · rw [zc_one _ _ hzc, zc_one _ _ hzc]
        simp only [Array.toList_append, List.toList_toArray, List.append_assoc, Nat.mul_one]
        rw [← List.append_assoc]
        exact List.take_left' (by simp [hxl])
theorem own_set {w : World} {base e s n g c j : Nat} {xs : List Value} (h : w.ownsRow base e s (.slice (some ⟨g, 0, none⟩) n c) n xs) (u : Value) : ∃ xs', (w.setCell ⟨g, j, none⟩ u).ownsRow base e s (.slice (some ⟨g, 0, none⟩) n c) n xs' := by
  rcases h.2 with ⟨e1, e2⟩ | ⟨g', cap, cur, e1, h1, h2, h3, h4, h5, h6⟩
  · simp at e1
  · simp only [Value.slice.injEq, Option.some.injEq, Addr.mk.injEq, true_and, and_true] at e1
    obtain ⟨rfl, rfl⟩ := e1
    have hl := h.1
    refine ⟨(cur.setIfInBounds j u).toList.take (n * s), ?_, .inr ⟨g, c, cur.setIfInBounds j u, rfl, h1, ?_, h3, h4, ?_, rfl⟩⟩
    · have h7 := Nat.mul_le_mul_right s h3
      simp only [List.length_take, Array.length_toList, Array.size_setIfInBounds]
      omega
    · show (w.heap.modify g _)[g]? = _
      rw [Array.getElem?_modify, if_pos rfl, h2]
      rfl
    · simpa using h5
theorem RAt.put_prc {w : World} {Q : RP} {x : RX} (h : RAt w Q x) {g c : Nat} (hp : x.pr = .slice (some ⟨g, 0, none⟩) x.prn c) {j : Nat} (u : Value) : ∃ xs', RAt (w.setCell ⟨g, j, none⟩ u) Q { x with prx := xs' } := by
  have hf := h.pf
  rw [hp] at hf
  obtain ⟨xs', hx⟩ := own_set (j := j) hf u
  have W : Ws (fun q => x.pr.ownBlock = some q) w (w.setCell ⟨g, j, none⟩ u) := (Ws.refl _ w).set (.inl (by rw [hp]; rfl))
  have kp := h.but W 5 (by omega) (fun q _ hq => hq)
  refine ⟨xs', h.e.blk (kp 0 _ (by omega) (by omega) rfl), h.c21, h.c22, h.c23, h.c14, fun j hj => (World.cell?_of_block (a := ⟨Q.GR, j, none⟩) (kp 1 _ (by omega) (by omega) rfl)).trans (h.rg j hj), fun o => (World.frozen?_setCell _ _ _ _).trans (h.rf o), fun j hj => (World.cell?_of_block (a := ⟨Q.GC, j, none⟩) (kp 2 _ (by omega) (by omega) rfl)).trans (h.cu j hj), fun o => (World.frozen?_setCell _ _ _ _).trans (h.cf o), h.k11, own_keep h.ky (fun q hq _ => kp 3 q (by omega) (by omega) hq), own_keep h.po (fun q hq _ => kp 4 q (by omega) (by omega) hq), ?_, h.re.keep (fun q hq _ => kp 6 q (by omega) (by omega) hq), fun q hq => ⟨by simpa using (h.st q hq).1, (kp 7 q (by omega) (by omega) hq).trans (h.st q hq).2⟩, ?_, ⟨W.os.trans h.io.1, W.tape.trans h.io.2.1, W.output.trans h.io.2.2⟩⟩
  · show (w.setCell ⟨g, j, none⟩ u).ownsRow 0 21 1 x.pr x.prn xs'
    rw [hp]
    exact hx
  · refine h.dj.upd (i := 5) h.flt (fun q hq => .inl hq) (fun k hk q hq => ?_)
    match k, hk, hq with
    | 0, _, hq => exact hq
    | 1, _, hq => exact hq
    | 2, _, hq => exact hq
    | 3, _, hq => exact hq
    | 4, _, hq => exact hq
    | 5, hk, _ => exact absurd rfl hk
    | 6, _, hq => exact hq
    | k + 7, _, hq => exact hq
end Go.Proofs.Qxb6500880aGreat
