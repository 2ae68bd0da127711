import Derived.Test.Qxb6500877aGreatDoorNPd
import Derived.Test.Qxb6500877aGreatDoorNMl
set_option linter.unusedVariables false
set_option linter.unusedSimpArgs false
namespace Go.Proofs.Qxb6500877aGreatDoor
open Go.RowKit

theorem info65 : (Tryz.prog.info? 65).map (fun i => (i.zero, i.size, i.bytes)) = some (some (.int .i64 0), 1, 8) := by kernel_rfl
def numCells (l : List Nat) : List Value := l.map (fun b : Nat => .int .i64 (b : Int))
theorem below_grown {n : Nat} {w w1 w2 : World} {row : Option Nat} (h : Below n w w1) (g : w1.grownBy w2 row) (hn : n ≤ w1.heap.size) (hr : ∀ k, row = some k → n ≤ k) : Below n w w2 :=
  ⟨g.os.trans h.os, g.tape.trans h.tape, g.output.trans h.output, Nat.le_trans h.size g.size, fun k hk => (g.block k (by omega) (fun e => by have := hr k e.symm; omega)).trans (h.block k hk)⟩
/-- A list of boxes, as a slice. -/
def TgtAt (w : World) (n0 : Nat) (v : Value) (l : List Nat) : Prop := ∃ g c, v = .slice (some ⟨g, 0, none⟩) l.length c ∧ n0 ≤ g ∧ g < w.heap.size ∧ ∀ j b : Nat, l[j]? = some b → w.cell? ⟨g, j, none⟩ = some (.int .i64 (b : Int))
theorem tgt_one {w : World} {n0 b q : Nat} {v : Int} (h : n0 ≤ w.heap.size) (hv : v = b) (hq : q = w.heap.size) : TgtAt (w.alloc (.cells #[.int .i64 v] 65)) n0 (.slice (some ⟨q, 0, none⟩) 1 1) [b] := by
  subst hv hq
  refine ⟨w.heap.size, 1, rfl, h, by simp, fun j c hj => ?_⟩
  match j, hj with
  | 0, hj => simp at hj; subst hj; simp
  | j + 1, hj => simp at hj
theorem tgt_own {w : World} {n0 : Nat} {v : Value} {l : List Nat} (h : w.ownsRow n0 65 1 v l.length (numCells l)) (hl : l ≠ []) : TgtAt w n0 v l := by
  rcases h.2 with ⟨e, e2⟩ | ⟨g, cap, cur, e, hb, hh, _⟩
  · exact absurd (List.length_eq_zero_iff.1 e2) hl
  · refine ⟨g, cap, e, hb, ?_, fun j b hj => ?_⟩
    · by_cases hc : g < w.heap.size
      · exact hc
      · rw [Array.getElem?_eq_none (by omega)] at hh
        simp at hh
    · have := h.cells (g := g) (by rw [e]; rfl) j (.int .i64 (b : Int)) (by rw [numCells, List.getElem?_map, hj]; rfl)
      rw [addr_add0] at this
      exact this
theorem cell_one_new (w : World) (a : Value) (t : TypeId) : ∀ j u, [a][j]? = some u → (w.alloc (.cells #[a] t)).cell? ((⟨w.heap.size, 0, none⟩ : Addr).add j) = some u := by
  intro j u hj
  match j, hj with
  | 0, hj => simp at hj; subst hj; simp [Addr.add]
  | j + 1, hj => simp at hj
set_option maxHeartbeats 2000000 in
theorem targets4 {w : World} {o : OpS} {x y : Nat} (hkd : o.kd = 4) (ha : o.a = x) (hx : x < 4) (hb : o.b = y) (hy : y < 4) :
    Calls Tryz.prog 29 #[opV o] w fun e w' => ∃ v, e = .returned v ∧ TgtAt w' w.heap.size v [x * 4 + y] ∧ Below w.heap.size w w' := by
  unfold opV
  rw [hkd, ha, hb]
  clear hkd ha hb
  have hbx := fun w => box_any (w := w) hx hy
  go_enter Tryz.func29, Tryz.ntmps29
  go_wp2_with fail
  refine (hbx _).mono ?_
  rintro e w1 ⟨rfl, rfl⟩
  go_wp2
  go_ret
  exact ⟨.slice (some ⟨w.heap.size + 1, 0, none⟩) 1 1, rfl, tgt_one (one_alloc w _).size (by simp) (by simp), (one_alloc w _).trans ((one_alloc _ _).mono (one_alloc w _).size)⟩
set_option maxHeartbeats 4000000 in
theorem targets5 {w : World} {o : OpS} {x : Nat} (hkd : o.kd = 5) (ha : o.a = x) (hx : x < 4) :
    Calls Tryz.prog 29 #[opV o] w fun e w' => ∃ v, e = .returned v ∧ TgtAt w' w.heap.size v (tgX x 4) ∧ Below w.heap.size w w' := by
  obtain ⟨i0_, hi_, hz0, hz1, hz2⟩ := info_parts info65
  unfold opV
  rw [hkd, ha]
  clear hkd ha
  go_enter Tryz.func29, Tryz.ntmps29
  go_wp2_with fail
  go_loopg [4, 5] 4 (fun g v4 v5 wr => ∃ i : Nat, i + g = 4 ∧ v5 = .int .i64 (i : Int) ∧ wr.ownsRow w.heap.size 65 1 v4 (tgX x i).length (numCells (tgX x i)) ∧ Below w.heap.size w wr)
  case atStart => exact ⟨0, by omega, rfl, World.ownsRow_nil _ _ _ _, one_alloc _ _⟩
  case round =>
    obtain ⟨i, hi, rfl, hown, hbr⟩ := hrel
    by_cases hi4 : i < 4
    · have i0 : (0 : Int) ≤ i := by omega
      have i1 : (i : Int) < 4 := by omega
      by_cases hix : i = x
      · have e : tgX x (i + 1) = tgX x i := by rw [tgX, if_pos hix]
        rw [← e] at hown
        subst hix
        go_wp2
        go_roundg (4 - (i + 1))
        case measure => omega
        case rel => exact ⟨i + 1, by omega, by go_num, hown, hbr⟩
      · have hbx : ((i : Int) != (x : Int)) = true := by simp; omega
        have hll := tgX_len (x := x) i
        have e : numCells (tgX x (i + 1)) = numCells (tgX x i) ++ [.int .i64 ((x * 4 + i : Nat) : Int)] := by rw [tgX, if_neg hix]; simp [numCells]
        have e2 : (tgX x (i + 1)).length = (tgX x i).length + 1 := by rw [tgX, if_neg hix]; simp
        have HE := hideIt (And.intro e e2)
        clear e e2
        generalize tgX x i = l at hown hll HE
        have hsr := hbr.size
        have hr := fun k e => (hown.lt k e).1
        have hbxa := box_any (w := wr) hx hi4
        go_wp2_with fail
        refine hbxa.mono ?_
        rintro e wr ⟨rfl, rfl⟩
        go_wp2_with (first | (at_builtin; refine wpList_append_own _ rfl (.tmp 23) (.tmp 27) 70 rfl w.heap.size 65 i0_ (.int .i64 0) 1 8 Tryz.underlying70 hi_ hz0 hz1 hz2 rfl (by decide) _ l.length (numCells l) rfl (hown.alloc _) ⟨wr.heap.size, 0, none⟩ 1 1 [.int .i64 ((x * 4 + i : Nat) : Int)] rfl rfl (cell_one_new _ _ _) (fun x hx => by simp at hx; rw [hx]; rfl) (by unfold maxLen; omega) (by omega) (by simp; omega) ?_; intro v' w3 hown' hgrow3 hnil3) | fail)
        have hb2 : Below w.heap.size w w3 := below_grown (below_to hbr (one_alloc _ _) hsr) hgrow3 (by simp; omega) hr
        go_wp2
        go_roundg (4 - (i + 1))
        case measure => omega
        case rel => exact ⟨i + 1, by omega, by go_num, by rw [HE.out.1, HE.out.2]; exact hown', hb2⟩
    · have e4 : i = 4 := by omega
      subst e4
      have hl : tgX x 4 ≠ [] := by
        have : x = 0 ∨ x = 1 ∨ x = 2 ∨ x = 3 := by omega
        rcases this with rfl | rfl | rfl | rfl <;> decide
      go_wp2
      go_ret
      exact ⟨_, rfl, tgt_own hown hl, hbr⟩
/-- The targets of a sending step. -/
theorem targets_any {w : World} {o : OpS} {l : List Nat} (h : tgtOf o l) : Calls Tryz.prog 29 #[opV o] w fun e w' => ∃ v, e = .returned v ∧ TgtAt w' w.heap.size v l ∧ Below w.heap.size w w' := by
  rcases h with ⟨h4, x, y, ea, hx, eb, hy, rfl⟩ | ⟨h5, x, ea, hx, rfl⟩
  · exact targets4 h4 ea hx eb hy
  · exact targets5 h5 ea hx
end Go.Proofs.Qxb6500877aGreatDoor
