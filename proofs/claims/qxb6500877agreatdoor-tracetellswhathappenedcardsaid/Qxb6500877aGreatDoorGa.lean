import Derived.Deep.CutBlock
import Derived.OwnWalk
import Derived.Test.Qxb6500877aGreatDoorEb
set_option linter.unusedVariables false
set_option linter.unusedSimpArgs false
namespace Go.Proofs.Qxb6500877aGreatDoor
open Go.RowKit

def tgX (x : Nat) : Nat → List Nat
  | 0 => []
  | i + 1 => if i = x then tgX x i else tgX x i ++ [x * 4 + i]
/-- The boxes that a sending step fills. -/
def tgtOf (o : OpS) (l : List Nat) : Prop := (o.kd = 4 ∧ ∃ x y : Nat, o.a = x ∧ x < 4 ∧ o.b = y ∧ y < 4 ∧ l = [x * 4 + y]) ∨ (o.kd = 5 ∧ ∃ x : Nat, o.a = x ∧ x < 4 ∧ l = tgX x 4)
theorem tgX_lt {x : Nat} (hx : x < 4) : ∀ i, i ≤ 4 → ∀ b ∈ tgX x i, b < 16
  | 0, _, b, hb => by simp [tgX] at hb
  | i + 1, hi, b, hb => by
    unfold tgX at hb
    split at hb
    · exact tgX_lt hx i (by omega) b hb
    · rcases List.mem_append.1 hb with h | h
      · exact tgX_lt hx i (by omega) b h
      · simp at h; omega
theorem tgX_len {x : Nat} : ∀ i, (tgX x i).length ≤ i
  | 0 => by simp [tgX]
  | i + 1 => by
    have := tgX_len (x := x) i
    unfold tgX
    split
    · omega
    · simp; omega
theorem i64_and15 (n : Int) : bits .and .i64 n 15 = n % 16 := by
  have h15 : (BitVec.ofInt 64 15).toNat = 2 ^ 4 - 1 := by decide
  have key : (BitVec.ofInt 64 n &&& BitVec.ofInt 64 15).toNat = (n % ((2 ^ 64 : Nat) : Int)).toNat % 2 ^ 4 := by
    rw [BitVec.toNat_and, BitVec.toNat_ofInt, h15, Nat.and_two_pow_sub_one_eq_mod]
  show IntKind.i64.wrap ((BitVec.ofInt 64 n &&& BitVec.ofInt 64 15).toNat : Nat) = n % 16
  rw [key, IntKind.wrap_i64]
  omega
set_option maxHeartbeats 1000000 in
theorem rem_any (v : Int) (w : World) : Calls Tryz.prog 26 #[.int .i64 v, .int .i64 16] w fun e w' => e = .returned (.int .i64 (v % 16)) ∧ w' = w := by
  have hq := i64_and15 v
  go_enter Tryz.func26, Tryz.ntmps26
  go_wp2
  go_ret
  first | exact ⟨rfl, rfl⟩ | exact ⟨by rw [hq], rfl⟩
set_option maxHeartbeats 1000000 in
theorem from_any {w : World} {i : Nat} (hi : i < 16) : Calls Tryz.prog 30 #[.int .i64 (i : Int)] w fun e w' => e = .returned (.int .i64 ((i / 4 : Nat) : Int)) ∧ w' = w := by
  have i0 : (0 : Int) ≤ i := by omega
  have i1 : (i : Int) < 16 := by omega
  go_enter Tryz.func30, Tryz.ntmps30
  go_wp2
  go_ret
  exact ⟨by first | go_num | (congr 2; omega), rfl⟩
theorem info65 : (Tryz.prog.info? 65).map (fun i => (i.zero, i.size, i.bytes)) = some (some (.int .i64 0), 1, 8) := by kernel_rfl
def numCells (l : List Nat) : List Value := l.map (fun b : Nat => .int .i64 (b : Int))
/-- A list of boxes, as a slice. -/
def TgtAt (w : World) (n0 : Nat) (v : Value) (l : List Nat) : Prop := ∃ g c, v = .slice (some ⟨g, 0, none⟩) l.length c ∧ n0 ≤ g ∧ g < w.heap.size ∧ ∀ j b : Nat, l[j]? = some b → w.cell? ⟨g, j, none⟩ = some (.int .i64 (b : Int))
theorem tgt_one {w : World} {n0 b q : Nat} {v : Int} (h : n0 ≤ w.heap.size) (hv : v = b) (hq : q = w.heap.size) : TgtAt (w.alloc (.cells #[.int .i64 v] 65)) n0 (.slice (some ⟨q, 0, none⟩) 1 1) [b] := by
  subst hv hq
  refine ⟨w.heap.size, 1, rfl, h, by simp, fun j c hj => ?_⟩
  match j, hj with
  | 0, hj => simp at hj; subst hj; simp
  | j + 1, hj => simp at hj
theorem tgt_own {w : World} {n0 : Nat} {v : Value} {l : List Nat} (h : w.ownsRow n0 65 1 v l.length (numCells l)) (hl : l ≠ []) : TgtAt w n0 v l := by
  rcases h.2 with ⟨e, e2⟩ | ⟨g, cap, cur, e, hb, hh, _⟩
  · exact absurd (List.length_eq_zero_iff.1 e2) hl
  · refine ⟨g, cap, e, hb, ?_, fun j b hj => ?_⟩
    · by_cases hc : g < w.heap.size
      · exact hc
      · rw [Array.getElem?_eq_none (by omega)] at hh
        simp at hh
    · have := h.cells (g := g) (by rw [e]; rfl) j (.int .i64 (b : Int)) (by rw [numCells, List.getElem?_map, hj]; rfl)
      rw [addr_add0] at this
      exact this
set_option maxHeartbeats 2000000 in
theorem targets4 {w : World} {o : OpS} {x y : Nat} (hkd : o.kd = 4) (ha : o.a = x) (hx : x < 4) (hb : o.b = y) (hy : y < 4) :
    Calls Tryz.prog 29 #[opV o] w fun e w' => ∃ v, e = .returned v ∧ TgtAt w' w.heap.size v [x * 4 + y] ∧ Below w.heap.size w w' := by
  unfold opV
  rw [hkd, ha, hb]
  clear hkd ha hb
  have hbx := fun w => box_any (w := w) hx hy
  go_enter Tryz.func29, Tryz.ntmps29
  go_wp2_with fail
  refine (hbx _).mono ?_
  rintro e w1 ⟨rfl, rfl⟩
  go_wp2
  go_ret
  exact ⟨.slice (some ⟨w.heap.size + 1, 0, none⟩) 1 1, rfl, tgt_one (one_alloc w _).size (by simp) (by simp), (one_alloc w _).trans ((one_alloc _ _).mono (one_alloc w _).size)⟩
set_option maxHeartbeats 4000000 in
theorem targets5 {w : World} {o : OpS} {x : Nat} (hkd : o.kd = 5) (ha : o.a = x) (hx : x < 4) :
    Calls Tryz.prog 29 #[opV o] w fun e w' => ∃ v, e = .returned v ∧ TgtAt w' w.heap.size v (tgX x 4) ∧ Below w.heap.size w w' := by
  obtain ⟨i0_, hi_, hz0, hz1, hz2⟩ := info_parts info65
  unfold opV
  rw [hkd, ha]
  clear hkd ha
  go_enter Tryz.func29, Tryz.ntmps29
  go_wp2_with fail
  go_loopg [4, 5] 4 (fun g v4 v5 wr => ∃ i : Nat, i + g = 4 ∧ v5 = .int .i64 (i : Int) ∧ wr.ownsRow w.heap.size 65 1 v4 (tgX x i).length (numCells (tgX x i)) ∧ Below w.heap.size w wr)
  case atStart => exact ⟨0, by omega, rfl, World.ownsRow_nil _ _ _ _, one_alloc _ _⟩
  case round =>
    obtain ⟨i, hi, rfl, hown, hbr⟩ := hrel
    by_cases hi4 : i < 4
    · have i0 : (0 : Int) ≤ i := by omega
      have i1 : (i : Int) < 4 := by omega
      by_cases hix : i = x
      · have e : tgX x (i + 1) = tgX x i := by rw [tgX, if_pos hix]
        rw [← e] at hown
        subst hix
        go_wp2
        go_roundg (4 - (i + 1))
        case measure => omega
        case rel => exact ⟨i + 1, by omega, by go_num, hown, hbr⟩
      · have hbx : ((i : Int) != (x : Int)) = true := by simp; omega
        have hll := tgX_len (x := x) i
        have e : numCells (tgX x (i + 1)) = numCells (tgX x i) ++ [.int .i64 ((x * 4 + i : Nat) : Int)] := by rw [tgX, if_neg hix]; simp [numCells]
        have e2 : (tgX x (i + 1)).length = (tgX x i).length + 1 := by rw [tgX, if_neg hix]; simp
        have HE := hideIt (And.intro e e2)
        clear e e2
        generalize tgX x i = l at hown hll HE
        have hsr := hbr.size
        have hr := fun k e => (hown.lt k e).1
        have hbxa := box_any (w := wr) hx hi4
        go_wp2_with fail
        refine hbxa.mono ?_
        rintro e wr ⟨rfl, rfl⟩
        go_wp2_with (first | (at_builtin; refine wpList_append_own _ rfl (.tmp 23) (.tmp 27) 70 rfl w.heap.size 65 i0_ (.int .i64 0) 1 8 Tryz.underlying70 hi_ hz0 hz1 hz2 rfl (by decide) _ l.length (numCells l) rfl (hown.alloc _) ⟨wr.heap.size, 0, none⟩ 1 1 [.int .i64 ((x * 4 + i : Nat) : Int)] rfl rfl (cell_one_new _ _ _) (fun x hx => by simp at hx; rw [hx]; rfl) (by unfold maxLen; omega) (by omega) (by simp; omega) ?_; intro v' w3 hown' hgrow3 hnil3) | fail)
        have hb2 : Below w.heap.size w w3 := below_grown (below_to hbr (one_alloc _ _) hsr) hgrow3 (by simp; omega) hr
        go_wp2
        go_roundg (4 - (i + 1))
        case measure => omega
        case rel => exact ⟨i + 1, by omega, by go_num, by rw [HE.out.1, HE.out.2]; exact hown', hb2⟩
    · have e4 : i = 4 := by omega
      subst e4
      have hl : tgX x 4 ≠ [] := by
        have : x = 0 ∨ x = 1 ∨ x = 2 ∨ x = 3 := by omega
        rcases this with rfl | rfl | rfl | rfl <;> decide
      go_wp2
      go_ret
      exact ⟨_, rfl, tgt_own hown hl, hbr⟩
/-- The targets of a sending step. -/
theorem targets_any {w : World} {o : OpS} {l : List Nat} (h : tgtOf o l) : Calls Tryz.prog 29 #[opV o] w fun e w' => ∃ v, e = .returned v ∧ TgtAt w' w.heap.size v l ∧ Below w.heap.size w w' := by
  rcases h with ⟨h4, x, y, ea, hx, eb, hy, rfl⟩ | ⟨h5, x, ea, hx, rfl⟩
  · exact targets4 h4 ea hx eb hy
  · exact targets5 h5 ea hx
set_option maxHeartbeats 1000000 in
theorem inRange_any (v n : Int) (w : World) : Calls Tryz.prog 33 #[.int .i64 v, .int .i64 n] w fun e w' => e = .returned (.bool (decide (0 ≤ v ∧ v < n))) ∧ w' = w := by
  by_cases h0 : 0 ≤ v
  · by_cases h1 : v < n
    · rw [decide_eq_true ⟨h0, h1⟩]
      have h0' : v ≥ 0 := h0
      go_enter Tryz.func33, Tryz.ntmps33
      go_wp2
      go_ret
      exact ⟨rfl, rfl⟩
    · rw [decide_eq_false (fun h => h1 h.2)]
      have h0' : v ≥ 0 := h0
      go_enter Tryz.func33, Tryz.ntmps33
      go_wp2
      go_ret
      exact ⟨rfl, rfl⟩
  · rw [decide_eq_false (fun h => h0 h.1)]
    have h0' : ¬ (v ≥ 0) := h0
    go_enter Tryz.func33, Tryz.ntmps33
    go_wp2
    go_ret
    exact ⟨rfl, rfl⟩
end Go.Proofs.Qxb6500877aGreatDoor
