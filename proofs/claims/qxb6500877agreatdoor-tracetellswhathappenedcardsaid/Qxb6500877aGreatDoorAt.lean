import Derived.Shelf.SlSortFuncK.RowK2
import Derived.Deep.QuietTactic
import Derived.Ground.GgsProg
import Derived.Test.Qxb6500877aGreatDoorAs
set_option linter.unusedVariables false
set_option linter.unusedSimpArgs false
namespace Go.Proofs.Qxb6500877aGreatDoor
open Go.RowKit

/-- A timer's four cells. -/
def encTm (x : TmR) : List Value := [.int .u64 x.id, .int .i64 x.core, .int .u64 x.dl, .int .u64 x.ck]
/-- By deadline, then by id. -/
def ltTm (a b : TmR) : Bool := if a.dl = b.dl then decide (a.id < b.id) else decide (a.dl < b.dl)
theorem ltTm_iff (a b : TmR) : ltTm a b = true ↔ a.dl < b.dl ∨ (a.dl = b.dl ∧ a.id < b.id) := by
  unfold ltTm
  split
  · rw [decide_eq_true_iff]; omega
  · rw [decide_eq_true_iff]; omega
theorem ltTm_no (a b : TmR) : ltTm a b = false ↔ ¬ (a.dl < b.dl ∨ (a.dl = b.dl ∧ a.id < b.id)) := by
  rw [← ltTm_iff, Bool.not_eq_true]
theorem swo_ltTm : Sort.SWO ltTm := {
  irrefl := fun x => by rw [ltTm_no]; omega
  trans := fun x y z h1 h2 => by rw [ltTm_iff] at *; omega
  ntrans := fun x y z h1 h2 => by rw [ltTm_no] at *; omega }
theorem tmCells_len' (l : List TmR) : (tmCells l).length = l.length * 4 := by
  induction l with
  | nil => rfl
  | cons x l ih => rw [tmCells_cons, List.length_append, ih, List.length_cons]; simp; omega
theorem flat_tm [Inhabited TmR] (d : Array TmR) (t : Nat) (h : t < d.size * 4) : (tmCells d.toList)[t]? = some ((Sort.flatK encTm 4 d)[t]!) := by
  have hj : t / 4 < d.size := by omega
  have hd : d.toList[t / 4]? = some d[t / 4]! := by
    rw [Array.getElem?_toList, Array.getElem?_eq_getElem hj, getElem!_pos d (t / 4) hj]
  obtain ⟨a0, a1, a2, a3⟩ := tmCells_at d.toList (t / 4) _ hd
  rw [Sort.get_flatK _ _ _ _ h]
  have e : t = t / 4 * 4 + t % 4 := by omega
  generalize hx : d[t / 4]! = x at *
  have hr : t % 4 = 0 ∨ t % 4 = 1 ∨ t % 4 = 2 ∨ t % 4 = 3 := by omega
  rcases hr with r | r | r | r
  · rw [r] at e ⊢; rw [e]; simpa [encTm] using a0
  · rw [r] at e ⊢; rw [e]; simpa [encTm] using a1
  · rw [r] at e ⊢; rw [e]; simpa [encTm] using a2
  · rw [r] at e ⊢; rw [e]; simpa [encTm] using a3
theorem drewN_two (w : World) (a b : Nat) : (w.drewN a).drewN b = w.drewN (a + b) := by
  simp [World.drewN, Nat.add_assoc]
set_option maxHeartbeats 4000000 in
/-- sortTimers's own closure. -/
theorem less_tm (blk c Bs size : Nat) (W : World) (G : Nat → TmR) (hs : W.cell? ⟨Bs, 0, none⟩ = some (.slice (some ⟨blk, 0, none⟩) size c))
    (hc : ∀ t, t < size → W.cell? ⟨blk, t * 4, none⟩ = some (.int .u64 (G t).id) ∧ W.cell? ⟨blk, t * 4 + 2, none⟩ = some (.int .u64 (G t).dl)) (i j : Nat) (hi : i < size) (hj : j < size) :
    Calls Tryz.prog 166 #[.int .i64 i, .int .i64 j, .pointer (some ⟨Bs, 0, none⟩)] W fun e w' => e = .returned (.bool (ltTm (G i) (G j))) ∧ ∃ q, w' = W.drewN q := by
  obtain ⟨ci, di⟩ := hc i hi
  obtain ⟨cj, dj⟩ := hc j hj
  generalize G i = A at *
  generalize G j = B' at *
  have i0 : (0 : Int) ≤ i := by omega
  have i1 : (i : Int) < size := by omega
  have j0 : (0 : Int) ≤ j := by omega
  have j1 : (j : Int) < size := by omega
  clear hc
  by_cases h : A.dl = B'.dl
  · have e : (A.dl == B'.dl) = true := by simp [h]
    have HE : Hid (ltTm A B' = decide (A.id < B'.id)) := hideIt (by unfold ltTm; rw [if_pos h])
    clear h
    go_enter Tryz.func166, Tryz.ntmps166
    go_wp2
    go_quiet (fail)
    go_wp2
    go_quiet (fail)
    go_wp2
    go_ret
    exact ⟨by rw [HE.out]; rfl, _, drewN_two _ _ _⟩
  · have e : (A.dl == B'.dl) = false := by simp [h]
    have HE : Hid (ltTm A B' = decide (A.dl < B'.dl)) := hideIt (by unfold ltTm; rw [if_neg h])
    clear h
    go_enter Tryz.func166, Tryz.ntmps166
    go_wp2
    go_quiet (fail)
    go_wp2
    go_quiet (fail)
    go_wp2
    go_ret
    exact ⟨by rw [HE.out]; rfl, _, drewN_two _ _ _⟩
theorem row_get {w : World} {base n cap g : Nat} {xs : List Value} (h : w.ownsRow base 84 4 (.slice (some ⟨g, 0, none⟩) n cap) n xs) : ∃ cap' cur, base ≤ g ∧ w.heap[g]? = some (.cells cur 84) ∧ n ≤ cap' ∧ cap' ≤ maxLen ∧ cur.size = cap' * 4 ∧ cur.toList.take (n * 4) = xs ∧ cap = cap' := by
  rcases h.2 with ⟨e1, e2⟩ | ⟨g', cap', cur, e1, e2, e3, e4, e5, e6, e7⟩
  · simp at e1
  · have hg : g' = g := by simp at e1; exact e1.1.symm
    have hc : cap = cap' := (Value.slice.inj e1).2.2
    subst hg
    exact ⟨cap', cur, e2, e3, e4, e5, e6, e7, hc⟩
theorem holds_tm [Inhabited TmR] {w : World} {base cap g : Nat} {d : Array TmR} (h : w.ownsRow base 84 4 (.slice (some ⟨g, 0, none⟩) d.size cap) d.size (tmCells d.toList)) : Sort.HoldsK encTm 4 w g 0 d := by
  intro j hj
  rw [Sort.size_flatK] at hj
  have := h.cells (g := g) rfl j _ (flat_tm d j hj)
  have e2 : (⟨g, 0, none⟩ : Addr).add j = ⟨g, 0 + j, none⟩ := by simp [Addr.add]; intro h; exact h.symm
  rw [e2] at this
  exact ⟨this, row_fz h _⟩
theorem put_tm [Inhabited TmR] {w : World} {base cap g : Nat} {d d' : Array TmR} {q : Nat} {os : Array Obj} (h : w.ownsRow base 84 4 (.slice (some ⟨g, 0, none⟩) d.size cap) d.size (tmCells d.toList)) (hs : d'.size = d.size) :
    (Sort.grow (Sort.putRowK encTm 4 (Sort.ahead w q) g 0 d') os).ownsRow base 84 4 (.slice (some ⟨g, 0, none⟩) d.size cap) d.size (tmCells d'.toList) ∧ w.grownBy (Sort.grow (Sort.putRowK encTm 4 (Sort.ahead w q) g 0 d') os) (some g) := by
  obtain ⟨cap', cur, e2, e3, e4, e5, e6, e7, rfl⟩ := row_get h
  have hgl : g < w.heap.size := (Array.getElem?_eq_some_iff.1 e3).1
  have hh : (Sort.grow (Sort.putRowK encTm 4 (Sort.ahead w q) g 0 d') os).heap = w.heap.modify g (Sort.onCells (Sort.putCells id 0 (Sort.flatK encTm 4 d'))) ++ os := rfl
  have hm : (w.heap.modify g (Sort.onCells (Sort.putCells id 0 (Sort.flatK encTm 4 d')))).size = w.heap.size := by simp
  have hb : (Sort.grow (Sort.putRowK encTm 4 (Sort.ahead w q) g 0 d') os).heap[g]? = some (.cells (Sort.putCells id 0 (Sort.flatK encTm 4 d') cur) 84) := by
    rw [hh, Array.getElem?_append_left (by omega), Array.getElem?_modify, if_pos rfl, e3]
    rfl
  refine ⟨⟨?_, .inr ⟨g, cap, Sort.putCells id 0 (Sort.flatK encTm 4 d') cur, rfl, e2, hb, e4, e5, ?_, ?_⟩⟩, ⟨rfl, rfl, rfl, ?_, fun k hk hne => ?_⟩⟩
  · rw [tmCells_len', Array.length_toList, hs]
  · unfold Sort.putCells; rw [Array.size_mapIdx]; exact e6
  · refine List.ext_getElem? (fun k => ?_)
    by_cases hk : k < d.size * 4
    · rw [List.getElem?_take_of_lt hk, flat_tm d' k (by rw [hs]; exact hk), Array.getElem?_toList]
      unfold Sort.putCells
      have hkc : k < cur.size := by rw [e6]; omega
      rw [Array.getElem?_mapIdx, Array.getElem?_eq_getElem hkc]
      simp only [Option.map_some]
      rw [if_pos (by rw [Sort.size_flatK, hs]; omega)]
      rfl
    · rw [List.getElem?_eq_none (by rw [List.length_take]; omega), List.getElem?_eq_none (by rw [tmCells_len', Array.length_toList, hs]; omega)]
  · show w.heap.size ≤ (w.heap.modify g _ ++ os).size
    rw [Array.size_append]
    simp
  · rw [hh, Array.getElem?_append_left (by omega), Array.getElem?_modify, if_neg (fun e => hne (by rw [e]))]
end Go.Proofs.Qxb6500877aGreatDoor
