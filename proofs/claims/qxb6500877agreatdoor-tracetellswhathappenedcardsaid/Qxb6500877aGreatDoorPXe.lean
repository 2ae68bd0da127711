import Derived.Test.Qxb6500877aGreatDoorPXd
set_option linter.unusedVariables false
set_option linter.unusedSimpArgs false
namespace Go.Proofs.Qxb6500877aGreatDoor
open Go.RowKit



theorem zcells_at {o : Nat} (ho : o < 6753) : zcells[o]? = some (zcell o) := by
  unfold zcells
  rw [List.getElem?_toArray, List.getElem?_map, List.getElem?_range ho]
  rfl
def wheel0 : Wheel := ⟨0, fun _ => ⟨0, 0, 0, 0, 0, 0, 0, 0⟩, 0, 0, 0, 0, fun _ => 0, fun _ => 0, fun _ => 0⟩
def net0 : Net := ⟨fun _ => ⟨fun _ => msg0, 0, 0, 0⟩, 0⟩
def sched0 : Sched := ⟨fun _ => ⟨0, 0, 0, 0, 0⟩, fun _ _ => 0, fun _ _ => 0, fun _ => 0, fun _ => 0, fun _ => 0, fun _ => 0⟩
theorem wheel0_enc {o : Nat} (ho : o < 1938) (h : o ≠ 516) : zcell (1 + o) = wheel0.enc o := by
  have e : zcell (1 + o) = zWheel o := by
    unfold zcell
    rw [if_neg (by omega), if_pos (by omega), show 1 + o - 1 = o by omega]
  rw [e, zWheel, Wheel.enc]
  by_cases c0 : o = 0
  · subst c0; rfl
  rw [if_neg c0, if_neg c0]
  by_cases c1 : o < 513
  · rw [if_pos c1, if_pos c1]
    have : (o - 1) % 8 < 8 := by omega
    generalize (o - 1) % 8 = j at this
    match j, this with
    | 0, _ => rfl
    | 1, _ => rfl
    | 2, _ => rfl
    | 3, _ => rfl
    | 4, _ => rfl
    | 5, _ => rfl
    | 6, _ => rfl
    | 7, _ => rfl
  rw [if_neg c1, if_neg c1]
  by_cases c2 : o = 513
  · subst c2; rfl
  rw [if_neg c2, if_neg c2]
  by_cases c3 : o = 514
  · subst c3; rfl
  rw [if_neg c3, if_neg c3]
  by_cases c4 : o = 515
  · subst c4; rfl
  rw [if_neg c4, if_neg c4, if_neg h, if_neg h]
  by_cases c5 : o = 517
  · subst c5; rfl
  rw [if_neg c5]
  by_cases c6 : o = 518
  · subst c6; rfl
  rw [if_neg c6]
  by_cases c7 : o < 1927
  · rw [if_pos c7, if_pos c7, slotCell]
    split <;> rfl
  · rw [if_neg c7, if_neg c7]; rfl
theorem net0_enc {o : Nat} (ho : o < 4657) : zcell (1939 + o) = net0.enc o := by
  unfold Net.enc
  by_cases c : o < 4656
  · have e : zcell (1939 + o) = zBox (o % 291) := by
      unfold zcell
      rw [if_neg (by omega), if_neg (by omega), if_pos (by omega), show 1939 + o - 1939 = o by omega]
    rw [e, if_pos c]
    show zBox (o % 291) = BoxS.enc ⟨fun _ => msg0, 0, 0, 0⟩ (o % 291)
    have : o % 291 < 291 := by omega
    generalize o % 291 = j at this
    unfold zBox BoxS.enc
    by_cases c1 : j < 288
    · rw [if_pos c1, if_pos c1]
      have h9 : j % 9 < 9 := by omega
      generalize j % 9 = i at h9
      match i, h9 with
      | 0, _ => rfl
      | 1, _ => rfl
      | 2, _ => rfl
      | 3, _ => rfl
      | 4, _ => rfl
      | 5, _ => rfl
      | 6, _ => rfl
      | 7, _ => rfl
      | 8, _ => rfl
    · rw [if_neg c1, if_neg c1]
      have h3 : j = 288 ∨ j = 289 ∨ j = 290 := by omega
      rcases h3 with rfl | rfl | rfl <;> rfl
  · have e : o = 4656 := by omega
    subst e
    rfl
theorem sched0_enc {o : Nat} (ho : o < 128) : zcell (6596 + o) = sched0.enc o := by
  unfold Sched.enc zcell
  rw [if_neg (by omega), if_neg (by omega), if_neg (by omega), if_neg (by omega)]
  by_cases c : o < 80
  · rw [if_pos (by omega), if_pos c, show 6596 + o - 6596 = o by omega]
    have h5 : o % 5 < 5 := by omega
    generalize o % 5 = i at h5
    match i, h5 with
    | 0, _ => rfl
    | 1, _ => rfl
    | 2, _ => rfl
    | 3, _ => rfl
    | 4, _ => rfl
  rw [if_neg (by omega), if_neg c]
  by_cases c2 : o < 120
  · rw [if_pos (by omega), if_pos c2, show (6596 + o - 6676) % 10 = (o - 80) % 10 by omega]
    have h10 : (o - 80) % 10 < 10 := by omega
    show zQ ((o - 80) % 10) = sched0.qCell ((o - 80) / 10) ((o - 80) % 10)
    generalize (o - 80) % 10 = i at h10
    unfold zQ Sched.qCell
    by_cases c3 : i < 8
    · rw [if_pos c3, if_pos c3]
      split <;> rfl
    · rw [if_neg c3, if_neg c3]
      have : i = 8 ∨ i = 9 := by omega
      rcases this with rfl | rfl <;> rfl
  rw [if_neg (by omega), if_neg c2, if_pos (by omega)]
  by_cases c4 : o < 124
  · rw [if_pos c4]; rfl
  · rw [if_neg c4]; rfl
theorem net0_ok : NOk net0 0 := fun i _ => ⟨⟨0, rfl, by omega⟩, ⟨0, rfl, by omega⟩, ⟨Int.le_refl _, Int.le_refl _⟩, fun j _ => ⟨Int.le_refl _, by show (0 : Int) < 4; omega⟩⟩
/-- A machine's block, all zero. -/
structure Raw (w : World) (B : Nat) : Prop where
  cell : ∀ o, o < 6753 → w.cell? ⟨B, o, none⟩ = some (zcell o)
  frz : ∀ o, w.frozen? ⟨B, o, none⟩ = false
theorem raw_new (w : World) (t : TypeId) : Raw (w.alloc (.cells zcells t)) w.heap.size := by
  refine ⟨fun o ho => ?_, fun o => by simp⟩
  have h := zcells_at ho
  generalize zcells = Z at h
  simp [h]

end Go.Proofs.Qxb6500877aGreatDoor
