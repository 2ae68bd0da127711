import Derived.Test.Qxb6500877aGreatDoorOe
set_option linter.unusedVariables false
set_option linter.unusedSimpArgs false
namespace Go.Proofs.Qxb6500877aGreatDoor
open Go.RowKit

theorem far_set {w : World} {b i q : Nat} {v : Value} (h : q ≠ b) : (w.setCell ⟨b, i, none⟩ v).heap[q]? = w.heap[q]? := by
  simp only [World.setCell, Array.getElem?_modify]
  rw [if_neg (fun e => h e.symm)]
/-- The record of the joinings, the first j tasks looked at. -/
def partJ (s s' : Sched) (i : Nat) (η : Nat → Int) (j x : Nat) : Int := if x < j then joinF s s' i η x else η x
theorem partJ_zero (s s' : Sched) (i : Nat) (η : Nat → Int) (x : Nat) : partJ s s' i η 0 x = η x := by simp [partJ]
theorem partJ_all (s s' : Sched) (i : Nat) (η : Nat → Int) {x : Nat} (hx : x < 16) : partJ s s' i η 16 x = joinF s s' i η x := by rw [partJ, if_pos hx]
theorem partJ_no {s s' : Sched} {i : Nat} {η : Nat → Int} {j : Nat} (h : ¬ ((s'.tk j).st = 2 ∧ r3 s' j ≠ r3 s j)) (x : Nat) : partJ s s' i η (j + 1) x = partJ s s' i η j x := by
  unfold partJ
  by_cases q : x = j
  · subst q
    rw [if_pos (by omega), if_neg (by omega), joinF, if_neg h]
  · by_cases q2 : x < j
    · rw [if_pos (by omega), if_pos q2]
    · rw [if_neg (by omega), if_neg q2]
theorem partJ_yes {s s' : Sched} {i : Nat} {η : Nat → Int} {j : Nat} (h : (s'.tk j).st = 2 ∧ r3 s' j ≠ r3 s j) (x : Nat) : partJ s s' i η (j + 1) x = if x = j then (i : Int) + 1 else partJ s s' i η j x := by
  unfold partJ
  by_cases q : x = j
  · subst q
    rw [if_pos (by omega), if_pos rfl, joinF, if_pos h]
  · rw [if_neg q]
    by_cases q2 : x < j
    · rw [if_pos (by omega), if_pos q2]
    · rw [if_neg (by omega), if_neg q2]
theorem riv_st {s : Sched} {Q : Nat → Nat → List Nat} {c u : Nat} (I : SInv s Q 16) (h : u ∈ rivL s Q c) (hc : c < 4) : (s.tk u).st ≠ 0 := by
  unfold rivL at h
  rcases List.mem_append.1 h with h | h
  · obtain ⟨b, hb, hu⟩ := preQ_mem.1 h
    have := (I.mem c b u hu).2.2.2.2.1
    omega
  · rcases I.cur c hc with q | ⟨p, _, _, q, h3, _⟩
    · rw [if_pos q] at h; simp at h
    · rw [if_neg (by omega), q] at h
      simp at h
      subst h
      omega
theorem riv_len {s : Sched} {Q : Nat → Nat → List Nat} {c : Nat} (I : SInv s Q 16) (hc : c < 4) : (rivL s Q c).length ≤ 1000 := by
  unfold rivL
  have h0 := I.small c 0
  have h1 := I.small c 1
  have h2 := I.small c 2
  have h3 := I.small c 3
  simp only [preQ, List.nil_append, List.length_append]
  split <;> simp <;> omega
end Go.Proofs.Qxb6500877aGreatDoor
