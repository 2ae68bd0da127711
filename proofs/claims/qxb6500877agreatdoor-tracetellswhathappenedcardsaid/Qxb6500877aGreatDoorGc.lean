import Derived.Test.Qxb6500877aGreatDoorGb
set_option linter.unusedVariables false
set_option linter.unusedSimpArgs false
namespace Go.Proofs.Qxb6500877aGreatDoor
open Go.RowKit

/-- How many messages each box holds. -/
def cntN (ν : Net) (i : Nat) : Int := (ν.box i).n
theorem cntN_send {ν ν' : Net} {i : Nat} {m : MsgV} (h : SendR ν i m true ν') (j : Nat) : cntN ν' j = cntN ν j + (if j = i then 1 else 0) := by
  rcases h with ⟨_, h, _⟩ | ⟨_, _, _, hd, n, _, _, e, _, rfl⟩
  · cases h
  · by_cases hj : j = i
    · subst hj
      simp [cntN, sendF, Net.setBusy, Net.setBox, BoxS.pN, BoxS.pAcc, BoxS.pMsg, e]
    · simp [cntN, sendF, Net.setBusy, Net.setBox, hj]
theorem cntN_del {ν ν' : Net} {i : Nat} {m : MsgV} (h : DelR ν i m true ν') (j : Nat) : cntN ν' j = cntN ν j - (if j = i then 1 else 0) := by
  rcases h with ⟨_, h, _⟩ | ⟨_, hd, n, _, _, e, _, _, _, rfl⟩
  · cases h
  · by_cases hj : j = i
    · subst hj
      by_cases h1 : n = 1
      · simp [cntN, deliverF, popF, Net.setBusy, Net.setBox, BoxS.pN, BoxS.pHead, BoxS.pMsg, e, h1]
      · simp [cntN, deliverF, popF, Net.setBusy, Net.setBox, BoxS.pN, BoxS.pHead, BoxS.pMsg, e, h1]
    · by_cases h1 : n = 1
      · simp [cntN, deliverF, popF, Net.setBusy, Net.setBox, hj, h1]
      · simp [cntN, deliverF, popF, Net.setBusy, Net.setBox, hj, h1]
theorem cntN_bc {x : Nat} {kd now x0 x1 x2 x3 : Int} : ∀ {i : Nat} {ν ν' : Net}, BcR x kd now x0 x1 x2 x3 i ν ν' → ∀ j, cntN ν' j = cntN ν j + (if j ∈ tgX x i then 1 else 0)
  | 0, ν, ν', h, j => by
    have : ν' = ν := h
    subst this
    simp [tgX]
  | i + 1, ν, ν', ⟨ν1, h1, h2⟩, j => by
    have ih := cntN_bc h1 j
    rcases h2 with ⟨e, rfl⟩ | ⟨e, m, hs, _⟩
    · rw [ih, tgX, if_pos e]
    · rw [cntN_send hs j, ih, tgX, if_neg e]
      have hni : x * 4 + i ∉ tgX x i := fun hm => by
        have : ∀ k, k ≤ i → x * 4 + i ∉ tgX x k := by
          intro k
          induction k with
          | zero => intro _; simp [tgX]
          | succ k ih =>
            intro hk
            rw [tgX]
            split
            · exact ih (by omega)
            · simp only [List.mem_append, List.mem_singleton, not_or]
              exact ⟨ih (by omega), by omega⟩
        exact this i (Nat.le_refl _) hm
      by_cases hj : j = x * 4 + i
      · subst hj
        simp [hni]
      · simp [hj]
theorem tgX_mem {x b : Nat} : ∀ {i : Nat}, b ∈ tgX x i ↔ ∃ k, k < i ∧ k ≠ x ∧ b = x * 4 + k
  | 0 => by simp [tgX]
  | i + 1 => by
    rw [tgX]
    split
    · rename_i e
      rw [tgX_mem]
      constructor
      · rintro ⟨k, h1, h2, h3⟩; exact ⟨k, by omega, h2, h3⟩
      · rintro ⟨k, h1, h2, h3⟩; exact ⟨k, by omega, h2, h3⟩
    · rename_i e
      rw [List.mem_append, tgX_mem, List.mem_singleton]
      constructor
      · rintro (⟨k, h1, h2, h3⟩ | h)
        · exact ⟨k, by omega, h2, h3⟩
        · exact ⟨i, by omega, e, h⟩
      · rintro ⟨k, h1, h2, h3⟩
        by_cases hk : k = i
        · subst hk; exact .inr h3
        · exact .inl ⟨k, by omega, h2, h3⟩
/-- A sending step that is well formed. -/
def Formed (o : OpS) : Prop := (0 ≤ o.c ∧ o.c < 4294967296) ∧ (0 ≤ o.a ∧ o.a < 4) ∧ (o.kd = 4 → 0 ≤ o.b ∧ o.b < 4)
theorem send_unformed {o : OpS} {t : Nat} {ν ν' : Net} {c : Int} (hk : o.kd = 4 ∨ o.kd = 5) (hf : ¬ Formed o) (h : StepSend o t ν c ν') : ν' = ν := by
  rcases h with ⟨_, _, h⟩ | ⟨h0, h⟩
  · exact h
  · have hc : 0 ≤ o.c ∧ o.c < 4294967296 := of_decide_eq_true h0
    rcases h with ⟨h5, h⟩ | ⟨h5, h⟩
    · rcases h with ⟨_, _, h⟩ | ⟨x, hx, hx4, _⟩
      · exact h
      · exfalso
        apply hf
        refine ⟨hc, ?_, fun h => by omega⟩
        unfold argF at hx
        split at hx
        · assumption
        · omega
    · rcases h with ⟨_, _, h⟩ | ⟨x, y, hx, hx4, hy, hy4, _⟩
      · exact h
      · exfalso
        apply hf
        refine ⟨hc, ?_, fun _ => ?_⟩
        · unfold argF at hx
          split at hx
          · assumption
          · omega
        · unfold argF at hy
          split at hy
          · assumption
          · omega
theorem send_formed {o : OpS} {t : Nat} {ν ν' : Net} {c : Int} (hk : o.kd = 4 ∨ o.kd = 5) (hf : Formed o) (h : StepSend o t ν c ν') : ∃ l, tgtOf o l ∧ (∀ b ∈ l, b < 16) ∧ l.length ≤ 4 ∧ l.Nodup ∧ (((∃ b ∈ l, cntN ν b = 32) ∧ c = 8 ∧ ν' = ν) ∨ ((∀ b ∈ l, cntN ν b ≠ 32) ∧ c = 0 ∧ ∀ j, cntN ν' j = cntN ν j + (if j ∈ l then 1 else 0))) := by
  obtain ⟨hc, ha, hb⟩ := hf
  rcases h with ⟨h, _, _⟩ | ⟨h0, h⟩
  · rw [kindB, decide_eq_true hc] at h; cases h
  · have ea : argF 4 o.a = o.a := by unfold argF; rw [if_pos ha]
    rcases h with ⟨h5, h⟩ | ⟨h5, h⟩
    · rw [ea] at h
      rcases h with ⟨h, _⟩ | ⟨x, hx, hx4, h⟩
      · exact absurd ha h
      · refine ⟨tgX x 4, .inr ⟨h5, x, hx, hx4, rfl⟩, fun b hb => tgX_lt hx4 4 (Nat.le_refl _) b hb, tgX_len 4, ?_, ?_⟩
        · have : x = 0 ∨ x = 1 ∨ x = 2 ∨ x = 3 := by omega
          rcases this with rfl | rfl | rfl | rfl <;> decide
        · rcases h with ⟨h, e, e2⟩ | ⟨h, e, e2⟩
          · refine .inl ⟨?_, e, e2⟩
            apply Classical.byContradiction
            intro hn
            apply h
            intro k hk4 hkx hq
            exact hn ⟨x * 4 + k, tgX_mem.2 ⟨k, hk4, hkx, rfl⟩, hq⟩
          · refine .inr ⟨fun b hb => ?_, e, cntN_bc e2⟩
            obtain ⟨k, h1, h2, rfl⟩ := tgX_mem.1 hb
            exact h k h1 h2
    · have h4 : o.kd = 4 := by omega
      have eb : argF 4 o.b = o.b := by unfold argF; rw [if_pos (hb h4)]
      rw [ea, eb] at h
      rcases h with ⟨h, _⟩ | ⟨x, y, hx, hx4, hy, hy4, m, ok, hS, h1, h2⟩
      · exact absurd ⟨ha, hb h4⟩ h
      · refine ⟨[x * 4 + y], .inl ⟨h4, x, y, hx, hx4, hy, hy4, rfl⟩, fun b hb => by simp at hb; omega, by simp, by simp, ?_⟩
        cases ok with
        | false =>
          rcases hS with ⟨e, _, e2⟩ | ⟨_, e, _⟩
          · exact .inl ⟨⟨x * 4 + y, by simp, e⟩, h2 rfl, e2⟩
          · cases e
        | true =>
          refine .inr ⟨fun b hb => ?_, (h1 rfl).2, fun j => ?_⟩
          · simp at hb
            subst hb
            rcases hS with ⟨_, e, _⟩ | ⟨e, _⟩
            · cases e
            · exact e
          · rw [cntN_send hS j]
            simp
end Go.Proofs.Qxb6500877aGreatDoor
