import Derived.Test.Qxb6500877aGreatDoorGc
set_option linter.unusedVariables false
set_option linter.unusedSimpArgs false
namespace Go.Proofs.Qxb6500877aGreatDoor
open Go.RowKit

theorem orBusy_nat {m z : Nat} (hm : m < 65536) (hz : z < 16) : ∃ m' : Nat, orBusy m z = m' ∧ m' < 65536 ∧ ∀ j, j < 16 → (m'.testBit j = true ↔ j = z ∨ m.testBit j = true) := by
  have h : 2 ^ z < 65536 := (Nat.pow_lt_pow_iff_right (a := 2) (m := 16) (by omega)).2 hz
  have e : IntKind.u16.wrap (2 ^ z) = ((2 ^ z : Nat) : Int) := by
    have e : ((2 : Int) ^ z) = ((2 ^ z : Nat) : Int) := by simp
    rw [e, IntKind.wrap_u16]
    generalize 2 ^ z = P at h ⊢
    omega
  refine ⟨m ||| 2 ^ z, ?_, ?_, fun j hj => ?_⟩
  · rw [orBusy, e, u16_or_nat _ _ hm h]
  · exact Nat.or_lt_two_pow (n := 16) hm h
  · rw [Nat.testBit_or, Nat.testBit_two_pow]
    by_cases e : j = z
    · subst e; simp
    · have : ¬ (z = j) := fun h => e h.symm
      simp [e, this]
theorem andBusy_nat {m z : Nat} (hm : m < 65536) (hz : z < 16) : ∃ m' : Nat, andBusy m z = m' ∧ m' < 65536 ∧ ∀ j, j < 16 → (m'.testBit j = true ↔ j ≠ z ∧ m.testBit j = true) := by
  have h : 2 ^ z < 65536 := (Nat.pow_lt_pow_iff_right (a := 2) (m := 16) (by omega)).2 hz
  have e : IntKind.u16.wrap (2 ^ z) = ((2 ^ z : Nat) : Int) := by
    have e : ((2 : Int) ^ z) = ((2 ^ z : Nat) : Int) := by simp
    rw [e, IntKind.wrap_u16]
    generalize 2 ^ z = P at h ⊢
    omega
  refine ⟨m &&& (65535 - 2 ^ z), ?_, ?_, fun j hj => ?_⟩
  · rw [andBusy, e, u16_andNot_nat _ _ hm h]
  · exact Nat.lt_of_le_of_lt Nat.and_le_left hm
  · have e1 : 65535 - 2 ^ z = 2 ^ 16 - (2 ^ z + 1) := by omega
    rw [Nat.testBit_and, e1, Nat.testBit_two_pow_sub_succ (n := 16) h, Nat.testBit_two_pow]
    by_cases e : j = z
    · subst e; simp
    · have : ¬ (z = j) := fun h => e h.symm
      simp [e, this, hj]


/-- Bit i of 'busy' tells whether box i holds a message. -/
def Bsy (ν : Net) : Prop := ∃ b : Nat, ν.busy = b ∧ b < 65536 ∧ ∀ i, i < 16 → (b.testBit i = true ↔ 0 < cntN ν i)
theorem bsy_zero : Bsy net0 := ⟨0, rfl, by omega, fun i hi => by
  have : cntN net0 i = 0 := rfl
  rw [this]; simp⟩
theorem bsy_send {ν ν' : Net} {i : Nat} {m : MsgV} (h : Bsy ν) (hi : i < 16) (hS : SendR ν i m true ν') : Bsy ν' := by
  have hc := cntN_send hS
  rcases hS with ⟨_, h2, _⟩ | ⟨_, _, hq, h0, n, eh, hh, en, hn, rfl⟩
  · exact absurd h2 (by simp)
  · obtain ⟨b, eb, hb, hbit⟩ := h
    obtain ⟨b', eb', hb', hbit'⟩ := orBusy_nat hb hi
    refine ⟨b', by show orBusy ν.busy i = b'; rw [eb]; exact eb', hb', fun j hj => ?_⟩
    rw [hbit' j hj, hc j]
    by_cases e : j = i
    · subst e
      have : cntN ν j = n := en
      rw [if_pos rfl]
      simp; omega
    · rw [if_neg e, hbit j hj]
      simp [e]
theorem bsy_del {ν ν' : Net} {i : Nat} {m : MsgV} (h : Bsy ν) (hi : i < 16) (hD : DelR ν i m true ν') : Bsy ν' := by
  have hc := cntN_del hD
  rcases hD with ⟨_, h2, _⟩ | ⟨_, h0, n, eh, hh, en, hn0, hn, rfl, rfl⟩
  · exact absurd h2 (by simp)
  · obtain ⟨b, eb, hb, hbit⟩ := h
    obtain ⟨b', eb', hb', hbit'⟩ := andBusy_nat hb hi
    have ei : cntN ν i = n := en
    by_cases e1 : n = 1
    · refine ⟨b', ?_, hb', fun j hj => ?_⟩
      · unfold deliverF
        rw [if_pos e1]
        show andBusy ν.busy i = b'
        rw [eb]; exact eb'
      · rw [hbit' j hj, hc j]
        by_cases e : j = i
        · subst e
          rw [if_pos rfl]
          simp; omega
        · rw [if_neg e, hbit j hj]
          simp [e]
    · refine ⟨b, ?_, hb, fun j hj => ?_⟩
      · unfold deliverF
        rw [if_neg e1]
        exact eb
      · rw [hc j, hbit j hj]
        by_cases e : j = i
        · subst e
          rw [if_pos rfl]
          omega
        · rw [if_neg e]
          omega
theorem bsy_bc {x : Nat} {kd now x0 x1 x2 x3 : Int} (hx : x < 4) : ∀ {i : Nat} {ν ν' : Net}, i ≤ 4 → BcR x kd now x0 x1 x2 x3 i ν ν' → Bsy ν → Bsy ν'
  | 0, ν, ν', _, h, hb => by
    have e : ν' = ν := h
    rw [e]; exact hb
  | i + 1, ν, ν', hi, h, hb => by
    obtain ⟨ν1, h1, h2⟩ := h
    have b1 := bsy_bc hx (by omega) h1 hb
    rcases h2 with ⟨_, e⟩ | ⟨_, m, hS, _⟩
    · rw [e]; exact b1
    · exact bsy_send b1 (by omega) hS
end Go.Proofs.Qxb6500877aGreatDoor
