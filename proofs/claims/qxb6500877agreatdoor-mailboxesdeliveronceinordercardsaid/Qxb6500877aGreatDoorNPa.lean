import Derived.Test.Qxb6500877aGreatDoorNMh0
import Derived.Test.Qxb6500877aGreatDoorNXe
set_option linter.unusedVariables false
set_option linter.unusedSimpArgs false
namespace Go.Proofs.Qxb6500877aGreatDoor
open Go.RowKit

theorem orBusy_nat {m z : Nat} (hm : m < 65536) (hz : z < 16) : ∃ m' : Nat, orBusy m z = m' ∧ m' < 65536 ∧ ∀ j, j < 16 → (m'.testBit j = true ↔ j = z ∨ m.testBit j = true) := by
  have h : 2 ^ z < 65536 := (Nat.pow_lt_pow_iff_right (a := 2) (m := 16) (by omega)).2 hz
  have e : IntKind.u16.wrap (2 ^ z) = ((2 ^ z : Nat) : Int) := by
    have e : ((2 : Int) ^ z) = ((2 ^ z : Nat) : Int) := by simp
    rw [e, IntKind.wrap_u16]
    generalize 2 ^ z = P at h ⊢
    omega
  refine ⟨m ||| 2 ^ z, ?_, ?_, fun j hj => ?_⟩
  · rw [orBusy, e, u16_or_nat _ _ hm h]
  · exact Nat.or_lt_two_pow (n := 16) hm h
  · rw [Nat.testBit_or, Nat.testBit_two_pow]
    by_cases e : j = z
    · subst e; simp
    · have : ¬ (z = j) := fun h => e h.symm
      simp [e, this]
theorem andBusy_nat {m z : Nat} (hm : m < 65536) (hz : z < 16) : ∃ m' : Nat, andBusy m z = m' ∧ m' < 65536 ∧ ∀ j, j < 16 → (m'.testBit j = true ↔ j ≠ z ∧ m.testBit j = true) := by
  have h : 2 ^ z < 65536 := (Nat.pow_lt_pow_iff_right (a := 2) (m := 16) (by omega)).2 hz
  have e : IntKind.u16.wrap (2 ^ z) = ((2 ^ z : Nat) : Int) := by
    have e : ((2 : Int) ^ z) = ((2 ^ z : Nat) : Int) := by simp
    rw [e, IntKind.wrap_u16]
    generalize 2 ^ z = P at h ⊢
    omega
  refine ⟨m &&& (65535 - 2 ^ z), ?_, ?_, fun j hj => ?_⟩
  · rw [andBusy, e, u16_andNot_nat _ _ hm h]
  · exact Nat.lt_of_le_of_lt Nat.and_le_left hm
  · have e1 : 65535 - 2 ^ z = 2 ^ 16 - (2 ^ z + 1) := by omega
    rw [Nat.testBit_and, e1, Nat.testBit_two_pow_sub_succ (n := 16) h, Nat.testBit_two_pow]
    by_cases e : j = z
    · subst e; simp
    · have : ¬ (z = j) := fun h => e h.symm
      simp [e, this, hj]

/-- A mailbox holds the messages l, the oldest first. -/
def Box1 (x : BoxS) (l : List MsgV) : Prop := ∃ h : Nat, x.head = h ∧ h < 32 ∧ x.n = l.length ∧ l.length ≤ 32 ∧ ∀ j, j < l.length → l[j]? = some (x.ring (plc h j))
/-- The mailboxes: S: what each has ever taken, g: how much of it has been handed over. -/
structure NetL (ν : Net) (S : Nat → List MsgV) (g : Nat → Nat) : Prop where
  le : ∀ i, i < 16 → g i ≤ (S i).length
  box : ∀ i, i < 16 → Box1 (ν.box i) ((S i).drop (g i))
  acc : ∀ i, i < 16 → (ν.box i).acc = (S i).length
  busy : ∃ b : Nat, ν.busy = b ∧ b < 65536 ∧ ∀ i, i < 16 → (b.testBit i = true ↔ g i < (S i).length)
theorem netL0 : NetL net0 (fun _ => []) (fun _ => 0) :=
  ⟨fun _ _ => Nat.le_refl _, fun _ _ => ⟨0, rfl, by omega, rfl, by simp, fun j hj => absurd hj (by simp)⟩, fun _ _ => rfl, ⟨0, rfl, by omega, fun i _ => by simp⟩⟩
theorem plc_push {h j n : Nat} (hh : h < 32) (hj : j < n) (hn : n < 32) : plc h j ≠ plc h n := by unfold plc; split <;> split <;> omega
theorem plc_pop {h j : Nat} (hh : h < 32) (hj : j + 1 < 33) : plc (plc h 1) j = plc h (j + 1) := by unfold plc; split <;> split <;> split <;> omega
theorem plc_ne {h j : Nat} (hh : h < 32) (hj : j + 1 < 32) : plc h (j + 1) ≠ h := by unfold plc; split <;> omega
def upd {α : Type} (f : Nat → α) (i : Nat) (x : α) : Nat → α := fun j => if j = i then x else f j
theorem upd_same {α : Type} (f : Nat → α) (i : Nat) (x : α) : upd f i x i = x := by simp [upd]
theorem upd_other {α : Type} (f : Nat → α) {i j : Nat} (x : α) (h : j ≠ i) : upd f i x j = f j := by simp [upd, h]
theorem NetL.send {ν ν' : Net} {S : Nat → List MsgV} {g : Nat → Nat} {i : Nat} {m : MsgV} (h : NetL ν S g) (hi : i < 16) (hS : SendR ν i m true ν') : m.mq = (S i).length + 1 ∧ NetL ν' (upd S i (S i ++ [m])) g := by
  rcases hS with ⟨_, h2, _⟩ | ⟨_, _, hq, h0, n, eh, hh, en, hn, rfl⟩
  · exact absurd h2 (by simp)
  · refine ⟨by rw [hq, h.acc i hi], ?_⟩
    obtain ⟨b, eb, hb, hbit⟩ := h.busy
    obtain ⟨b', eb', hb', hbit'⟩ := orBusy_nat hb hi
    have hle := h.le i hi
    obtain ⟨h1, eh1, hh1, en1, hl1, hr1⟩ := h.box i hi
    have e01 : h1 = h0 := by rw [eh] at eh1; exact (Int.ofNat.inj eh1).symm
    subst e01
    have en2 : ((S i).drop (g i)).length = n := by rw [en] at en1; exact (Int.ofNat.inj en1).symm
    have bi : ∀ j, j ≠ i → (sendF ν i h1 n m).box j = ν.box j := fun j hj => by simp [sendF, Net.setBusy, Net.setBox, hj]
    have bs : (sendF ν i h1 n m).box i = (((ν.box i).pMsg (plc h1 n) m).pN (n + 1)).pAcc ((ν.box i).acc + 1) := by simp [sendF, Net.setBusy, Net.setBox]
    have hd : (S i ++ [m]).drop (g i) = (S i).drop (g i) ++ [m] := List.drop_append_of_le_length hle
    refine ⟨fun j hj => ?_, fun j hj => ?_, fun j hj => ?_, b', by show orBusy ν.busy i = b'; rw [eb]; exact eb', hb', fun j hj => ?_⟩
    · by_cases e : j = i
      · subst e; rw [upd_same]; simp; omega
      · rw [upd_other _ _ e]; exact h.le j hj
    · by_cases e : j = i
      · subst e
        rw [upd_same, hd, bs]
        refine ⟨h1, eh1, hh1, ?_, ?_, fun q hq => ?_⟩
        · show ((n : Int) + 1) = _
          simp only [List.length_append, List.length_singleton, en2]; omega
        · simp only [List.length_append, List.length_singleton, en2]; omega
        · simp only [List.length_append, List.length_singleton, en2] at hq
          by_cases eq : q = n
          · subst eq
            rw [List.getElem?_append_right (by omega), en2]
            simp [BoxS.pMsg, BoxS.pN, BoxS.pAcc]
          · rw [List.getElem?_append_left (by omega), hr1 q (by omega)]
            have hne := plc_push (h := h1) (j := q) (n := n) hh1 (by omega) hn
            simp [BoxS.pMsg, BoxS.pN, BoxS.pAcc, hne]
      · rw [upd_other _ _ e, bi j e]; exact h.box j hj
    · by_cases e : j = i
      · subst e
        rw [upd_same, bs]
        show (ν.box j).acc + 1 = _
        rw [h.acc j hj]; simp
      · rw [upd_other _ _ e, bi j e]; exact h.acc j hj
    · rw [hbit' j hj]
      by_cases e : j = i
      · subst e
        rw [upd_same]
        simp; omega
      · rw [upd_other _ _ e, ← hbit j hj]
        simp [e]
theorem NetL.pop {ν ν' : Net} {S : Nat → List MsgV} {g : Nat → Nat} {i : Nat} {m : MsgV} (h : NetL ν S g) (hi : i < 16) (hD : DelR ν i m true ν') : g i < (S i).length ∧ (S i)[g i]? = some m ∧ NetL ν' S (upd g i (g i + 1)) := by
  rcases hD with ⟨_, h2, _⟩ | ⟨_, h0, n, eh, hh, en, hn0, hn, rfl, rfl⟩
  · exact absurd h2 (by simp)
  · obtain ⟨b, eb, hb, hbit⟩ := h.busy
    obtain ⟨b', eb', hb', hbit'⟩ := andBusy_nat hb hi
    have hle := h.le i hi
    obtain ⟨h1, eh1, hh1, en1, hl1, hr1⟩ := h.box i hi
    have e01 : h1 = h0 := by rw [eh] at eh1; exact (Int.ofNat.inj eh1).symm
    subst e01
    have en2 : ((S i).drop (g i)).length = n := by rw [en] at en1; exact (Int.ofNat.inj en1).symm
    have hlen : (S i).length = g i + n := by rw [List.length_drop] at en2; omega
    have bx : ∀ j, (deliverF ν i h1 n).box j = (popF ν i h1 n).box j := fun j => by unfold deliverF; split <;> rfl
    have bi : ∀ j, j ≠ i → (deliverF ν i h1 n).box j = ν.box j := fun j hj => by rw [bx]; simp [popF, Net.setBox, hj]
    have bs : (deliverF ν i h1 n).box i = (((ν.box i).pMsg h1 msg0).pHead (plc h1 1)).pN (n - 1) := by rw [bx]; simp [popF, Net.setBox]
    refine ⟨by omega, ?_, fun j hj => ?_, fun j hj => ?_, fun j hj => ?_, ?_⟩
    · have := hr1 0 (by omega)
      rw [List.getElem?_drop] at this
      have ep : plc h1 0 = h1 := by unfold plc; split <;> omega
      rw [ep] at this
      exact this
    · by_cases e : j = i
      · subst e; rw [upd_same]; omega
      · rw [upd_other _ _ e]; exact h.le j hj
    · by_cases e : j = i
      · subst e
        rw [upd_same, bs]
        have el : ((S j).drop (g j + 1)).length = n - 1 := by rw [List.length_drop]; omega
        refine ⟨plc h1 1, rfl, plc_lt hh (by omega), ?_, ?_, fun q hq => ?_⟩
        · show ((n : Int) - 1) = _
          rw [el]; omega
        · rw [el]; omega
        · rw [el] at hq
          have := hr1 (q + 1) (by omega)
          rw [List.getElem?_drop] at this
          rw [List.getElem?_drop, show g j + 1 + q = g j + (q + 1) by omega, this, plc_pop hh (by omega)]
          have hne := plc_ne (h := h1) (j := q) hh (by omega)
          simp [BoxS.pMsg, BoxS.pHead, BoxS.pN, hne]
      · rw [upd_other _ _ e, bi j e]; exact h.box j hj
    · by_cases e : j = i
      · subst e
        rw [bs]; exact h.acc j hj
      · rw [bi j e]; exact h.acc j hj
    · by_cases e1 : n = 1
      · refine ⟨b', ?_, hb', fun j hj => ?_⟩
        · unfold deliverF
          rw [if_pos e1]
          show andBusy ν.busy i = b'
          rw [eb]; exact eb'
        · rw [hbit' j hj]
          by_cases e : j = i
          · subst e
            rw [upd_same]
            simp; omega
          · rw [upd_other _ _ e, ← hbit j hj]
            simp [e]
      · refine ⟨b, ?_, hb, fun j hj => ?_⟩
        · unfold deliverF
          rw [if_neg e1]
          exact eb
        · rw [hbit j hj]
          by_cases e : j = i
          · subst e
            rw [upd_same]
            constructor <;> intro _ <;> omega
          · rw [upd_other _ _ e]
theorem NetL.none {ν ν' : Net} {S : Nat → List MsgV} {g : Nat → Nat} {i : Nat} {m : MsgV} (h : NetL ν S g) (hi : i < 16) (hD : DelR ν i m false ν') : g i = (S i).length ∧ ν' = ν := by
  rcases hD with ⟨h0, _, rfl, _⟩ | ⟨h2, _⟩
  · obtain ⟨h1, eh1, hh1, en1, hl1, hr1⟩ := h.box i hi
    have hle := h.le i hi
    rw [h0] at en1
    have : ((S i).drop (g i)).length = 0 := by omega
    rw [List.length_drop] at this
    exact ⟨by omega, rfl⟩
  · exact absurd h2 (by simp)
theorem NetL.quiet {ν : Net} {S : Nat → List MsgV} {g : Nat → Nat} (h : NetL ν S g) (hq : ∀ i, i < 16 → g i = (S i).length) : ν.busy = 0 := by
  obtain ⟨b, eb, hb, hbit⟩ := h.busy
  have : b = 0 := by
    apply Nat.eq_of_testBit_eq
    intro i
    rw [Nat.zero_testBit]
    by_cases hi : i < 16
    · cases e : b.testBit i with
      | false => rfl
      | true => have := (hbit i hi).1 e; have := hq i hi; omega
    · exact Nat.testBit_lt_two_pow (Nat.lt_of_lt_of_le hb (show 2 ^ 16 ≤ 2 ^ i from Nat.pow_le_pow_right (by omega) (by omega)))
  rw [eb, this]; rfl
end Go.Proofs.Qxb6500877aGreatDoor
