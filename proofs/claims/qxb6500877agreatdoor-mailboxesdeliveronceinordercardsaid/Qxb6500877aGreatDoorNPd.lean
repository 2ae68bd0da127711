import Derived.Test.Qxb6500877aGreatDoorNPc
import Derived.Test.Qxb6500877aGreatDoorNMq
set_option linter.unusedVariables false
set_option linter.unusedSimpArgs false
namespace Go.Proofs.Qxb6500877aGreatDoor
open Go.RowKit

/-- The message that the law expects in box b. -/
def lawMsg (S : Nat → List MsgV) (b : Nat) (kd now x y : Int) : MsgV := ⟨((b / 4 : Nat) : Int), ((b % 4 : Nat) : Int), kd, ((S b).length : Int) + 1, now, x, y, 0, 0⟩
def sendOne (kd now x y : Int) (S : Nat → List MsgV) (b : Nat) : Nat → List MsgV := upd S b (S b ++ [lawMsg S b kd now x y])
def sendAll (kd now x y : Int) (S : Nat → List MsgV) (l : List Nat) : Nat → List MsgV := l.foldl (sendOne kd now x y) S
def tgX (x : Nat) : Nat → List Nat
  | 0 => []
  | i + 1 => if i = x then tgX x i else tgX x i ++ [x * 4 + i]
/-- The boxes that a sending step fills. -/
def tgtOf (o : OpS) (l : List Nat) : Prop := (o.kd = 4 ∧ ∃ x y : Nat, o.a = x ∧ x < 4 ∧ o.b = y ∧ y < 4 ∧ l = [x * 4 + y]) ∨ (o.kd = 5 ∧ ∃ x : Nat, o.a = x ∧ x < 4 ∧ l = tgX x 4)
theorem tgX_lt {x : Nat} (hx : x < 4) : ∀ i, i ≤ 4 → ∀ b ∈ tgX x i, b < 16
  | 0, _, b, hb => by simp [tgX] at hb
  | i + 1, hi, b, hb => by
    unfold tgX at hb
    split at hb
    · exact tgX_lt hx i (by omega) b hb
    · rcases List.mem_append.1 hb with h | h
      · exact tgX_lt hx i (by omega) b h
      · simp at h; omega
theorem tgX_len {x : Nat} : ∀ i, (tgX x i).length ≤ i
  | 0 => by simp [tgX]
  | i + 1 => by
    have := tgX_len (x := x) i
    unfold tgX
    split
    · omega
    · simp; omega
theorem argF_nat {v : Int} {x : Nat} (h : argF 4 v = x) : v = x := by
  unfold argF at h
  split at h
  · exact h
  · omega
theorem NetL.one {ν ν' : Net} {S : Nat → List MsgV} {g : Nat → Nat} {x y : Nat} {m : MsgV} {kd now a b : Int} (h : NetL ν S g) (hx : x < 4) (hy : y < 4) (hS : SendR ν (x * 4 + y) m true ν') (hm : m = ⟨x, y, kd, m.mq, now, a, b, 0, 0⟩) : NetL ν' (sendOne kd now a b S (x * 4 + y)) g := by
  obtain ⟨hq, hN⟩ := h.send (by omega) hS
  have e : lawMsg S (x * 4 + y) kd now a b = m := by
    rw [hm, hq]
    unfold lawMsg
    rw [show (x * 4 + y) / 4 = x by omega, show (x * 4 + y) % 4 = y by omega]
  unfold sendOne
  rw [e]
  exact hN
theorem NetL.bc {ν : Net} {S : Nat → List MsgV} {g : Nat → Nat} {x : Nat} {kd now a b : Int} (h : NetL ν S g) (hx : x < 4) : ∀ {i : Nat} {ν' : Net}, i ≤ 4 → BcR x kd now a b 0 0 i ν ν' → NetL ν' (sendAll kd now a b S (tgX x i)) g
  | 0, ν', _, hB => by rw [show ν' = ν from hB]; exact h
  | i + 1, ν', hi, ⟨ν1, h1, h2⟩ => by
    have ih := h.bc hx (by omega) h1
    unfold tgX
    rcases h2 with ⟨e, rfl⟩ | ⟨e, m, hS, hm⟩
    · rw [if_pos e]; exact ih
    · rw [if_neg e, sendAll, List.foldl_append]
      exact ih.one hx (by omega) hS hm
theorem sent_all {o : OpS} {t : Nat} {ν ν' : Net} {S : Nat → List MsgV} {g : Nat → Nat} (hS : StepSend o t ν 0 ν') (h : NetL ν S g) (hk : o.kd = 4 ∨ o.kd = 5) : ∃ l, tgtOf o l ∧ (∀ b ∈ l, b < 16) ∧ (0 ≤ o.c ∧ o.c < 4294967296) ∧ NetL ν' (sendAll o.c t o.x o.y S l) g := by
  rcases hS with ⟨h0, _⟩ | ⟨_, hkb, hr⟩
  · exact absurd rfl h0
  · have hc : 0 ≤ o.c ∧ o.c < 4294967296 := by simpa [kindB] using hkb
    have hkr : kindR o.c = o.c := by rw [kindR, if_pos hc]
    rw [hkr] at hr
    rcases hr with ⟨h5, hB⟩ | ⟨h5, hB⟩
    · rcases hB with ⟨h0, _⟩ | ⟨_, x, ea, hx, hB⟩
      · exact absurd rfl h0
      · exact ⟨tgX x 4, .inr ⟨h5, x, argF_nat ea, hx, rfl⟩, tgX_lt hx 4 (by omega), hc, h.bc hx (by omega) hB⟩
    · have h4 : o.kd = 4 := by rcases hk with h | h <;> omega
      rcases hB with ⟨_, h0, _⟩ | ⟨x, y, ea, hx, eb, hy, m, ok, hS, h1, h2⟩
      · exact absurd h0 (by omega)
      · cases ok with
        | false => exact absurd (h2 rfl) (by omega)
        | true =>
          refine ⟨[x * 4 + y], .inl ⟨h4, x, y, argF_nat ea, hx, argF_nat eb, hy, rfl⟩, fun b hb => by simp at hb; omega, hc, ?_⟩
          exact h.one hx hy hS (h1 rfl).1
theorem sendOne_len (kd now x y : Int) (S : Nat → List MsgV) (b i : Nat) : (sendOne kd now x y S b i).length ≤ (S i).length + 1 := by
  unfold sendOne
  by_cases e : i = b
  · subst e; rw [upd_same]; simp
  · rw [upd_other _ _ e]; omega
/-- The law's rows: what was sent, and what was given. -/
def rowsOf (S : Nat → List MsgV) (g : Nat → Nat) : Nat → List MsgV := fun r => if r < 16 then S r else (S (r - 16)).take (g (r - 16))
theorem rowsOf_s (S : Nat → List MsgV) (g : Nat → Nat) {r : Nat} (h : r < 16) : rowsOf S g r = S r := by simp [rowsOf, h]
theorem rowsOf_g (S : Nat → List MsgV) (g : Nat → Nat) (r : Nat) : rowsOf S g (16 + r) = (S r).take (g r) := by
  unfold rowsOf
  rw [if_neg (by omega), Nat.add_sub_cancel_left]
theorem rowsOf_pop {S : Nat → List MsgV} {g : Nat → Nat} {i : Nat} {m : MsgV} (hm : (S i)[g i]? = some m) : upd (rowsOf S g) (16 + i) (rowsOf S g (16 + i) ++ [m]) = rowsOf S (upd g i (g i + 1)) := by
  funext r
  by_cases e : r = 16 + i
  · subst e
    rw [upd_same, rowsOf_g, rowsOf_g, upd_same, List.take_add_one, hm]
    rfl
  · rw [upd_other _ _ e]
    unfold rowsOf
    by_cases h : r < 16
    · rw [if_pos h, if_pos h]
    · rw [if_neg h, if_neg h, upd_other _ _ (by omega)]
/-- As 'rowsOf', g fixed and the lists of the first half S': rows whose second half is not touched. -/
def rowsTo (S' S : Nat → List MsgV) (g : Nat → Nat) : Nat → List MsgV := fun r => if r < 16 then S' r else (S (r - 16)).take (g (r - 16))
theorem rowsTo_push {S' S : Nat → List MsgV} {g : Nat → Nat} {b : Nat} {m : MsgV} (hb : b < 16) : upd (rowsTo S' S g) b (rowsTo S' S g b ++ [m]) = rowsTo (upd S' b (S' b ++ [m])) S g := by
  funext r
  by_cases e : r = b
  · subst e
    rw [upd_same]
    simp [rowsTo, hb, upd]
  · rw [upd_other _ _ e]
    unfold rowsTo
    by_cases h : r < 16
    · rw [if_pos h, if_pos h, upd_other _ _ e]
    · rw [if_neg h, if_neg h]
/-- What is sent lies behind what was sent before. -/
theorem sendAll_pre (kd now x y : Int) : ∀ (l : List Nat) (S : Nat → List MsgV) (i : Nat), ∃ z, sendAll kd now x y S l i = S i ++ z
  | [], S, i => ⟨[], by simp [sendAll]⟩
  | b :: l, S, i => by
    obtain ⟨z, hz⟩ := sendAll_pre kd now x y l (sendOne kd now x y S b) i
    refine (show ∃ z, sendAll kd now x y (sendOne kd now x y S b) l i = S i ++ z from ?_)
    rw [hz]
    by_cases e : i = b
    · subst e
      exact ⟨[lawMsg S i kd now x y] ++ z, by rw [sendOne, upd_same]; simp⟩
    · exact ⟨z, by rw [sendOne, upd_other _ _ e]⟩
theorem rowsTo_all {S' S : Nat → List MsgV} {g : Nat → Nat} (hp : ∀ i, ∃ z, S' i = S i ++ z) (hg : ∀ i, i < 16 → g i ≤ (S i).length) : ∀ r, r < 32 → rowsTo S' S g r = rowsOf S' g r := by
  intro r hr
  unfold rowsTo rowsOf
  by_cases h : r < 16
  · rw [if_pos h, if_pos h]
  · rw [if_neg h, if_neg h]
    obtain ⟨z, hz⟩ := hp (r - 16)
    rw [hz, List.take_append_of_le_length (hg _ (by omega))]
theorem Rws.cast {w : World} {base Sb Gb : Nat} {V : Nat → Value} {L L' : Nat → List MsgV} (h : Rws w base Sb Gb V L) (e : ∀ r, r < 32 → L r = L' r) : Rws w base Sb Gb V L' :=
  ⟨h.cell, fun r hr => by rw [← e r hr]; exact h.own r hr, h.dis, h.sfz, h.gfz, h.slt, h.glt, h.ne⟩
end Go.Proofs.Qxb6500877aGreatDoor
