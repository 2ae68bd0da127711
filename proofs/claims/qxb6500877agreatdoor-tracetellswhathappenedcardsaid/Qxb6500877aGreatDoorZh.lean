import Derived.Test.Qxb6500877aGreatDoorZd
import Derived.Test.Qxb6500877aGreatDoorAw0
import Derived.Test.Qxb6500877aGreatDoorOe
set_option linter.unusedVariables false
set_option linter.unusedSimpArgs false
namespace Go.Proofs.Qxb6500877aGreatDoor
open Go.RowKit

/-- A step of the machine, kind by kind. -/
structure RealS (o : OpS) (t : Nat) (ν : Net) (τ : TSt) (σ : Sg) (a : Ans) (t' : Nat) (ν' : Net) (τ' : TSt) (σ' : Sg) : Prop where
  k0 : o.kd = 0 → ∃ c : Nat, c < 4 ∧ o.a % 4 = c ∧ a = ⟨(pickRes σ c).c, c, (pickRes σ c).tk, 0, false, msg0, []⟩ ∧ t' = t ∧ ν' = ν ∧ τ' = τ ∧ σ' = (pickRes σ c).σ
  k1 : o.kd = 1 → ∃ (i : Nat) (z : Int) (m : MsgV), i < 16 ∧ o.a % 16 = i ∧ a = ⟨z, ((i % 4 : Nat) : Int), -1, 0, decide (z = 0), m, []⟩ ∧ ((z = 0 ∧ (0 ≤ m.mt ∧ m.mt < 4) ∧ DelR ν i m true ν') ∨ (z = 2 ∧ DelR ν i m false ν')) ∧ t' = t ∧ τ' = τ ∧ σ' = delSg σ m z
  k2 : o.kd = 2 → ∃ l, a = ⟨0, -1, -1, 0, false, msg0, l⟩ ∧ AdvanceR τ τ' t 1 l ∧ t' = afterF t 1 ∧ ν' = ν ∧ σ' = firedSg σ l
  k3 : o.kd = 3 → ∃ l, a = ⟨0, -1, -1, 0, false, msg0, l⟩ ∧ AdvanceR τ τ' t o.x l ∧ t' = afterF t o.x ∧ ν' = ν ∧ σ' = firedSg σ l
  k4 : o.kd = 4 ∨ o.kd = 5 → ∃ c : Int, a = ⟨(sendRS o c).c, (sendRS o c).co, -1, 0, false, msg0, []⟩ ∧ StepSend o t ν c ν' ∧ t' = t ∧ τ' = τ ∧ σ' = stSg σ o c
  k6 : o.kd = 6 → ∃ c tm : Int, a = ⟨c, if c = 0 then o.a else -1, -1, tm, false, msg0, []⟩ ∧ ArmR2 τ σ (argF 4 o.a) o.x o.y tm c τ' σ' ∧ t' = t ∧ ν' = ν
  k7 : o.kd = 7 → ∃ c tm : Int, a = ⟨c, if c = 0 then o.a else -1, -1, tm, false, msg0, []⟩ ∧ ArmR2 τ σ (argF 4 o.a) (afterF t o.x : Nat) o.y tm c τ' σ' ∧ t' = t ∧ ν' = ν
  k8 : o.kd = 8 → ∃ z q c : Int, a = ⟨(tmRS z c q).c, (tmRS z c q).co, (tmRS z c q).tk, (tmRS z c q).tm, false, msg0, []⟩ ∧ RearmR τ o.x o.y q c z τ' ∧ t' = t ∧ ν' = ν ∧ σ' = σ
  k9 : o.kd = 9 → ∃ z q c : Int, a = ⟨(tmRS z c q).c, (tmRS z c q).co, (tmRS z c q).tk, (tmRS z c q).tm, false, msg0, []⟩ ∧ CancelR τ σ o.x q c z τ' σ' ∧ t' = t ∧ ν' = ν
  kt : 9 < o.kd → a = ⟨(taskF σ.s o).c, (taskF σ.s o).co, if (taskF σ.s o).c = 0 then argF 16 o.a else -1, 0, false, msg0, []⟩ ∧ t' = t ∧ ν' = ν ∧ τ' = τ ∧ σ' = σ.put (taskF σ.s o).s
theorem real_k0 {o : OpS} {t t' : Nat} {ν ν' : Net} {τ τ' : TSt} {σ σ' : Sg} {a : Ans} (h : o.kd = 0) (hb : ∃ c : Nat, c < 4 ∧ o.a % 4 = c ∧ a = ⟨(pickRes σ c).c, c, (pickRes σ c).tk, 0, false, msg0, []⟩ ∧ t' = t ∧ ν' = ν ∧ τ' = τ ∧ σ' = (pickRes σ c).σ) : RealS o t ν τ σ a t' ν' τ' σ' :=
  ⟨fun _ => hb, fun h' => absurd h' (by omega), fun h' => absurd h' (by omega), fun h' => absurd h' (by omega), fun h' => absurd h' (by omega), fun h' => absurd h' (by omega), fun h' => absurd h' (by omega), fun h' => absurd h' (by omega), fun h' => absurd h' (by omega), fun h' => absurd h' (by omega)⟩
theorem real_k1 {o : OpS} {t t' : Nat} {ν ν' : Net} {τ τ' : TSt} {σ σ' : Sg} {a : Ans} (h : o.kd = 1) (hb : ∃ (i : Nat) (z : Int) (m : MsgV), i < 16 ∧ o.a % 16 = i ∧ a = ⟨z, ((i % 4 : Nat) : Int), -1, 0, decide (z = 0), m, []⟩ ∧ ((z = 0 ∧ (0 ≤ m.mt ∧ m.mt < 4) ∧ DelR ν i m true ν') ∨ (z = 2 ∧ DelR ν i m false ν')) ∧ t' = t ∧ τ' = τ ∧ σ' = delSg σ m z) : RealS o t ν τ σ a t' ν' τ' σ' :=
  ⟨fun h' => absurd h' (by omega), fun _ => hb, fun h' => absurd h' (by omega), fun h' => absurd h' (by omega), fun h' => absurd h' (by omega), fun h' => absurd h' (by omega), fun h' => absurd h' (by omega), fun h' => absurd h' (by omega), fun h' => absurd h' (by omega), fun h' => absurd h' (by omega)⟩
theorem real_k2 {o : OpS} {t t' : Nat} {ν ν' : Net} {τ τ' : TSt} {σ σ' : Sg} {a : Ans} (h : o.kd = 2) (hb : ∃ l, a = ⟨0, -1, -1, 0, false, msg0, l⟩ ∧ AdvanceR τ τ' t 1 l ∧ t' = afterF t 1 ∧ ν' = ν ∧ σ' = firedSg σ l) : RealS o t ν τ σ a t' ν' τ' σ' :=
  ⟨fun h' => absurd h' (by omega), fun h' => absurd h' (by omega), fun _ => hb, fun h' => absurd h' (by omega), fun h' => absurd h' (by omega), fun h' => absurd h' (by omega), fun h' => absurd h' (by omega), fun h' => absurd h' (by omega), fun h' => absurd h' (by omega), fun h' => absurd h' (by omega)⟩
theorem real_k3 {o : OpS} {t t' : Nat} {ν ν' : Net} {τ τ' : TSt} {σ σ' : Sg} {a : Ans} (h : o.kd = 3) (hb : ∃ l, a = ⟨0, -1, -1, 0, false, msg0, l⟩ ∧ AdvanceR τ τ' t o.x l ∧ t' = afterF t o.x ∧ ν' = ν ∧ σ' = firedSg σ l) : RealS o t ν τ σ a t' ν' τ' σ' :=
  ⟨fun h' => absurd h' (by omega), fun h' => absurd h' (by omega), fun h' => absurd h' (by omega), fun _ => hb, fun h' => absurd h' (by omega), fun h' => absurd h' (by omega), fun h' => absurd h' (by omega), fun h' => absurd h' (by omega), fun h' => absurd h' (by omega), fun h' => absurd h' (by omega)⟩
theorem real_k4 {o : OpS} {t t' : Nat} {ν ν' : Net} {τ τ' : TSt} {σ σ' : Sg} {a : Ans} (h : o.kd = 4 ∨ o.kd = 5) (hb : ∃ c : Int, a = ⟨(sendRS o c).c, (sendRS o c).co, -1, 0, false, msg0, []⟩ ∧ StepSend o t ν c ν' ∧ t' = t ∧ τ' = τ ∧ σ' = stSg σ o c) : RealS o t ν τ σ a t' ν' τ' σ' :=
  ⟨fun h' => absurd h' (by omega), fun h' => absurd h' (by omega), fun h' => absurd h' (by omega), fun h' => absurd h' (by omega), fun _ => hb, fun h' => absurd h' (by omega), fun h' => absurd h' (by omega), fun h' => absurd h' (by omega), fun h' => absurd h' (by omega), fun h' => absurd h' (by omega)⟩
theorem real_k6 {o : OpS} {t t' : Nat} {ν ν' : Net} {τ τ' : TSt} {σ σ' : Sg} {a : Ans} (h : o.kd = 6) (hb : ∃ c tm : Int, a = ⟨c, if c = 0 then o.a else -1, -1, tm, false, msg0, []⟩ ∧ ArmR2 τ σ (argF 4 o.a) o.x o.y tm c τ' σ' ∧ t' = t ∧ ν' = ν) : RealS o t ν τ σ a t' ν' τ' σ' :=
  ⟨fun h' => absurd h' (by omega), fun h' => absurd h' (by omega), fun h' => absurd h' (by omega), fun h' => absurd h' (by omega), fun h' => absurd h' (by omega), fun _ => hb, fun h' => absurd h' (by omega), fun h' => absurd h' (by omega), fun h' => absurd h' (by omega), fun h' => absurd h' (by omega)⟩
theorem real_k7 {o : OpS} {t t' : Nat} {ν ν' : Net} {τ τ' : TSt} {σ σ' : Sg} {a : Ans} (h : o.kd = 7) (hb : ∃ c tm : Int, a = ⟨c, if c = 0 then o.a else -1, -1, tm, false, msg0, []⟩ ∧ ArmR2 τ σ (argF 4 o.a) (afterF t o.x : Nat) o.y tm c τ' σ' ∧ t' = t ∧ ν' = ν) : RealS o t ν τ σ a t' ν' τ' σ' :=
  ⟨fun h' => absurd h' (by omega), fun h' => absurd h' (by omega), fun h' => absurd h' (by omega), fun h' => absurd h' (by omega), fun h' => absurd h' (by omega), fun h' => absurd h' (by omega), fun _ => hb, fun h' => absurd h' (by omega), fun h' => absurd h' (by omega), fun h' => absurd h' (by omega)⟩
theorem real_k8 {o : OpS} {t t' : Nat} {ν ν' : Net} {τ τ' : TSt} {σ σ' : Sg} {a : Ans} (h : o.kd = 8) (hb : ∃ z q c : Int, a = ⟨(tmRS z c q).c, (tmRS z c q).co, (tmRS z c q).tk, (tmRS z c q).tm, false, msg0, []⟩ ∧ RearmR τ o.x o.y q c z τ' ∧ t' = t ∧ ν' = ν ∧ σ' = σ) : RealS o t ν τ σ a t' ν' τ' σ' :=
  ⟨fun h' => absurd h' (by omega), fun h' => absurd h' (by omega), fun h' => absurd h' (by omega), fun h' => absurd h' (by omega), fun h' => absurd h' (by omega), fun h' => absurd h' (by omega), fun h' => absurd h' (by omega), fun _ => hb, fun h' => absurd h' (by omega), fun h' => absurd h' (by omega)⟩
theorem real_k9 {o : OpS} {t t' : Nat} {ν ν' : Net} {τ τ' : TSt} {σ σ' : Sg} {a : Ans} (h : o.kd = 9) (hb : ∃ z q c : Int, a = ⟨(tmRS z c q).c, (tmRS z c q).co, (tmRS z c q).tk, (tmRS z c q).tm, false, msg0, []⟩ ∧ CancelR τ σ o.x q c z τ' σ' ∧ t' = t ∧ ν' = ν) : RealS o t ν τ σ a t' ν' τ' σ' :=
  ⟨fun h' => absurd h' (by omega), fun h' => absurd h' (by omega), fun h' => absurd h' (by omega), fun h' => absurd h' (by omega), fun h' => absurd h' (by omega), fun h' => absurd h' (by omega), fun h' => absurd h' (by omega), fun h' => absurd h' (by omega), fun _ => hb, fun h' => absurd h' (by omega)⟩
theorem real_kt {o : OpS} {t t' : Nat} {ν ν' : Net} {τ τ' : TSt} {σ σ' : Sg} {a : Ans} (h : 9 < o.kd) (hb : a = ⟨(taskF σ.s o).c, (taskF σ.s o).co, if (taskF σ.s o).c = 0 then argF 16 o.a else -1, 0, false, msg0, []⟩ ∧ t' = t ∧ ν' = ν ∧ τ' = τ ∧ σ' = σ.put (taskF σ.s o).s) : RealS o t ν τ σ a t' ν' τ' σ' :=
  ⟨fun h' => absurd h' (by omega), fun h' => absurd h' (by omega), fun h' => absurd h' (by omega), fun h' => absurd h' (by omega), fun h' => absurd h' (by omega), fun h' => absurd h' (by omega), fun h' => absurd h' (by omega), fun h' => absurd h' (by omega), fun h' => absurd h' (by omega), fun _ => hb⟩
/-- The model tells of the machine. -/
structure Rel (t : Nat) (ν : Net) (τ : TSt) (σ : Sg) (m : Mdl) : Prop where
  now : m.now = t
  s : ∃ Q, SR σ.s m Q
  b : BR ν m
  t : TmRl τ m
  st : ∀ j, j < 28 → m.st j = σ.st j
theorem SR.cast {s : Sched} {m m' : Mdl} {Q : Nat → Nat → List Nat} (R : SR s m Q) (e1 : m'.tk = m.tk) (e2 : m'.wt = m.wt) : SR s m' Q :=
  ⟨R.inv, by rw [e1]; exact R.tk, by rw [e2]; exact R.wr, by rw [e1]; exact R.bw⟩
theorem BR.cast {ν : Net} {m m' : Mdl} (R : BR ν m) (e1 : m'.bx = m.bx) (e2 : m'.ac = m.ac) : BR ν m' :=
  ⟨by rw [e1]; exact R.bx, by rw [e2]; exact R.ac, by rw [e1]; exact R.tt⟩
theorem TmRl.cast {τ : TSt} {m m' : Mdl} (R : TmRl τ m) (e1 : m'.tm = m.tm) (e2 : m'.nx = m.nx) : TmRl τ m' :=
  ⟨by rw [e1]; exact R.mem, by rw [e1]; exact R.nod, by rw [e2]; exact R.nx, by rw [e1, e2]; exact R.lt, by rw [e1]; exact R.co, by rw [e1]; exact R.len⟩
theorem delSg_s (σ : Sg) (m : MsgV) (z : Int) : (delSg σ m z).s = σ.s := by
  unfold delSg
  split <;> rfl
theorem arm_s {τ τ' : TSt} {σ σ' : Sg} {c d ck a z : Int} (h : ArmR2 τ σ c d ck a z τ' σ') : σ'.s = σ.s := by
  rcases h.1 with ⟨_, _, _, rfl⟩ | ⟨_, _, _, _, rfl⟩ <;> rfl
theorem cancel_s {τ τ' : TSt} {σ σ' : Sg} {x a c z : Int} (h : CancelR τ σ x a c z τ' σ') : σ'.s = σ.s := by
  rcases h with ⟨_, _, rfl, _⟩ | ⟨_, _, _, _, rfl⟩ <;> rfl
theorem rel_step {o : OpS} {t t' k : Nat} {ν ν' : Net} {τ τ' : TSt} {σ σ' : Sg} {a am : Ans} {m m' : Mdl} (R : Rel t ν τ σ m) (K : SOk σ.s) (N : NOk ν k) (hk : k < 900000) (ht : t < 18446744073709551616) (hnx : 0 < τ.nx ∧ τ.nx < 18446744073709551615) (ho : o.ok) (hR : RealS o t ν τ σ a t' ν' τ' σ') (hM : ModS m o am m') : am = a ∧ Rel t' ν' τ' σ' m' := by
  obtain ⟨Q, S⟩ := R.s
  have hx := ho.x
  have hkd : o.kd = 0 ∨ o.kd = 1 ∨ o.kd = 2 ∨ o.kd = 3 ∨ o.kd = 4 ∨ o.kd = 5 ∨ o.kd = 6 ∨ o.kd = 7 ∨ o.kd = 8 ∨ o.kd = 9 ∨ o.kd = 10 ∨ (11 ≤ o.kd ∧ o.kd ≤ 16) ∨ 16 < o.kd := by omega
  rcases hkd with h | h | h | h | h | h | h | h | h | h | h | h | h
  · obtain ⟨c, hc, ec, rfl, rfl, rfl, rfl, rfl⟩ := hR.k0 h
    obtain ⟨c', was, hc', ec', hrun, rfl, rfl⟩ := hM.k0 h
    obtain rfl : c' = c := by omega
    obtain ⟨e1, e2, hs, ho', hst⟩ := pick_rel S R.st hc hrun
    refine ⟨by rw [e1, e2], ⟨by rw [ho'.now]; exact R.now, hs, R.b.cast ho'.bx ho'.ac, R.t.cast ho'.tm ho'.nx, hst⟩⟩
  · obtain ⟨i, z, mr, hi, ei, rfl, hD, rfl, rfl, rfl⟩ := hR.k1 h
    obtain ⟨b, zm, hm, mm, hb, eb, rfl, hMM⟩ := hM.k1 h
    obtain rfl : b = i := by omega
    obtain ⟨e1, e2, e3, hB, ho', hst⟩ := del_rel R.b N R.st hb hD hMM
    subst e1 e2 e3
    exact ⟨rfl, ⟨by rw [ho'.now]; exact R.now, ⟨Q, by rw [delSg_s]; exact S.cast ho'.tk ho'.wt⟩, hB, R.t.cast ho'.tm ho'.nx, hst⟩⟩
  · obtain ⟨l, rfl, hA, rfl, rfl, rfl⟩ := hR.k2 h
    obtain ⟨fs, rfl, hT⟩ := hM.k2 h
    obtain ⟨e1, hT', e2, ⟨e3, e4, e5, e6⟩, hst⟩ := tick_rel R.t R.st R.now ht (n := 1) (by omega) hA hT
    subst e1
    exact ⟨rfl, ⟨e2, ⟨Q, by rw [firedSg_s]; exact S.cast e3 e4⟩, R.b.cast e5 e6, hT', hst⟩⟩
  · obtain ⟨l, rfl, hA, rfl, rfl, rfl⟩ := hR.k3 h
    obtain ⟨fs, rfl, hT⟩ := hM.k3 h
    obtain ⟨e1, hT', e2, ⟨e3, e4, e5, e6⟩, hst⟩ := tick_rel R.t R.st R.now ht hx hA hT
    subst e1
    exact ⟨rfl, ⟨e2, ⟨Q, by rw [firedSg_s]; exact S.cast e3 e4⟩, R.b.cast e5 e6, hT', hst⟩⟩
  · obtain ⟨c, rfl, hS, rfl, rfl, rfl⟩ := hR.k4 (.inl h)
    obtain ⟨z, co, rfl, hMM⟩ := hM.k4 h
    obtain ⟨e1, e2, hB, ho', hst⟩ := send_rel R.b N hk R.st R.now h hS hMM
    subst e1 e2
    exact ⟨rfl, ⟨by rw [ho'.now]; exact R.now, ⟨Q, by rw [stSg_s]; exact S.cast ho'.tk ho'.wt⟩, hB, R.t.cast ho'.tm ho'.nx, hst⟩⟩
  · obtain ⟨c, rfl, hS, rfl, rfl, rfl⟩ := hR.k4 (.inr h)
    obtain ⟨z, co, rfl, hMM⟩ := hM.k5 h
    obtain ⟨e1, e2, hB, ho', hst⟩ := bc_rel R.b N hk R.st R.now h hS hMM
    subst e1 e2
    exact ⟨rfl, ⟨by rw [ho'.now]; exact R.now, ⟨Q, by rw [stSg_s]; exact S.cast ho'.tk ho'.wt⟩, hB, R.t.cast ho'.tm ho'.nx, hst⟩⟩
  · obtain ⟨c, tm, rfl, hA, rfl, rfl⟩ := hR.k6 h
    obtain ⟨z, co, tmm, rfl, hMM⟩ := hM.k6 h
    obtain ⟨e1, e2, e3, hT, ho', hst⟩ := arm_rel R.t hnx R.st hA hMM
    subst e1 e2 e3
    exact ⟨rfl, ⟨by rw [ho'.now]; exact R.now, ⟨Q, by rw [arm_s hA]; exact S.cast ho'.tk ho'.wt⟩, R.b.cast ho'.bx ho'.ac, hT, hst⟩⟩
  · obtain ⟨c, tm, rfl, hA, rfl, rfl⟩ := hR.k7 h
    obtain ⟨z, co, tmm, rfl, hMM⟩ := hM.k7 h
    rw [R.now, plusI_after ht hx] at hMM
    obtain ⟨e1, e2, e3, hT, ho', hst⟩ := arm_rel R.t hnx R.st hA hMM
    subst e1 e2 e3
    exact ⟨rfl, ⟨by rw [ho'.now]; exact R.now, ⟨Q, by rw [arm_s hA]; exact S.cast ho'.tk ho'.wt⟩, R.b.cast ho'.bx ho'.ac, hT, hst⟩⟩
  · obtain ⟨z, q, c, rfl, hA, rfl, rfl, rfl⟩ := hR.k8 h
    obtain ⟨zm, co, tmm, rfl, hMM⟩ := hM.k8 h
    obtain ⟨e1, e2, e3, e4, hT, ho', hst⟩ := rearm_rel R.t hA hMM
    refine ⟨by rw [e1, e2, ← e3, e4], ⟨by rw [ho'.now]; exact R.now, ⟨Q, S.cast ho'.tk ho'.wt⟩, R.b.cast ho'.bx ho'.ac, hT, by rw [hst]; exact R.st⟩⟩
  · obtain ⟨z, q, c, rfl, hA, rfl, rfl⟩ := hR.k9 h
    obtain ⟨zm, co, tmm, rfl, hMM⟩ := hM.k9 h
    obtain ⟨e1, e2, e3, e4, hT, ho', hst⟩ := cancel_rel R.t R.st hA hMM
    refine ⟨by rw [e1, e2, ← e3, e4], ⟨by rw [ho'.now]; exact R.now, ⟨Q, by rw [cancel_s hA]; exact S.cast ho'.tk ho'.wt⟩, R.b.cast ho'.bx ho'.ac, hT, hst⟩⟩
  · obtain ⟨rfl, rfl, rfl, rfl, rfl⟩ := hR.kt (by omega)
    obtain ⟨z, co, tk, rfl, hMM⟩ := hM.k10 h
    obtain ⟨e1, e2, e3, hs, ho', hst⟩ := att_rel S K.2 h hMM
    refine ⟨by rw [e1, e2, e3], ⟨by rw [ho'.now]; exact R.now, hs, R.b.cast ho'.bx ho'.ac, R.t.cast ho'.tm ho'.nx, by rw [hst]; exact R.st⟩⟩
  · obtain ⟨rfl, rfl, rfl, rfl, rfl⟩ := hR.kt (by omega)
    obtain ⟨z, co, tk, rfl, hMM⟩ := hM.k11 h
    obtain ⟨e1, e2, e3, hs, ho', hst⟩ := on_rel S h hMM
    refine ⟨by rw [e1, e2, e3], ⟨by rw [ho'.now]; exact R.now, hs, R.b.cast ho'.bx ho'.ac, R.t.cast ho'.tm ho'.nx, by rw [hst]; exact R.st⟩⟩
  · obtain ⟨rfl, rfl, rfl, rfl, rfl⟩ := hR.kt (by omega)
    obtain ⟨rfl, rfl⟩ := hM.kx h
    have e : taskF σ.s o = ⟨-1, 3, σ.s⟩ := by
      unfold taskF
      rw [if_neg (by omega), if_neg (by omega), if_neg (by omega), if_neg (by omega), if_neg (by omega), if_neg (by omega), if_neg (by omega)]
    rw [e]
    exact ⟨rfl, ⟨R.now, ⟨Q, S⟩, R.b, R.t, R.st⟩⟩
theorem len_four (bd : Nat → Nat) : ∀ l : List Nat, (∀ x ∈ l, bd x < 4) → l.length = (l.filter (fun x => decide (bd x = 0))).length + (l.filter (fun x => decide (bd x = 1))).length + (l.filter (fun x => decide (bd x = 2))).length + (l.filter (fun x => decide (bd x = 3))).length
  | [], _ => rfl
  | x :: l, h => by
    have ih := len_four bd l (fun y hy => h y (by simp [hy]))
    have hx := h x (by simp)
    have : bd x = 0 ∨ bd x = 1 ∨ bd x = 2 ∨ bd x = 3 := by omega
    rcases this with e | e | e | e <;> simp [List.filter_cons, e] <;> omega
theorem SR.wlen {s : Sched} {m : Mdl} {Q : Nat → Nat → List Nat} (R : SR s m Q) {c : Nat} (hc : c < 4) : (m.wt c).length ≤ 64 := by
  obtain ⟨bd, h1, h2⟩ := R.wr
  have := len_four bd (m.wt c) (h1 c hc)
  rw [h2 c 0 hc (by omega), h2 c 1 hc (by omega), h2 c 2 hc (by omega), h2 c 3 hc (by omega)] at this
  have := R.inv.small c 0
  have := R.inv.small c 1
  have := R.inv.small c 2
  have := R.inv.small c 3
  omega
theorem mok_of {t k : Nat} {ν : Net} {τ : TSt} {σ : Sg} {m : Mdl} (R : Rel t ν τ σ m) (N : NOk ν k) (ht : t < 18446744073709551616) : MOk m := by
  obtain ⟨Q, S⟩ := R.s
  refine ⟨fun c hc => by have := S.wlen hc; omega, fun c hc x hx => ?_, fun b hb => by have := (R.b.len N hb).2; omega, by have := R.t.len; omega, R.t.co, fun x hx h0 => ?_, by rw [R.now]; omega⟩
  · obtain ⟨b, hb, hq⟩ := S.wr.sub hc hx
    have hm := S.inv.mem c b x hq
    exact ⟨hm.2.2.1, by rw [S.tk x hm.2.2.1]; exact hm.2.2.2.2.2.1⟩
  · rw [S.tk x hx] at h0 ⊢
    rcases S.inv.dom x hx (by omega) with q | ⟨h, b, h1, h2, h3, h4⟩
    · exact absurd q h0
    · exact ⟨h, h1, h3⟩
/-- The model's state, as State gives it. -/
structure MSnap (m : Mdl) (cu : Nat → Int) (S : Snap) : Prop where
  now : S.now = m.now
  tk : ∀ x, x < 16 → S.tk x = m.tk x
  cur : ∀ c : Nat, c < 4 → S.cur c = cu c
  q : ∀ c, c < 4 → S.q c = preQ (fun b => (m.wt c).filter (fun u => decide ((m.tk u).2.2 = (b : Int)))) 4
  ld : ∀ c : Nat, c < 4 → S.ld c = ((homeN m.tk (c : Int) 16 : Nat) : Int)
  st : ∀ j, j < 28 → S.st j = m.st j
  box : ∀ b, b < 16 → S.box b = m.bx b
  acc : ∀ b, b < 16 → S.acc b = m.ac b
  tm : S.tm.Perm m.tm ∧ TmAsc S.tm
  nx : S.nx = m.nx
theorem rel_snap {t : Nat} {ν : Net} {τ : TSt} {σ : Sg} {m : Mdl} {S S' : Snap} (R : Rel t ν τ σ m) (K : LInv σ.s) (h : SnapOf t ν τ σ S) (hm : MSnap m σ.s.cur S') : SnapEq S S' := by
  obtain ⟨Q, SR1⟩ := R.s
  obtain ⟨Q2, l, I, T, rfl⟩ := h
  refine ⟨by rw [hm.now]; exact R.now.symm, fun x hx => ?_, fun c hc => (hm.cur c hc).symm, fun c hc => ?_, fun c hc => ?_, fun j hj => ?_, fun b hb => ?_, fun b hb => ?_, ?_, ?_⟩
  · rw [hm.tk x hx, SR1.tk x hx]
    show ((σ.s.tk x).st, (σ.s.tk x).home, IntKind.i64.wrap (σ.s.tk x).band) = _
    have hb := SR1.bw x hx
    rw [SR1.tk x hx] at hb
    have hb' : 0 ≤ (σ.s.tk x).band ∧ (σ.s.tk x).band < 4 := hb
    have : IntKind.i64.wrap (σ.s.tk x).band = (σ.s.tk x).band := by rw [IntKind.wrap_i64]; omega
    rw [this]; rfl
  · rw [hm.q c hc]
    show preQ (Q2 c) 4 = _
    exact preQ_four (fun b hb => by rw [SR1.bands hc hb]; exact I.unique SR1.inv hc hb)
  · rw [hm.ld c hc]
    exact (ld_rel SR1 K hc).symm
  · rw [hm.st j hj]; exact (R.st j hj).symm
  · rw [hm.box b hb]; exact (R.b.bx b hb).symm
  · rw [hm.acc b hb]; exact (R.b.ac b hb).symm
  · refine sorted_unique (R := fun e e' : TmR => e.dl < e'.dl ∨ (e.dl = e'.dl ∧ e.id < e'.id)) (fun a h => by omega) (fun a b h h' => by omega) _ _ T.1 (asc_pair hm.tm.2 ((hm.tm.1.map (·.id)).nodup_iff.2 R.t.nod)) (fun e => ?_)
    rw [hm.tm.1.mem_iff, R.t.mem e]
    exact T.2 e
  · rw [hm.nx]; exact R.t.nx.symm
end Go.Proofs.Qxb6500877aGreatDoor
