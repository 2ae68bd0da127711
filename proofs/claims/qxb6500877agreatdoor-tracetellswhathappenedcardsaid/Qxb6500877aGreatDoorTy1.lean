import Derived.Deep.CutBlock
import Derived.OwnWalk
import Derived.Maps.AppendAt
import Derived.Test.Qxb6500877aGreatDoorZh
import Derived.Test.Qxb6500877aGreatDoorEa
set_option linter.unusedVariables false
set_option linter.unusedSimpArgs false
namespace Go.Proofs.Qxb6500877aGreatDoor
open Go.RowKit

theorem DelR.det {ν ν1 ν2 : Net} {i : Nat} {m m' : MsgV} {b b' : Bool} (h : DelR ν i m b ν1) (h' : DelR ν i m' b' ν2) : m = m' ∧ b = b' ∧ ν1 = ν2 := by
  rcases h with ⟨e0, rfl, rfl, rfl⟩ | ⟨rfl, a, n, e1, _, e2, hn, _, rfl, rfl⟩
  · rcases h' with ⟨_, rfl, rfl, rfl⟩ | ⟨_, a', n', _, _, e2', hn', _⟩
    · exact ⟨rfl, rfl, rfl⟩
    · omega
  · rcases h' with ⟨e0, _⟩ | ⟨rfl, a', n', e1', _, e2', _, _, rfl, rfl⟩
    · omega
    · obtain rfl : a = a' := by omega
      obtain rfl : n = n' := by omega
      exact ⟨rfl, rfl, rfl⟩
theorem SendR.det {ν ν1 ν2 : Net} {i : Nat} {m m' : MsgV} {b b' : Bool} {x y kd now x0 x1 x2 x3 : Int} (h : SendR ν i m b ν1) (h' : SendR ν i m' b' ν2) (hm : b = true → m = ⟨x, y, kd, m.mq, now, x0, x1, x2, x3⟩) (hm' : b' = true → m' = ⟨x, y, kd, m'.mq, now, x0, x1, x2, x3⟩) : b = b' ∧ ν1 = ν2 := by
  rcases h with ⟨e0, rfl, rfl⟩ | ⟨e0, rfl, eq, a, n, e1, _, e2, _, rfl⟩
  · rcases h' with ⟨_, rfl, rfl⟩ | ⟨e0', _⟩
    · exact ⟨rfl, rfl⟩
    · exact absurd e0 e0'
  · rcases h' with ⟨e0', _⟩ | ⟨_, rfl, eq', a', n', e1', _, e2', _, rfl⟩
    · exact absurd e0' e0
    · obtain rfl : a = a' := by omega
      obtain rfl : n = n' := by omega
      have g := hm rfl
      have g' := hm' rfl
      rw [eq] at g
      rw [eq'] at g'
      rw [g, g']
      exact ⟨rfl, rfl⟩
theorem BcR.det {x : Nat} {kd now x0 x1 x2 x3 : Int} {ν : Net} : ∀ {i : Nat} {ν1 ν2 : Net}, BcR x kd now x0 x1 x2 x3 i ν ν1 → BcR x kd now x0 x1 x2 x3 i ν ν2 → ν1 = ν2
  | 0, ν1, ν2, h, h' => by rw [show ν1 = ν from h, show ν2 = ν from h']
  | i + 1, ν1, ν2, ⟨μ, h, g⟩, ⟨μ', h', g'⟩ => by
    obtain rfl := BcR.det h h'
    rcases g with ⟨e, rfl⟩ | ⟨ne, m, S, hm⟩
    · rcases g' with ⟨_, rfl⟩ | ⟨ne, _⟩
      · rfl
      · exact absurd e ne
    · rcases g' with ⟨e, _⟩ | ⟨_, m', S', hm'⟩
      · exact absurd e ne
      · exact (S.det S' (fun _ => hm) (fun _ => hm')).2
theorem BcRes.det {ν ν1 ν2 : Net} {a kd now x0 x1 x2 x3 c c' : Int} (h : BcRes ν a kd now x0 x1 x2 x3 c ν1) (h' : BcRes ν a kd now x0 x1 x2 x3 c' ν2) : c = c' ∧ ν1 = ν2 := by
  rcases h with ⟨hn, rfl, rfl⟩ | ⟨x, e, hx, h⟩
  · rcases h' with ⟨_, rfl, rfl⟩ | ⟨x, e, hx, _⟩
    · exact ⟨rfl, rfl⟩
    · exact absurd (by omega) hn
  · rcases h' with ⟨hn, _⟩ | ⟨x', e', hx', h'⟩
    · exact absurd (by omega) hn
    · obtain rfl : x = x' := by omega
      rcases h with ⟨hf, rfl, rfl⟩ | ⟨hf, rfl, h⟩
      · rcases h' with ⟨_, rfl, rfl⟩ | ⟨hf', _⟩
        · exact ⟨rfl, rfl⟩
        · exact absurd hf' hf
      · rcases h' with ⟨hf', _⟩ | ⟨_, rfl, h'⟩
        · exact absurd hf hf'
        · exact ⟨rfl, h.det h'⟩
theorem SendRes.det {ν ν1 ν2 : Net} {a b kd now x0 x1 x2 x3 c c' : Int} (h : SendRes ν a b kd now x0 x1 x2 x3 c ν1) (h' : SendRes ν a b kd now x0 x1 x2 x3 c' ν2) : c = c' ∧ ν1 = ν2 := by
  rcases h with ⟨hn, rfl, rfl⟩ | ⟨x, y, ea, hx, eb, hy, m, ok, S, h1, h2⟩
  · rcases h' with ⟨_, rfl, rfl⟩ | ⟨x, y, ea, hx, eb, hy, _⟩
    · exact ⟨rfl, rfl⟩
    · exact absurd ⟨by omega, by omega⟩ hn
  · rcases h' with ⟨hn, _⟩ | ⟨x', y', ea', _, eb', _, m', ok', S', h1', h2'⟩
    · exact absurd ⟨by omega, by omega⟩ hn
    · obtain rfl : x = x' := by omega
      obtain rfl : y = y' := by omega
      obtain ⟨rfl, rfl⟩ := S.det S' (fun q => (h1 q).1) (fun q => (h1' q).1)
      cases ok with
      | true => exact ⟨(h1 rfl).2.trans (h1' rfl).2.symm, rfl⟩
      | false => exact ⟨(h2 rfl).trans (h2' rfl).symm, rfl⟩
theorem StepSend.det {o : OpS} {t : Nat} {ν ν1 ν2 : Net} {c c' : Int} (h : StepSend o t ν c ν1) (h' : StepSend o t ν c' ν2) : c = c' ∧ ν1 = ν2 := by
  rcases h with ⟨k, rfl, rfl⟩ | ⟨k, h⟩
  · rcases h' with ⟨_, rfl, rfl⟩ | ⟨k', _⟩
    · exact ⟨rfl, rfl⟩
    · rw [k] at k'; simp at k'
  · rcases h' with ⟨k', _⟩ | ⟨_, h'⟩
    · rw [k] at k'; simp at k'
    · rcases h with ⟨q, h⟩ | ⟨q, h⟩
      · rcases h' with ⟨_, h'⟩ | ⟨q', _⟩
        · exact h.det h'
        · exact absurd q q'
      · rcases h' with ⟨q', _⟩ | ⟨_, h'⟩
        · exact absurd q' q
        · exact h.det h'
theorem full_room {τ : TSt} (h : FullT τ) (h' : RoomT τ) : False := by
  obtain ⟨l, h1, h2, h3⟩ := h
  obtain ⟨l', h1', h2'⟩ := h'
  have := nodup_sub l l' h1 (fun id hid => by obtain ⟨v, hv⟩ := h3 id hid; exact h2' id v hv)
  omega
theorem ArmR2.det {τ τ1 τ2 : TSt} {σ σ1 σ2 : Sg} {c d ck a a' z z' : Int} (h : ArmR2 τ σ c d ck a z τ1 σ1) (h' : ArmR2 τ σ c d ck a' z' τ2 σ2) : a = a' ∧ z = z' ∧ τ1 = τ2 ∧ σ1 = σ2 := by
  obtain ⟨A, q⟩ := h
  obtain ⟨A', q'⟩ := h'
  have z0 : z = 0 → (0 ≤ c ∧ c < 4) := fun e => by
    rcases A with ⟨n, _⟩ | ⟨_, r, _⟩
    · exact absurd e n
    · exact r
  have z0' : z' = 0 → (0 ≤ c ∧ c < 4) := fun e => by
    rcases A' with ⟨n, _⟩ | ⟨_, r, _⟩
    · exact absurd e n
    · exact r
  have ez : z = z' := by
    rcases q with ⟨e, n⟩ | ⟨e, n, f⟩ | ⟨e, f⟩
    · rcases q' with ⟨e', n'⟩ | ⟨e', n', f'⟩ | ⟨e', f'⟩
      · omega
      · exact absurd n' n
      · exact absurd (z0' e') n
    · rcases q' with ⟨e', n'⟩ | ⟨e', n', f'⟩ | ⟨e', f'⟩
      · exact absurd n n'
      · omega
      · exact (full_room f f').elim
    · rcases q' with ⟨e', n'⟩ | ⟨e', n', f'⟩ | ⟨e', f'⟩
      · exact absurd (z0 e) n'
      · exact (full_room f' f).elim
      · omega
  subst ez
  rcases A with ⟨n, rfl, rfl, rfl⟩ | ⟨e, _, rfl, rfl, rfl⟩
  · rcases A' with ⟨_, rfl, rfl, rfl⟩ | ⟨e, _⟩
    · exact ⟨rfl, rfl, rfl, rfl⟩
    · exact absurd e n
  · rcases A' with ⟨n, _⟩ | ⟨_, _, rfl, rfl, rfl⟩
    · exact absurd e n
    · exact ⟨rfl, rfl, rfl, rfl⟩
theorem RearmR.det {τ τ1 τ2 : TSt} {id d a a' c c' z z' : Int} (h : RearmR τ id d a c z τ1) (h' : RearmR τ id d a' c' z' τ2) : tmRS z c a = tmRS z' c' a' ∧ τ1 = τ2 := by
  rcases h with ⟨rfl, rfl, n⟩ | ⟨rfl, rfl, d0, ck, e, rfl⟩
  · rcases h' with ⟨rfl, rfl, _⟩ | ⟨_, _, d0, ck, e, _⟩
    · exact ⟨rfl, rfl⟩
    · rw [n] at e; simp at e
  · rcases h' with ⟨_, _, n⟩ | ⟨rfl, rfl, d0', ck', e', rfl⟩
    · rw [n] at e; simp at e
    · rw [e] at e'
      simp at e'
      obtain ⟨rfl, rfl, rfl⟩ := e'
      exact ⟨rfl, rfl⟩
theorem CancelR.det {τ τ1 τ2 : TSt} {σ σ1 σ2 : Sg} {id a a' c c' z z' : Int} (h : CancelR τ σ id a c z τ1 σ1) (h' : CancelR τ σ id a' c' z' τ2 σ2) : tmRS z c a = tmRS z' c' a' ∧ τ1 = τ2 ∧ σ1 = σ2 := by
  rcases h with ⟨rfl, rfl, rfl, n⟩ | ⟨rfl, rfl, ⟨d0, ck, e⟩, rfl, rfl⟩
  · rcases h' with ⟨rfl, rfl, rfl, _⟩ | ⟨_, _, ⟨d0, ck, e⟩, _⟩
    · exact ⟨rfl, rfl, rfl⟩
    · rw [n] at e; simp at e
  · rcases h' with ⟨_, _, _, n⟩ | ⟨rfl, rfl, ⟨d0', ck', e'⟩, rfl, rfl⟩
    · rw [n] at e; simp at e
    · rw [e] at e'
      simp at e'
      obtain ⟨rfl, rfl, rfl⟩ := e'
      exact ⟨rfl, rfl, rfl⟩
/-- A step's answer, and what it leaves, are told by the state and the order. -/
theorem real_det {o : OpS} {t t1 t2 : Nat} {ν ν1 ν2 : Net} {τ τ1 τ2 : TSt} {σ σ1 σ2 : Sg} {a a' : Ans} (h : RealS o t ν τ σ a t1 ν1 τ1 σ1) (h' : RealS o t ν τ σ a' t2 ν2 τ2 σ2) : a = a' ∧ t1 = t2 ∧ ν1 = ν2 ∧ τ1 = τ2 ∧ σ1 = σ2 := by
  have hkd : o.kd = 0 ∨ o.kd = 1 ∨ o.kd = 2 ∨ o.kd = 3 ∨ (o.kd = 4 ∨ o.kd = 5) ∨ o.kd = 6 ∨ o.kd = 7 ∨ o.kd = 8 ∨ o.kd = 9 ∨ 9 < o.kd := by omega
  rcases hkd with q | q | q | q | q | q | q | q | q | q
  · obtain ⟨c, _, e, rfl, rfl, rfl, rfl, rfl⟩ := h.k0 q
    obtain ⟨c', _, e', rfl, rfl, rfl, rfl, rfl⟩ := h'.k0 q
    obtain rfl : c = c' := by omega
    exact ⟨rfl, rfl, rfl, rfl, rfl⟩
  · obtain ⟨i, z, m, _, e, rfl, D, rfl, rfl, rfl⟩ := h.k1 q
    obtain ⟨i', z', m', _, e', rfl, D', rfl, rfl, rfl⟩ := h'.k1 q
    obtain rfl : i = i' := by omega
    rcases D with ⟨rfl, _, D⟩ | ⟨rfl, D⟩
    · rcases D' with ⟨rfl, _, D'⟩ | ⟨rfl, D'⟩
      · obtain ⟨rfl, _, rfl⟩ := D.det D'
        exact ⟨rfl, rfl, rfl, rfl, rfl⟩
      · have := (D.det D').2.1
        simp at this
    · rcases D' with ⟨rfl, _, D'⟩ | ⟨rfl, D'⟩
      · have := (D.det D').2.1
        simp at this
      · obtain ⟨rfl, _, rfl⟩ := D.det D'
        exact ⟨rfl, rfl, rfl, rfl, rfl⟩
  · obtain ⟨l, rfl, A, rfl, rfl, rfl⟩ := h.k2 q
    obtain ⟨l', rfl, A', rfl, rfl, rfl⟩ := h'.k2 q
    obtain ⟨rfl, rfl⟩ := A.unique A'
    exact ⟨rfl, rfl, rfl, rfl, rfl⟩
  · obtain ⟨l, rfl, A, rfl, rfl, rfl⟩ := h.k3 q
    obtain ⟨l', rfl, A', rfl, rfl, rfl⟩ := h'.k3 q
    obtain ⟨rfl, rfl⟩ := A.unique A'
    exact ⟨rfl, rfl, rfl, rfl, rfl⟩
  · obtain ⟨c, rfl, S, rfl, rfl, rfl⟩ := h.k4 q
    obtain ⟨c', rfl, S', rfl, rfl, rfl⟩ := h'.k4 q
    obtain ⟨rfl, rfl⟩ := S.det S'
    exact ⟨rfl, rfl, rfl, rfl, rfl⟩
  · obtain ⟨c, tm, rfl, A, rfl, rfl⟩ := h.k6 q
    obtain ⟨c', tm', rfl, A', rfl, rfl⟩ := h'.k6 q
    obtain ⟨rfl, rfl, rfl, rfl⟩ := A.det A'
    exact ⟨rfl, rfl, rfl, rfl, rfl⟩
  · obtain ⟨c, tm, rfl, A, rfl, rfl⟩ := h.k7 q
    obtain ⟨c', tm', rfl, A', rfl, rfl⟩ := h'.k7 q
    obtain ⟨rfl, rfl, rfl, rfl⟩ := A.det A'
    exact ⟨rfl, rfl, rfl, rfl, rfl⟩
  · obtain ⟨z, p, c, rfl, A, rfl, rfl, rfl⟩ := h.k8 q
    obtain ⟨z', p', c', rfl, A', rfl, rfl, rfl⟩ := h'.k8 q
    obtain ⟨e, rfl⟩ := A.det A'
    rw [e]
    exact ⟨rfl, rfl, rfl, rfl, rfl⟩
  · obtain ⟨z, p, c, rfl, A, rfl, rfl⟩ := h.k9 q
    obtain ⟨z', p', c', rfl, A', rfl, rfl⟩ := h'.k9 q
    obtain ⟨e, rfl, rfl⟩ := A.det A'
    rw [e]
    exact ⟨rfl, rfl, rfl, rfl, rfl⟩
  · obtain ⟨rfl, rfl, rfl, rfl, rfl⟩ := h.kt q
    obtain ⟨rfl, rfl, rfl, rfl, rfl⟩ := h'.kt q
    exact ⟨rfl, rfl, rfl, rfl, rfl⟩
end Go.Proofs.Qxb6500877aGreatDoor
