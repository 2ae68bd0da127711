import Derived.Test.Qxb6500877aGreatDoorIa
import Derived.Test.Qxb6500877aGreatDoorQm
set_option linter.unusedVariables false
set_option linter.unusedSimpArgs false
namespace Go.Proofs.Qxb6500877aGreatDoor
open Go.RowKit

/-- A machine's state. -/
structure MS where
  t : Nat
  ν : Net
  τ : TSt
  σ : Sg
/-- What a step of a fair round does. -/
structure StF (o : OpS) (a b : MS) : Prop where
  ok : SOk a.σ.s
  k0 : o.kd = 0 → ∃ c : Nat, c < 4 ∧ o.a % 4 = c ∧ b.t = a.t ∧ b.ν = a.ν ∧ b.σ = (pickRes a.σ c).σ
  k1 : o.kd = 1 → ∃ i : Nat, i < 16 ∧ o.a % 16 = i ∧ b.t = a.t ∧ (∃ m z, b.σ = delSg a.σ m z) ∧ ((cntN a.ν i = 0 ∧ b.ν = a.ν) ∨ ∃ m, DelR a.ν i m true b.ν)
  k2 : o.kd = 2 → b.t = afterF a.t 1 ∧ b.ν = a.ν ∧ ∃ l, b.σ = firedSg a.σ l
def RunR : List OpS → MS → MS → Prop
  | [], a, b => b = a
  | o :: L, a, b => ∃ m, StF o a m ∧ RunR L m b
theorem RunR.snoc : ∀ {L : List OpS} {o : OpS} {a m b : MS}, RunR L a m → StF o m b → RunR (L ++ [o]) a b
  | [], o, a, m, b, h, h2 => by
    have e : m = a := h
    subst e
    exact ⟨b, h2, rfl⟩
  | q :: L, o, a, m, b, ⟨m1, h1, h2⟩, h3 => ⟨m1, h1, RunR.snoc h2 h3⟩
theorem RunR.app : ∀ {L L' : List OpS} {a b : MS}, RunR (L ++ L') a b → ∃ m, RunR L a m ∧ RunR L' m b
  | [], L', a, b, h => ⟨a, rfl, h⟩
  | q :: L, L', a, b, ⟨m1, h1, h2⟩ => by
    obtain ⟨m, h3, h4⟩ := RunR.app h2
    exact ⟨m, ⟨m1, h1, h3⟩, h4⟩
def StepF (o : OpS) (w w' : World) (B mb t k : Nat) (ν : Net) (τ : TSt) (σ : Sg) (e : Ending) : Prop :=
  ∃ (c co tk tm : Int) (hm : Bool) (m : MsgV) (p : Option Addr) (n : Nat) (l : List FiredS) (t' : Nat) (ν' : Net) (τ' : TSt) (σ' : Sg), e = .returned (resV c co tk tm hm m p l.length n) ∧ Done w w' B mb t' (k + 4) ν' τ' σ' ∧ StF o ⟨t, ν, τ, σ⟩ ⟨t', ν', τ', σ'⟩ ∧ (Bsy ν → Bsy ν')
theorem stepF_plain {o : OpS} {w w' : World} {B mb t t' k : Nat} {ν ν' : Net} {τ τ' : TSt} {σ σ' : Sg} {r : RS} {e : Ending} (hR : ResE r e) (D : Done w w' B mb t' (k + 4) ν' τ' σ') (hN : StF o ⟨t, ν, τ, σ⟩ ⟨t', ν', τ', σ'⟩) (hb : Bsy ν → Bsy ν') : StepF o w w' B mb t k ν τ σ e :=
  ⟨r.c, r.co, r.tk, r.tm, false, msg0, none, 0, [], t', ν', τ', σ', hR, D, hN, hb⟩
theorem stF_oth {o : OpS} {a b : MS} (ok : SOk a.σ.s) (h : 2 < o.kd) : StF o a b := ⟨ok, fun h' => by omega, fun h' => by omega, fun h' => by omega⟩
theorem bsy_step {o : OpS} {t : Nat} {ν ν' : Net} {c : Int} (h : StepSend o t ν c ν') : Bsy ν → Bsy ν' := fun hb => by
  rcases h with ⟨_, _, e⟩ | ⟨_, ⟨_, h⟩ | ⟨_, h⟩⟩
  · rw [e]; exact hb
  · rcases h with ⟨_, _, e⟩ | ⟨x, _, hx, ⟨_, _, e⟩ | ⟨_, _, h⟩⟩
    · rw [e]; exact hb
    · rw [e]; exact hb
    · exact bsy_bc hx (Nat.le_refl _) h hb
  · rcases h with ⟨_, _, e⟩ | ⟨x, y, _, hx, _, hy, m, ok, h, _⟩
    · rw [e]; exact hb
    · cases ok with
      | true => exact bsy_send hb (by omega) h
      | false =>
        rcases h with ⟨_, _, e⟩ | ⟨_, h2, _⟩
        · rw [e]; exact hb
        · simp at h2
theorem step_f {w : World} {B mb t k : Nat} {ν : Net} {τ : TSt} {σ : Sg} (M : Mach w B mb t k ν τ σ) (hk : k < 800000) (o : OpS) (ho : o.ok) :
    Calls Tryz.prog 19 #[.pointer (some ⟨B, 0, none⟩), opV o] w fun e w' => StepF o w w' B mb t k ν τ σ e := by
  have ok := M.sch.2
  by_cases k0 : o.kd = 0
  · refine (step_0 M hk o ho k0).mono fun e w' h => ?_
    obtain ⟨c, hc4, hca, hR, D⟩ := h
    exact stepF_plain hR D ⟨ok, fun _ => ⟨c, hc4, hca, rfl, rfl, rfl⟩, fun h' => by omega, fun h' => by omega⟩ id
  by_cases k1 : o.kd = 1
  · refine (step_1 M hk o ho k1).mono fun e w' h => ?_
    obtain ⟨i, ν', z, m, hi16, hi, hR, hd, D⟩ := h
    refine ⟨z, _, -1, 0, _, m, none, 0, [], t, ν', τ, _, hR, D, ⟨ok, fun h' => by omega, fun _ => ⟨i, hi16, hi, rfl, ⟨m, z, rfl⟩, ?_⟩, fun h' => by omega⟩, fun hb => ?_⟩
    · rcases hd with ⟨_, _, hd⟩ | ⟨_, hd⟩
      · exact .inr ⟨m, hd⟩
      · rcases hd with ⟨h1, _, h, _⟩ | ⟨h, _⟩
        · exact .inl ⟨h1, h⟩
        · simp at h
    · rcases hd with ⟨_, _, hd⟩ | ⟨_, hd⟩
      · exact bsy_del hb hi16 hd
      · rcases hd with ⟨h1, _, h, _⟩ | ⟨h, _⟩
        · rw [h]; exact hb
        · simp at h
  by_cases k2 : o.kd = 2
  · refine (step_2 M hk o ho k2).mono fun e w' h => ?_
    obtain ⟨v, l, τ', ⟨p, a, n, rfl, hR⟩, hF, D, _⟩ := h
    obtain ⟨p', c', e'⟩ := fired_shape hF
    simp only [Value.slice.injEq] at e'
    obtain ⟨_, rfl, _⟩ := e'
    exact ⟨0, -1, -1, 0, false, msg0, p, n, l, _, ν, τ', _, hR, D, ⟨ok, fun h' => by omega, fun h' => by omega, fun _ => ⟨rfl, rfl, l, rfl⟩⟩, id⟩
  by_cases k3 : o.kd = 3
  · refine (step_3 M hk o ho k3).mono fun e w' h => ?_
    obtain ⟨v, l, τ', ⟨p, a, n, rfl, hR⟩, hF, D, _⟩ := h
    obtain ⟨p', c', e'⟩ := fired_shape hF
    simp only [Value.slice.injEq] at e'
    obtain ⟨_, rfl, _⟩ := e'
    exact ⟨0, -1, -1, 0, false, msg0, p, n, l, _, ν, τ', _, hR, D, stF_oth ok (by omega), id⟩
  by_cases k4 : o.kd = 4
  · refine (step_4 M hk o ho k4).mono fun e w' h => ?_
    obtain ⟨c, ν', hR, hS, D⟩ := h
    exact stepF_plain hR D (stF_oth ok (by omega)) (bsy_step hS)
  by_cases k5 : o.kd = 5
  · refine (step_5 M hk o ho k5).mono fun e w' h => ?_
    obtain ⟨c, ν', hR, hS, D⟩ := h
    exact stepF_plain hR D (stF_oth ok (by omega)) (bsy_step hS)
  by_cases k6 : o.kd = 6
  · refine (step_6 M hk o ho k6).mono fun e w' h => ?_
    obtain ⟨c, tm, τ', σ', hR, D, hA⟩ := h
    exact stepF_plain hR D (stF_oth ok (by omega)) id
  by_cases k7 : o.kd = 7
  · refine (step_7 M hk o ho k7).mono fun e w' h => ?_
    obtain ⟨c, tm, τ', σ', hR, D, hA⟩ := h
    exact stepF_plain hR D (stF_oth ok (by omega)) id
  by_cases k8 : o.kd = 8
  · refine (step_8 M hk o ho k8).mono fun e w' h => ?_
    obtain ⟨z, a, c, τ', hR, D, hA⟩ := h
    exact stepF_plain hR D (stF_oth ok (by omega)) id
  by_cases k9 : o.kd = 9
  · refine (step_9 M hk o ho k9).mono fun e w' h => ?_
    obtain ⟨z, a, c, τ', σ', hR, D, hA⟩ := h
    exact stepF_plain hR D (stF_oth ok (by omega)) id
  · refine (step_x M hk o ho (by omega)).mono fun e w' h => ?_
    obtain ⟨hR, D⟩ := h
    exact stepF_plain hR D (stF_oth ok (by omega)) id
end Go.Proofs.Qxb6500877aGreatDoor
