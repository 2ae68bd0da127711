import Derived.Test.Qxb6500877aGreatDoorOb
import Derived.Test.Qxb6500877aGreatDoorQm
set_option linter.unusedVariables false
set_option linter.unusedSimpArgs false
namespace Go.Proofs.Qxb6500877aGreatDoor
open Go.RowKit

/-- What a step does to the scheduler. -/
def SchE (o : OpS) (σ : Sg) (c co tk : Int) (σ' : Sg) : Prop :=
  (o.kd = 0 ∧ c = 0 ∧ ∃ x : Nat, x < 4 ∧ co = x ∧ (σ.s.cur x ≠ -1 ∨ 0 < σ.s.qn x) ∧ tk = (pickX σ.s x : Nat) ∧ σ'.s = pickS σ.s x) ∨ ((o.kd ≠ 0 ∨ c ≠ 0) ∧ (σ'.s = σ.s ∨ σ'.s = (taskF σ.s o).s))
def StepS (o : OpS) (w w' : World) (B mb t k : Nat) (ν : Net) (τ : TSt) (σ : Sg) (e : Ending) : Prop :=
  ∃ (c co tk tm : Int) (hm : Bool) (m : MsgV) (p : Option Addr) (n : Nat) (l : List FiredS) (t' : Nat) (ν' : Net) (τ' : TSt) (σ' : Sg), e = .returned (resV c co tk tm hm m p l.length n) ∧ Done w w' B mb t' (k + 4) ν' τ' σ' ∧ SchE o σ c co tk σ'
theorem stepS_plain {o : OpS} {w w' : World} {B mb t t' k : Nat} {ν ν' : Net} {τ τ' : TSt} {σ σ' : Sg} {r : RS} {e : Ending} (hR : ResE r e) (D : Done w w' B mb t' (k + 4) ν' τ' σ') (hN : SchE o σ r.c r.co r.tk σ') : StepS o w w' B mb t k ν τ σ e :=
  ⟨r.c, r.co, r.tk, r.tm, false, msg0, none, 0, [], t', ν', τ', σ', hR, D, hN⟩
theorem inc_s (σ : Sg) (j : Nat) : (σ.inc j).s = σ.s := rfl
theorem incN_s (σ : Sg) (j : Nat) : ∀ n, (σ.incN j n).s = σ.s
  | 0 => rfl
  | n + 1 => incN_s σ j n
theorem firedSg_s : ∀ (l : List FiredS) (σ : Sg), (firedSg σ l).s = σ.s
  | [], σ => rfl
  | e :: l, σ => by
    show (firedSg (σ.inc (e.core.toNat * 7 + 6)) l).s = σ.s
    rw [firedSg_s l]
    rfl
theorem stSg_s (σ : Sg) (o : OpS) (c : Int) : (stSg σ o c).s = σ.s := by
  unfold stSg bcSg sendSg
  split
  · split
    · first | exact incN_s _ _ _ | rfl
    · rfl
  · split <;> rfl
theorem step_s {w : World} {B mb t k : Nat} {ν : Net} {τ : TSt} {σ : Sg} (M : Mach w B mb t k ν τ σ) (hk : k < 800000) (o : OpS) (ho : o.ok) :
    Calls Tryz.prog 19 #[.pointer (some ⟨B, 0, none⟩), opV o] w fun e w' => StepS o w w' B mb t k ν τ σ e := by
  by_cases k0 : o.kd = 0
  · refine (step_0 M hk o ho k0).mono fun e w' h => ?_
    obtain ⟨c, hc4, _, hR, D⟩ := h
    refine stepS_plain hR D ?_
    unfold pickRes
    split
    · rename_i q
      refine .inl ⟨k0, rfl, c, hc4, rfl, q, rfl, ?_⟩
      split <;> rfl
    · exact .inr ⟨.inr (by show (1 : Int) ≠ 0; omega), .inl rfl⟩
  by_cases k1 : o.kd = 1
  · refine (step_1 M hk o ho k1).mono fun e w' h => ?_
    obtain ⟨i, ν', z, m, hi16, hi, hR, hd, D⟩ := h
    exact ⟨z, _, -1, 0, _, m, none, 0, [], t, ν', τ, _, hR, D, .inr ⟨.inl k0, .inl (by unfold delSg; split <;> rfl)⟩⟩
  by_cases k2 : o.kd = 2
  · refine (step_2 M hk o ho k2).mono fun e w' h => ?_
    obtain ⟨v, l, τ', ⟨p, a, n, rfl, hR⟩, hF, D, _⟩ := h
    obtain ⟨p', c', e'⟩ := fired_shape hF
    simp only [Value.slice.injEq] at e'
    obtain ⟨_, rfl, _⟩ := e'
    exact ⟨0, -1, -1, 0, false, msg0, p, n, l, _, ν, τ', _, hR, D, .inr ⟨.inl k0, .inl (firedSg_s l σ)⟩⟩
  by_cases k3 : o.kd = 3
  · refine (step_3 M hk o ho k3).mono fun e w' h => ?_
    obtain ⟨v, l, τ', ⟨p, a, n, rfl, hR⟩, hF, D, _⟩ := h
    obtain ⟨p', c', e'⟩ := fired_shape hF
    simp only [Value.slice.injEq] at e'
    obtain ⟨_, rfl, _⟩ := e'
    exact ⟨0, -1, -1, 0, false, msg0, p, n, l, _, ν, τ', _, hR, D, .inr ⟨.inl k0, .inl (firedSg_s l σ)⟩⟩
  by_cases k4 : o.kd = 4
  · refine (step_4 M hk o ho k4).mono fun e w' h => ?_
    obtain ⟨c, ν', hR, hS, D⟩ := h
    exact stepS_plain hR D (.inr ⟨.inl k0, .inl (stSg_s σ o c)⟩)
  by_cases k5 : o.kd = 5
  · refine (step_5 M hk o ho k5).mono fun e w' h => ?_
    obtain ⟨c, ν', hR, hS, D⟩ := h
    exact stepS_plain hR D (.inr ⟨.inl k0, .inl (stSg_s σ o c)⟩)
  by_cases k6 : o.kd = 6
  · refine (step_6 M hk o ho k6).mono fun e w' h => ?_
    obtain ⟨c, tm, τ', σ', hR, D, hA⟩ := h
    refine stepS_plain hR D (.inr ⟨.inl k0, .inl ?_⟩)
    rcases hA with ⟨_, h1, h2, h3⟩ | ⟨h1, _, _, _, h3⟩ <;> rw [h3] <;> rfl
  by_cases k7 : o.kd = 7
  · refine (step_7 M hk o ho k7).mono fun e w' h => ?_
    obtain ⟨c, tm, τ', σ', hR, D, hA⟩ := h
    refine stepS_plain hR D (.inr ⟨.inl k0, .inl ?_⟩)
    rcases hA with ⟨_, h1, h2, h3⟩ | ⟨h1, _, _, _, h3⟩ <;> rw [h3] <;> rfl
  by_cases k8 : o.kd = 8
  · refine (step_8 M hk o ho k8).mono fun e w' h => ?_
    obtain ⟨z, a, c, τ', hR, D, hA⟩ := h
    exact stepS_plain hR D (.inr ⟨.inl k0, .inl rfl⟩)
  by_cases k9 : o.kd = 9
  · refine (step_9 M hk o ho k9).mono fun e w' h => ?_
    obtain ⟨z, a, c, τ', σ', hR, D, hA⟩ := h
    refine stepS_plain hR D (.inr ⟨.inl k0, .inl ?_⟩)
    rcases hA with ⟨h1, h2, h3, _⟩ | ⟨h1, _, _, _, h3⟩ <;> rw [h3] <;> rfl
  · refine (step_x M hk o ho (by omega)).mono fun e w' h => ?_
    obtain ⟨hR, D⟩ := h
    exact stepS_plain hR D (.inr ⟨.inl k0, .inr rfl⟩)
end Go.Proofs.Qxb6500877aGreatDoor
