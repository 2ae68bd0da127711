import Derived.Test.Qxb6500877aGreatDoorYa
import Derived.Test.Qxb6500877aGreatDoorUSta
import Derived.Test.Qxb6500877aGreatDoorUStb
import Derived.Test.Qxb6500877aGreatDoorUStc
import Derived.Test.Qxb6500877aGreatDoorUStd
import Derived.Test.Qxb6500877aGreatDoorUSte
import Derived.Test.Qxb6500877aGreatDoorUStf
import Derived.Test.Qxb6500877aGreatDoorUStg
import Derived.Test.Qxb6500877aGreatDoorUSth
import Derived.Test.Qxb6500877aGreatDoorUSti
import Derived.Test.Qxb6500877aGreatDoorUMl
set_option linter.unusedVariables false
set_option linter.unusedSimpArgs false
namespace Go.Proofs.Qxb6500877aGreatDoor
open Go.RowKit

theorem resF_G {c : Int} {e : Ending} (h : ResF c e) : ∃ tm, ResG c tm (.slice none 0 0) e := by
  obtain ⟨co, tk, tm, m, rfl⟩ := h
  exact ⟨tm, co, tk, false, m, none, 0, 0, rfl, rfl⟩
theorem resT_G {c tm : Int} {v : Value} {e : Ending} (h : ResT c tm v e) : ResG c tm v e := by
  obtain ⟨co, tk, m, p, a, n, h1, h2⟩ := h
  exact ⟨co, tk, false, m, p, a, n, h1, h2⟩
theorem step_u {w : World} {B mb t k : Nat} {ν : Net} {τ : TSt} (M : Mach w B mb t k ν τ) (hk : k < 800000) (o : OpS) (ho : o.ok) :
    Calls Tryz.prog 19 #[.pointer (some ⟨B, 0, none⟩), opV o] w fun e w' => ∃ (c tm : Int) (v : Value) (l : List FiredS) (ν' : Net) (τ' : TSt), ResG c tm v e ∧ FiredAt w' w.heap.size v l ∧ Done w w' B mb (afterF t (tickOf o)) (k + 4) ν' τ' ∧ TimX o t τ c tm l τ' := by
  have e0 : (o.kd ≠ 2 ∧ o.kd ≠ 3) → afterF t (tickOf o) = t := fun h => by
    rw [tickOf, if_neg h.1, if_neg h.2, afterF]
    have := M.tlt
    split <;> omega
  have plain : ∀ {e : Ending} {w' : World} {ν' : Net} {c : Int}, (o.kd ≠ 2 ∧ o.kd ≠ 3 ∧ o.kd ≠ 6 ∧ o.kd ≠ 7 ∧ o.kd ≠ 8 ∧ o.kd ≠ 9) → ResF c e → Done w w' B mb t (k + 4) ν' τ → ∃ (c tm : Int) (v : Value) (l : List FiredS) (ν' : Net) (τ' : TSt), ResG c tm v e ∧ FiredAt w' w.heap.size v l ∧ Done w w' B mb (afterF t (tickOf o)) (k + 4) ν' τ' ∧ TimX o t τ c tm l τ' := by
    intro e w' ν' c hk hR D
    obtain ⟨tm, hG⟩ := resF_G hR
    refine ⟨c, tm, _, [], ν', τ, hG, FiredAt.nil _ _, by rw [e0 (by omega)]; exact D, ⟨.inr ⟨by omega, rfl, by rw [noteT_else (by omega)], fun q => by omega, fun q => by omega⟩, Int.le_refl _, fun q => by omega⟩⟩
  by_cases k0 : o.kd = 0
  · exact (step_0 M hk o ho k0).mono fun e w' h => by
      obtain ⟨⟨c, hc⟩, D⟩ := h
      exact plain (by omega) hc D
  by_cases k1 : o.kd = 1
  · refine (step_1 M hk o ho k1).mono fun e w' h => ?_
    obtain ⟨i, ν', _, _, ⟨z, tk, tm, m, rfl, _⟩, D⟩ := h
    refine ⟨z, tm, _, [], ν', τ, ⟨_, tk, _, m, none, 0, 0, rfl, rfl⟩, FiredAt.nil _ _, by rw [e0 (by omega)]; exact D, ⟨.inr ⟨by omega, rfl, by rw [noteT_else (by omega)], fun q => by omega, fun q => by omega⟩, Int.le_refl _, fun q => by omega⟩⟩
  by_cases k2 : o.kd = 2
  · refine (step_2 M hk o ho k2).mono fun e w' h => ?_
    obtain ⟨v, l, τ', c, tm, hR, hF, D, hA⟩ := h
    have et : tickOf o = 1 := by rw [tickOf, if_pos k2]
    exact ⟨c, tm, v, l, ν, τ', resT_G hR, hF, by rw [et]; exact D, ⟨.inl ⟨.inl k2, by rw [et]; exact hA⟩, by rw [hA.1]; exact Int.le_refl _, fun q => by omega⟩⟩
  by_cases k3 : o.kd = 3
  · refine (step_3 M hk o ho k3).mono fun e w' h => ?_
    obtain ⟨v, l, τ', c, tm, hR, hF, D, hA⟩ := h
    have et : tickOf o = o.x := by rw [tickOf, if_neg (by omega), if_pos k3]
    exact ⟨c, tm, v, l, ν, τ', resT_G hR, hF, by rw [et]; exact D, ⟨.inl ⟨.inr k3, by rw [et]; exact hA⟩, by rw [hA.1]; exact Int.le_refl _, fun q => by omega⟩⟩
  by_cases k4 : o.kd = 4
  · refine (step_4 M hk o ho k4).mono fun e w' h => ?_
    obtain ⟨c, ν', hc, _, D⟩ := h
    exact plain (by omega) hc D
  by_cases k5 : o.kd = 5
  · refine (step_5 M hk o ho k5).mono fun e w' h => ?_
    obtain ⟨c, ν', hc, _, D⟩ := h
    exact plain (by omega) hc D
  have arm : ∀ {d tm c : Int} {τ' : TSt}, ArmR τ (argF 4 o.a) d o.y tm c τ' → τ'.tm = (if c ≠ 0 then τ.tm else updT τ.tm tm (some ⟨o.a, d, o.y⟩)) ∧ (c = 0 → tm = τ.nx) ∧ τ.nx ≤ τ'.nx := by
    intro d tm c τ' h
    rcases h with ⟨h1, rfl⟩ | ⟨h1, h2, h3, rfl⟩
    · exact ⟨by rw [if_pos h1], fun q => absurd q h1, Int.le_refl _⟩
    · have ea : argF 4 o.a = o.a := by
        unfold argF at h2 ⊢
        split at h2
        · rename_i q; rw [if_pos q]
        · omega
      refine ⟨?_, fun _ => h3, by show τ.nx ≤ τ.nx + 1; omega⟩
      rw [if_neg (by simp [h1]), h3, ea]
  by_cases k6 : o.kd = 6
  · refine (step_6 M hk o ho k6).mono fun e w' h => ?_
    obtain ⟨c, tm, τ', hR, D, hA⟩ := h
    obtain ⟨h1, h2, h3⟩ := arm hA
    refine ⟨c, tm, _, [], ν, τ', resT_G hR, FiredAt.nil _ _, by rw [e0 (by omega)]; exact D, ⟨.inr ⟨by omega, rfl, ?_, fun _ q => h2 q, fun q => by omega⟩, h3, fun q => by omega⟩⟩
    rw [h1, noteT]
    simp [k6]
  by_cases k7 : o.kd = 7
  · refine (step_7 M hk o ho k7).mono fun e w' h => ?_
    obtain ⟨c, tm, τ', hR, D, hA⟩ := h
    obtain ⟨h1, h2, h3⟩ := arm hA
    refine ⟨c, tm, _, [], ν, τ', resT_G hR, FiredAt.nil _ _, by rw [e0 (by omega)]; exact D, ⟨.inr ⟨by omega, rfl, ?_, fun _ q => h2 q, fun q => by omega⟩, h3, fun q => by omega⟩⟩
    rw [h1, noteT]
    simp [k7]
  by_cases k8 : o.kd = 8
  · refine (step_8 M hk o ho k8).mono fun e w' h => ?_
    obtain ⟨c, tm, τ', hR, D, hA⟩ := h
    refine ⟨c, tm, _, [], ν, τ', resT_G hR, FiredAt.nil _ _, by rw [e0 (by omega)]; exact D, ⟨.inr ⟨by omega, rfl, ?_, fun q => by omega, fun _ q => ?_⟩, ?_, fun q => by omega⟩⟩
    · rcases hA with ⟨h1, rfl, _⟩ | ⟨h1, c', d0, ck, h2, rfl⟩
      · simp [noteT, h1]
      · simp [noteT, h1, k8, h2]
    · rcases hA with ⟨h1, _⟩ | ⟨_, c', d0, ck, h2, _⟩
      · exact absurd q h1
      · exact ⟨_, h2⟩
    · rcases hA with ⟨_, rfl, _⟩ | ⟨_, c', d0, ck, h2, rfl⟩
      · exact Int.le_refl _
      · exact Int.le_refl _
  by_cases k9 : o.kd = 9
  · refine (step_9 M hk o ho k9).mono fun e w' h => ?_
    obtain ⟨c, tm, τ', hR, D, hA⟩ := h
    refine ⟨c, tm, _, [], ν, τ', resT_G hR, FiredAt.nil _ _, by rw [e0 (by omega)]; exact D, ⟨.inr ⟨by omega, rfl, ?_, fun q => by omega, fun q => by omega⟩, ?_, fun _ q => ?_⟩⟩
    · rcases hA with ⟨h1, rfl, _⟩ | ⟨h1, _, rfl⟩
      · simp [noteT, h1]
      · simp [noteT, h1, k9]
    · rcases hA with ⟨h1, rfl, _⟩ | ⟨h1, _, rfl⟩
      · exact Int.le_refl _
      · exact Int.le_refl _
    · rcases hA with ⟨h1, _⟩ | ⟨_, hv, _⟩
      · exact absurd q h1
      · exact hv
  · exact (step_x M hk o ho (by omega)).mono fun e w' h => by
      obtain ⟨⟨c, hc⟩, D⟩ := h
      exact plain (by omega) hc D
end Go.Proofs.Qxb6500877aGreatDoor
