import Derived.Test.Qxb6500877aGreatDoorPSta
import Derived.Test.Qxb6500877aGreatDoorPStb
import Derived.Test.Qxb6500877aGreatDoorPStc
import Derived.Test.Qxb6500877aGreatDoorPStd
import Derived.Test.Qxb6500877aGreatDoorPSte
import Derived.Test.Qxb6500877aGreatDoorPStf
import Derived.Test.Qxb6500877aGreatDoorPStg
import Derived.Test.Qxb6500877aGreatDoorPSth
import Derived.Test.Qxb6500877aGreatDoorPSti
set_option linter.unusedVariables false
set_option linter.unusedSimpArgs false
namespace Go.Proofs.Qxb6500877aGreatDoor
open Go.RowKit

theorem presF_ref {s : Sched} {u : Int} {K : Nat → TRes} (hK : ∀ x, (K x).c ≠ 0 → (K x).s = s) : (presF s u K).c ≠ 0 → (presF s u K).s = s := by
  unfold presF
  split
  · split
    · intro _; rfl
    · exact hK _
  · intro _; rfl
theorem attNew_ref {s : Sched} {u : Int} {K : Nat → TRes} (hK : ∀ x, (K x).c ≠ 0 → (K x).s = s) : (attNew s u K).c ≠ 0 → (attNew s u K).s = s := by
  unfold attNew
  split
  · split
    · exact hK _
    · intro _; rfl
  · intro _; rfl
theorem attK_ref {s : Sched} {x g : Nat} {b : Int} : (attK s x g b).c ≠ 0 → (attK s x g b).s = s := by
  unfold attK
  split
  · intro h; exact absurd rfl h
  · intro _; rfl
theorem taskF_ref {s : Sched} {o : OpS} : (taskF s o).c ≠ 0 → (taskF s o).s = s := by
  unfold taskF
  split
  · split
    · exact attNew_ref (fun x => attK_ref)
    · refine attNew_ref (fun x => ?_)
      split
      · exact attK_ref
      · intro _; rfl
  split
  · exact presF_ref (fun x h => absurd rfl h)
  split
  · refine presF_ref (fun x => ?_)
    split
    · intro h; exact absurd rfl h
    · intro _; rfl
  split
  · refine presF_ref (fun x => ?_)
    split
    · intro _; rfl
    · intro h; exact absurd rfl h
  split
  · refine presF_ref (fun x => ?_)
    split
    · intro h; exact absurd rfl h
    · intro _; rfl
  split
  · refine presF_ref (fun x => ?_)
    split
    · split
      · intro _; rfl
      · intro h; exact absurd rfl h
    · intro _; rfl
  split
  · refine presF_ref (fun x => ?_)
    split
    · split
      · intro _; rfl
      · intro h; exact absurd rfl h
    · intro _; rfl
  · intro _; rfl
theorem StepSend.refused {o : OpS} {t : Nat} {ν ν' : Net} {c : Int} (h : StepSend o t ν c ν') (hc : c ≠ 0) : ν' = ν := by
  rcases h with ⟨_, _, h⟩ | ⟨_, ⟨_, h⟩ | ⟨_, h⟩⟩
  · exact h
  · exact h.refused hc
  · exact h.refused hc
/-- What a step leaves, and answers, where it is refused. -/
def StepZ (w w' : World) (B mb t k : Nat) (ν : Net) (τ : TSt) (σ : Sg) (e : Ending) : Prop :=
  ∃ (c co tk tm : Int) (hm : Bool) (m : MsgV) (p : Option Addr) (n : Nat) (l : List FiredS) (t' : Nat) (ν' : Net) (τ' : TSt) (σ' : Sg), e = .returned (resV c co tk tm hm m p l.length n) ∧ FiredAt w' w.heap.size (.slice p l.length n) l ∧ Done w w' B mb t' (k + 4) ν' τ' σ' ∧ (c ≠ 0 → t' = t ∧ ν' = ν ∧ τ' = τ ∧ σ' = σ ∧ tk = -1 ∧ tm = 0 ∧ hm = false ∧ l = [])
theorem stepZ_plain {w w' : World} {B mb t t' k : Nat} {ν ν' : Net} {τ τ' : TSt} {σ σ' : Sg} {r : RS} {e : Ending} (hR : ResE r e) (D : Done w w' B mb t' (k + 4) ν' τ' σ') (h : r.c ≠ 0 → t' = t ∧ ν' = ν ∧ τ' = τ ∧ σ' = σ ∧ r.tk = -1 ∧ r.tm = 0) : StepZ w w' B mb t k ν τ σ e :=
  ⟨r.c, r.co, r.tk, r.tm, false, msg0, none, 0, [], t', ν', τ', σ', hR, FiredAt.nil _ _, D, fun hc => by
    obtain ⟨h1, h2, h3, h4, h5, h6⟩ := h hc
    exact ⟨h1, h2, h3, h4, h5, h6, rfl, rfl⟩⟩
theorem step_z {w : World} {B mb t k : Nat} {ν : Net} {τ : TSt} {σ : Sg} (M : Mach w B mb t k ν τ σ) (hk : k < 800000) (o : OpS) (ho : o.ok) :
    Calls Tryz.prog 19 #[.pointer (some ⟨B, 0, none⟩), opV o] w fun e w' => StepZ w w' B mb t k ν τ σ e := by
  by_cases k0 : o.kd = 0
  · refine (step_0 M hk o ho k0).mono fun e w' h => ?_
    obtain ⟨c, _, _, hR, D⟩ := h
    refine stepZ_plain hR D (fun hc => ?_)
    unfold pickRes at hc ⊢
    split at hc
    · exact absurd rfl hc
    · rename_i q
      rw [if_neg q]
      exact ⟨rfl, rfl, rfl, rfl, rfl, rfl⟩
  by_cases k1 : o.kd = 1
  · refine (step_1 M hk o ho k1).mono fun e w' h => ?_
    obtain ⟨i, ν', z, m, _, _, hR, hd, D⟩ := h
    refine ⟨z, _, -1, 0, _, m, none, 0, [], t, ν', τ, _, hR, FiredAt.nil _ _, D, fun hz => ?_⟩
    rcases hd with ⟨h0, _⟩ | ⟨h2, hd⟩
    · exact absurd h0 hz
    · rcases hd with ⟨_, _, h, _⟩ | ⟨h, _⟩
      · exact ⟨rfl, h, rfl, by rw [delSg, if_neg hz], rfl, rfl, decide_eq_false hz, rfl⟩
      · simp at h
  by_cases k2 : o.kd = 2
  · refine (step_2 M hk o ho k2).mono fun e w' h => ?_
    obtain ⟨v, l, τ', ⟨p, a, n, rfl, hR⟩, hF, D, _⟩ := h
    obtain ⟨p', c', e'⟩ := fired_shape hF
    simp only [Value.slice.injEq] at e'
    obtain ⟨_, rfl, _⟩ := e'
    exact ⟨0, -1, -1, 0, false, msg0, p, n, l, _, ν, τ', _, hR, hF, D, fun h => absurd rfl h⟩
  by_cases k3 : o.kd = 3
  · refine (step_3 M hk o ho k3).mono fun e w' h => ?_
    obtain ⟨v, l, τ', ⟨p, a, n, rfl, hR⟩, hF, D, _⟩ := h
    obtain ⟨p', c', e'⟩ := fired_shape hF
    simp only [Value.slice.injEq] at e'
    obtain ⟨_, rfl, _⟩ := e'
    exact ⟨0, -1, -1, 0, false, msg0, p, n, l, _, ν, τ', _, hR, hF, D, fun h => absurd rfl h⟩
  by_cases k4 : o.kd = 4
  · refine (step_4 M hk o ho k4).mono fun e w' h => ?_
    obtain ⟨c, ν', hR, hS, D⟩ := h
    exact stepZ_plain hR D (fun hc => ⟨rfl, hS.refused hc, rfl, stSg_no hc, rfl, rfl⟩)
  by_cases k5 : o.kd = 5
  · refine (step_5 M hk o ho k5).mono fun e w' h => ?_
    obtain ⟨c, ν', hR, hS, D⟩ := h
    exact stepZ_plain hR D (fun hc => ⟨rfl, hS.refused hc, rfl, stSg_no hc, rfl, rfl⟩)
  by_cases k6 : o.kd = 6
  · refine (step_6 M hk o ho k6).mono fun e w' h => ?_
    obtain ⟨c, tm, τ', σ', hR, D, hA⟩ := h
    refine stepZ_plain hR D (fun hc => ?_)
    rcases hA with ⟨_, h1, h2, h3⟩ | ⟨h1, _⟩
    · exact ⟨rfl, rfl, h2, h3, rfl, h1⟩
    · exact absurd h1 hc
  by_cases k7 : o.kd = 7
  · refine (step_7 M hk o ho k7).mono fun e w' h => ?_
    obtain ⟨c, tm, τ', σ', hR, D, hA⟩ := h
    refine stepZ_plain hR D (fun hc => ?_)
    rcases hA with ⟨_, h1, h2, h3⟩ | ⟨h1, _⟩
    · exact ⟨rfl, rfl, h2, h3, rfl, h1⟩
    · exact absurd h1 hc
  by_cases k8 : o.kd = 8
  · refine (step_8 M hk o ho k8).mono fun e w' h => ?_
    obtain ⟨z, a, c, τ', hR, D, hA⟩ := h
    refine stepZ_plain hR D (fun hc => ?_)
    unfold tmRS at hc ⊢
    rcases hA with ⟨h1, h2, _⟩ | ⟨h1, _⟩
    · rw [if_neg (by omega)]
      exact ⟨rfl, rfl, h2, rfl, rfl, rfl⟩
    · rw [if_pos h1] at hc
      exact absurd rfl hc
  by_cases k9 : o.kd = 9
  · refine (step_9 M hk o ho k9).mono fun e w' h => ?_
    obtain ⟨z, a, c, τ', σ', hR, D, hA⟩ := h
    refine stepZ_plain hR D (fun hc => ?_)
    unfold tmRS at hc ⊢
    rcases hA with ⟨h1, h2, h3, _⟩ | ⟨h1, _⟩
    · rw [if_neg (by omega)]
      exact ⟨rfl, rfl, h2, h3, rfl, rfl⟩
    · rw [if_pos h1] at hc
      exact absurd rfl hc
  · refine (step_x M hk o ho (by omega)).mono fun e w' h => ?_
    obtain ⟨hR, D⟩ := h
    refine stepZ_plain hR D (fun hc => ?_)
    have hc' : (taskF σ.s o).c ≠ 0 := hc
    have hs := taskF_ref hc'
    refine ⟨rfl, rfl, rfl, ?_, ?_, rfl⟩
    · rw [hs]; rfl
    · show (if (taskF σ.s o).c = 0 then argF 16 o.a else -1) = -1
      rw [if_neg hc']
end Go.Proofs.Qxb6500877aGreatDoor
