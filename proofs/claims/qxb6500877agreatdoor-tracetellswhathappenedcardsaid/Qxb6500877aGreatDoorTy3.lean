import Derived.Deep.CutBlock
import Derived.OwnWalk
import Derived.Maps.AppendAt
import Derived.Test.Qxb6500877aGreatDoorTy2
import Derived.Test.Qxb6500877aGreatDoorTwsa
import Derived.Test.Qxb6500877aGreatDoorTwsb
import Derived.Test.Qxb6500877aGreatDoorTwsc
import Derived.Test.Qxb6500877aGreatDoorTwse
import Derived.Test.Qxb6500877aGreatDoorTwsf
import Derived.Test.Qxb6500877aGreatDoorTwsg
import Derived.Test.Qxb6500877aGreatDoorTwsh
import Derived.Test.Qxb6500877aGreatDoorTwsi
import Derived.Test.Qxb6500877aGreatDoorEb
set_option linter.unusedVariables false
set_option linter.unusedSimpArgs false
namespace Go.Proofs.Qxb6500877aGreatDoor
open Go.RowKit

theorem argF_pos {n v : Int} (h : 0 ≤ argF n v) : argF n v = v := by
  unfold argF at *
  split at h
  · rename_i q; rw [if_pos q]
  · omega
theorem arm_in {τ τ' : TSt} {σ σ' : Sg} {c d ck a z : Int} (h : ArmR2 τ σ c d ck a z τ' σ') (hz : z = 0) : 0 ≤ c := by
  rcases h.1 with ⟨n, _⟩ | ⟨_, r, _⟩
  · exact absurd hz n
  · exact r.1
/-- A step of a machine that is looked at, its answer in one shape, and what is told. -/
theorem step_w {w : World} {B mb t k : Nat} {ν : Net} {τ : TSt} {σ : Sg} {Λ : W.LS} (M : W.Mach w B mb t k ν τ σ Λ) (hl : Λ.l.length < 999999000) (hk : k < 800000) (o : OpS) (ho : o.ok) :
    Calls Tryz.prog 19 #[.pointer (some ⟨B, 0, none⟩), opV o] w fun e w' => ∃ (a : Ans) (p : Option Addr) (n c t' : Nat) (ν' : Net) (τ' : TSt) (σ' : Sg) (Λ' : W.LS), e = .returned (.agg (resCs a.z a.co a.tk a.tm a.hm a.mm p n c)) ∧ FrAt w' w.heap.size (.slice p n c) a.fs ∧ W.Done w w' B mb t' (k + 4) ν' τ' σ' Λ Λ' ∧ RealS o t ν τ σ a t' ν' τ' σ' ∧ Λ'.l = Λ.l ++ expL t' (σ.s.cur (o.a % 4).toNat) (mvA σ σ' a) (stA σ' a) (fun b => (ν.box b).acc) o a := by
  have hkd : o.kd = 0 ∨ o.kd = 1 ∨ o.kd = 2 ∨ o.kd = 3 ∨ o.kd = 4 ∨ o.kd = 5 ∨ o.kd = 6 ∨ o.kd = 7 ∨ o.kd = 8 ∨ o.kd = 9 ∨ 9 < o.kd := by omega
  rcases hkd with h | h | h | h | h | h | h | h | h | h | h
  · refine (W.step_0 M hl hk o ho h).mono ?_
    rintro e w' ⟨c, hc, ec, hE, Λ', D, eL⟩
    exact ⟨⟨(pickRes σ c).c, c, (pickRes σ c).tk, 0, false, msg0, []⟩, none, 0, 0, t, ν, τ, _, Λ', hE, .inl ⟨rfl, rfl⟩, D, real_k0 h ⟨c, hc, ec, rfl, rfl, rfl, rfl, rfl⟩, by rw [eL, ec, Int.toNat_natCast]; exact congrArg _ (told_0 h)⟩
  · refine (W.step_1 M hl hk o ho h).mono ?_
    rintro e w' ⟨i, ν', z, m, hi, ei, hE, hD, Λ', D, eL⟩
    exact ⟨⟨z, ((i % 4 : Nat) : Int), -1, 0, decide (z = 0), m, []⟩, none, 0, 0, t, ν', τ, _, Λ', hE, .inl ⟨rfl, rfl⟩, D, real_k1 h ⟨i, z, m, hi, ei, rfl, hD, rfl, rfl, rfl⟩, by rw [eL]; exact congrArg _ (told_1 h)⟩
  · refine (W.step_2 M hl hk o ho h).mono ?_
    rintro e w' ⟨v, l, τ', ⟨p, n, c, rfl, hE⟩, hF, ⟨Λ', D, eL⟩, hA⟩
    exact ⟨⟨0, -1, -1, 0, false, msg0, l⟩, p, n, c, _, ν, τ', _, Λ', hE, fr_of hF, D, real_k2 h ⟨l, rfl, hA, rfl, rfl, rfl⟩, by rw [eL]; exact congrArg _ (told_2 (.inl h) (by rw [tickOf, if_pos h]))⟩
  · refine (W.step_3 M hl hk o ho h).mono ?_
    rintro e w' ⟨v, l, τ', ⟨p, n, c, rfl, hE⟩, hF, ⟨Λ', D, eL⟩, hA⟩
    exact ⟨⟨0, -1, -1, 0, false, msg0, l⟩, p, n, c, _, ν, τ', _, Λ', hE, fr_of hF, D, real_k3 h ⟨l, rfl, hA, rfl, rfl, rfl⟩, by rw [eL]; exact congrArg _ (told_2 (.inr h) (by rw [tickOf, if_neg (by omega), if_pos h]))⟩
  · refine (W.step_4 M hl hk o ho h).mono ?_
    rintro e w' ⟨c, ν', hE, hS, Λ', D, eL⟩
    exact ⟨⟨(sendRS o c).c, (sendRS o c).co, -1, 0, false, msg0, []⟩, none, 0, 0, t, ν', τ, _, Λ', hE, .inl ⟨rfl, rfl⟩, D, real_k4 (.inl h) ⟨c, rfl, hS, rfl, rfl, rfl⟩, by rw [eL]; exact congrArg _ (told_4 (.inl h) hS M.net.2 (by omega))⟩
  · refine (W.step_5 M hl hk o ho h).mono ?_
    rintro e w' ⟨c, ν', hE, hS, Λ', D, eL⟩
    exact ⟨⟨(sendRS o c).c, (sendRS o c).co, -1, 0, false, msg0, []⟩, none, 0, 0, t, ν', τ, _, Λ', hE, .inl ⟨rfl, rfl⟩, D, real_k4 (.inr h) ⟨c, rfl, hS, rfl, rfl, rfl⟩, by rw [eL]; exact congrArg _ (told_4 (.inr h) hS M.net.2 (by omega))⟩
  · refine (W.step_6b M hl hk o ho h).mono ?_
    rintro e w' ⟨c, tm, τ', σ', hE, ⟨Λ', D, eL⟩, hA⟩
    exact ⟨⟨c, if c = 0 then o.a else -1, -1, tm, false, msg0, []⟩, none, 0, 0, t, ν, τ', σ', Λ', hE, .inl ⟨rfl, rfl⟩, D, real_k6 h ⟨c, tm, rfl, hA, rfl, rfl⟩, by rw [eL]; exact congrArg _ (told_6 (a := 0) (.inl h) (fun z => argF_pos (arm_in hA z)))⟩
  · refine (W.step_7b M hl hk o ho h).mono ?_
    rintro e w' ⟨c, tm, τ', σ', hE, ⟨Λ', D, eL⟩, hA⟩
    exact ⟨⟨c, if c = 0 then o.a else -1, -1, tm, false, msg0, []⟩, none, 0, 0, t, ν, τ', σ', Λ', hE, .inl ⟨rfl, rfl⟩, D, real_k7 h ⟨c, tm, rfl, hA, rfl, rfl⟩, by rw [eL]; exact congrArg _ (told_6 (a := 0) (.inr h) (fun z => argF_pos (arm_in hA z)))⟩
  · refine (W.step_8 M hl hk o ho h).mono ?_
    rintro e w' ⟨z, q, c, τ', hE, ⟨Λ', D, eL⟩, hA⟩
    exact ⟨⟨(tmRS z c q).c, (tmRS z c q).co, (tmRS z c q).tk, (tmRS z c q).tm, false, msg0, []⟩, none, 0, 0, t, ν, τ', σ, Λ', hE, .inl ⟨rfl, rfl⟩, D, real_k8 h ⟨z, q, c, rfl, hA, rfl, rfl, rfl⟩, by rw [eL]; exact congrArg _ (told_8 h)⟩
  · refine (W.step_9 M hl hk o ho h).mono ?_
    rintro e w' ⟨z, q, c, τ', σ', hE, ⟨Λ', D, eL⟩, hA⟩
    exact ⟨⟨(tmRS z c q).c, (tmRS z c q).co, (tmRS z c q).tk, (tmRS z c q).tm, false, msg0, []⟩, none, 0, 0, t, ν, τ', σ', Λ', hE, .inl ⟨rfl, rfl⟩, D, real_k9 h ⟨z, q, c, rfl, hA, rfl, rfl⟩, by rw [eL]; exact congrArg _ (told_9 h)⟩
  · refine (W.step_x M hl hk o ho h).mono ?_
    rintro e w' ⟨hE, Λ', D, eL⟩
    exact ⟨⟨(taskF σ.s o).c, (taskF σ.s o).co, if (taskF σ.s o).c = 0 then argF 16 o.a else -1, 0, false, msg0, []⟩, none, 0, 0, t, ν, τ, _, Λ', hE, .inl ⟨rfl, rfl⟩, D, real_kt h ⟨rfl, rfl, rfl, rfl, rfl⟩, by rw [eL]; exact congrArg _ (told_t M.sch.2 h _ rfl)⟩
theorem expL_len {now : Nat} {was st : Int} {mv : Bool} {ac : Nat → Int} {o : OpS} {a : Ans} (h : a.fs.length ≤ 64) (hk : tgL o = [] ∨ (tgL o).length ≤ 4) : (expL now was mv st ac o a).length ≤ 65 := by
  have h4 : (tgL o).length ≤ 4 := by
    rcases hk with e | e
    · rw [e]; simp
    · exact e
  unfold expL
  repeat' split
  all_goals simp [fdE, sdE]
  all_goals omega
theorem tgL_len (o : OpS) : (tgL o).length ≤ 4 := by
  unfold tgL
  split
  · exact tgX_len 4
  · simp
end Go.Proofs.Qxb6500877aGreatDoor
