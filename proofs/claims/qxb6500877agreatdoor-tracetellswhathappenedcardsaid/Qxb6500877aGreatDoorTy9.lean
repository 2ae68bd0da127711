import Derived.Deep.CutBlock
import Derived.OwnWalk
import Derived.Maps.AppendAt
import Derived.Test.Qxb6500877aGreatDoorTy2
import Derived.Test.Qxb6500877aGreatDoorOb
import Derived.Test.Qxb6500877aGreatDoorTx6
import Derived.Test.Qxb6500877aGreatDoorTx7
import Derived.Test.Qxb6500877aGreatDoorTx8
import Derived.Test.Qxb6500877aGreatDoorTx9a
import Derived.Test.Qxb6500877aGreatDoorTx9b
import Derived.Test.Qxb6500877aGreatDoorTx10a
import Derived.Test.Qxb6500877aGreatDoorTx10b
set_option linter.unusedVariables false
set_option linter.unusedSimpArgs false
namespace Go.Proofs.Qxb6500877aGreatDoor
open Go.RowKit

theorem pickX_lt {s : Sched} {c : Nat} (K : SOk s) (hc : c < 4) (hr : s.cur c ≠ -1 ∨ 0 < s.qn c) : pickX s c < 16 := by
  obtain ⟨⟨Q, I⟩, _⟩ := K
  obtain ⟨_, _, _, h1, h2⟩ := pick_law (i := 0) (η := fun _ => 0) I hc hr (fun c b => List.pairwise_iff_getElem.2 (fun _ _ _ _ _ => Int.le_refl _)) (fun x _ => Int.le_refl _)
  exact (h2 _ h1).1
theorem tmRS_tk (z c a : Int) : (tmRS z c a).tk = -1 := by
  unfold tmRS
  split <;> rfl
/-- The task that a result names. -/
theorem real_tk {o : OpS} {t t' : Nat} {ν ν' : Net} {τ τ' : TSt} {σ σ' : Sg} {a : Ans} (K : SOk σ.s) (h : RealS o t ν τ σ a t' ν' τ' σ') : a.tk = -1 ∨ ∃ x : Nat, x < 16 ∧ a.tk = x := by
  have hkd : o.kd = 0 ∨ o.kd = 1 ∨ o.kd = 2 ∨ o.kd = 3 ∨ (o.kd = 4 ∨ o.kd = 5) ∨ o.kd = 6 ∨ o.kd = 7 ∨ o.kd = 8 ∨ o.kd = 9 ∨ 9 < o.kd := by omega
  rcases hkd with q | q | q | q | q | q | q | q | q | q
  · obtain ⟨c, hc, _, rfl, _⟩ := h.k0 q
    by_cases hr : σ.s.cur c ≠ -1 ∨ 0 < σ.s.qn c
    · refine .inr ⟨pickX σ.s c, pickX_lt K hc hr, ?_⟩
      show (pickRes σ c).tk = _
      rw [pickRes, if_pos hr]
    · refine .inl ?_
      show (pickRes σ c).tk = _
      rw [pickRes, if_neg hr]
  · obtain ⟨i, z, m, _, _, rfl, _⟩ := h.k1 q
    exact .inl rfl
  · obtain ⟨l, rfl, _⟩ := h.k2 q
    exact .inl rfl
  · obtain ⟨l, rfl, _⟩ := h.k3 q
    exact .inl rfl
  · obtain ⟨c, rfl, _⟩ := h.k4 q
    exact .inl rfl
  · obtain ⟨c, tm, rfl, _⟩ := h.k6 q
    exact .inl rfl
  · obtain ⟨c, tm, rfl, _⟩ := h.k7 q
    exact .inl rfl
  · obtain ⟨z, p, c, rfl, _⟩ := h.k8 q
    exact .inl (tmRS_tk _ _ _)
  · obtain ⟨z, p, c, rfl, _⟩ := h.k9 q
    exact .inl (tmRS_tk _ _ _)
  · obtain ⟨rfl, _⟩ := h.kt q
    by_cases hc : (taskF σ.s o).c = 0
    · obtain ⟨x, hx, ex, _⟩ := mv_eq K q hc
      refine .inr ⟨x, hx, ?_⟩
      show (if (taskF σ.s o).c = 0 then argF 16 o.a else -1) = _
      rw [if_pos hc, ex]
    · refine .inl ?_
      show (if (taskF σ.s o).c = 0 then argF 16 o.a else -1) = _
      rw [if_neg hc]
theorem real_tgt {o : OpS} {t t' : Nat} {ν ν' : Net} {τ τ' : TSt} {σ σ' : Sg} {a : Ans} (h : RealS o t ν τ σ a t' ν' τ' σ') (hz : a.z = 0) (hk : o.kd = 4 ∨ o.kd = 5) : tgtOf o (tgL o) := by
  obtain ⟨c, rfl, hS, _⟩ := h.k4 hk
  have e : c = 0 := hz
  subst e
  exact (send_served hk hS).1
/-- 'expected', in one shape. -/
theorem exp_any {w : World} {o : OpS} {a : Ans} {p : Option Addr} {n c now : Nat} {was st : Int} {mv : Bool} {sb so base : Nat} {ac : Nat → Int} (hF : FrAt w base (.slice p n c) a.fs) (h64 : a.fs.length ≤ 64) (hac : ∀ b, b < 16 → w.cell? ⟨sb, so + b, none⟩ = some (.int .u64 (ac b))) (htg : a.z = 0 → o.kd = 4 ∨ o.kd = 5 → tgtOf o (tgL o)) :
    Calls Tryz.prog 60 #[opV o, .agg (resCs a.z a.co a.tk a.tm a.hm a.mm p n c), .int .u64 (now : Int), .int .i64 was, .bool mv, .int .u8 st, .pointer (some ⟨sb, so, none⟩)] w fun e w' => ∃ v, e = .returned v ∧ EvIn w' v (expL now was mv st ac o a) ∧ Below w.heap.size w w' := by
  by_cases hz : a.z = 0
  · have hkd : o.kd = 0 ∨ o.kd = 1 ∨ o.kd = 2 ∨ o.kd = 3 ∨ o.kd = 4 ∨ o.kd = 5 ∨ o.kd = 6 ∨ o.kd = 7 ∨ o.kd = 8 ∨ o.kd = 9 ∨ 9 < o.kd := by omega
    rcases hkd with q | q | q | q | q | q | q | q | q | q | q
    · by_cases hw : was = -1
      · have e : expL now was mv st ac o a = [evT now 0 a.co a.tk 0] := by simp [expL, hz, q, hw]
        rw [e]
        exact exp_0a hz q hw
      · have e : expL now was mv st ac o a = [evT now 1 a.co was 0, evT now 0 a.co a.tk 0] := by simp [expL, hz, q, hw]
        rw [e]
        exact exp_0b hz q hw
    · have e : expL now was mv st ac o a = [evX now 3 a.mm a.mm.mt] := by simp [expL, hz, q]
      rw [e]
      exact exp_1 hz q
    · by_cases ht : tickOf o = 0
      · have e : expL now was mv st ac o a = [] := by simp [expL, hz, q, ht]
        rw [e]
        exact exp_z2 hz q ht
      · have e : expL now was mv st ac o a = bl now 8 :: fdE now a.fs := by simp [expL, hz, q, ht]
        rw [e]
        exact exp_t2 hz q ht hF h64
    · by_cases ht : tickOf o = 0
      · have e : expL now was mv st ac o a = [] := by simp [expL, hz, q, ht]
        rw [e]
        exact exp_z3 hz q ht
      · have e : expL now was mv st ac o a = bl now 8 :: fdE now a.fs := by simp [expL, hz, q, ht]
        rw [e]
        exact exp_t3 hz q ht hF h64
    · have e : expL now was mv st ac o a = sdE now ac (tgL o) := by simp [expL, hz, q]
      rw [e]
      exact exp_s4 hz q (htg hz (.inl q)) hac
    · have e : expL now was mv st ac o a = sdE now ac (tgL o) := by simp [expL, hz, q]
      rw [e]
      exact exp_s5 hz q (htg hz (.inr q)) hac
    · have e : expL now was mv st ac o a = [evM now 4 now a.co a.tm] := by simp [expL, hz, q]
      rw [e]
      exact exp_6 hz q
    · have e : expL now was mv st ac o a = [evM now 4 now a.co a.tm] := by simp [expL, hz, q]
      rw [e]
      exact exp_7 hz q
    · have e : expL now was mv st ac o a = [evM now 5 now a.co a.tm] := by simp [expL, hz, q]
      rw [e]
      exact exp_8 hz q
    · have e : expL now was mv st ac o a = [evM now 6 now a.co a.tm] := by simp [expL, hz, q]
      rw [e]
      exact exp_9 hz q
    · have h0 : ¬ o.kd = 0 := by omega
      have h1 : ¬ o.kd = 1 := by omega
      have h2 : ¬ (o.kd = 2 ∨ o.kd = 3) := by omega
      have h3 : ¬ (o.kd = 4 ∨ o.kd = 5) := by omega
      have h4 : ¬ (o.kd = 6 ∨ o.kd = 7) := by omega
      have h5 : ¬ o.kd = 8 := by omega
      have h6 : ¬ o.kd = 9 := by omega
      cases mv with
      | true =>
        have e : expL now was true st ac o a = [evT now 9 a.co a.tk st] := by simp only [expL, h0, h1, if_false, if_neg h2, if_neg h3, if_neg h4, h5, h6, hz, ne_eq, not_true_eq_false, if_true]
        rw [e]
        exact exp_xt hz q rfl
      | false =>
        have e : expL now was false st ac o a = [] := by simp only [expL, h0, h1, if_false, if_neg h2, if_neg h3, if_neg h4, h5, h6, hz, ne_eq, not_true_eq_false, reduceCtorEq]
        rw [e]
        exact exp_xf hz q rfl
  · rw [expL_no hz]
    exact exp_ref hz
end Go.Proofs.Qxb6500877aGreatDoor
