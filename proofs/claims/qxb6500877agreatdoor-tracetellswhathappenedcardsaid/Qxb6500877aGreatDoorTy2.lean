import Derived.Deep.CutBlock
import Derived.OwnWalk
import Derived.Maps.AppendAt
import Derived.Test.Qxb6500877aGreatDoorTy1
import Derived.Test.Qxb6500877aGreatDoorTx10
import Derived.Test.Qxb6500877aGreatDoorTwi
import Derived.Test.Qxb6500877aGreatDoorTwj
import Derived.Test.Qxb6500877aGreatDoorTwn
import Derived.Test.Qxb6500877aGreatDoorTwp
import Derived.Test.Qxb6500877aGreatDoorTwe
import Derived.Test.Qxb6500877aGreatDoorTwf
import Derived.Test.Qxb6500877aGreatDoorOa
import Derived.Test.Qxb6500877aGreatDoorPk
import Derived.Test.Qxb6500877aGreatDoorZb
set_option linter.unusedVariables false
set_option linter.unusedSimpArgs false
namespace Go.Proofs.Qxb6500877aGreatDoor
open Go.RowKit

def r3w (s : Sched) (x : Nat) : Int × Int × Int := ((s.tk x).st, (s.tk x).home, IntKind.i64.wrap (s.tk x).band)
theorem r3_pPrev (s : Sched) (u : Nat) (v : Int) (x : Nat) : r3 (s.pPrev u v) x = r3 s x := by
  unfold r3 Sched.pPrev Sched.setTk
  by_cases h : x = u
  · subst h; simp
  · simp [h]
theorem r3_pNext (s : Sched) (u : Nat) (v : Int) (x : Nat) : r3 (s.pNext u v) x = r3 s x := by
  unfold r3 Sched.pNext Sched.setTk
  by_cases h : x = u
  · subst h; simp
  · simp [h]
theorem r3_pSt (s : Sched) (t : Nat) (v : Int) : r3 (s.pSt t v) t = (v, (r3 s t).2) := by simp [r3, Sched.pSt, Sched.setTk]
theorem r3_pHome (s : Sched) (t : Nat) (v : Int) : r3 (s.pHome t v) t = ((r3 s t).1, v, (r3 s t).2.2) := by simp [r3, Sched.pHome, Sched.setTk]
theorem r3_pBand (s : Sched) (t : Nat) (v : Int) : r3 (s.pBand t v) t = ((r3 s t).1, (r3 s t).2.1, v) := by simp [r3, Sched.pBand, Sched.setTk]
theorem r3_setHd (s : Sched) (a b : Nat) (v : Int) (x : Nat) : r3 (s.setHd a b v) x = r3 s x := rfl
theorem r3_setTl (s : Sched) (a b : Nat) (v : Int) (x : Nat) : r3 (s.setTl a b v) x = r3 s x := rfl
theorem r3_setFl (s : Sched) (a : Nat) (v : Int) (x : Nat) : r3 (s.setFl a v) x = r3 s x := rfl
theorem r3_setQn (s : Sched) (a : Nat) (v : Int) (x : Nat) : r3 (s.setQn a v) x = r3 s x := rfl
theorem r3_setCur (s : Sched) (a : Nat) (v : Int) (x : Nat) : r3 (s.setCur a v) x = r3 s x := rfl
theorem r3_setLd (s : Sched) (a : Nat) (v : Int) (x : Nat) : r3 (s.setLd a v) x = r3 s x := rfl
theorem r3_enqT (s : Sched) (t h b : Nat) : r3 (enq s t h b) t = (2, (r3 s t).2) := by
  unfold enq
  split
  · unfold enqNil
    simp only [r3_setQn, r3_setFl, r3_setTl, r3_setHd, r3_pNext, r3_pPrev, r3_pSt]
  · unfold enqAt
    simp only [r3_setQn, r3_setFl, r3_setTl, r3_setHd, r3_pNext, r3_pPrev, r3_pSt]
theorem r3_deqT (s : Sched) (t h b x : Nat) : r3 (deq s t h b) x = r3 s x := by
  unfold deq
  split <;> split <;> simp only [deqA, deqB, deqC, deqD, r3_setQn, r3_setFl, r3_setTl, r3_setHd, r3_pNext, r3_pPrev]
theorem r3_stand (s : Sched) (t h b x : Nat) : r3 (standDown s t h b) x = r3 s x := by
  unfold standDown
  split
  · exact r3_deqT s t h b x
  · split
    · rfl
    · rfl
theorem r3w_st {s s' : Sched} {x : Nat} (h : (r3 s' x).1 ≠ (r3 s x).1) : r3w s' x ≠ r3w s x := fun e => h (show (r3w s' x).1 = (r3w s x).1 from congrArg Prod.fst e)
theorem r3w_home {s s' : Sched} {x : Nat} (h : (r3 s' x).2.1 ≠ (r3 s x).2.1) : r3w s' x ≠ r3w s x := fun e => h (congrArg (fun p => p.2.1) e)
theorem wrap4 {n : Nat} (h : n < 4) : IntKind.i64.wrap (n : Int) = n := by
  match n, h with
  | 0, _ => rfl
  | 1, _ => rfl
  | 2, _ => rfl
  | 3, _ => rfl
theorem r3w_band {s s' : Sched} {x a b : Nat} (ha : a < 4) (hb : b < 4) (e1 : (r3 s' x).2.2 = a) (e2 : (r3 s x).2.2 = b) (h : a ≠ b) : r3w s' x ≠ r3w s x := fun e => by
  have e3 : IntKind.i64.wrap (r3 s' x).2.2 = IntKind.i64.wrap (r3 s x).2.2 := congrArg (fun p => p.2.2) e
  rw [e1, e2, wrap4 ha, wrap4 hb] at e3
  omega
theorem presF_ok {s : Sched} {u : Int} {K : Nat → TRes} (h : (presF s u K).c = 0) : ∃ x : Nat, x < 16 ∧ u = x ∧ (s.tk x).st ≠ 0 ∧ presF s u K = K x := by
  by_cases hu : 0 ≤ u ∧ u < 16
  · obtain ⟨x, rfl, hx⟩ : ∃ x : Nat, u = x ∧ x < 16 := ⟨u.toNat, by omega, by omega⟩
    by_cases h0 : (s.tk x).st = 0
    · rw [presF_absent hx h0] at h; simp at h
    · exact ⟨x, hx, rfl, h0, presF_there hx h0⟩
  · rw [presF_bad hu] at h; simp at h
theorem attNew_ok {s : Sched} {u : Int} {K : Nat → TRes} (h : (attNew s u K).c = 0) : ∃ x : Nat, x < 16 ∧ u = x ∧ (s.tk x).st = 0 ∧ attNew s u K = K x := by
  by_cases hu : 0 ≤ u ∧ u < 16
  · obtain ⟨x, rfl, hx⟩ : ∃ x : Nat, u = x ∧ x < 16 := ⟨u.toNat, by omega, by omega⟩
    by_cases h0 : (s.tk x).st = 0
    · exact ⟨x, hx, rfl, h0, attNew_new hx h0⟩
    · rw [attNew_old hx h0] at h; simp at h
  · rw [attNew_bad hu] at h; simp at h
theorem r3_attach (s : Sched) (t h b : Nat) : (r3 (attachF s t h b) t).1 = 1 := by
  unfold attachF
  simp only [r3_setLd, r3_pNext, r3_pPrev, r3_pBand, r3_pHome, r3_pSt]
theorem attK_st {s : Sched} {x g : Nat} {b : Int} (h : (attK s x g b).c = 0) (h0 : (s.tk x).st = 0) : r3w (attK s x g b).s x ≠ r3w s x := by
  unfold attK at *
  split at h
  · rename_i q
    rw [if_pos q]
    refine r3w_st ?_
    rw [r3_attach]
    show (1 : Int) ≠ (s.tk x).st
    rw [h0]
    decide
  · simp at h
theorem r3_vac (s : Sched) (t : Nat) : (r3 (vacate s t) t).1 = 0 := by
  unfold vacate
  simp only [r3_pNext, r3_pPrev, r3_pBand, r3_pHome, r3_pSt]
theorem r3_mig (s : Sched) (t g : Nat) : (r3 (migF s t g) t).2.1 = g := by
  unfold migF
  split
  · unfold migMid
    simp only [r3_setLd, r3_pHome]
  · rw [r3_enqT]
    unfold migMid
    simp only [r3_setLd, r3_pHome]
theorem r3_setBand (s : Sched) (t h b k : Nat) : (r3 (setBandF s t h b k) t).2.2 = k := by
  unfold setBandF
  split
  · rw [r3_enqT]
    simp only [r3_pBand]
  · simp only [r3_pBand]
/-- A step on a task that is served is told just if the task changed. -/
theorem mv_eq {s : Sched} {o : OpS} (K : SOk s) (hkd : 9 < o.kd) (h0 : (taskF s o).c = 0) : ∃ x : Nat, x < 16 ∧ argF 16 o.a = x ∧ decide (r3w (taskF s o).s x ≠ r3w s x) = W.mvF s o := by
  have hk : o.kd = 10 ∨ o.kd = 11 ∨ o.kd = 12 ∨ o.kd = 13 ∨ o.kd = 14 ∨ o.kd = 15 ∨ o.kd = 16 ∨ 16 < o.kd := by omega
  rcases hk with q | q | q | q | q | q | q | q
  · have em : W.mvF s o = true := by simp [W.mvF, q]
    by_cases hb : o.b = -1
    · have e : taskF s o = attAnyF s (argF 16 o.a) (argF 4 o.c) := by simp [taskF, q, hb]
      rw [e, attAnyF] at h0 ⊢
      obtain ⟨x, hx, ex, hs, er⟩ := attNew_ok h0
      rw [er] at h0 ⊢
      exact ⟨x, hx, ex, by rw [em]; exact decide_eq_true (attK_st h0 hs)⟩
    · have e : taskF s o = attAtF s (argF 16 o.a) (argF 4 o.b) (argF 4 o.c) := by simp [taskF, q, hb]
      rw [e, attAtF] at h0 ⊢
      obtain ⟨x, hx, ex, hs, er⟩ := attNew_ok h0
      rw [er] at h0 ⊢
      by_cases hg : 0 ≤ argF 4 o.b ∧ argF 4 o.b < 4
      · rw [if_pos hg] at h0 ⊢
        exact ⟨x, hx, ex, by rw [em]; exact decide_eq_true (attK_st h0 hs)⟩
      · rw [if_neg hg] at h0
        simp at h0
  · have em : W.mvF s o = true := by simp [W.mvF, q]
    have e : taskF s o = detachG s (argF 16 o.a) := by simp [taskF, q]
    rw [e, detachG] at h0 ⊢
    obtain ⟨x, hx, ex, hs, er⟩ := presF_ok h0
    rw [er]
    exact ⟨x, hx, ex, by rw [em]; exact decide_eq_true (r3w_st (by rw [r3_vac]; exact fun z => hs z.symm))⟩
  · have em : W.mvF s o = true := by simp [W.mvF, q]
    have e : taskF s o = readyF s (argF 16 o.a) := by simp [taskF, q]
    rw [e, readyF] at h0 ⊢
    obtain ⟨x, hx, ex, hs, er⟩ := presF_ok h0
    rw [er] at h0 ⊢
    by_cases h1 : (s.tk x).st = 1
    · rw [if_pos h1]
      exact ⟨x, hx, ex, by rw [em]; exact decide_eq_true (r3w_st (by show (r3 (enq s x (rowH s x) (rowB s x)) x).1 ≠ (s.tk x).st; rw [r3_enqT, h1]; show (2 : Int) ≠ 1; decide))⟩
    · rw [if_neg h1] at h0
      simp at h0
  · have em : W.mvF s o = true := by simp [W.mvF, q]
    have e : taskF s o = parkF s (argF 16 o.a) := by simp [taskF, q]
    rw [e, parkF] at h0 ⊢
    obtain ⟨x, hx, ex, hs, er⟩ := presF_ok h0
    rw [er] at h0 ⊢
    by_cases h1 : (s.tk x).st = 1
    · rw [if_pos h1] at h0
      simp at h0
    · rw [if_neg h1]
      exact ⟨x, hx, ex, by rw [em]; exact decide_eq_true (r3w_st (by show (r3 ((standDown s x (rowH s x) (rowB s x)).pSt x 1) x).1 ≠ (s.tk x).st; rw [r3_pSt]; exact fun z => h1 z.symm))⟩
  · have em : W.mvF s o = true := by simp [W.mvF, q]
    have e : taskF s o = yieldF s (argF 16 o.a) := by simp [taskF, q]
    rw [e, yieldF] at h0 ⊢
    obtain ⟨x, hx, ex, hs, er⟩ := presF_ok h0
    rw [er] at h0 ⊢
    by_cases h1 : (s.tk x).st = 3
    · rw [if_pos h1]
      exact ⟨x, hx, ex, by rw [em]; exact decide_eq_true (r3w_st (by show (r3 (enq (standDown s x (rowH s x) (rowB s x)) x (rowH s x) (rowB s x)) x).1 ≠ (s.tk x).st; rw [r3_enqT, h1]; show (2 : Int) ≠ 3; decide))⟩
    · rw [if_neg h1] at h0
      simp at h0
  · have e : taskF s o = migrateG s (argF 16 o.a) (argF 4 o.b) := by simp [taskF, q]
    have em : W.mvF s o = decide ((s.tk (argF 16 o.a).toNat).home ≠ argF 4 o.b) := by simp [W.mvF, q]
    rw [e, migrateG] at h0 ⊢
    obtain ⟨x, hx, ex, hs, er⟩ := presF_ok h0
    rw [er] at h0 ⊢
    rw [ex, Int.toNat_natCast] at em
    refine ⟨x, hx, ex, ?_⟩
    rw [em]
    by_cases hg : 0 ≤ argF 4 o.b ∧ argF 4 o.b < 4
    · rw [if_pos hg]
      by_cases h1 : (s.tk x).home = argF 4 o.b
      · rw [if_pos h1]
        exact (decide_eq_false (fun z => z rfl)).trans (decide_eq_false (fun z => z h1)).symm
      · rw [if_neg h1]
        refine (decide_eq_true (r3w_home ?_)).trans (decide_eq_true h1).symm
        show (r3 (migF s x (argF 4 o.b).toNat) x).2.1 ≠ (s.tk x).home
        rw [r3_mig]
        omega
    · rw [if_neg hg] at h0
      simp at h0
  · have e : taskF s o = bandF s (argF 16 o.a) (argF 4 o.c) := by simp [taskF, q]
    have em : W.mvF s o = decide ((s.tk (argF 16 o.a).toNat).band ≠ argF 4 o.c) := by simp [W.mvF, q]
    rw [e, bandF] at h0 ⊢
    obtain ⟨x, hx, ex, hs, er⟩ := presF_ok h0
    rw [er] at h0 ⊢
    rw [ex, Int.toNat_natCast] at em
    refine ⟨x, hx, ex, ?_⟩
    rw [em]
    by_cases hg : 0 ≤ argF 4 o.c ∧ argF 4 o.c < 4
    · rw [if_pos hg]
      by_cases h1 : (s.tk x).band = argF 4 o.c
      · rw [if_pos h1]
        exact (decide_eq_false (fun z => z rfl)).trans (decide_eq_false (fun z => z h1)).symm
      · rw [if_neg h1]
        obtain ⟨h, b, r⟩ := K.row hx hs
        have eb := r.eb
        refine (decide_eq_true (r3w_band (a := (argF 4 o.c).toNat) (b := b) (by omega) r.hb ?_ eb (by omega))).trans (decide_eq_true h1).symm
        exact r3_setBand _ _ _ _ _
    · rw [if_neg hg] at h0
      simp at h0
  · have e : taskF s o = ⟨-1, 3, s⟩ := by simp [taskF, show ¬ o.kd = 10 by omega, show ¬ o.kd = 11 by omega, show ¬ o.kd = 12 by omega, show ¬ o.kd = 13 by omega, show ¬ o.kd = 14 by omega, show ¬ o.kd = 15 by omega, show ¬ o.kd = 16 by omega]
    rw [e] at h0
    simp at h0
/-- The boxes that a served sending step fills. -/
def tgL (o : OpS) : List Nat := if o.kd = 5 then tgX o.a.toNat 4 else [o.a.toNat * 4 + o.b.toNat]
def mvA (σ σ' : Sg) (a : Ans) : Bool := if a.tk = -1 then false else decide (r3w σ'.s a.tk.toNat ≠ r3w σ.s a.tk.toNat)
def stA (σ' : Sg) (a : Ans) : Int := if a.tk = -1 then 0 else (σ'.s.tk a.tk.toNat).st
/-- The events that the law expects. -/
def expL (now : Nat) (was : Int) (mv : Bool) (st : Int) (ac : Nat → Int) (o : OpS) (a : Ans) : List EvS :=
  if a.z ≠ 0 then [evR now a.z]
  else if o.kd = 0 then (if was = -1 then [] else [evT now 1 a.co was 0]) ++ [evT now 0 a.co a.tk 0]
  else if o.kd = 1 then [evX now 3 a.mm a.mm.mt]
  else if o.kd = 2 ∨ o.kd = 3 then (if tickOf o = 0 then [] else bl now 8 :: fdE now a.fs)
  else if o.kd = 4 ∨ o.kd = 5 then sdE now ac (tgL o)
  else if o.kd = 6 ∨ o.kd = 7 then [evM now 4 now a.co a.tm]
  else if o.kd = 8 then [evM now 5 now a.co a.tm]
  else if o.kd = 9 then [evM now 6 now a.co a.tm]
  else if mv = true then [evT now 9 a.co a.tk st] else []
theorem expL_no {now : Nat} {was st : Int} {mv : Bool} {ac : Nat → Int} {o : OpS} {a : Ans} (h : a.z ≠ 0) : expL now was mv st ac o a = [evR now a.z] := if_pos h
theorem told_0 {t : Nat} {σ : Sg} {c : Nat} {mv : Bool} {st : Int} {ac : Nat → Int} {o : OpS} (h : o.kd = 0) : W.tellP t σ c = expL t (σ.s.cur c) mv st ac o ⟨(pickRes σ c).c, c, (pickRes σ c).tk, 0, false, msg0, []⟩ := by
  unfold W.tellP
  by_cases q : (pickRes σ c).c = 0
  · rw [if_pos q]
    simp [expL, q, h]
  · rw [if_neg q, expL_no q]
theorem told_1 {t : Nat} {was z co : Int} {hm : Bool} {m : MsgV} {mv : Bool} {st : Int} {ac : Nat → Int} {o : OpS} (h : o.kd = 1) : W.tellM t z (evX t 3 m m.mt) = expL t was mv st ac o ⟨z, co, -1, 0, hm, m, []⟩ := by
  unfold W.tellM
  by_cases q : z = 0
  · rw [if_pos q]
    simp [expL, q, h]
  · rw [if_neg q, expL_no q]
theorem told_2 {t n : Nat} {was : Int} {l : List FiredS} {mv : Bool} {st : Int} {ac : Nat → Int} {o : OpS} (h : o.kd = 2 ∨ o.kd = 3) (hn : tickOf o = n) : tellC t n l = expL t was mv st ac o ⟨0, -1, -1, 0, false, msg0, l⟩ := by
  unfold tellC
  have h0 : ¬ o.kd = 0 := by omega
  have h1 : ¬ o.kd = 1 := by omega
  simp only [expL, h0, h1, if_false, if_pos h, hn, ne_eq, not_true_eq_false]
theorem told_6 {t : Nat} {was z a tm : Int} {mv : Bool} {st : Int} {ac : Nat → Int} {o : OpS} (h : o.kd = 6 ∨ o.kd = 7) (hz : z = 0 → argF 4 o.a = o.a) : W.tellM t z (evM t 4 t (argF 4 o.a) tm) = expL t was mv st ac o ⟨z, if z = 0 then o.a else -1, -1, tm, false, msg0, []⟩ := by
  unfold W.tellM
  by_cases q : z = 0
  · have h0 : ¬ o.kd = 0 := by omega
    have h1 : ¬ o.kd = 1 := by omega
    have h2 : ¬ (o.kd = 2 ∨ o.kd = 3) := by omega
    have h3 : ¬ (o.kd = 4 ∨ o.kd = 5) := by omega
    rw [if_pos q, hz q]
    simp only [expL, h0, h1, if_false, if_neg h2, if_neg h3, if_pos h, q, ne_eq, not_true_eq_false, if_true]
  · rw [if_neg q, expL_no q]
theorem told_8 {t : Nat} {was z a c : Int} {mv : Bool} {st : Int} {ac : Nat → Int} {o : OpS} (h : o.kd = 8) : W.tellM t z (evM t 5 t c a) = expL t was mv st ac o ⟨(tmRS z c a).c, (tmRS z c a).co, (tmRS z c a).tk, (tmRS z c a).tm, false, msg0, []⟩ := by
  unfold W.tellM tmRS
  by_cases q : z = 0
  · rw [if_pos q, if_pos q]
    simp [expL, h]
  · rw [if_neg q, if_neg q, expL_no q]
theorem told_9 {t : Nat} {was z a c : Int} {mv : Bool} {st : Int} {ac : Nat → Int} {o : OpS} (h : o.kd = 9) : W.tellM t z (evM t 6 t c a) = expL t was mv st ac o ⟨(tmRS z c a).c, (tmRS z c a).co, (tmRS z c a).tk, (tmRS z c a).tm, false, msg0, []⟩ := by
  unfold W.tellM tmRS
  by_cases q : z = 0
  · rw [if_pos q, if_pos q]
    simp [expL, h]
  · rw [if_neg q, if_neg q, expL_no q]
theorem told_t {t : Nat} {was : Int} {σ : Sg} {ac : Nat → Int} {o : OpS} (K : SOk σ.s) (h : 9 < o.kd) (a : Ans) (ha : a = ⟨(taskF σ.s o).c, (taskF σ.s o).co, if (taskF σ.s o).c = 0 then argF 16 o.a else -1, 0, false, msg0, []⟩) : W.tellT t (taskF σ.s o) (argF 16 o.a) (W.mvF σ.s o) = expL t was (mvA σ (σ.put (taskF σ.s o).s) a) (stA (σ.put (taskF σ.s o).s) a) ac o a := by
  subst ha
  unfold W.tellT
  by_cases q : (taskF σ.s o).c = 0
  · obtain ⟨x, hx, ex, em⟩ := mv_eq K h q
    have hx1 : ¬ ((x : Int) = -1) := by omega
    have h0 : ¬ o.kd = 0 := by omega
    have h1 : ¬ o.kd = 1 := by omega
    have h2 : ¬ (o.kd = 2 ∨ o.kd = 3) := by omega
    have h3 : ¬ (o.kd = 4 ∨ o.kd = 5) := by omega
    have h4 : ¬ (o.kd = 6 ∨ o.kd = 7) := by omega
    have h5 : ¬ o.kd = 8 := by omega
    have h6 : ¬ o.kd = 9 := by omega
    rw [if_pos q]
    simp only [expL, h0, h1, if_false, if_neg h2, if_neg h3, if_neg h4, h5, h6, q, ne_eq, not_true_eq_false, if_true, ex, mvA, stA, if_neg hx1, Int.toNat_natCast]
    rw [show decide (¬r3w (σ.put (taskF σ.s o).s).s x = r3w σ.s x) = W.mvF σ.s o from em]
    rfl
  · rw [if_neg q, expL_no q]
theorem boxF_small {x y : Nat} (hx : x < 4) (hy : y < 4) : boxF (x : Int) (y : Int) = ((x * 4 + y : Nat) : Int) := by
  unfold boxF wrap64
  omega
theorem evS_sd {t x y k : Nat} {ν : Net} (hx : x < 4) (hy : y < 4) (N : NOk ν k) (hk : k < 900000) : W.evS t ν x y = ⟨2, (t : Int), (((x * 4 + y) / 4 : Nat) : Int), -1, 0, ((x * 4 + y : Nat) : Int), IntKind.u64.wrap ((ν.box (x * 4 + y)).acc + 1), 0, 0⟩ := by
  have ha := (N (x * 4 + y) (by omega)).acc
  have e1 : (x * 4 + y) / 4 = x := by omega
  have e2 : IntKind.u64.wrap ((ν.box (x * 4 + y)).acc + 1) = (ν.box (x * 4 + y)).acc + 1 := inc64_small (by omega)
  unfold W.evS
  rw [boxF_small hx hy, e1, e2, Int.toNat_natCast, Int.toNat_natCast]
theorem bcE_sd {t x k : Nat} {ν : Net} (hx : x < 4) (N : NOk ν k) (hk : k < 900000) : ∀ i, i ≤ 4 → W.bcE t ν x i = sdE t (fun b => (ν.box b).acc) (tgX x i)
  | 0, _ => rfl
  | i + 1, hi => by
    have ih := bcE_sd (t := t) hx N hk i (by omega)
    unfold W.bcE tgX
    by_cases q : i = x
    · rw [if_pos q, if_pos q, ih, List.append_nil]
    · rw [if_neg q, if_neg q, ih, evS_sd hx (by omega) N hk]
      simp [sdE]
theorem argF_small {n v : Int} {x : Nat} (h : argF n v = x) : v = x := by
  unfold argF at h
  split at h
  · exact h
  · omega
/-- What a served sending step is about. -/
theorem send_served {o : OpS} {t : Nat} {ν ν' : Net} (h : o.kd = 4 ∨ o.kd = 5) (S : StepSend o t ν 0 ν') : tgtOf o (tgL o) ∧ kindB o.c = true := by
  rcases S with ⟨_, e, _⟩ | ⟨hk, S⟩
  · omega
  · refine ⟨?_, hk⟩
    rcases S with ⟨q, S⟩ | ⟨q, S⟩
    · rcases S with ⟨_, e, _⟩ | ⟨x, e, hx, _⟩
      · omega
      · have ea := argF_small e
        refine .inr ⟨q, x, ea, hx, ?_⟩
        rw [tgL, if_pos q, ea, Int.toNat_natCast]
    · rcases S with ⟨_, e, _⟩ | ⟨x, y, ea, hx, eb, hy, _⟩
      · omega
      · have ea := argF_small ea
        have eb := argF_small eb
        refine .inl ⟨by omega, x, y, ea, hx, eb, hy, ?_⟩
        rw [tgL, if_neg q, ea, eb, Int.toNat_natCast, Int.toNat_natCast]
theorem told_4 {t k : Nat} {was c : Int} {ν ν' : Net} {mv : Bool} {st : Int} {o : OpS} (h : o.kd = 4 ∨ o.kd = 5) (S : StepSend o t ν c ν') (N : NOk ν k) (hk : k < 900000) : W.tellS t ν o c = expL t was mv st (fun b => (ν.box b).acc) o ⟨(sendRS o c).c, (sendRS o c).co, -1, 0, false, msg0, []⟩ := by
  unfold W.tellS
  by_cases q : c = 0
  · subst q
    obtain ⟨T, kb⟩ := send_served h S
    have h0 : ¬ o.kd = 0 := by omega
    have h1 : ¬ o.kd = 1 := by omega
    have h2 : ¬ (o.kd = 2 ∨ o.kd = 3) := by omega
    rw [if_pos kb]
    simp only [expL, sendRS, h0, h1, if_false, if_neg h2, if_pos h, ne_eq, not_true_eq_false, if_true]
    rcases T with ⟨k4, x, y, ea, hx, eb, hy, _⟩ | ⟨k5, x, ea, hx, _⟩
    · rw [if_neg (by omega), W.tellM, if_pos rfl, tgL, if_neg (by omega), ea, eb, Int.toNat_natCast, Int.toNat_natCast, argF_in (by omega), argF_in (by omega), evS_sd hx hy N hk]
      rfl
    · rw [if_pos k5, W.tellB, if_pos rfl, tgL, if_pos k5, ea, argF_in (by omega), Int.toNat_natCast, bcE_sd hx N hk 4 (Nat.le_refl _)]
  · have ec : (sendRS o c).c = c := rfl
    rw [expL_no (by rw [ec]; exact q), ec]
    split
    · split
      · rw [W.tellB, if_neg q]
      · rw [W.tellM, if_neg q]
    · rfl
end Go.Proofs.Qxb6500877aGreatDoor
