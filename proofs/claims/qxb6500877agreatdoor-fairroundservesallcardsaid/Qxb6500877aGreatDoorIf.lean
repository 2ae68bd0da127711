import Derived.Test.Qxb6500877aGreatDoorIe
import Derived.Test.Qxb6500877aGreatDoorDb
set_option linter.unusedVariables false
set_option linter.unusedSimpArgs false
namespace Go.Proofs.Qxb6500877aGreatDoor
open Go.RowKit

theorem enq_cur (s : Sched) (t h b : Nat) : (enq s t h b).cur = s.cur := by
  unfold enq; split <;> rfl
theorem enq_qn (s : Sched) (t h b : Nat) {d : Nat} (hd : d ≠ h) : (enq s t h b).qn d = s.qn d := by
  unfold enq; split <;> simp [enqNil, enqAt, Sched.pSt, Sched.pPrev, Sched.pNext, Sched.setTk, Sched.setHd, Sched.setTl, Sched.setFl, Sched.setQn, hd]
theorem deq_cur (s : Sched) (t h b : Nat) : (deq s t h b).cur = s.cur := by
  unfold deq; split <;> split <;> rfl
theorem deq_qn (s : Sched) (t h b : Nat) {d : Nat} (hd : d ≠ h) : (deq s t h b).qn d = s.qn d := by
  unfold deq; split <;> split <;> simp [deqA, deqB, deqC, deqD, Sched.pSt, Sched.pPrev, Sched.pNext, Sched.setTk, Sched.setHd, Sched.setTl, Sched.setFl, Sched.setQn, hd]
theorem pick_other {s : Sched} {c d : Nat} (hd : d ≠ c) : (pickS s c).cur d = s.cur d ∧ (pickS s c).qn d = s.qn d := by
  have h1 : (pick1 s c).cur d = s.cur d ∧ (pick1 s c).qn d = s.qn d := by
    unfold pick1
    split
    · exact ⟨rfl, rfl⟩
    · rw [enq_cur, enq_qn _ _ _ _ hd]
      exact ⟨by simp [Sched.setCur, hd], rfl⟩
  unfold pickS
  refine ⟨?_, ?_⟩
  · rw [← h1.1, ← deq_cur (pick1 s c) (pickX s c) c (tz4 ((pick1 s c).fl c))]
    simp [Sched.setCur, Sched.pSt, Sched.setTk, hd]
  · rw [← h1.2, ← deq_qn (pick1 s c) (pickX s c) c (tz4 ((pick1 s c).fl c)) hd]
    rfl
abbrev BusyC (s : Sched) (c : Nat) : Prop := s.cur c ≠ -1 ∨ 0 < s.qn c
theorem inc_at (σ : Sg) (j i : Nat) : (σ.inc j).st i = if i = j then inc64 (σ.st j) else σ.st i := rfl
theorem pick_st (σ : Sg) {c d : Nat} : (pickRes σ c).σ.st (d * 7) = if d = c ∧ BusyC σ.s c then inc64 (σ.st (d * 7)) else σ.st (d * 7) := by
  unfold pickRes
  by_cases hb : σ.s.cur c ≠ -1 ∨ 0 < σ.s.qn c
  · have hB : BusyC σ.s c := hb
    rw [if_pos hb]
    show (Sg.inc _ (c * 7)).st (d * 7) = _
    rw [inc_at]
    have inner : ∀ e, (if σ.s.cur c = -1 then σ.put (pickS σ.s c) else (σ.put (pickS σ.s c)).inc (c * 7 + 1)).st (e * 7) = σ.st (e * 7) := fun e => by
      split
      · rfl
      · rw [inc_at, if_neg (by omega)]; rfl
    by_cases hd : d = c
    · subst hd
      rw [if_pos rfl, inner, if_pos ⟨rfl, hB⟩]
    · rw [if_neg (show ¬ (d * 7 = c * 7) by omega), inner, if_neg (show ¬ (d = c ∧ BusyC σ.s c) from fun q => hd q.1)]
  · have hB : ¬ BusyC σ.s c := hb
    rw [if_neg hb, if_neg (fun q => hB q.2)]
theorem pick_s' (σ : Sg) {c d : Nat} (hd : d ≠ c) : (pickRes σ c).σ.s.cur d = σ.s.cur d ∧ (pickRes σ c).σ.s.qn d = σ.s.qn d := by
  unfold pickRes
  split
  · have e : ((if σ.s.cur c = -1 then σ.put (pickS σ.s c) else (σ.put (pickS σ.s c)).inc (c * 7 + 1)).inc (c * 7)).s = pickS σ.s c := by split <;> rfl
    show Sched.cur _ d = _ ∧ Sched.qn _ d = _
    rw [e]
    exact pick_other hd
  · exact ⟨rfl, rfl⟩
theorem picks_run {a : MS} : ∀ (n : Nat) (m : MS), n ≤ 4 → RunR (pickL n) a m → m.t = a.t ∧ m.ν = a.ν ∧ (∀ c, c < 4 → n ≤ c → m.σ.s.cur c = a.σ.s.cur c ∧ m.σ.s.qn c = a.σ.s.qn c) ∧ ∀ c, c < 4 → m.σ.st (c * 7) = if c < n ∧ BusyC a.σ.s c then inc64 (a.σ.st (c * 7)) else a.σ.st (c * 7)
  | 0, m, _, h => by
    have e : m = a := h
    subst e
    exact ⟨rfl, rfl, fun _ _ _ => ⟨rfl, rfl⟩, fun c _ => by rw [if_neg (by omega)]⟩
  | n + 1, m, hn, h => by
    obtain ⟨m1, h1, m2, h2, h3⟩ := RunR.app (L := pickL n) h
    have e : m = m2 := h3
    subst e
    obtain ⟨i1, i2, i3, i4⟩ := picks_run n m1 (by omega) h1
    obtain ⟨c, hc, hca, e1, e2, e3⟩ := h2.k0 rfl
    have hcn : c = n := by
      have : ((n : Int)) % 4 = c := hca
      omega
    subst hcn
    refine ⟨e1.trans i1, e2.trans i2, fun d hd hcd => ?_, fun d hd => ?_⟩
    · rw [e3]
      have h5 := pick_s' m1.σ (c := c) (d := d) (by omega)
      have h6 := i3 d hd (by omega)
      exact ⟨h5.1.trans h6.1, h5.2.trans h6.2⟩
    · rw [e3, pick_st, i4 d hd]
      by_cases q : d = c
      · subst q
        have h6 := i3 d hd (Nat.le_refl _)
        have hB : BusyC m1.σ.s d ↔ BusyC a.σ.s d := by unfold BusyC; rw [h6.1, h6.2]
        rw [if_neg (show ¬ (d < d ∧ BusyC a.σ.s d) from fun z => by omega)]
        by_cases hb : BusyC a.σ.s d
        · rw [if_pos ⟨rfl, hB.2 hb⟩, if_pos ⟨by omega, hb⟩]
        · rw [if_neg (fun z => hb (hB.1 z.2)), if_neg (fun z => hb z.2)]
      · rw [if_neg (show ¬ (d = c ∧ BusyC m1.σ.s c) from fun z => q z.1)]
        by_cases hb : d < c ∧ BusyC a.σ.s d
        · rw [if_pos hb, if_pos ⟨by omega, hb.2⟩]
        · rw [if_neg hb, if_neg (fun z => hb ⟨by omega, z.2⟩)]
theorem del_st (σ : Sg) (m : MsgV) (z : Int) (c : Nat) : (delSg σ m z).st (c * 7) = σ.st (c * 7) := by
  unfold delSg
  split
  · rw [inc_at, if_neg (by omega)]
  · rfl
theorem fired_st (c : Nat) : ∀ (l : List FiredS) (σ : Sg), (firedSg σ l).st (c * 7) = σ.st (c * 7)
  | [], σ => rfl
  | e :: l, σ => by
    show (firedSg (σ.inc (e.core.toNat * 7 + 6)) l).st (c * 7) = _
    rw [fired_st c l, inc_at, if_neg (by omega)]
theorem del_pos {ν ν' : Net} {i : Nat} {m : MsgV} (h : DelR ν i m true ν') : 0 < cntN ν i := by
  rcases h with ⟨_, h2, _⟩ | ⟨_, h0, n, _, _, en, hn0, _⟩
  · simp at h2
  · have : cntN ν i = n := en
    omega
theorem dels_run {b : MS} : ∀ (l : List Nat) (a : MS), l.Nodup → (∀ x ∈ l, x < 16) → RunR (l.map delO) a b → b.t = a.t ∧ (∀ c, b.σ.st (c * 7) = a.σ.st (c * 7)) ∧ ∀ j, cntN b.ν j = if j ∈ l ∧ 0 < cntN a.ν j then cntN a.ν j - 1 else cntN a.ν j
  | [], a, _, _, h => by
    have e : b = a := h
    subst e
    exact ⟨rfl, fun _ => rfl, fun j => by simp⟩
  | x :: l, a, hn, hl, h => by
    obtain ⟨m, h1, h2⟩ := h
    obtain ⟨hx, hn'⟩ := List.nodup_cons.1 hn
    obtain ⟨i1, i2, i3⟩ := dels_run l m hn' (fun y hy => hl y (List.mem_cons_of_mem _ hy)) h2
    obtain ⟨i, hi, hia, e1, ⟨mm, z, e2⟩, e3⟩ := h1.k1 rfl
    have hx16 := hl x (by simp)
    have hix : i = x := by
      have : ((x : Int)) % 16 = i := hia
      omega
    subst hix
    refine ⟨i1.trans e1, fun c => by rw [i2 c, e2, del_st], fun j => ?_⟩
    rw [i3 j]
    have key : cntN m.ν j = if j = i ∧ 0 < cntN a.ν j then cntN a.ν j - 1 else cntN a.ν j := by
      rcases e3 with ⟨h0, e⟩ | ⟨m', hD⟩
      · rw [e]
        by_cases q : j = i
        · subst q; rw [if_neg (fun z => by omega)]
        · rw [if_neg (fun z => q z.1)]
      · have hp := del_pos hD
        rw [cntN_del hD j]
        by_cases q : j = i
        · subst q; rw [if_pos rfl, if_pos ⟨rfl, hp⟩]
        · rw [if_neg q, if_neg (fun z => q z.1)]; omega
    rw [key]
    by_cases q : j = i
    · subst q
      rw [if_neg (show ¬ (j ∈ l ∧ _) from fun z => hx z.1)]
      simp
    · simp only [List.mem_cons, q, false_or, false_and, if_false]
/-- What a fair round does. -/
theorem fair_run {a b : MS} {l : List Nat} (hl : l.Nodup ∧ ∀ i, i ∈ l ↔ i < 16 ∧ 0 < cntN a.ν i) (h : RunR (fairL l) a b) :
    b.t = afterF a.t 1 ∧ (∀ c, c < 4 → b.σ.st (c * 7) = if BusyC a.σ.s c then inc64 (a.σ.st (c * 7)) else a.σ.st (c * 7)) ∧ ∀ j, j < 16 → cntN b.ν j = if 0 < cntN a.ν j then cntN a.ν j - 1 else cntN a.ν j := by
  obtain ⟨m2, h12, m3, h3, e⟩ := RunR.app h
  have e' : b = m3 := e
  subst e'
  obtain ⟨m1, h1, h2⟩ := RunR.app h12
  obtain ⟨p1, p2, _, p4⟩ := picks_run 4 m1 (by omega) h1
  obtain ⟨q1, q2, q3⟩ := dels_run l m1 hl.1 (fun x hx => ((hl.2 x).1 hx).1) h2
  obtain ⟨r1, r2, lf, r3⟩ := h3.k2 rfl
  refine ⟨by rw [r1, q1, p1], fun c hc => ?_, fun j hj => ?_⟩
  · rw [r3, fired_st, q2, p4 c hc]
    by_cases hb : BusyC a.σ.s c
    · rw [if_pos ⟨hc, hb⟩, if_pos hb]
    · rw [if_neg (fun z => hb z.2), if_neg hb]
  · rw [r2, q3 j, p2]
    by_cases hp : 0 < cntN a.ν j
    · rw [if_pos ⟨(hl.2 j).2 ⟨hj, hp⟩, hp⟩, if_pos hp]
    · rw [if_neg (fun z => hp z.2), if_neg hp]
/-- What the law compares. -/
structure Fair (S T : Snap) : Prop where
  now : ∃ t : Nat, t < 18446744073709551616 ∧ S.now = t ∧ T.now = (afterF t 1 : Nat)
  st : ∀ c, c < 4 → IntKind.u64.wrap (T.st (c * 7) - S.st (c * 7)) = if S.cur c ≠ -1 ∨ 0 < (S.q c).length then 1 else 0
  box : ∀ j, j < 16 → (T.box j).length = (S.box j).length - 1 ∧ (S.box j).length ≤ 32
theorem inc_diff {v : Int} (h : 0 ≤ v ∧ v < 18446744073709551616) : IntKind.u64.wrap (inc64 v - v) = 1 := by
  unfold inc64
  rw [IntKind.wrap_u64, IntKind.wrap_u64]
  omega
theorem fair_snap {w w' : World} {B mb k k' B' mb' : Nat} {a b : MS} {S T : Snap} {l : List Nat} (M : Mach w B mb a.t k a.ν a.τ a.σ) (M' : Mach w' B' mb' b.t k' b.ν b.τ b.σ) (hS : SnapOf a.t a.ν a.τ a.σ S) (hT : SnapOf b.t b.ν b.τ b.σ T) (hl : l.Nodup ∧ ∀ i, i ∈ l ↔ i < 16 ∧ 0 < cntN a.ν i) (h : RunR (fairL l) a b) : Fair S T := by
  obtain ⟨f1, f2, f3⟩ := fair_run hl h
  have sc := fun c (hc : c < 4) => snap_core hS hc
  have nb := M.stb
  have cr := fun j (hj : j < 16) => (M.net.2 j hj).n
  have cr' := fun j (hj : j < 16) => (M'.net.2 j hj).n
  obtain ⟨Q, lt, I, TT, rfl⟩ := hS
  obtain ⟨Q', lt', I', TT', rfl⟩ := hT
  refine ⟨⟨a.t, M.tlt, rfl, by show ((b.t : Nat) : Int) = _; rw [f1]⟩, fun c hc => ?_, fun j hj => ?_⟩
  · have hsc := sc c hc
    show IntKind.u64.wrap (b.σ.st (c * 7) - a.σ.st (c * 7)) = _
    have hiff : ((mkSnap a.t a.ν a.σ Q lt a.τ.nx).cur c ≠ -1 ∨ 0 < ((mkSnap a.t a.ν a.σ Q lt a.τ.nx).q c).length) ↔ BusyC a.σ.s c := by
      unfold BusyC
      rw [← hsc.1, ← hsc.2]
      constructor
      · rintro (h | h)
        · exact .inl h
        · exact .inr (by omega)
      · rintro (h | h)
        · exact .inl h
        · exact .inr (by omega)
    rw [f2 c hc]
    by_cases hb : BusyC a.σ.s c
    · rw [if_pos hb, if_pos (hiff.2 hb)]
      exact inc_diff (nb _)
    · rw [if_neg hb, if_neg (fun z => hb (hiff.1 z)), Int.sub_self]
      rfl
  · obtain ⟨n, en, hn⟩ := cr j hj
    obtain ⟨n', en', hn'⟩ := cr' j hj
    have h3 := f3 j hj
    have ea : cntN a.ν j = n := en
    have eb : cntN b.ν j = n' := en'
    rw [ea, eb] at h3
    show (boxL (b.ν.box j)).length = (boxL (a.ν.box j)).length - 1 ∧ (boxL (a.ν.box j)).length ≤ 32
    rw [boxL_len, boxL_len, en, en']
    split at h3 <;> omega
end Go.Proofs.Qxb6500877aGreatDoor
