import Derived.Test.Qxb6500877aGreatDoorSd
import Derived.Test.Qxb6500877aGreatDoorLi
set_option linter.unusedVariables false
set_option linter.unusedSimpArgs false
namespace Go.Proofs.Qxb6500877aGreatDoor
open Go.RowKit

/-- What it does to queue a task behind A. -/
structure EnqEff (s s' : Sched) (t h b : Nat) (A : List Nat) : Prop where
  tk : ∀ x, s'.tk x = if x = t then { s.tk t with st := 2, prev := laOr A, next := -1 } else { s.tk x with next := if laOr A = x then (t : Int) else (s.tk x).next }
  hd : ∀ c k, s'.hd c k = if c = h ∧ k = b ∧ A = [] then (t : Int) else s.hd c k
  tl : ∀ c k, s'.tl c k = if c = h ∧ k = b then (t : Int) else s.tl c k
  fl : ∀ c, s'.fl c = if c = h then orBit (s.fl h) b else s.fl c
  qn : ∀ c, s'.qn c = if c = h then s.qn h + 1 else s.qn c
  cur : s'.cur = s.cur
  ld : s'.ld = s.ld
/-- What it does to take a task out from between A and C. -/
structure DeqEff (s s' : Sched) (t h b : Nat) (A C : List Nat) : Prop where
  tk : ∀ x, s'.tk x = if x = t then { s.tk t with prev := -1, next := -1 } else { s.tk x with prev := if hdOr C = x then laOr A else (s.tk x).prev, next := if laOr A = x then hdOr C else (s.tk x).next }
  hd : ∀ c k, s'.hd c k = if c = h ∧ k = b ∧ A = [] then hdOr C else s.hd c k
  tl : ∀ c k, s'.tl c k = if c = h ∧ k = b ∧ C = [] then laOr A else s.tl c k
  fl : ∀ c, s'.fl c = if c = h ∧ A = [] ∧ C = [] then notBit (s.fl h) b else s.fl c
  qn : ∀ c, s'.qn c = if c = h then s.qn h - 1 else s.qn c
  cur : s'.cur = s.cur
  ld : s'.ld = s.ld

theorem enq_eff {s : Sched} {t h b : Nat} {A : List Nat} (e : s.tl h b = laOr A) (hn : t ∉ A) : EnqEff s (enq s t h b) t h b A := by
  rcases list_end A with rfl | ⟨A', u, rfl⟩
  · rw [laOr_nil] at e
    rw [enq, if_pos e]
    refine ⟨fun x => ?_, fun c k => ?_, fun c k => ?_, fun c => ?_, fun c => ?_, rfl, rfl⟩
    · have : ¬ ((-1 : Int) = x) := by omega
      by_cases hx : x = t
      · subst hx; simp [enqNil, Sched.pSt, Sched.pPrev, Sched.pNext, Sched.setTk, Sched.setHd, Sched.setTl, Sched.setFl, Sched.setQn, laOr_nil]
      · simp [enqNil, Sched.pSt, Sched.pPrev, Sched.pNext, Sched.setTk, Sched.setHd, Sched.setTl, Sched.setFl, Sched.setQn, laOr_nil, hx, this]
    · simp [enqNil, Sched.pSt, Sched.pPrev, Sched.pNext, Sched.setTk, Sched.setHd, Sched.setTl, Sched.setFl, Sched.setQn]
    · simp [enqNil, Sched.pSt, Sched.pPrev, Sched.pNext, Sched.setTk, Sched.setHd, Sched.setTl, Sched.setFl, Sched.setQn]
    · simp [enqNil, Sched.pSt, Sched.pPrev, Sched.pNext, Sched.setTk, Sched.setHd, Sched.setTl, Sched.setFl, Sched.setQn]
    · simp [enqNil, Sched.pSt, Sched.pPrev, Sched.pNext, Sched.setTk, Sched.setHd, Sched.setTl, Sched.setFl, Sched.setQn]
  · rw [laOr_snoc] at e
    have hne : ¬ (s.tl h b = -1) := by omega
    have hu : u ≠ t := fun e => hn (by simp [e])
    have hu' : ¬ (t = u) := fun e => hu e.symm
    have ht : (s.tl h b).toNat = u := by omega
    rw [enq, if_neg hne, ht]
    refine ⟨fun x => ?_, fun c k => ?_, fun c k => ?_, fun c => ?_, fun c => ?_, rfl, rfl⟩
    · by_cases hx : x = t
      · subst hx; simp [enqAt, Sched.pSt, Sched.pPrev, Sched.pNext, Sched.setTk, Sched.setHd, Sched.setTl, Sched.setFl, Sched.setQn, laOr_snoc, hu, hu']
      · by_cases hxu : x = u
        · subst hxu; simp [enqAt, Sched.pSt, Sched.pPrev, Sched.pNext, Sched.setTk, Sched.setHd, Sched.setTl, Sched.setFl, Sched.setQn, laOr_snoc, hx]
        · have : ¬ ((u : Int) = x) := by omega
          simp [enqAt, Sched.pSt, Sched.pPrev, Sched.pNext, Sched.setTk, Sched.setHd, Sched.setTl, Sched.setFl, Sched.setQn, laOr_snoc, hx, hxu, this]
    · simp [enqAt, Sched.pSt, Sched.pPrev, Sched.pNext, Sched.setTk, Sched.setHd, Sched.setTl, Sched.setFl, Sched.setQn]
    · simp [enqAt, Sched.pSt, Sched.pPrev, Sched.pNext, Sched.setTk, Sched.setHd, Sched.setTl, Sched.setFl, Sched.setQn]
    · simp [enqAt, Sched.pSt, Sched.pPrev, Sched.pNext, Sched.setTk, Sched.setHd, Sched.setTl, Sched.setFl, Sched.setQn]
    · simp [enqAt, Sched.pSt, Sched.pPrev, Sched.pNext, Sched.setTk, Sched.setHd, Sched.setTl, Sched.setFl, Sched.setQn]

theorem deq_eff {s : Sched} {t h b : Nat} {A C : List Nat} (ep : (s.tk t).prev = laOr A) (en : (s.tk t).next = hdOr C) (hnA : t ∉ A) (hnC : t ∉ C) (nA : ∀ x ∈ A, hdOr C ≠ x) : DeqEff s (deq s t h b) t h b A C := by
  rcases list_end A with rfl | ⟨A', p, rfl⟩
  · rw [laOr_nil] at ep
    match C, en, hnC with
    | [], en, _ =>
      have en' : (s.tk t).next = -1 := en
      rw [deq, if_pos ep, if_pos en']
      refine ⟨fun x => ?_, fun c k => ?_, fun c k => ?_, fun c => ?_, fun c => ?_, rfl, rfl⟩
      · have : ¬ ((-1 : Int) = x) := by omega
        by_cases hx : x = t
        · subst hx; simp [deqA, deqB, deqC, deqD, Sched.pSt, Sched.pPrev, Sched.pNext, Sched.setTk, Sched.setHd, Sched.setTl, Sched.setFl, Sched.setQn, laOr_nil, laOr_snoc, hdOr]
        · simp [deqA, deqB, deqC, deqD, Sched.pSt, Sched.pPrev, Sched.pNext, Sched.setTk, Sched.setHd, Sched.setTl, Sched.setFl, Sched.setQn, laOr_nil, laOr_snoc, hdOr, hx, this]
      · simp [deqA, deqB, deqC, deqD, Sched.pSt, Sched.pPrev, Sched.pNext, Sched.setTk, Sched.setHd, Sched.setTl, Sched.setFl, Sched.setQn, laOr_nil, laOr_snoc, hdOr]
      · simp [deqA, deqB, deqC, deqD, Sched.pSt, Sched.pPrev, Sched.pNext, Sched.setTk, Sched.setHd, Sched.setTl, Sched.setFl, Sched.setQn, laOr_nil, laOr_snoc, hdOr]
      · simp [deqA, deqB, deqC, deqD, Sched.pSt, Sched.pPrev, Sched.pNext, Sched.setTk, Sched.setHd, Sched.setTl, Sched.setFl, Sched.setQn, laOr_nil, laOr_snoc, hdOr]
      · simp [deqA, deqB, deqC, deqD, Sched.pSt, Sched.pPrev, Sched.pNext, Sched.setTk, Sched.setHd, Sched.setTl, Sched.setFl, Sched.setQn, laOr_nil, laOr_snoc, hdOr]
    | n :: C, en, hnC =>
      have en' : (s.tk t).next = (n : Int) := en
      have hne : ¬ ((s.tk t).next = -1) := by omega
      have hnt : n ≠ t := fun e => hnC (by simp [e])
      have hnt' : ¬ (t = n) := fun e => hnt e.symm
      have e2 : (s.tk t).next.toNat = n := by omega
      rw [deq, if_pos ep, if_neg hne, e2]
      refine ⟨fun x => ?_, fun c k => ?_, fun c k => ?_, fun c => ?_, fun c => ?_, rfl, rfl⟩
      · have : ¬ ((-1 : Int) = x) := by omega
        by_cases hx : x = t
        · subst hx; simp [deqA, deqB, deqC, deqD, Sched.pSt, Sched.pPrev, Sched.pNext, Sched.setTk, Sched.setHd, Sched.setTl, Sched.setFl, Sched.setQn, laOr_nil, laOr_snoc, hdOr, hnt, hnt']
        · by_cases hxn : x = n
          · subst hxn; simp [deqA, deqB, deqC, deqD, Sched.pSt, Sched.pPrev, Sched.pNext, Sched.setTk, Sched.setHd, Sched.setTl, Sched.setFl, Sched.setQn, laOr_nil, laOr_snoc, hdOr, hx, this]
          · have h2 : ¬ ((n : Int) = x) := by omega
            simp [deqA, deqB, deqC, deqD, Sched.pSt, Sched.pPrev, Sched.pNext, Sched.setTk, Sched.setHd, Sched.setTl, Sched.setFl, Sched.setQn, laOr_nil, laOr_snoc, hdOr, hx, this, hxn, h2]
      · simp [deqA, deqB, deqC, deqD, Sched.pSt, Sched.pPrev, Sched.pNext, Sched.setTk, Sched.setHd, Sched.setTl, Sched.setFl, Sched.setQn, laOr_nil, laOr_snoc, hdOr]
      · simp [deqA, deqB, deqC, deqD, Sched.pSt, Sched.pPrev, Sched.pNext, Sched.setTk, Sched.setHd, Sched.setTl, Sched.setFl, Sched.setQn, laOr_nil, laOr_snoc, hdOr]
      · simp [deqA, deqB, deqC, deqD, Sched.pSt, Sched.pPrev, Sched.pNext, Sched.setTk, Sched.setHd, Sched.setTl, Sched.setFl, Sched.setQn, laOr_nil, laOr_snoc, hdOr]
      · simp [deqA, deqB, deqC, deqD, Sched.pSt, Sched.pPrev, Sched.pNext, Sched.setTk, Sched.setHd, Sched.setTl, Sched.setFl, Sched.setQn, laOr_nil, laOr_snoc, hdOr]
  · rw [laOr_snoc] at ep
    have hne1 : ¬ ((s.tk t).prev = -1) := by omega
    have hpt : p ≠ t := fun e => hnA (by simp [e])
    have hpt' : ¬ (t = p) := fun e => hpt e.symm
    have e1 : (s.tk t).prev.toNat = p := by omega
    match C, en, hnC, nA with
    | [], en, _, _ =>
      have en' : (s.tk t).next = -1 := en
      rw [deq, if_neg hne1, if_pos en', e1]
      refine ⟨fun x => ?_, fun c k => ?_, fun c k => ?_, fun c => ?_, fun c => ?_, rfl, rfl⟩
      · have : ¬ ((-1 : Int) = x) := by omega
        by_cases hx : x = t
        · subst hx; simp [deqA, deqB, deqC, deqD, Sched.pSt, Sched.pPrev, Sched.pNext, Sched.setTk, Sched.setHd, Sched.setTl, Sched.setFl, Sched.setQn, laOr_nil, laOr_snoc, hdOr, hpt, hpt']
        · by_cases hxp : x = p
          · subst hxp; simp [deqA, deqB, deqC, deqD, Sched.pSt, Sched.pPrev, Sched.pNext, Sched.setTk, Sched.setHd, Sched.setTl, Sched.setFl, Sched.setQn, laOr_nil, laOr_snoc, hdOr, hx, this]
          · have h2 : ¬ ((p : Int) = x) := by omega
            simp [deqA, deqB, deqC, deqD, Sched.pSt, Sched.pPrev, Sched.pNext, Sched.setTk, Sched.setHd, Sched.setTl, Sched.setFl, Sched.setQn, laOr_nil, laOr_snoc, hdOr, hx, this, hxp, h2]
      · simp [deqA, deqB, deqC, deqD, Sched.pSt, Sched.pPrev, Sched.pNext, Sched.setTk, Sched.setHd, Sched.setTl, Sched.setFl, Sched.setQn, laOr_nil, laOr_snoc, hdOr]
      · simp [deqA, deqB, deqC, deqD, Sched.pSt, Sched.pPrev, Sched.pNext, Sched.setTk, Sched.setHd, Sched.setTl, Sched.setFl, Sched.setQn, laOr_nil, laOr_snoc, hdOr]
      · simp [deqA, deqB, deqC, deqD, Sched.pSt, Sched.pPrev, Sched.pNext, Sched.setTk, Sched.setHd, Sched.setTl, Sched.setFl, Sched.setQn, laOr_nil, laOr_snoc, hdOr]
      · simp [deqA, deqB, deqC, deqD, Sched.pSt, Sched.pPrev, Sched.pNext, Sched.setTk, Sched.setHd, Sched.setTl, Sched.setFl, Sched.setQn, laOr_nil, laOr_snoc, hdOr]
    | n :: C, en, hnC, nA =>
      have en' : (s.tk t).next = (n : Int) := en
      have hne : ¬ ((s.tk t).next = -1) := by omega
      have hnt : n ≠ t := fun e => hnC (by simp [e])
      have hnt' : ¬ (t = n) := fun e => hnt e.symm
      have e2 : (s.tk t).next.toNat = n := by omega
      have hpn : p ≠ n := fun e => nA p (by simp) (by simp [hdOr, e])
      have hpn' : ¬ (n = p) := fun e => hpn e.symm
      rw [deq, if_neg hne1, if_neg hne, e1, e2]
      refine ⟨fun x => ?_, fun c k => ?_, fun c k => ?_, fun c => ?_, fun c => ?_, rfl, rfl⟩
      · by_cases hx : x = t
        · subst hx; simp [deqA, deqB, deqC, deqD, Sched.pSt, Sched.pPrev, Sched.pNext, Sched.setTk, Sched.setHd, Sched.setTl, Sched.setFl, Sched.setQn, laOr_nil, laOr_snoc, hdOr, hnt, hnt', hpt, hpt']
        · by_cases hxp : x = p
          · subst hxp
            have h2 : ¬ ((n : Int) = x) := by omega
            simp [deqA, deqB, deqC, deqD, Sched.pSt, Sched.pPrev, Sched.pNext, Sched.setTk, Sched.setHd, Sched.setTl, Sched.setFl, Sched.setQn, laOr_nil, laOr_snoc, hdOr, hx, hpn, hpn', h2]
          · have h2 : ¬ ((p : Int) = x) := by omega
            by_cases hxn : x = n
            · subst hxn; simp [deqA, deqB, deqC, deqD, Sched.pSt, Sched.pPrev, Sched.pNext, Sched.setTk, Sched.setHd, Sched.setTl, Sched.setFl, Sched.setQn, laOr_nil, laOr_snoc, hdOr, hx, hxp, h2]
            · have h3 : ¬ ((n : Int) = x) := by omega
              simp [deqA, deqB, deqC, deqD, Sched.pSt, Sched.pPrev, Sched.pNext, Sched.setTk, Sched.setHd, Sched.setTl, Sched.setFl, Sched.setQn, laOr_nil, laOr_snoc, hdOr, hx, hxp, hxn, h2, h3]
      · simp [deqA, deqB, deqC, deqD, Sched.pSt, Sched.pPrev, Sched.pNext, Sched.setTk, Sched.setHd, Sched.setTl, Sched.setFl, Sched.setQn, laOr_nil, laOr_snoc, hdOr]
      · simp [deqA, deqB, deqC, deqD, Sched.pSt, Sched.pPrev, Sched.pNext, Sched.setTk, Sched.setHd, Sched.setTl, Sched.setFl, Sched.setQn, laOr_nil, laOr_snoc, hdOr]
      · simp [deqA, deqB, deqC, deqD, Sched.pSt, Sched.pPrev, Sched.pNext, Sched.setTk, Sched.setHd, Sched.setTl, Sched.setFl, Sched.setQn, laOr_nil, laOr_snoc, hdOr]
      · simp [deqA, deqB, deqC, deqD, Sched.pSt, Sched.pPrev, Sched.pNext, Sched.setTk, Sched.setHd, Sched.setTl, Sched.setFl, Sched.setQn, laOr_nil, laOr_snoc, hdOr]

/-- The lists with another one at (h, b). -/
def putQ (Q : Nat → Nat → List Nat) (h b : Nat) (l : List Nat) : Nat → Nat → List Nat := fun c k => if c = h ∧ k = b then l else Q c k
theorem putQ_same (Q : Nat → Nat → List Nat) (h b : Nat) (l : List Nat) : putQ Q h b l h b = l := by simp [putQ]
theorem putQ_other (Q : Nat → Nat → List Nat) {h b c k : Nat} (l : List Nat) (hn : ¬ (c = h ∧ k = b)) : putQ Q h b l c k = Q c k := by simp [putQ, hn]

/-- The scheduler in order, but for task t (none: 16). -/
structure SInv (s : Sched) (Q : Nat → Nat → List Nat) (t : Nat) : Prop where
  dll : ∀ c b, c < 4 → b < 4 → Dll 16 (fun x => (s.tk x).prev) (fun x => (s.tk x).next) (s.hd c b) (s.tl c b) (Q c b)
  nod : ∀ c b, (Q c b).Nodup
  mem : ∀ c b x, x ∈ Q c b → c < 4 ∧ b < 4 ∧ x < 16 ∧ x ≠ t ∧ (s.tk x).st = 2 ∧ (s.tk x).home = c ∧ (s.tk x).band = b
  que : ∀ x, x < 16 → x ≠ t → (s.tk x).st = 2 → ∃ c b, x ∈ Q c b
  cur : ∀ c, c < 4 → s.cur c = -1 ∨ ∃ p : Nat, p < 16 ∧ p ≠ t ∧ s.cur c = p ∧ (s.tk p).st = 3 ∧ (s.tk p).home = c
  run : ∀ x, x < 16 → x ≠ t → (s.tk x).st = 3 → ∃ c : Nat, c < 4 ∧ (s.tk x).home = c ∧ s.cur c = x
  dom : ∀ x, x < 16 → x ≠ t → (s.tk x).st = 0 ∨ ∃ h b : Nat, h < 4 ∧ b < 4 ∧ (s.tk x).home = h ∧ (s.tk x).band = b
  fl : ∀ c, c < 4 → ∃ m : Nat, s.fl c = m ∧ m < 16 ∧ ∀ b, b < 4 → (m.testBit b = true ↔ Q c b ≠ [])
  qn : ∀ c, c < 4 → s.qn c = (((Q c 0).length + (Q c 1).length + (Q c 2).length + (Q c 3).length : Nat) : Int)

theorem SInv.apart {s : Sched} {Q : Nat → Nat → List Nat} {t x c b c' b' : Nat} (I : SInv s Q t) (h : x ∈ Q c b) (h' : x ∈ Q c' b') : c = c' ∧ b = b' := by
  obtain ⟨_, _, _, _, _, e1, e2⟩ := I.mem _ _ _ h
  obtain ⟨_, _, _, _, _, e3, e4⟩ := I.mem _ _ _ h'
  omega
theorem SInv.small {s : Sched} {Q : Nat → Nat → List Nat} {t : Nat} (I : SInv s Q t) (c b : Nat) : (Q c b).length ≤ 16 := nodup_le 16 _ (I.nod c b) (fun x hx => (I.mem c b x hx).2.2.1)
theorem SInv.qnb {s : Sched} {Q : Nat → Nat → List Nat} {t : Nat} (I : SInv s Q t) {c : Nat} (hc : c < 4) : 0 ≤ s.qn c ∧ s.qn c < 1000 := by
  have h0 := I.small c 0
  have h1 := I.small c 1
  have h2 := I.small c 2
  have h3 := I.small c 3
  rw [I.qn c hc]
  omega
theorem SInv.notin {s : Sched} {Q : Nat → Nat → List Nat} {t : Nat} (I : SInv s Q t) (c b : Nat) : t ∉ Q c b := fun h => (I.mem c b t h).2.2.2.1 rfl
theorem SInv.tail {s : Sched} {Q : Nat → Nat → List Nat} {t : Nat} (I : SInv s Q t) {h b : Nat} (hh : h < 4) (hb : b < 4) : s.tl h b = laOr (Q h b) := by
  have D := I.dll h b hh hb
  generalize Q h b = l at D
  rcases list_end l with rfl | ⟨A, q, rfl⟩
  · exact D.1
  · rw [laOr_snoc]; exact (seg_last D).1
theorem SInv.enqPre {s : Sched} {Q : Nat → Nat → List Nat} {t : Nat} (I : SInv s Q t) {h b : Nat} (hh : h < 4) (hb : b < 4) : EnqPre s t h b := by
  refine ⟨?_, I.qnb hh⟩
  rw [I.tail hh hb]
  have hn := I.notin h b
  have hm := fun x hx => (I.mem h b x hx).2.2.1
  generalize Q h b = l at hn hm
  rcases list_end l with rfl | ⟨A, q, rfl⟩
  · exact .inl rfl
  · exact .inr ⟨q, hm q (by simp), fun e => hn (by simp [e]), laOr_snoc _ _⟩
theorem bit_or {m b : Nat} (hm : m < 16) (hb : b < 4) : ∃ m' : Nat, orBit m b = m' ∧ m' < 16 ∧ ∀ k, k < 4 → (m'.testBit k = true ↔ k = b ∨ m.testBit k = true) := by
  have : ∀ (m : Fin 16) (b : Fin 4), ∃ m' : Fin 16, orBit (m.val : Int) b.val = (m'.val : Int) ∧ ∀ k : Fin 4, (m'.val.testBit k.val = true ↔ k = b ∨ m.val.testBit k.val = true) := by decide +kernel
  obtain ⟨m', h1, h2⟩ := this ⟨m, hm⟩ ⟨b, hb⟩
  refine ⟨m'.val, h1, m'.isLt, fun k hk => ?_⟩
  have := h2 ⟨k, hk⟩
  simpa [Fin.ext_iff] using this
theorem bit_not {m b : Nat} (hm : m < 16) (hb : b < 4) : ∃ m' : Nat, notBit m b = m' ∧ m' < 16 ∧ ∀ k, k < 4 → (m'.testBit k = true ↔ k ≠ b ∧ m.testBit k = true) := by
  have : ∀ (m : Fin 16) (b : Fin 4), ∃ m' : Fin 16, notBit (m.val : Int) b.val = (m'.val : Int) ∧ ∀ k : Fin 4, (m'.val.testBit k.val = true ↔ k ≠ b ∧ m.val.testBit k.val = true) := by decide +kernel
  obtain ⟨m', h1, h2⟩ := this ⟨m, hm⟩ ⟨b, hb⟩
  refine ⟨m'.val, h1, m'.isLt, fun k hk => ?_⟩
  have := h2 ⟨k, hk⟩
  simpa [Fin.ext_iff] using this
theorem sum4_put (Q : Nat → Nat → List Nat) {h b : Nat} (hb : b < 4) (l : List Nat) (c : Nat) : (((putQ Q h b l c 0).length + (putQ Q h b l c 1).length + (putQ Q h b l c 2).length + (putQ Q h b l c 3).length : Nat) : Int) = if c = h then (((Q c 0).length + (Q c 1).length + (Q c 2).length + (Q c 3).length : Nat) : Int) + l.length - (Q h b).length else (((Q c 0).length + (Q c 1).length + (Q c 2).length + (Q c 3).length : Nat) : Int) := by
  by_cases e : c = h
  · subst e
    rw [if_pos rfl]
    match b, hb with
    | 0, _ => simp [putQ]; omega
    | 1, _ => simp [putQ]; omega
    | 2, _ => simp [putQ]; omega
    | 3, _ => simp [putQ]; omega
  · rw [if_neg e]
    simp [putQ, e]

theorem enq_inv {s : Sched} {Q : Nat → Nat → List Nat} {t h b : Nat} (I : SInv s Q t) (r : Row s t h b) : SInv (enq s t h b) (putQ Q h b (Q h b ++ [t])) 16 := by
  have E := enq_eff (I.tail r.hh r.hb) (I.notin h b)
  generalize enq s t h b = s' at E
  have hnt := I.notin
  have hkeep : ∀ x, x ≠ t → (s'.tk x).st = (s.tk x).st ∧ (s'.tk x).home = (s.tk x).home ∧ (s'.tk x).band = (s.tk x).band ∧ (s'.tk x).prev = (s.tk x).prev := fun x hx => by rw [E.tk x, if_neg hx]; exact ⟨rfl, rfl, rfl, rfl⟩
  have hself : (s'.tk t).st = 2 ∧ (s'.tk t).home = h ∧ (s'.tk t).band = b := by rw [E.tk t, if_pos rfl]; exact ⟨rfl, r.eh, r.eb⟩
  have hnx : ∀ x, x ≠ t → x ∉ Q h b → (s'.tk x).next = (s.tk x).next := fun x hx hq => by
    rw [E.tk x, if_neg hx]
    show (if laOr (Q h b) = x then (t : Int) else (s.tk x).next) = _
    rw [if_neg]
    intro e
    rcases list_end (Q h b) with h0 | ⟨A, q, h0⟩
    · rw [h0, laOr_nil] at e; omega
    · rw [h0, laOr_snoc] at e
      have : q = x := by omega
      exact hq (by rw [h0, this]; simp)
  refine ⟨fun c k hc hk => ?_, fun c k => ?_, fun c k x hx => ?_, fun x hx _ hst => ?_, fun c hc => ?_, fun x hx _ hst => ?_, fun x hx _ => ?_, fun c hc => ?_, fun c hc => ?_⟩
  · by_cases e : c = h ∧ k = b
    · obtain ⟨rfl, rfl⟩ := e
      rw [putQ_same]
      have D := I.dll c k hc hk
      have hnod := I.nod c k
      have ht := hnt c k
      have hd := E.hd c k
      have htl := E.tl c k
      have hnn : ∀ x ∈ Q c k, (s'.tk x).prev = (s.tk x).prev ∧ (s'.tk x).next = if laOr (Q c k) = x then (t : Int) else (s.tk x).next := fun x hx => by
        have hxt : x ≠ t := fun e => ht (e ▸ hx)
        rw [E.tk x, if_neg hxt]
        exact ⟨rfl, rfl⟩
      have htt : (s'.tk t).prev = laOr (Q c k) ∧ (s'.tk t).next = -1 := by rw [E.tk t, if_pos rfl]; exact ⟨rfl, rfl⟩
      have D0 : Dll 16 (fun x => (s.tk x).prev) (fun x => (s.tk x).next) (s.hd c k) (s.tl c k) (Q c k ++ []) := by simpa using D
      refine dll_insert (P' := fun x => (s'.tk x).prev) (X' := fun x => (s'.tk x).next) D0 r.ht htt.1 htt.2 (fun x hx => ?_) (fun x hx => ?_) (fun x hx => ?_) (fun x hx => by simp at hx) (fun A' q hA hq => ?_) (fun q C' hC => by simp at hC) ?_ ?_
      · have hx' : x ∈ Q c k := by simpa using hx
        rw [(hnn x hx').1, if_neg]
        simp only [hdOr]
        omega
      · have hx' : x ∈ Q c k := by simpa using hx
        exact (hnn x hx').2
      · simp only [hdOr]; omega
      · rw [hA] at hnod
        have := (nodup_mid (A := A') (C := []) (by simpa using hnod)).1
        exact this hq
      · rw [hd]; simp
      · rw [htl]; simp
    · rw [putQ_other _ _ e, E.hd, E.tl, if_neg (fun q => e ⟨q.1, q.2.1⟩), if_neg e]
      refine seg_congr _ _ _ _ _ (fun x hx => ?_) (I.dll c k hc hk)
      have hxt : x ≠ t := fun e => hnt c k (e ▸ hx)
      exact ⟨(hkeep x hxt).2.2.2, hnx x hxt (fun q => e (I.apart hx q))⟩
  · by_cases e : c = h ∧ k = b
    · obtain ⟨rfl, rfl⟩ := e
      rw [putQ_same]
      exact nodup_put (C := []) (by simpa using I.nod c k) (by simpa using hnt c k)
    · rw [putQ_other _ _ e]; exact I.nod c k
  · by_cases e : c = h ∧ k = b
    · obtain ⟨rfl, rfl⟩ := e
      rw [putQ_same] at hx
      by_cases hxt : x = t
      · subst hxt
        exact ⟨r.hh, r.hb, r.ht, by have := r.ht; omega, hself⟩
      · have hx' : x ∈ Q c k := by
          rcases List.mem_append.1 hx with q | q
          · exact q
          · exact absurd (by simpa using q) hxt
        obtain ⟨a1, a2, a3, a4, a5, a6, a7⟩ := I.mem c k x hx'
        obtain ⟨k1, k2, k3, _⟩ := hkeep x hxt
        exact ⟨a1, a2, a3, by omega, k1.trans a5, k2.trans a6, k3.trans a7⟩
    · rw [putQ_other _ _ e] at hx
      obtain ⟨a1, a2, a3, a4, a5, a6, a7⟩ := I.mem c k x hx
      obtain ⟨k1, k2, k3, _⟩ := hkeep x a4
      exact ⟨a1, a2, a3, by omega, k1.trans a5, k2.trans a6, k3.trans a7⟩
  · by_cases hxt : x = t
    · subst hxt
      exact ⟨h, b, by rw [putQ_same]; simp⟩
    · rw [(hkeep x hxt).1] at hst
      obtain ⟨c, k, hq⟩ := I.que x hx hxt hst
      refine ⟨c, k, ?_⟩
      by_cases e : c = h ∧ k = b
      · obtain ⟨rfl, rfl⟩ := e
        rw [putQ_same]; simp [hq]
      · rw [putQ_other _ _ e]; exact hq
  · rw [E.cur]
    rcases I.cur c hc with q | ⟨p, a1, a2, a3, a4, a5⟩
    · exact .inl q
    · exact .inr ⟨p, a1, by omega, a3, (hkeep p a2).1.trans a4, (hkeep p a2).2.1.trans a5⟩
  · by_cases hxt : x = t
    · subst hxt; rw [hself.1] at hst; omega
    · rw [(hkeep x hxt).1] at hst
      rw [(hkeep x hxt).2.1, E.cur]
      exact I.run x hx hxt hst
  · by_cases hxt : x = t
    · subst hxt; exact .inr ⟨h, b, r.hh, r.hb, hself.2⟩
    · rw [(hkeep x hxt).1, (hkeep x hxt).2.1, (hkeep x hxt).2.2.1]
      exact I.dom x hx hxt
  · obtain ⟨m, h1, h2, h3⟩ := I.fl c hc
    by_cases e : c = h
    · subst e
      obtain ⟨m', g1, g2, g3⟩ := bit_or h2 r.hb
      refine ⟨m', by rw [E.fl, if_pos rfl, h1]; exact g1, g2, fun k hk => ?_⟩
      rw [g3 k hk, h3 k hk]
      by_cases ek : k = b
      · subst ek; rw [putQ_same]; simp
      · rw [putQ_other _ _ (fun q => ek q.2)]; simp [ek]
    · refine ⟨m, by rw [E.fl, if_neg e]; exact h1, h2, fun k hk => ?_⟩
      rw [putQ_other _ _ (fun q => e q.1)]
      exact h3 k hk
  · rw [sum4_put Q r.hb, E.qn]
    by_cases e : c = h
    · subst e
      rw [if_pos rfl, if_pos rfl, I.qn c hc]
      simp
      omega
    · rw [if_neg e, if_neg e]; exact I.qn c hc

end Go.Proofs.Qxb6500877aGreatDoor
