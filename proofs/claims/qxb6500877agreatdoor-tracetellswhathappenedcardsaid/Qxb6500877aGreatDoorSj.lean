import Derived.Test.Qxb6500877aGreatDoorSi
set_option linter.unusedVariables false
set_option linter.unusedSimpArgs false
namespace Go.Proofs.Qxb6500877aGreatDoor
open Go.RowKit

theorem SInv.links {s : Sched} {Q : Nat → Nat → List Nat} {t h b u : Nat} {A C : List Nat} (I : SInv s Q u) (hh : h < 4) (hb : b < 4) (eQ : Q h b = A ++ t :: C) :
    t < 16 ∧ (s.tk t).prev = laOr A ∧ (s.tk t).next = hdOr C ∧ t ∉ A ∧ t ∉ C ∧ (∀ x ∈ A, hdOr C ≠ x) ∧ (∀ x ∈ C, laOr A ≠ x) ∧ (∀ A' q, A = A' ++ [q] → q ∉ A') ∧ (∀ q C', C = q :: C' → q ∉ C') ∧ (A ++ C).Nodup ∧ (A ≠ [] → s.hd h b ≠ -1) := by
  have D := I.dll h b hh hb
  have hnod := I.nod h b
  rw [eQ] at D hnod
  obtain ⟨niA, niC, nA, nC, ndA, ndC, hnod'⟩ := nodup_mid hnod
  obtain ⟨S1, e1, e2, e3, e4⟩ := seg_join D
  have enx : (s.tk t).next = hdOr C := by
    match C, e4 with
    | [], e4 => exact e4.2.symm
    | c :: C, e4 => exact e4.1
  refine ⟨e2, e3, enx, niA, niC, nA, nC, ndA, ndC, hnod', fun hA => ?_⟩
  match A, hA, S1 with
  | y :: A, _, S1 => have := S1.1; omega
theorem SInv.deqPre {s : Sched} {Q : Nat → Nat → List Nat} {t h b u : Nat} {A C : List Nat} (I : SInv s Q u) (hh : h < 4) (hb : b < 4) (eQ : Q h b = A ++ t :: C) : DeqPre s t h b := by
  obtain ⟨ht, ep, en, niA, niC, nA, nC, ndA, ndC, hnod, hhd⟩ := I.links hh hb eQ
  have hm := fun x hx => (I.mem h b x hx).2.2.1
  rw [eQ] at hm
  refine ⟨?_, ?_, ?_⟩
  · rcases list_end A with rfl | ⟨A', p, rfl⟩
    · exact .inl ep
    · rw [laOr_snoc] at ep
      exact .inr ⟨p, hm p (by simp), fun e => niA (by simp [e]), ep, hhd (by simp)⟩
  · match C, en, niC, hm with
    | [], en, _, _ => exact .inl en
    | n :: C, en, niC, hm => exact .inr ⟨n, hm n (by simp), fun e => niC (by simp [e]), en⟩
  · have h1 := I.qnb hh
    refine ⟨?_, h1.2⟩
    rw [I.qn h hh]
    have hl : 0 < (Q h b).length := by rw [eQ, List.length_append, List.length_cons]; omega
    match b, hb, hl with
    | 0, _, hl => omega
    | 1, _, hl => omega
    | 2, _, hl => omega
    | 3, _, hl => omega

theorem deq_inv {s : Sched} {Q : Nat → Nat → List Nat} {t h b : Nat} {A C : List Nat} (I : SInv s Q 16) (hh : h < 4) (hb : b < 4) (eQ : Q h b = A ++ t :: C) : SInv (deq s t h b) (putQ Q h b (A ++ C)) t ∧ DeqEff s (deq s t h b) t h b A C := by
  obtain ⟨ht, ep, en, niA, niC, nA, nC, ndA, ndC, hnod', hhd⟩ := I.links hh hb eQ
  have E := deq_eff (h := h) (b := b) ep en niA niC nA
  refine ⟨?_, E⟩
  generalize deq s t h b = s' at E
  have htQ : t ∈ Q h b := by rw [eQ]; simp
  have hkeep : ∀ x, x ≠ t → (s'.tk x).st = (s.tk x).st ∧ (s'.tk x).home = (s.tk x).home ∧ (s'.tk x).band = (s.tk x).band := fun x hx => by rw [E.tk x, if_neg hx]; exact ⟨rfl, rfl, rfl⟩
  have hsub : ∀ x, x ∈ A ++ C → x ∈ Q h b ∧ x ≠ t := fun x hx => by
    rw [eQ]
    refine ⟨?_, fun e => ?_⟩
    · simp only [List.mem_append, List.mem_cons] at hx ⊢
      rcases hx with q | q
      · exact .inl q
      · exact .inr (.inr q)
    · rw [e] at hx
      rcases List.mem_append.1 hx with q | q
      · exact niA q
      · exact niC q
  have hfar : ∀ x, x ≠ t → x ∉ A ++ C → s'.tk x = s.tk x := fun x hx hq => by
    have h1 : ¬ (hdOr C = x) := by
      match C, hq with
      | [], _ => simp only [hdOr]; omega
      | c :: C, hq => intro e; have : c = x := by simp only [hdOr] at e; omega
                      exact hq (by simp [this])
    have h2 : ¬ (laOr A = x) := by
      rcases list_end A with rfl | ⟨A', q, rfl⟩
      · rw [laOr_nil]; omega
      · rw [laOr_snoc]
        intro e
        have : q = x := by omega
        exact hq (by simp [this])
    rw [E.tk x, if_neg hx]
    simp [h1, h2]
  refine ⟨fun c k hc hk => ?_, fun c k => ?_, fun c k x hx => ?_, fun x hx hxt hst => ?_, fun c hc => ?_, fun x hx hxt hst => ?_, fun x hx hxt => ?_, fun c hc => ?_, fun c hc => ?_⟩
  · by_cases e : c = h ∧ k = b
    · obtain ⟨rfl, rfl⟩ := e
      rw [putQ_same]
      have D := I.dll c k hc hk
      rw [eQ] at D
      refine dll_delete D (fun x hx => ?_) (fun x hx => ?_) nA nC ndA ndC ?_ ?_
      · show (s'.tk x).prev = _
        rw [E.tk x, if_neg (hsub x hx).2]
      · show (s'.tk x).next = _
        rw [E.tk x, if_neg (hsub x hx).2]
      · rw [E.hd]; simp
      · rw [E.tl]; simp
    · rw [putQ_other _ _ e, E.hd, E.tl, if_neg (fun q => e ⟨q.1, q.2.1⟩), if_neg (fun q => e ⟨q.1, q.2.1⟩)]
      refine seg_congr _ _ _ _ _ (fun x hx => ?_) (I.dll c k hc hk)
      rw [hfar x (fun q => e (I.apart (q ▸ hx) htQ)) (fun q => e (I.apart hx (hsub x q).1))]
      exact ⟨rfl, rfl⟩
  · by_cases e : c = h ∧ k = b
    · obtain ⟨rfl, rfl⟩ := e
      rw [putQ_same]; exact hnod'
    · rw [putQ_other _ _ e]; exact I.nod c k
  · have hx2 : x ∈ Q c k ∧ x ≠ t := by
      by_cases e : c = h ∧ k = b
      · obtain ⟨rfl, rfl⟩ := e
        rw [putQ_same] at hx
        exact hsub x hx
      · rw [putQ_other _ _ e] at hx
        exact ⟨hx, fun q => e (I.apart (q ▸ hx) htQ)⟩
    obtain ⟨a1, a2, a3, a4, a5, a6, a7⟩ := I.mem c k x hx2.1
    obtain ⟨k1, k2, k3⟩ := hkeep x hx2.2
    exact ⟨a1, a2, a3, hx2.2, k1.trans a5, k2.trans a6, k3.trans a7⟩
  · rw [(hkeep x hxt).1] at hst
    obtain ⟨c, k, hq⟩ := I.que x hx (by omega) hst
    refine ⟨c, k, ?_⟩
    by_cases e : c = h ∧ k = b
    · obtain ⟨rfl, rfl⟩ := e
      rw [putQ_same]
      rw [eQ] at hq
      simp only [List.mem_append, List.mem_cons] at hq ⊢
      rcases hq with q | q | q
      · exact .inl q
      · exact absurd q hxt
      · exact .inr q
    · rw [putQ_other _ _ e]; exact hq
  · rw [E.cur]
    rcases I.cur c hc with q | ⟨p, a1, a2, a3, a4, a5⟩
    · exact .inl q
    · have hpt : p ≠ t := fun e => by
        have := (I.mem h b t htQ).2.2.2.2.1
        rw [e] at a4; omega
      exact .inr ⟨p, a1, hpt, a3, (hkeep p hpt).1.trans a4, (hkeep p hpt).2.1.trans a5⟩
  · rw [(hkeep x hxt).1] at hst
    rw [(hkeep x hxt).2.1, E.cur]
    exact I.run x hx (by omega) hst
  · rw [(hkeep x hxt).1, (hkeep x hxt).2.1, (hkeep x hxt).2.2]
    exact I.dom x hx (by omega)
  · obtain ⟨m, h1, h2, h3⟩ := I.fl c hc
    by_cases e : c = h ∧ A = [] ∧ C = []
    · obtain ⟨rfl, rfl, rfl⟩ := e
      obtain ⟨m', g1, g2, g3⟩ := bit_not h2 hb
      refine ⟨m', by rw [E.fl, if_pos ⟨rfl, rfl, rfl⟩, h1]; exact g1, g2, fun k hk => ?_⟩
      rw [g3 k hk, h3 k hk]
      by_cases ek : k = b
      · subst ek; rw [putQ_same]; simp
      · rw [putQ_other _ _ (fun q => ek q.2)]; simp [ek]
    · refine ⟨m, by rw [E.fl, if_neg e]; exact h1, h2, fun k hk => ?_⟩
      rw [h3 k hk]
      by_cases ek : c = h ∧ k = b
      · obtain ⟨rfl, rfl⟩ := ek
        rw [putQ_same, eQ]
        simp only [ne_eq, List.append_eq_nil_iff]
        constructor
        · intro _ q; exact e ⟨rfl, q.1, q.2⟩
        · intro _ q; simp at q
      · rw [putQ_other _ _ ek]
  · rw [sum4_put Q hb, E.qn]
    by_cases e : c = h
    · subst e
      rw [if_pos rfl, if_pos rfl, I.qn c hc, eQ]
      simp
      omega
    · rw [if_neg e, if_neg e]; exact I.qn c hc

/-- The task left out may be turned at will. -/
theorem SInv.hand {s s' : Sched} {Q : Nat → Nat → List Nat} {t : Nat} (I : SInv s Q t) (h1 : ∀ x, x ≠ t → s'.tk x = s.tk x) (h2 : s'.hd = s.hd) (h3 : s'.tl = s.tl) (h4 : s'.fl = s.fl) (h5 : s'.qn = s.qn) (h6 : s'.cur = s.cur) : SInv s' Q t := by
  refine ⟨fun c k hc hk => ?_, I.nod, fun c k x hx => ?_, fun x hx hxt hst => ?_, fun c hc => ?_, fun x hx hxt hst => ?_, fun x hx hxt => ?_, by rw [h4]; exact I.fl, by rw [h5]; exact I.qn⟩
  · rw [h2, h3]
    refine seg_congr _ _ _ _ _ (fun x hx => ?_) (I.dll c k hc hk)
    rw [h1 x (I.mem c k x hx).2.2.2.1]
    exact ⟨rfl, rfl⟩
  · rw [h1 x (I.mem c k x hx).2.2.2.1]
    exact I.mem c k x hx
  · rw [h1 x hxt] at hst
    exact I.que x hx hxt hst
  · rw [h6]
    rcases I.cur c hc with q | ⟨p, a1, a2, a3, a4, a5⟩
    · exact .inl q
    · exact .inr ⟨p, a1, a2, a3, by rw [h1 p a2]; exact a4, by rw [h1 p a2]; exact a5⟩
  · rw [h1 x hxt] at hst ⊢
    rw [h6]
    exact I.run x hx hxt hst
  · rw [h1 x hxt]
    exact I.dom x hx hxt
theorem SInv.close {s : Sched} {Q : Nat → Nat → List Nat} {t : Nat} (I : SInv s Q t) (h : (s.tk t).st = 0 ∨ (s.tk t).st = 1 ∧ ∃ h b : Nat, h < 4 ∧ b < 4 ∧ (s.tk t).home = h ∧ (s.tk t).band = b) : SInv s Q 16 := by
  refine ⟨I.dll, I.nod, fun c k x hx => ?_, fun x hx _ hst => ?_, fun c hc => ?_, fun x hx _ hst => ?_, fun x hx _ => ?_, I.fl, I.qn⟩
  · obtain ⟨a1, a2, a3, a4, a5, a6, a7⟩ := I.mem c k x hx
    exact ⟨a1, a2, a3, by omega, a5, a6, a7⟩
  · refine I.que x hx (fun e => ?_) hst
    subst e; rcases h with h | h <;> omega
  · rcases I.cur c hc with q | ⟨p, a1, a2, a3, a4, a5⟩
    · exact .inl q
    · exact .inr ⟨p, a1, by omega, a3, a4, a5⟩
  · refine I.run x hx (fun e => ?_) hst
    subst e; rcases h with h | h <;> omega
  · by_cases e : x = t
    · subst e
      rcases h with h | h
      · exact .inl h
      · exact .inr h.2
    · exact I.dom x hx e
theorem SInv.grab {s : Sched} {Q : Nat → Nat → List Nat} {t : Nat} (I : SInv s Q 16) (h2 : (s.tk t).st ≠ 2) (h3 : (s.tk t).st ≠ 3) : SInv s Q t := by
  refine ⟨I.dll, I.nod, fun c k x hx => ?_, fun x hx _ hst => I.que x hx (by omega) hst, fun c hc => ?_, fun x hx _ hst => I.run x hx (by omega) hst, fun x hx _ => I.dom x hx (by omega), I.fl, I.qn⟩
  · obtain ⟨a1, a2, a3, a4, a5, a6, a7⟩ := I.mem c k x hx
    exact ⟨a1, a2, a3, fun e => h2 (e ▸ a5), a5, a6, a7⟩
  · rcases I.cur c hc with q | ⟨p, a1, a2, a3, a4, a5⟩
    · exact .inl q
    · exact .inr ⟨p, a1, fun e => h3 (e ▸ a4), a3, a4, a5⟩
theorem SInv.halt {s : Sched} {Q : Nat → Nat → List Nat} {t h : Nat} (I : SInv s Q 16) (ht : t < 16) (h3 : (s.tk t).st = 3) (hh : h < 4) (eh : (s.tk t).home = h) : SInv (s.setCur h (-1)) Q t := by
  obtain ⟨c', hc', eh', ec'⟩ := I.run t ht (by omega) h3
  have e : c' = h := by omega
  subst e
  refine ⟨I.dll, I.nod, fun c k x hx => ?_, fun x hx _ hst => I.que x hx (by omega) hst, fun c hc => ?_, fun x hx hxt hst => ?_, fun x hx _ => I.dom x hx (by omega), I.fl, I.qn⟩
  · obtain ⟨a1, a2, a3, a4, a5, a6, a7⟩ := I.mem c k x hx
    refine ⟨a1, a2, a3, fun e => ?_, a5, a6, a7⟩
    subst e; omega
  · by_cases e : c = c'
    · left
      show (if c = c' then (-1 : Int) else s.cur c) = -1
      rw [if_pos e]
    · have ecur : (s.setCur c' (-1)).cur c = s.cur c := by show (if c = c' then (-1 : Int) else s.cur c) = _; rw [if_neg e]
      rw [ecur]
      rcases I.cur c hc with q | ⟨p, a1, a2, a3, a4, a5⟩
      · exact .inl q
      · refine .inr ⟨p, a1, fun q => e ?_, a3, a4, a5⟩
        subst q
        omega
  · obtain ⟨c, hc, b1, b2⟩ := I.run x hx (by omega) hst
    refine ⟨c, hc, b1, ?_⟩
    have e : c ≠ c' := fun q => by subst q; exact hxt (by omega)
    show (if c = c' then (-1 : Int) else s.cur c) = _
    rw [if_neg e]
    exact b2
theorem SInv.start {s : Sched} {Q : Nat → Nat → List Nat} {t c b : Nat} (I : SInv s Q t) (r : Row s t c b) (hcur : s.cur c = -1) : SInv ((s.pSt t 3).setCur c t) Q 16 := by
  have hne : ∀ x, x ≠ t → ((s.pSt t 3).setCur c t).tk x = s.tk x := fun x hx => by simp [Sched.setCur, Sched.pSt, Sched.setTk, hx]
  have hst : ((s.pSt t 3).setCur c t).tk t = { s.tk t with st := 3 } := by simp [Sched.setCur, Sched.pSt, Sched.setTk]
  have hc0 : ∀ k, ((s.pSt t 3).setCur c t).cur k = if k = c then (t : Int) else s.cur k := fun k => rfl
  have ht := r.ht
  refine ⟨fun c k hc hk => ?_, I.nod, fun c k x hx => ?_, fun x hx _ hq => ?_, fun k hk => ?_, fun x hx _ hq => ?_, fun x hx _ => ?_, I.fl, I.qn⟩
  · refine seg_congr _ _ _ _ _ (fun x hx => ?_) (I.dll c k hc hk)
    rw [hne x (I.mem c k x hx).2.2.2.1]
    exact ⟨rfl, rfl⟩
  · obtain ⟨a1, a2, a3, a4, a5⟩ := I.mem c k x hx
    rw [hne x a4]
    exact ⟨a1, a2, a3, by omega, a5⟩
  · by_cases e : x = t
    · subst e; rw [hst] at hq; simp at hq
    · rw [hne x e] at hq
      exact I.que x hx e hq
  · rw [hc0 k]
    by_cases e : k = c
    · subst e
      rw [if_pos rfl]
      exact .inr ⟨t, ht, by omega, rfl, by rw [hst], by rw [hst]; exact r.eh⟩
    · rw [if_neg e]
      rcases I.cur k hk with q | ⟨p, a1, a2, a3, a4, a5⟩
      · exact .inl q
      · exact .inr ⟨p, a1, by omega, a3, by rw [hne p a2]; exact a4, by rw [hne p a2]; exact a5⟩
  · by_cases e : x = t
    · subst e
      refine ⟨c, r.hh, by rw [hst]; exact r.eh, by rw [hc0, if_pos rfl]⟩
    · rw [hne x e] at hq ⊢
      obtain ⟨k, a1, a2, a3⟩ := I.run x hx e hq
      refine ⟨k, a1, a2, ?_⟩
      rw [hc0, if_neg]
      · exact a3
      · intro q; subst q; omega
  · by_cases e : x = t
    · subst e
      exact .inr ⟨c, b, r.hh, r.hb, by rw [hst]; exact r.eh, by rw [hst]; exact r.eb⟩
    · rw [hne x e]
      exact I.dom x hx e
theorem SInv.queued {s : Sched} {Q : Nat → Nat → List Nat} {t h b : Nat} (I : SInv s Q 16) (ht : t < 16) (hst : (s.tk t).st = 2) (eh : (s.tk t).home = h) (eb : (s.tk t).band = b) : ∃ A C, Q h b = A ++ t :: C := by
  obtain ⟨c, k, hq⟩ := I.que t ht (by omega) hst
  obtain ⟨_, _, _, _, _, e1, e2⟩ := I.mem c k t hq
  have h1 : c = h := by omega
  have h2 : k = b := by omega
  subst h1 h2
  obtain ⟨A, C, e⟩ := List.append_of_mem hq
  exact ⟨A, C, e⟩
/-- A task stood down. -/
theorem SInv.stand {s : Sched} {Q : Nat → Nat → List Nat} {t h b : Nat} (I : SInv s Q 16) (r : Row s t h b) :
    ((s.tk t).st = 2 → DeqPre s t h b) ∧ (∃ Q', SInv (standDown s t h b) Q' t) ∧ Row (standDown s t h b) t h b ∧ (standDown s t h b).ld = s.ld ∧ (∀ x, ((standDown s t h b).tk x).st = (s.tk x).st ∧ ((standDown s t h b).tk x).home = (s.tk x).home) := by
  refine ⟨fun h2 => ?_, ?_⟩
  · obtain ⟨A, C, e⟩ := I.queued r.ht h2 r.eh r.eb
    exact I.deqPre r.hh r.hb e
  · by_cases h2 : (s.tk t).st = 2
    · obtain ⟨A, C, e⟩ := I.queued r.ht h2 r.eh r.eb
      obtain ⟨J, E⟩ := deq_inv I r.hh r.hb e
      rw [standDown, if_pos h2]
      refine ⟨⟨_, J⟩, ⟨r.ht, r.hh, r.hb, ?_, ?_⟩, E.ld, fun x => ?_⟩
      · rw [E.tk t, if_pos rfl]; exact r.eh
      · rw [E.tk t, if_pos rfl]; exact r.eb
      · rw [E.tk x]
        by_cases ex : x = t
        · subst ex; rw [if_pos rfl]; exact ⟨rfl, rfl⟩
        · rw [if_neg ex]; exact ⟨rfl, rfl⟩
    · by_cases h3 : (s.tk t).st = 3
      · rw [standDown, if_neg h2, if_pos h3]
        exact ⟨⟨Q, I.halt r.ht h3 r.hh r.eh⟩, ⟨r.ht, r.hh, r.hb, r.eh, r.eb⟩, rfl, fun x => ⟨rfl, rfl⟩⟩
      · rw [standDown, if_neg h2, if_neg h3]
        exact ⟨⟨Q, I.grab h2 h3⟩, r, rfl, fun x => ⟨rfl, rfl⟩⟩

end Go.Proofs.Qxb6500877aGreatDoor
