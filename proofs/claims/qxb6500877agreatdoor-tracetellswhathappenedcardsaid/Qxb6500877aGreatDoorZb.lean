import Derived.Test.Qxb6500877aGreatDoorZa
import Derived.Test.Qxb6500877aGreatDoorPMe
import Derived.Test.Qxb6500877aGreatDoorAs
set_option linter.unusedVariables false
set_option linter.unusedSimpArgs false
namespace Go.Proofs.Qxb6500877aGreatDoor
open Go.RowKit

/-- What is not of the scheduler stays. -/
structure Oth (m m' : Mdl) : Prop where
  now : m'.now = m.now
  bx : m'.bx = m.bx
  ac : m'.ac = m.ac
  tm : m'.tm = m.tm
  nx : m'.nx = m.nx
theorem Oth.refl (m : Mdl) : Oth m m := ⟨rfl, rfl, rfl, rfl, rfl⟩
theorem oth_rfl {m m' : Mdl} (h1 : m'.now = m.now) (h2 : m'.bx = m.bx) (h3 : m'.ac = m.ac) (h4 : m'.tm = m.tm) (h5 : m'.nx = m.nx) : Oth m m' := ⟨h1, h2, h3, h4, h5⟩
/-- Machine and model answer alike. -/
def TG (o : OpS) (m m' : Mdl) (z co tk : Int) (r : TRes) : Prop := z = r.c ∧ co = r.co ∧ tk = (if r.c = 0 then argF 16 o.a else -1) ∧ (∃ Q', SR r.s m' Q') ∧ Oth m m' ∧ m'.st = m.st
theorem TG.no {o : OpS} {s : Sched} {m : Mdl} {Q : Nat → Nat → List Nat} (R : SR s m Q) {z : Int} (hz : z ≠ 0) : TG o m m z (-1) (-1) ⟨-1, z, s⟩ :=
  ⟨rfl, rfl, (if_neg hz).symm, ⟨Q, R⟩, Oth.refl m, rfl⟩
theorem argF_in {n : Int} {a : Int} (h : 0 ≤ a ∧ a < n) : argF n a = a := if_pos h
theorem argF_out {n : Int} {a : Int} (h : ¬ (0 ≤ a ∧ a < n)) : argF n a = -1 := if_neg h
theorem pres_rel {s : Sched} {m m' : Mdl} {Q : Nat → Nat → List Nat} {o : OpS} {z co tk : Int} {K : Nat → TRes} (R : SR s m Q) (h : OnM m o z co tk m')
    (hK : ∀ t : Nat, t < 16 → argF 16 o.a = t → (s.tk t).st ≠ 0 → Row s t (rowH s t) (rowB s t) → KindM m o t (rowH s t) z co tk m' → TG o m m' z co tk (K t)) : TG o m m' z co tk (presF s (argF 16 o.a) K) := by
  rcases h with ⟨hb, rfl, rfl, rfl, rfl⟩ | ⟨t, ea, ht, h⟩
  · rw [argF_out hb, presF, if_neg (by omega)]
    exact TG.no R (by omega)
  · have e1 : argF 16 o.a = t := by rw [argF_in (by omega), ea]
    rw [e1, presF, if_pos (by omega), Int.toNat_natCast]
    have es : (m.tk t).1 = (s.tk t).st := by rw [R.tk t ht]; rfl
    rcases h with ⟨h0, rfl, rfl, rfl, rfl⟩ | ⟨h0, c, hc, eh, k⟩
    · rw [if_pos (by omega)]
      exact TG.no R (by omega)
    · rw [if_neg (by omega)]
      have r := R.inv.rowOf ht (by omega)
      have ec : c = rowH s t := by
        have h1 := r.eh
        have h2 : (m.tk t).2.1 = (s.tk t).home := by rw [R.tk t ht]; rfl
        omega
      subst ec
      exact hK t ht e1 (by omega) r k
theorem TG.yes {o : OpS} {s' : Sched} {m m' : Mdl} {t c : Nat} {co tk : Int} (ea : argF 16 o.a = t) (h : ∃ Q', SR s' m' Q') (ec : co = c) (et : tk = t) (hm : (m'.tk t).2.1 = c) (ht : t < 16) (ho : Oth m m') (hs : m'.st = m.st) : TG o m m' 0 co tk (chF t s') := by
  obtain ⟨Q', R'⟩ := h
  refine ⟨rfl, ?_, ?_, ⟨Q', R'⟩, ho, hs⟩
  · have := R'.tk t ht
    show co = (s'.tk t).home
    have e : (m'.tk t).2.1 = (s'.tk t).home := by rw [this]; rfl
    omega
  · show tk = if (0 : Int) = 0 then argF 16 o.a else -1
    rw [if_pos rfl, ea, et]
theorem TG.same {o : OpS} {s : Sched} {m : Mdl} {t : Nat} {co tk co' : Int} {Q : Nat → Nat → List Nat} (ea : argF 16 o.a = t) (R : SR s m Q) (ec : co = co') (et : tk = t) : TG o m m 0 co tk ⟨co', 0, s⟩ :=
  ⟨rfl, ec, by show tk = if (0 : Int) = 0 then argF 16 o.a else -1; rw [if_pos rfl, ea, et], ⟨Q, R⟩, Oth.refl m, rfl⟩
theorem on_rel {s : Sched} {m m' : Mdl} {Q : Nat → Nat → List Nat} {o : OpS} {z co tk : Int} (R : SR s m Q) (hk : 11 ≤ o.kd ∧ o.kd ≤ 16) (h : OnM m o z co tk m') : TG o m m' z co tk (taskF s o) := by
  have hkd : o.kd = 11 ∨ o.kd = 12 ∨ o.kd = 13 ∨ o.kd = 14 ∨ o.kd = 15 ∨ o.kd = 16 := by omega
  have hT : ∀ t, t < 16 → (m.tk t).1 = (s.tk t).st ∧ (m.tk t).2.1 = (s.tk t).home ∧ (m.tk t).2.2 = (s.tk t).band := fun t ht => by rw [R.tk t ht]; exact ⟨rfl, rfl, rfl⟩
  rcases hkd with e | e | e | e | e | e
  · have ef : taskF s o = detachG s (argF 16 o.a) := by simp [taskF, e]
    rw [ef, detachG]
    refine pres_rel R h (fun t ht ea h0 r k => ?_)
    rcases k with ⟨_, rfl, rfl, rfl, rfl⟩ | ⟨k, _⟩ | ⟨k, _⟩ | ⟨k, _⟩ | ⟨k, _⟩ | ⟨k, _⟩ <;> try omega
    refine ⟨rfl, r.eh.symm, ?_, sr_detach R r, oth_rfl rfl rfl rfl rfl rfl, rfl⟩
    show ((t : Nat) : Int) = if (0 : Int) = 0 then argF 16 o.a else -1
    rw [if_pos rfl, ea]
  · have ef : taskF s o = readyF s (argF 16 o.a) := by simp [taskF, e]
    rw [ef, readyF]
    refine pres_rel R h (fun t ht ea h0 r k => ?_)
    rcases k with ⟨k, _⟩ | ⟨_, k⟩ | ⟨k, _⟩ | ⟨k, _⟩ | ⟨k, _⟩ | ⟨k, _⟩ <;> try omega
    have hh := hT t ht
    rcases k with ⟨h1, rfl, rfl, rfl, rfl⟩ | ⟨h1, rfl, rfl, rfl, rfl⟩
    · rw [if_neg (by omega)]
      exact TG.no R (by omega)
    · rw [if_pos (by omega)]
      refine TG.yes ea (sr_ready R r (by omega)) rfl rfl ?_ ht (oth_rfl rfl rfl rfl rfl rfl) rfl
      show (upd m.tk t (2, (m.tk t).2.1, (m.tk t).2.2) t).2.1 = _
      rw [upd_same]
      exact hh.2.1.trans r.eh
  · have ef : taskF s o = parkF s (argF 16 o.a) := by simp [taskF, e]
    rw [ef, parkF]
    refine pres_rel R h (fun t ht ea h0 r k => ?_)
    rcases k with ⟨k, _⟩ | ⟨k, _⟩ | ⟨_, k⟩ | ⟨k, _⟩ | ⟨k, _⟩ | ⟨k, _⟩ <;> try omega
    have hh := hT t ht
    rcases k with ⟨h1, rfl, rfl, rfl, rfl⟩ | ⟨h1, rfl, rfl, rfl, rfl⟩
    · rw [if_pos (by omega)]
      exact TG.no R (by omega)
    · rw [if_neg (by omega)]
      refine TG.yes ea (sr_park R r) rfl rfl ?_ ht (oth_rfl rfl rfl rfl rfl rfl) rfl
      show (upd m.tk t (1, (m.tk t).2.1, (m.tk t).2.2) t).2.1 = _
      rw [upd_same]
      exact hh.2.1.trans r.eh
  · have ef : taskF s o = yieldF s (argF 16 o.a) := by simp [taskF, e]
    rw [ef, yieldF]
    refine pres_rel R h (fun t ht ea h0 r k => ?_)
    rcases k with ⟨k, _⟩ | ⟨k, _⟩ | ⟨k, _⟩ | ⟨_, k⟩ | ⟨k, _⟩ | ⟨k, _⟩ <;> try omega
    have hh := hT t ht
    rcases k with ⟨h1, rfl, rfl, rfl, rfl⟩ | ⟨h1, rfl, rfl, rfl, rfl⟩
    · rw [if_neg (by omega)]
      exact TG.no R (by omega)
    · rw [if_pos (by omega)]
      refine TG.yes ea (sr_yield R r (by omega)) rfl rfl ?_ ht (oth_rfl rfl rfl rfl rfl rfl) rfl
      show (upd m.tk t (2, (m.tk t).2.1, (m.tk t).2.2) t).2.1 = _
      rw [upd_same]
      exact hh.2.1.trans r.eh
  · have ef : taskF s o = migrateG s (argF 16 o.a) (argF 4 o.b) := by simp [taskF, e]
    rw [ef, migrateG]
    refine pres_rel R h (fun t ht ea h0 r k => ?_)
    rcases k with ⟨k, _⟩ | ⟨k, _⟩ | ⟨k, _⟩ | ⟨k, _⟩ | ⟨_, k⟩ | ⟨k, _⟩ <;> try omega
    have hh := hT t ht
    have hr := r.eh
    rcases k with ⟨h1, rfl, rfl, rfl, rfl⟩ | ⟨d, hd, eb, rfl, rfl, rfl, k⟩
    · rw [argF_out h1, if_neg (by omega)]
      exact TG.no R (by omega)
    · have eb' : argF 4 o.b = d := by rw [argF_in (by omega), eb]
      rw [eb', if_pos (by omega), Int.toNat_natCast]
      rcases k with ⟨q, rfl⟩ | ⟨q, k⟩
      · rw [if_pos (by omega)]
        exact TG.same ea R rfl rfl
      · rw [if_neg (by omega)]
        obtain ⟨m1, m2⟩ := sr_migrate R r h0 hd
        unfold migF
        rcases k with ⟨h1, rfl⟩ | ⟨h1, rfl⟩
        · rw [if_pos (by omega)]
          refine TG.yes ea (m1 (by omega)) rfl rfl ?_ ht (oth_rfl rfl rfl rfl rfl rfl) rfl
          show (upd m.tk t ((m.tk t).1, (d : Int), (m.tk t).2.2) t).2.1 = _
          rw [upd_same]
        · rw [if_neg (by omega)]
          refine TG.yes ea (m2 (by omega)) rfl rfl ?_ ht (oth_rfl rfl rfl rfl rfl rfl) rfl
          show (upd (upd m.tk t ((m.tk t).1, (d : Int), (m.tk t).2.2)) t (2, (upd m.tk t ((m.tk t).1, (d : Int), (m.tk t).2.2) t).2.1, (upd m.tk t ((m.tk t).1, (d : Int), (m.tk t).2.2) t).2.2) t).2.1 = _
          rw [upd_same, upd_same]
  · have ef : taskF s o = bandF s (argF 16 o.a) (argF 4 o.c) := by simp [taskF, e]
    rw [ef, bandF]
    refine pres_rel R h (fun t ht ea h0 r k => ?_)
    rcases k with ⟨k, _⟩ | ⟨k, _⟩ | ⟨k, _⟩ | ⟨k, _⟩ | ⟨k, _⟩ | ⟨_, k⟩ <;> try omega
    have hh := hT t ht
    have hr := r.eh
    rcases k with ⟨h1, rfl, rfl, rfl, rfl⟩ | ⟨h1, rfl, rfl, rfl, k⟩
    · rw [argF_out h1, if_neg (by omega)]
      exact TG.no R (by omega)
    · rw [argF_in h1, if_pos h1]
      rcases k with ⟨q, rfl⟩ | ⟨q, k⟩
      · rw [if_pos (by omega)]
        exact TG.same ea R hr.symm rfl
      · rw [if_neg (by omega)]
        obtain ⟨d, hd⟩ : ∃ d : Nat, o.c = d := ⟨o.c.toNat, by omega⟩
        rw [hd, Int.toNat_natCast]
        rw [hd] at k
        obtain ⟨m1, m2⟩ := sr_band R r h0 (k := d) (by omega)
        rcases k with ⟨h1, rfl⟩ | ⟨h1, rfl⟩
        · refine TG.yes ea (m1 (by omega)) rfl rfl ?_ ht (oth_rfl rfl rfl rfl rfl rfl) rfl
          show (upd (upd m.tk t ((m.tk t).1, (m.tk t).2.1, (d : Int))) t (2, (upd m.tk t ((m.tk t).1, (m.tk t).2.1, (d : Int)) t).2.1, (upd m.tk t ((m.tk t).1, (m.tk t).2.1, (d : Int)) t).2.2) t).2.1 = _
          rw [upd_same, upd_same]
          exact hh.2.1.trans r.eh
        · refine TG.yes ea (m2 (by omega)) rfl rfl ?_ ht (oth_rfl rfl rfl rfl rfl rfl) rfl
          show (upd m.tk t ((m.tk t).1, (m.tk t).2.1, (d : Int)) t).2.1 = _
          rw [upd_same]
          exact hh.2.1.trans r.eh
theorem lightF_congr {f g : Nat → Int} : ∀ n, (∀ i, i ≤ n → f i = g i) → lightF f n = lightF g n
  | 0, _ => rfl
  | n + 1, h => by
    have e := lightF_congr n (fun i hi => h i (by omega))
    have hl := lightF_le g n
    unfold lightF
    rw [e, h (n + 1) (by omega), h (lightF g n) (by omega)]
theorem homeN_cnt {s : Sched} {m : Mdl} {c : Nat} (h : ∀ x, x < 16 → m.tk x = r3 s x) : ∀ n, n ≤ 16 → homeN m.tk (c : Int) n = ((List.range n).map (fun x => here (s.tk x) c)).sum
  | 0, _ => by simp [homeN]
  | n + 1, hn => by
    rw [List.range_succ, List.map_append, List.sum_append, ← homeN_cnt h n (by omega)]
    have e := h n (by omega)
    simp only [homeN, here, e, r3, List.map_cons, List.map_nil, List.sum_cons, List.sum_nil, Nat.add_zero]
theorem ld_rel {s : Sched} {m : Mdl} {Q : Nat → Nat → List Nat} (R : SR s m Q) (K : LInv s) {c : Nat} (hc : c < 4) : ldM m c = s.ld c := by
  rw [K c hc, ldM, homeN_cnt R.tk 16 (Nat.le_refl _)]
  rfl
theorem att_rel {s : Sched} {m m' : Mdl} {Q : Nat → Nat → List Nat} {o : OpS} {z co tk : Int} (R : SR s m Q) (K : LInv s) (hk : o.kd = 10) (h : AttM m o z co tk m') : TG o m m' z co tk (taskF s o) := by
  have hT : ∀ t, t < 16 → (m.tk t).1 = (s.tk t).st := fun t ht => by rw [R.tk t ht]; rfl
  have el : lightF (ldM m) 3 = lightF s.ld 3 := lightF_congr 3 (fun i hi => ld_rel R K (by omega))
  rw [taskF, if_pos hk, attAnyF, attAtF]
  rcases h with ⟨hb, rfl, rfl, rfl, rfl⟩ | ⟨t, ea, ht, h⟩
  · rw [argF_out hb]
    have e : ∀ K, attNew s (-1) K = ⟨-1, 5, s⟩ := fun K => by rw [attNew, if_neg (by omega)]
    rw [e, e]
    split <;> exact TG.no R (by omega)
  · have e1 : argF 16 o.a = t := by rw [argF_in (by omega), ea]
    have hs := hT t ht
    have e : ∀ K, attNew s (argF 16 o.a) K = if (s.tk t).st = 0 then K t else ⟨-1, 11, s⟩ := fun K => by rw [e1, attNew, if_pos (by omega), Int.toNat_natCast]
    rw [e, e]
    rcases h with ⟨h0, rfl, rfl, rfl, rfl⟩ | ⟨h0, h⟩
    · have hst : ¬ (s.tk t).st = 0 := by omega
      simp only [if_neg hst]
      split <;> exact TG.no R (by omega)
    · have hst : (s.tk t).st = 0 := by omega
      simp only [if_pos hst]
      rcases h with ⟨hb, rfl, rfl, rfl, rfl⟩ | ⟨hb, h⟩
      · rw [if_neg hb.1, argF_out hb.2, if_neg (by omega)]
        exact TG.no R (by omega)
      · have hin : ∀ g : Nat, g < 4 → ((o.b = -1 ∧ g = lightF (ldM m) 3) ∨ o.b = g) → (if o.b = -1 then attK s t (lightF s.ld 3) (argF 4 o.c) else if 0 ≤ argF 4 o.b ∧ argF 4 o.b < 4 then attK s t (argF 4 o.b).toNat (argF 4 o.c) else ⟨-1, 4, s⟩) = attK s t g (argF 4 o.c) := fun g hg q => by
          rcases q with ⟨q1, q2⟩ | q
          · rw [if_pos q1, q2, el]
          · rw [if_neg (by omega), argF_in (a := o.b) (by omega), if_pos (by omega), q, Int.toNat_natCast]
        have hex : ∃ g : Nat, g < 4 ∧ ((o.b = -1 ∧ g = lightF (ldM m) 3) ∨ o.b = g) := by
          by_cases q : o.b = -1
          · exact ⟨lightF (ldM m) 3, by have := lightF_le (ldM m) 3; omega, .inl ⟨q, rfl⟩⟩
          · exact ⟨o.b.toNat, by omega, .inr (by omega)⟩
        rcases h with ⟨hc, rfl, rfl, rfl, rfl⟩ | ⟨hc, g, hg, q, rfl, rfl, rfl, rfl⟩
        · obtain ⟨g, hg, q⟩ := hex
          rw [hin g hg q, argF_out hc, attK, if_neg (by omega)]
          exact TG.no R (by omega)
        · rw [hin g hg q, argF_in hc, attK, if_pos hc]
          obtain ⟨d, hd⟩ : ∃ d : Nat, o.c = d := ⟨o.c.toNat, by omega⟩
          rw [hd, Int.toNat_natCast]
          refine ⟨rfl, rfl, ?_, sr_attach R ht (by omega) hg (by omega), oth_rfl rfl rfl rfl rfl rfl, rfl⟩
          show ((t : Nat) : Int) = if (0 : Int) = 0 then argF 16 o.a else -1
          rw [if_pos rfl, e1]
theorem cur_is {s : Sched} {m : Mdl} {Q : Nat → Nat → List Nat} {c : Nat} {was : Int} (R : SR s m Q) (hc : c < 4) (h : RunIs m.tk c was) : was = s.cur c := by
  rcases h with ⟨t, ht, h3, hh, ew⟩ | ⟨ew, hn⟩
  · rw [R.tk t ht] at h3 hh
    obtain ⟨d, hd, e1, e2⟩ := R.inv.run t ht (by omega) h3
    have hh' : (s.tk t).home = c := hh
    have : d = c := by omega
    subst this
    omega
  · rcases R.inv.cur c hc with q | ⟨p, a1, a2, a3, a4, a5⟩
    · omega
    · exact absurd ⟨by rw [R.tk p a1]; exact a4, by rw [R.tk p a1]; exact a5⟩ (hn p a1)
theorem choF_first (tk : Nat → Int × Int × Int) (k : Int) (x : Nat) : ∀ (l : List Nat) (z : Nat) (C : List Nat), (∀ u ∈ z :: l, k ≤ (tk u).2.2) → (z :: l).filter (fun u => decide ((tk u).2.2 = k)) = x :: C → choF tk z l = x
  | [], z, C, hle, h => by
    rw [List.filter_cons] at h
    split at h
    · injection h
    · simp at h
  | t :: l, z, C, hle, h => by
    have hz := hle z (by simp)
    have ht := hle t (by simp)
    have hl : ∀ u ∈ l, k ≤ (tk u).2.2 := fun u hu => hle u (by simp [hu])
    unfold choF
    by_cases q : (tk t).2.2 < (tk z).2.2
    · rw [if_pos q]
      rw [List.filter_cons, if_neg (by simp; omega)] at h
      exact choF_first tk k x l t C (fun u hu => hle u (List.mem_cons_of_mem _ hu)) h
    · rw [if_neg q]
      have hl' : ∀ u ∈ z :: l, k ≤ (tk u).2.2 := fun u hu => by
        rcases List.mem_cons.1 hu with e | e
        · rw [e]; exact hz
        · exact hl u e
      by_cases qz : (tk z).2.2 = k
      · rw [List.filter_cons, if_pos (by simp [qz])] at h
        injection h with e1 e2
        subst e1
        exact choF_first tk k z l z _ hl' (by rw [List.filter_cons, if_pos (by simp [qz])])
      · rw [List.filter_cons, if_neg (by simp [qz]), List.filter_cons, if_neg (by simp; omega)] at h
        exact choF_first tk k x l z C hl' (by rw [List.filter_cons, if_neg (by simp [qz])]; exact h)
theorem mpick_nil {m : Mdl} {c : Nat} {v : Int} (h : (m.stop c v).wt c = []) : m.pick c v = ⟨1, -1, m.stop c v⟩ := by unfold Mdl.pick; rw [h]
theorem mpick_cons {m : Mdl} {c y : Nat} {v : Int} {l : List Nat} (h : (m.stop c v).wt c = y :: l) : m.pick c v = ⟨0, (choF (m.stop c v).tk y (y :: l) : Nat), (((m.stop c v).leave (choF (m.stop c v).tk y (y :: l)) c).setTk (choF (m.stop c v).tk y (y :: l)) (3, ((m.stop c v).tk (choF (m.stop c v).tk y (y :: l))).2.1, ((m.stop c v).tk (choF (m.stop c v).tk y (y :: l))).2.2)).inc (c * 7)⟩ := by unfold Mdl.pick; rw [h]
theorem SR.bands {s : Sched} {m : Mdl} {Q : Nat → Nat → List Nat} (R : SR s m Q) {c b : Nat} (hc : c < 4) (hb : b < 4) : (m.wt c).filter (fun u => decide ((m.tk u).2.2 = (b : Int))) = Q c b := by
  obtain ⟨bd, h1, h2⟩ := R.wr
  rw [← h2 c b hc hb]
  refine List.filter_congr (fun x hx => ?_)
  have hm := R.inv.mem c (bd x) x (by rw [← h2 c _ hc (h1 c hc x hx)]; simp [hx])
  have e : (m.tk x).2.2 = (bd x : Int) := by rw [R.tk x hm.2.2.1]; exact hm.2.2.2.2.2.2
  rw [e]
  by_cases q : bd x = b
  · simp [q]
  · have : ¬ ((bd x : Int) = (b : Int)) := by omega
    simp [q, this]
theorem SR.bandle {s : Sched} {m : Mdl} {Q : Nat → Nat → List Nat} (R : SR s m Q) {c k : Nat} (hc : c < 4) (h : ∀ b, b < k → Q c b = []) : ∀ u ∈ m.wt c, (k : Int) ≤ (m.tk u).2.2 := fun u hu => by
  obtain ⟨b, hb, hq⟩ := R.wr.sub hc hu
  have hm := R.inv.mem c b u hq
  have e : (m.tk u).2.2 = (b : Int) := by rw [R.tk u hm.2.2.1]; exact hm.2.2.2.2.2.2
  have : k ≤ b := Nat.le_of_not_lt (fun q => by rw [h b q] at hq; simp at hq)
  omega
theorem sr_stop {s : Sched} {m : Mdl} {Q : Nat → Nat → List Nat} {c : Nat} (R : SR s m Q) (hc : c < 4) (hr : s.cur c ≠ -1 ∨ 0 < s.qn c) : ∃ Q1, SR (pick1 s c) (m.stop c (s.cur c)) Q1 ∧ (pick1 s c).cur c = -1 ∧ ∃ b, b < 4 ∧ Q1 c b ≠ [] := by
  have I := R.inv
  rcases I.cur c hc with q | ⟨p, a1, a2, a3, a4, a5⟩
  · have e1 : pick1 s c = s := by rw [pick1, if_pos q]
    have e2 : m.stop c (s.cur c) = m := by rw [Mdl.stop, if_pos q]
    rw [e1, e2]
    refine ⟨Q, R, q, ?_⟩
    have hn : 0 < s.qn c := by
      rcases hr with h | h
      · exact absurd q h
      · exact h
    rw [I.qn c hc] at hn
    by_cases h0 : Q c 0 = []
    · by_cases h1 : Q c 1 = []
      · by_cases h2 : Q c 2 = []
        · by_cases h3 : Q c 3 = []
          · rw [h0, h1, h2, h3] at hn
            simp at hn
          · exact ⟨3, by omega, h3⟩
        · exact ⟨2, by omega, h2⟩
      · exact ⟨1, by omega, h1⟩
    · exact ⟨0, by omega, h0⟩
  · have hne : ¬ (s.cur c = -1) := by omega
    have ep : (s.cur c).toNat = p := by omega
    have r := I.rowOf a1 (t := p) (by omega)
    have eh : rowH s p = c := by rw [rowH, a5]; rfl
    rw [eh] at r
    have e1 : pick1 s c = enq (standDown s p c (rowB s p)) p c (rowB s p) := by
      rw [pick1, if_neg hne, ep, standDown, if_neg (by omega), if_pos a4]
    have e2 : m.stop c (s.cur c) = (m.join p c).inc (c * 7 + 1) := by rw [Mdl.stop, if_neg hne, ep]
    obtain ⟨Q1, R1⟩ := sr_yield R r a4
    have J := I.halt a1 a4 hc a5
    have E := enq_eff (J.tail hc r.hb) (J.notin c (rowB s p))
    have hs : standDown s p c (rowB s p) = s.setCur c (-1) := by rw [standDown, if_neg (by omega), if_pos a4]
    have hx : p ∈ (m.join p c).wt c := by
      show p ∈ upd m.wt c (m.wt c ++ [p]) c
      rw [upd_same]; simp
    obtain ⟨b, hb, hq⟩ := R1.wr.sub hc hx
    rw [e1, e2]
    refine ⟨Q1, ⟨R1.inv, R1.tk, R1.wr, R1.bw⟩, ?_, b, hb, fun z => ?_⟩
    · rw [hs, E.cur]; simp [Sched.setCur]
    · rw [z] at hq; simp at hq
theorem pick_rel {σ : Sg} {m : Mdl} {Q : Nat → Nat → List Nat} {c : Nat} {was : Int} (R : SR σ.s m Q) (hst : ∀ j, j < 28 → m.st j = σ.st j) (hc : c < 4) (hrun : RunIs m.tk c was) :
    (m.pick c was).c = (pickRes σ c).c ∧ (m.pick c was).tk = (pickRes σ c).tk ∧ (∃ Q', SR (pickRes σ c).σ.s (m.pick c was).m Q') ∧ Oth m (m.pick c was).m ∧ ∀ j, j < 28 → (m.pick c was).m.st j = (pickRes σ c).σ.st j := by
  have ew := cur_is R hc hrun
  subst ew
  by_cases hr : σ.s.cur c ≠ -1 ∨ 0 < σ.s.qn c
  · obtain ⟨Q1, R1, c1, q1⟩ := sr_stop R hc hr
    obtain ⟨x, k, C, hx, k4, hk, hhd, eQ, hlow, J, h3, ho⟩ := R1.inv.serve2 hc c1 q1
    have ex : pickX σ.s c = x := by
      unfold pickX
      rw [hk, hhd]
      rfl
    have es : pickS σ.s c = ((deq (pick1 σ.s c) x c k).pSt x 3).setCur c x := by
      unfold pickS
      rw [ex, hk]
    obtain ⟨J', E⟩ := deq_inv R1.inv hc k4 (A := []) eQ
    have hxw : x ∈ (m.stop c (σ.s.cur c)).wt c := R1.wr.sup hc k4 (by rw [eQ]; simp)
    obtain ⟨y, l, el⟩ := List.exists_cons_of_ne_nil (List.ne_nil_of_mem hxw)
    have hle := R1.bandle hc hlow
    have hfl := R1.bands hc k4
    rw [el] at hle hfl
    rw [eQ] at hfl
    have hcho : choF (m.stop c (σ.s.cur c)).tk y (y :: l) = x := by
      have := choF_first (m.stop c (σ.s.cur c)).tk k x l y C hle hfl
      unfold choF
      rw [if_neg (by omega)]
      exact this
    rw [mpick_cons el, hcho, pickRes, if_pos hr]
    have hm1 : Oth m (m.stop c (σ.s.cur c)) := by
      unfold Mdl.stop
      split
      · exact Oth.refl m
      · exact oth_rfl rfl rfl rfl rfl rfl
    refine ⟨rfl, by rw [ex], ⟨putQ Q1 c k C, ?_, fun u hu => ?_, ?_, bw_upd R1.bw (R1.bw x hx)⟩, ⟨hm1.now, hm1.bx, hm1.ac, hm1.tm, hm1.nx⟩, fun j hj => ?_⟩
    · have e : ((if σ.s.cur c = -1 then σ.put (pickS σ.s c) else (σ.put (pickS σ.s c)).inc (c * 7 + 1)).inc (c * 7)).s = pickS σ.s c := by split <;> rfl
      rw [e, es]
      exact J
    · have e : ((if σ.s.cur c = -1 then σ.put (pickS σ.s c) else (σ.put (pickS σ.s c)).inc (c * 7 + 1)).inc (c * 7)).s = pickS σ.s c := by split <;> rfl
      show upd (m.stop c (σ.s.cur c)).tk x (3, ((m.stop c (σ.s.cur c)).tk x).2.1, ((m.stop c (σ.s.cur c)).tk x).2.2) u = _
      rw [e, es]
      by_cases q : u = x
      · subst q
        rw [upd_same, R1.tk u hu]
        have ed : (((deq (pick1 σ.s c) u c k).pSt u 3).setCur c u).tk u = { (deq (pick1 σ.s c) u c k).tk u with st := 3 } := by simp [Sched.pSt, Sched.setTk, Sched.setCur]
        rw [r3, r3, ed, E.tk u, if_pos rfl]
      · rw [upd_other _ _ q, R1.tk u hu, ho u q]
    · have := R1.wr.leave hc k4 (A := []) (C := C) (t := x) eQ (by simp)
      exact this
    · have e0 : ∀ j, j < 28 → (m.stop c (σ.s.cur c)).st j = (if σ.s.cur c = -1 then σ.put (pickS σ.s c) else (σ.put (pickS σ.s c)).inc (c * 7 + 1)).st j := fun j hj => by
        unfold Mdl.stop
        split
        · exact hst j hj
        · show upd m.st (c * 7 + 1) (inc64 (m.st (c * 7 + 1))) j = if j = c * 7 + 1 then inc64 (σ.st (c * 7 + 1)) else σ.st j
          unfold upd
          split
          · rw [hst _ (by omega)]
          · exact hst j hj
      show upd (m.stop c (σ.s.cur c)).st (c * 7) (inc64 ((m.stop c (σ.s.cur c)).st (c * 7))) j = if j = c * 7 then inc64 ((if σ.s.cur c = -1 then σ.put (pickS σ.s c) else (σ.put (pickS σ.s c)).inc (c * 7 + 1)).st (c * 7)) else (if σ.s.cur c = -1 then σ.put (pickS σ.s c) else (σ.put (pickS σ.s c)).inc (c * 7 + 1)).st j
      unfold upd
      split
      · rw [e0 _ (by omega)]
      · exact e0 j hj
  · have hcur : σ.s.cur c = -1 := by
      by_cases q : σ.s.cur c = -1
      · exact q
      · exact absurd (.inl q) hr
    have hqn : ¬ 0 < σ.s.qn c := fun q => hr (.inr q)
    have hw : m.wt c = [] := by
      refine List.eq_nil_iff_forall_not_mem.2 (fun x hx => ?_)
      obtain ⟨b, hb, hq⟩ := R.wr.sub hc hx
      have hn := R.inv.qn c hc
      have hp : 0 < (Q c b).length := List.length_pos_of_mem hq
      have : b = 0 ∨ b = 1 ∨ b = 2 ∨ b = 3 := by omega
      rcases this with e | e | e | e <;> subst e <;> omega
    have e2 : m.stop c (σ.s.cur c) = m := by rw [Mdl.stop, if_pos hcur]
    rw [mpick_nil (by rw [e2]; exact hw), e2, pickRes, if_neg hr]
    exact ⟨rfl, rfl, ⟨Q, R⟩, Oth.refl m, hst⟩
end Go.Proofs.Qxb6500877aGreatDoor
