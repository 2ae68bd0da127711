import Derived.Test.Qxb6500877aGreatDoorSk
set_option linter.unusedVariables false
set_option linter.unusedSimpArgs false
namespace Go.Proofs.Qxb6500877aGreatDoor
open Go.RowKit

/-- The band and the home of a task, as numbers. -/
def rowH (s : Sched) (x : Nat) : Nat := (s.tk x).home.toNat
def rowB (s : Sched) (x : Nat) : Nat := (s.tk x).band.toNat
theorem Row.rh {s : Sched} {t h b : Nat} (r : Row s t h b) : rowH s t = h := by rw [rowH, r.eh]; rfl
theorem Row.rb {s : Sched} {t h b : Nat} (r : Row s t h b) : rowB s t = b := by rw [rowB, r.eb]; rfl
theorem ready_s {w : World} {B : Nat} {s : Sched} {t : Nat} (H : SchedAt w B s) (K : SOk s) (ht : t < 16) (hst : (s.tk t).st = 1) :
    Calls Tryz.prog 176 #[.pointer (some ⟨B, 6596, none⟩), .int .i64 (t : Int)] w fun e w' => e = .returned (.tuple #[]) ∧ (SchedAt w' B (enq s t (rowH s t) (rowB s t)) ∧ SOk (enq s t (rowH s t) (rowB s t))) ∧ Mut B 6596 6724 w w' := by
  obtain ⟨h, b, r⟩ := K.row ht (by omega)
  rw [r.rh, r.rb]
  obtain ⟨⟨Q, I⟩, L⟩ := K
  have J := I.grab (t := t) (by omega) (by omega)
  refine (enqueue_any H r (J.enqPre r.hh r.hb)).mono ?_
  rintro e w' ⟨rfl, H', M⟩
  exact ⟨rfl, ⟨H', ⟨_, enq_inv J r⟩, L.same ((enq_eff (J.tail r.hh r.hb) (J.notin h b)).same (by omega))⟩, M⟩
theorem park_s {w : World} {B : Nat} {s : Sched} {t : Nat} (H : SchedAt w B s) (K : SOk s) (ht : t < 16) (hst : (s.tk t).st ≠ 0) :
    Calls Tryz.prog 190 #[.pointer (some ⟨B, 6596, none⟩), .int .i64 (t : Int)] w fun e w' => e = .returned (.tuple #[]) ∧ (SchedAt w' B ((standDown s t (rowH s t) (rowB s t)).pSt t 1) ∧ SOk ((standDown s t (rowH s t) (rowB s t)).pSt t 1)) ∧ Mut B 6596 6724 w w' := by
  obtain ⟨h, b, r⟩ := K.row ht hst
  rw [r.rh, r.rb]
  obtain ⟨⟨Q, I⟩, L⟩ := K
  have S := same_stand I r
  obtain ⟨p1, ⟨Q', J⟩, r1, _, h2⟩ := I.stand r
  refine (park_any H r p1).mono ?_
  rintro e w' ⟨rfl, H', M⟩
  refine ⟨rfl, ⟨H', ⟨Q', ?_⟩, L.same (S.trans (same_st (by rw [(h2 t).1]; exact hst) (by omega)))⟩, M⟩
  have J2 := J.hand (s' := (standDown s t h b).pSt t 1) (fun x hx => by simp [Sched.pSt, Sched.setTk, hx]) rfl rfl rfl rfl rfl
  refine J2.close (.inr ⟨by simp [Sched.pSt, Sched.setTk], h, b, r.hh, r.hb, ?_, ?_⟩)
  · simp [Sched.pSt, Sched.setTk]; exact r1.eh
  · simp [Sched.pSt, Sched.setTk]; exact r1.eb
theorem yield_s {w : World} {B : Nat} {s : Sched} {t : Nat} (H : SchedAt w B s) (K : SOk s) (ht : t < 16) (hst : (s.tk t).st ≠ 0) :
    Calls Tryz.prog 191 #[.pointer (some ⟨B, 6596, none⟩), .int .i64 (t : Int)] w fun e w' => e = .returned (.tuple #[]) ∧ (SchedAt w' B (enq (standDown s t (rowH s t) (rowB s t)) t (rowH s t) (rowB s t)) ∧ SOk (enq (standDown s t (rowH s t) (rowB s t)) t (rowH s t) (rowB s t))) ∧ Mut B 6596 6724 w w' := by
  obtain ⟨h, b, r⟩ := K.row ht hst
  rw [r.rh, r.rb]
  obtain ⟨⟨Q, I⟩, L⟩ := K
  have S := same_stand I r
  obtain ⟨p1, ⟨Q', J⟩, r1, _, h2⟩ := I.stand r
  refine (yield_any H r p1 r1 (J.enqPre r.hh r.hb)).mono ?_
  rintro e w' ⟨rfl, H', M⟩
  exact ⟨rfl, ⟨H', ⟨_, enq_inv J r1⟩, L.same (S.trans ((enq_eff (J.tail r.hh r.hb) (J.notin h b)).same (by rw [(h2 t).1]; exact hst)))⟩, M⟩
theorem setBand_s {w : World} {B : Nat} {s : Sched} {t k : Nat} (H : SchedAt w B s) (K : SOk s) (ht : t < 16) (hst : (s.tk t).st ≠ 0) (hk : k < 4) :
    Calls Tryz.prog 194 #[.pointer (some ⟨B, 6596, none⟩), .int .i64 (t : Int), .int .i64 (k : Int)] w fun e w' => e = .returned (.tuple #[]) ∧ (SchedAt w' B (setBandF s t (rowH s t) (rowB s t) k) ∧ SOk (setBandF s t (rowH s t) (rowB s t) k)) ∧ Mut B 6596 6724 w w' := by
  obtain ⟨h, b, r⟩ := K.row ht hst
  rw [r.rh, r.rb]
  obtain ⟨⟨Q, I⟩, L⟩ := K
  by_cases h2 : (s.tk t).st = 2
  · obtain ⟨A, C, eQ⟩ := I.queued ht h2 r.eh r.eb
    obtain ⟨J, E⟩ := deq_inv I r.hh r.hb eQ
    have S0 : Same s (deq s t h b) := by
      have := same_stand I r
      rw [standDown, if_pos h2] at this
      exact this
    have J2 := J.hand (s' := (deq s t h b).pBand t k) (fun x hx => by simp [Sched.pBand, Sched.setTk, hx]) rfl rfl rfl rfl rfl
    have r2 : Row ((deq s t h b).pBand t k) t h k := ⟨ht, r.hh, hk, by simp [Sched.pBand, Sched.setTk]; rw [E.tk t, if_pos rfl]; exact r.eh, by simp [Sched.pBand, Sched.setTk]⟩
    refine (setBand_any H r hk (fun _ => ⟨I.deqPre r.hh r.hb eQ, r2, J2.enqPre r.hh hk⟩)).mono ?_
    rintro e w' ⟨rfl, H', M⟩
    rw [setBandF, if_pos h2] at H' ⊢
    refine ⟨rfl, ⟨H', ⟨_, enq_inv J2 r2⟩, L.same ((S0.trans same_band).trans ((enq_eff (J2.tail r.hh hk) (J2.notin h k)).same ?_))⟩, M⟩
    have := (S0.trans (same_band (t := t) (v := k))).tk t
    exact fun q => hst (this.1.1 q)
  · refine (setBand_any H r hk (fun q => absurd q h2)).mono ?_
    rintro e w' ⟨rfl, H', M⟩
    rw [setBandF, if_neg h2] at H' ⊢
    refine ⟨rfl, ⟨H', ⟨Q, ?_⟩, L.same same_band⟩, M⟩
    have hne : ∀ x, ((s.pBand t k).tk x).st = (s.tk x).st ∧ ((s.pBand t k).tk x).home = (s.tk x).home ∧ ((s.pBand t k).tk x).prev = (s.tk x).prev ∧ ((s.pBand t k).tk x).next = (s.tk x).next := fun x => by
      by_cases e : x = t
      · subst e; simp [Sched.pBand, Sched.setTk]
      · simp [Sched.pBand, Sched.setTk, e]
    refine ⟨fun c d hc hd => seg_congr _ _ _ _ _ (fun x _ => ⟨(hne x).2.2.1, (hne x).2.2.2⟩) (I.dll c d hc hd), I.nod, fun c d x hx => ?_, fun x hx hxt q => I.que x hx hxt (by rw [← (hne x).1]; exact q), fun c hc => ?_, fun x hx hxt q => ?_, fun x hx hxt => ?_, I.fl, I.qn⟩
    · have hm := I.mem c d x hx
      have hxt : x ≠ t := fun q => by subst q; exact h2 hm.2.2.2.2.1
      have : (s.pBand t k).tk x = s.tk x := by simp [Sched.pBand, Sched.setTk, hxt]
      rw [this]; exact hm
    · rcases I.cur c hc with q | ⟨p, a1, a2, a3, a4, a5⟩
      · exact .inl q
      · exact .inr ⟨p, a1, a2, a3, (hne p).1.trans a4, (hne p).2.1.trans a5⟩
    · rw [(hne x).1] at q
      rw [(hne x).2.1]
      exact I.run x hx hxt q
    · by_cases e : x = t
      · subst e
        exact .inr ⟨h, k, r.hh, hk, (hne x).2.1.trans r.eh, by simp [Sched.pBand, Sched.setTk]⟩
      · have : (s.pBand t k).tk x = s.tk x := by simp [Sched.pBand, Sched.setTk, e]
        rw [this]; exact I.dom x hx hxt
theorem attach_s {w : World} {B : Nat} {s : Sched} {t h b : Nat} (H : SchedAt w B s) (K : SOk s) (ht : t < 16) (hst : (s.tk t).st = 0) (hh : h < 4) (hb : b < 4) :
    Calls Tryz.prog 212 #[.pointer (some ⟨B, 6596, none⟩), .int .i64 (t : Int), .int .i64 (h : Int), .int .i64 (b : Int)] w fun e w' => e = .returned (.tuple #[]) ∧ (SchedAt w' B (attachF s t h b) ∧ SOk (attachF s t h b)) ∧ Mut B 6596 6724 w w' := by
  refine (attach_any H ht hh hb (K.ldb hh)).mono ?_
  rintro e w' ⟨rfl, H', M⟩
  refine ⟨rfl, ⟨H', ?_⟩, M⟩
  obtain ⟨⟨Q, I⟩, L⟩ := K
  have J := I.grab (t := t) (by omega) (by omega)
  have hne : ∀ x, x ≠ t → (attachF s t h b).tk x = s.tk x := fun x hx => by simp [attachF, Sched.pSt, Sched.pHome, Sched.pBand, Sched.pPrev, Sched.pNext, Sched.setTk, Sched.setLd, hx]
  have hself : (attachF s t h b).tk t = ⟨1, h, b, -1, -1⟩ := by simp [attachF, Sched.pSt, Sched.pHome, Sched.pBand, Sched.pPrev, Sched.pNext, Sched.setTk, Sched.setLd]
  refine ⟨⟨Q, (J.hand hne rfl rfl rfl rfl rfl).close (.inr ⟨by rw [hself], h, b, hh, hb, by rw [hself], by rw [hself]⟩)⟩, fun c hc => ?_⟩
  have h1 := cnt_at (s := s) (s' := attachF s t h b) (c := c) ht (fun x hx => by rw [hne x hx])
  have h2 : here (s.tk t) c = 0 := by simp [here, hst]
  have h3 := L c hc
  have e1 : (attachF s t h b).ld c = if c = h then s.ld h + 1 else s.ld c := rfl
  rw [e1]
  by_cases e : c = h
  · subst e
    have h4 : here ((attachF s t c b).tk t) c = 1 := by rw [hself]; simp [here]
    rw [if_pos rfl]
    omega
  · have h4 : here ((attachF s t h b).tk t) c = 0 := by rw [hself]; simp [here]; omega
    rw [if_neg e]
    omega
theorem detach_s {w : World} {B : Nat} {s : Sched} {t : Nat} (H : SchedAt w B s) (K : SOk s) (ht : t < 16) (hst : (s.tk t).st ≠ 0) (V : Vac w) (hB : 0 < B) :
    Calls Tryz.prog 188 #[.pointer (some ⟨B, 6596, none⟩), .int .i64 (t : Int)] w fun e w' => e = .returned (.tuple #[]) ∧ (SchedAt w' B (vacate ((standDown s t (rowH s t) (rowB s t)).setLd (rowH s t) ((standDown s t (rowH s t) (rowB s t)).ld (rowH s t) - 1)) t) ∧ SOk (vacate ((standDown s t (rowH s t) (rowB s t)).setLd (rowH s t) ((standDown s t (rowH s t) (rowB s t)).ld (rowH s t) - 1)) t)) ∧ Mut B 6596 6724 w w' := by
  obtain ⟨h, b, r⟩ := K.row ht hst
  rw [r.rh, r.rb]
  obtain ⟨⟨Q, I⟩, L⟩ := K
  have S := same_stand I r
  obtain ⟨p1, ⟨Q', J⟩, r1, hl, h2⟩ := I.stand r
  have L1 := L.same S
  have hpos := cnt_pos (s := standDown s t h b) (c := h) ht (by rw [(h2 t).1]; exact hst) r1.eh
  have hld := L1 h r.hh
  have hle := cnt_le (standDown s t h b) h
  refine (detach_any H r p1 r1 (by omega) V hB).mono ?_
  rintro e w' ⟨rfl, H', M⟩
  have H2 : SchedAt w' B (vacate ((standDown s t h b).setLd h ((standDown s t h b).ld h - 1)) t) := H'
  clear H'
  refine ⟨rfl, ⟨H2, ?_⟩, M⟩
  clear H2
  generalize standDown s t h b = s1 at *
  have hne : ∀ x, x ≠ t → (vacate (s1.setLd h (s1.ld h - 1)) t).tk x = s1.tk x := fun x hx => by simp [vacate, Sched.pSt, Sched.pHome, Sched.pBand, Sched.pPrev, Sched.pNext, Sched.setTk, Sched.setLd, hx]
  have hself : (vacate (s1.setLd h (s1.ld h - 1)) t).tk t = ⟨0, -1, 0, -1, -1⟩ := by simp [vacate, Sched.pSt, Sched.pHome, Sched.pBand, Sched.pPrev, Sched.pNext, Sched.setTk, Sched.setLd]
  refine ⟨⟨Q', (J.hand hne rfl rfl rfl rfl rfl).close (.inl (by rw [hself]))⟩, fun c hc => ?_⟩
  have h1 := cnt_at (s := s1) (s' := vacate (s1.setLd h (s1.ld h - 1)) t) (c := c) ht (fun x hx => by rw [hne x hx])
  have h3 : here ((vacate (s1.setLd h (s1.ld h - 1)) t).tk t) c = 0 := by rw [hself]; simp [here]
  have h4 := L1 c hc
  have e1 : (vacate (s1.setLd h (s1.ld h - 1)) t).ld c = if c = h then s1.ld h - 1 else s1.ld c := rfl
  rw [e1]
  have hs0 : (s1.tk t).st ≠ 0 := by rw [(h2 t).1]; exact hst
  by_cases e : c = h
  · subst e
    have h5 : here (s1.tk t) c = 1 := by simp [here, hs0, r1.eh]
    rw [if_pos rfl]
    omega
  · have h5 : here (s1.tk t) c = 0 := by
      have := r1.eh
      simp [here, hs0]; omega
    rw [if_neg e]
    omega
def migF (s : Sched) (t g : Nat) : Sched := if (s.tk t).st = 1 then migMid (standDown s t (rowH s t) (rowB s t)) t (rowH s t) g else enq (migMid (standDown s t (rowH s t) (rowB s t)) t (rowH s t) g) t g (rowB s t)
theorem migrate_s {w : World} {B : Nat} {s : Sched} {t g : Nat} (H : SchedAt w B s) (K : SOk s) (ht : t < 16) (hst : (s.tk t).st ≠ 0) (hg : g < 4) (hgh : (s.tk t).home ≠ g) :
    Calls Tryz.prog 192 #[.pointer (some ⟨B, 6596, none⟩), .int .i64 (t : Int), .int .i64 (g : Int)] w fun e w' => e = .returned (.tuple #[]) ∧ (SchedAt w' B (migF s t g) ∧ SOk (migF s t g)) ∧ Mut B 6596 6724 w w' := by
  obtain ⟨h, b, r⟩ := K.row ht hst
  obtain ⟨⟨Q, I⟩, L⟩ := K
  have S := same_stand I r
  obtain ⟨p1, ⟨Q', J⟩, r1, hl, h2⟩ := I.stand r
  have L1 := L.same S
  have hpos := cnt_pos (s := standDown s t h b) (c := h) ht (by rw [(h2 t).1]; exact hst) r1.eh
  have hld := L1 h r.hh
  have hld2 := L1 g hg
  have hle := cnt_le (standDown s t h b) h
  have hle2 := cnt_le (standDown s t h b) g
  have hne0 : g ≠ h := fun q => hgh (by rw [q]; exact r.eh)
  have hq : (s.tk t).st = 1 ∨ (s.tk t).st ≠ 1 := by omega
  have e0 := h2 t
  have key : (∃ Q'', SInv (migMid (standDown s t h b) t h g) Q'' t) ∧ LInv (migMid (standDown s t h b) t h g) ∧ Row (migMid (standDown s t h b) t h g) t g b ∧ ((migMid (standDown s t h b) t h g).tk t).st = (s.tk t).st := by
    generalize standDown s t h b = s1 at *
    have hne : ∀ x, x ≠ t → (migMid s1 t h g).tk x = s1.tk x := fun x hx => by simp [migMid, Sched.pHome, Sched.setTk, Sched.setLd, hx]
    have hself : (migMid s1 t h g).tk t = { s1.tk t with home := g } := by simp [migMid, Sched.pHome, Sched.setTk, Sched.setLd]
    refine ⟨⟨Q', J.hand hne rfl rfl rfl rfl rfl⟩, fun c hc => ?_, ⟨ht, hg, r.hb, by rw [hself], by rw [hself]; exact r1.eb⟩, by rw [hself]; exact e0.1⟩
    have h1 := cnt_at (s := s1) (s' := migMid s1 t h g) (c := c) ht (fun x hx => by rw [hne x hx])
    have hs0 : (s1.tk t).st ≠ 0 := by rw [e0.1]; exact hst
    have h4 := L1 c hc
    have eh1 := r1.eh
    have e1 : (migMid s1 t h g).ld c = if c = g then s1.ld g + 1 else if c = h then s1.ld h - 1 else s1.ld c := rfl
    have k1 : here (s1.tk t) c = if c = h then 1 else 0 := by
      unfold here
      rw [eh1]
      by_cases q : c = h
      · simp [q, hs0]
      · have : ¬ ((h : Int) = c) := by omega
        simp [q, hs0, this]
    have k2 : here ((migMid s1 t h g).tk t) c = if c = g then 1 else 0 := by
      rw [hself]
      unfold here
      by_cases q : c = g
      · simp [q, hs0]
      · have : ¬ ((g : Int) = c) := by omega
        simp [q, hs0, this]
    rw [e1]
    by_cases q1 : c = g
    · subst q1
      rw [if_pos rfl]
      rw [if_neg hne0] at k1
      rw [if_pos rfl] at k2
      omega
    · rw [if_neg q1]
      rw [if_neg q1] at k2
      by_cases q2 : c = h
      · subst q2
        rw [if_pos rfl]
        rw [if_pos rfl] at k1
        omega
      · rw [if_neg q2]
        rw [if_neg q2] at k1
        omega
  obtain ⟨⟨Q2, J2⟩, L2, r2, e2⟩ := key
  by_cases h1 : (s.tk t).st = 1
  · rw [migF, if_pos h1, r.rh, r.rb]
    refine (migrate_parked H r hg hne0 p1 r1 (by omega) (by omega) h1).mono ?_
    rintro e w' ⟨rfl, H', M⟩
    exact ⟨rfl, ⟨H', ⟨Q2, J2.close (.inr ⟨by rw [e2]; exact h1, g, b, hg, r.hb, r2.eh, r2.eb⟩)⟩, L2⟩, M⟩
  · rw [migF, if_neg h1, r.rh, r.rb]
    refine (migrate_run H r hg hne0 p1 r1 (by omega) (by omega) h1 r2 (J2.enqPre hg r.hb)).mono ?_
    rintro e w' ⟨rfl, H', M⟩
    exact ⟨rfl, ⟨H', ⟨_, enq_inv J2 r2⟩, L2.same ((enq_eff (J2.tail hg r.hb) (J2.notin g b)).same (by rw [e2]; exact hst))⟩, M⟩

/-- The scheduler before the serving: the running task queued. -/
def pick1 (s : Sched) (c : Nat) : Sched := if s.cur c = -1 then s else enq (s.setCur c (-1)) (s.cur c).toNat c (rowB s (s.cur c).toNat)
/-- The task that a pick serves. -/
def pickX (s : Sched) (c : Nat) : Nat := ((pick1 s c).hd c (tz4 ((pick1 s c).fl c))).toNat
def pickS (s : Sched) (c : Nat) : Sched := ((deq (pick1 s c) (pickX s c) c (tz4 ((pick1 s c).fl c))).pSt (pickX s c) 3).setCur c (pickX s c : Nat)
theorem pick_s {w : World} {B : Nat} {s : Sched} {c : Nat} (H : SchedAt w B s) (K : SOk s) (hc : c < 4) (hr : s.cur c ≠ -1 ∨ 0 < s.qn c) :
    Calls Tryz.prog 129 #[.pointer (some ⟨B, 6596, none⟩), .int .i64 (c : Int)] w fun e w' => (pickX s c < 16 ∧ e = .returned (.tuple #[.int .i64 (pickX s c : Int), .int .i64 (s.cur c)]) ∧ SchedAt w' B (pickS s c) ∧ SOk (pickS s c)) ∧ Mut B 6596 6724 w w' := by
  obtain ⟨⟨Q, I⟩, L⟩ := K
  have go : ∀ (s1 : Sched) (Q1 : Nat → Nat → List Nat), s1 = pick1 s c → (s.cur c = -1 ∧ s1 = s ∨ ∃ p b : Nat, s.cur c = p ∧ Row (s.setCur c (-1)) p c b ∧ EnqPre (s.setCur c (-1)) p c b ∧ s1 = enq (s.setCur c (-1)) p c b) → SInv s1 Q1 16 → Same s s1 → s1.cur c = -1 → (∃ b, b < 4 ∧ Q1 c b ≠ []) →
      Calls Tryz.prog 129 #[.pointer (some ⟨B, 6596, none⟩), .int .i64 (c : Int)] w fun e w' => (pickX s c < 16 ∧ e = .returned (.tuple #[.int .i64 (pickX s c : Int), .int .i64 (s.cur c)]) ∧ SchedAt w' B (pickS s c) ∧ SOk (pickS s c)) ∧ Mut B 6596 6724 w w' := fun s1 Q1 h0 h1 I1 S1 c1 q1 => by
    obtain ⟨x, k, g1, g2, g3, g4, g5, g6, g7⟩ := I1.serve hc c1 q1
    refine (pick_any H hc h1 g1 g2 g3 g4 g5).mono ?_
    rintro e w' ⟨rfl, H', M⟩
    have ex : pickX s c = x := by
      unfold pickX
      rw [← h0, ← g2, g3]
      rfl
    have es : pickS s c = ((deq s1 x c k).pSt x 3).setCur c x := by
      unfold pickS
      rw [ex, ← h0, ← g2]
    rw [es, ex]
    exact ⟨⟨g4.ht, rfl, H', g6, L.same (S1.trans g7)⟩, M⟩
  rcases I.cur c hc with q | ⟨p, a1, a2, a3, a4, a5⟩
  · refine go s Q (by rw [pick1, if_pos q]) (.inl ⟨q, rfl⟩) I (Same.refl s) q ?_
    have hn : 0 < s.qn c := by
      rcases hr with h | h
      · exact absurd q h
      · exact h
    rw [I.qn c hc] at hn
    by_cases h0 : Q c 0 = []
    · by_cases h1 : Q c 1 = []
      · by_cases h2 : Q c 2 = []
        · by_cases h3 : Q c 3 = []
          · rw [h0, h1, h2, h3] at hn
            simp at hn
          · exact ⟨3, by omega, h3⟩
        · exact ⟨2, by omega, h2⟩
      · exact ⟨1, by omega, h1⟩
    · exact ⟨0, by omega, h0⟩
  · have J := I.halt a1 a4 hc a5
    rcases I.dom p a1 a2 with h0 | ⟨h, b, g1, g2, g3, g4⟩
    · omega
    · have e : h = c := by omega
      subst e
      have r : Row (s.setCur h (-1)) p h b := ⟨a1, hc, g2, g3, g4⟩
      have E := enq_eff (J.tail hc g2) (J.notin h b)
      have S0 : Same s (s.setCur h (-1)) := ⟨rfl, fun _ => ⟨Iff.rfl, rfl⟩⟩
      have ep : enq (s.setCur h (-1)) p h b = pick1 s h := by
        have e1 : (s.cur h).toNat = p := by rw [a3]; rfl
        have e2 : rowB s p = b := by rw [rowB, g4]; rfl
        rw [pick1, if_neg (by omega), e1, e2]
      refine go _ _ ep (.inr ⟨p, b, a3, r, J.enqPre hc g2, rfl⟩) (enq_inv J r) (S0.trans (E.same (by show (s.tk p).st ≠ 0; omega))) ?_ ⟨b, g2, by rw [putQ_same]; simp⟩
      rw [E.cur]
      simp [Sched.setCur]

end Go.Proofs.Qxb6500877aGreatDoor
