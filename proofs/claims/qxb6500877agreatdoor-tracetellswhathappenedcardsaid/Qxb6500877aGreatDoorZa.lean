import Derived.Test.Qxb6500877aGreatDoorOb
import Derived.Test.Qxb6500877aGreatDoorAh
set_option linter.unusedVariables false
set_option linter.unusedSimpArgs false
namespace Go.Proofs.Qxb6500877aGreatDoor
open Go.RowKit

theorem filter_erase' (p : Nat → Bool) (t : Nat) : ∀ l : List Nat, (l.erase t).filter p = if p t = true then (l.filter p).erase t else l.filter p
  | [] => by simp
  | x :: l => by
    by_cases e : x = t
    · subst e
      rw [List.erase_cons_head]
      by_cases h : p x = true
      · rw [if_pos h, List.filter_cons, if_pos h, List.erase_cons_head]
      · rw [if_neg h, List.filter_cons, if_neg h]
    · have e' : ¬ ((x == t) = true) := by simpa using e
      rw [List.erase_cons_tail e', List.filter_cons]
      by_cases h : p x = true
      · rw [if_pos h, filter_erase' p t l, List.filter_cons, if_pos h]
        by_cases q : p t = true
        · rw [if_pos q, if_pos q, List.erase_cons_tail e']
        · rw [if_neg q, if_neg q]
      · rw [if_neg h, filter_erase' p t l, List.filter_cons, if_neg h]
/-- The model's waiting lists, split by bands, are the machine's queues. -/
def WR (Q : Nat → Nat → List Nat) (wt : Nat → List Nat) : Prop := ∃ bd : Nat → Nat, (∀ c, c < 4 → ∀ x ∈ wt c, bd x < 4) ∧ ∀ c b, c < 4 → b < 4 → (wt c).filter (fun x => decide (bd x = b)) = Q c b
theorem WR.sub {Q : Nat → Nat → List Nat} {wt : Nat → List Nat} (h : WR Q wt) {c x : Nat} (hc : c < 4) (hx : x ∈ wt c) : ∃ b, b < 4 ∧ x ∈ Q c b := by
  obtain ⟨bd, h1, h2⟩ := h
  exact ⟨bd x, h1 c hc x hx, by rw [← h2 c _ hc (h1 c hc x hx)]; simp [hx]⟩
theorem WR.sup {Q : Nat → Nat → List Nat} {wt : Nat → List Nat} (h : WR Q wt) {c b x : Nat} (hc : c < 4) (hb : b < 4) (hx : x ∈ Q c b) : x ∈ wt c := by
  obtain ⟨bd, h1, h2⟩ := h
  rw [← h2 c b hc hb] at hx
  exact (List.mem_filter.1 hx).1
theorem WR.leave {Q : Nat → Nat → List Nat} {wt : Nat → List Nat} (h : WR Q wt) {t g b : Nat} {A C : List Nat} (hg : g < 4) (hb : b < 4) (e : Q g b = A ++ t :: C) (hA : t ∉ A) : WR (putQ Q g b (A ++ C)) (upd wt g ((wt g).erase t)) := by
  obtain ⟨bd, h1, h2⟩ := h
  refine ⟨bd, fun c hc x hx => ?_, fun c k hc hk => ?_⟩
  · by_cases q : c = g
    · subst q
      rw [upd_same] at hx
      exact h1 _ hc x (List.mem_of_mem_erase hx)
    · rw [upd_other _ _ q] at hx
      exact h1 _ hc x hx
  · by_cases q : c = g
    · subst q
      have hin : t ∈ (wt c).filter (fun x => decide (bd x = b)) := by rw [h2 c b hc hb, e]; simp
      have ebt : bd t = b := by simpa using (List.mem_filter.1 hin).2
      rw [upd_same, filter_erase', h2 c k hc hk]
      by_cases qk : k = b
      · subst qk
        rw [if_pos (by simp [ebt]), putQ_same, e, List.erase_append_right _ hA, List.erase_cons_head]
      · rw [if_neg (by simp [ebt]; omega), putQ_other _ _ (fun z => qk z.2)]
    · rw [upd_other _ _ q, putQ_other _ _ (fun z => q z.1), h2 c k hc hk]
theorem WR.join {Q : Nat → Nat → List Nat} {wt : Nat → List Nat} (h : WR Q wt) {t g b : Nat} (hg : g < 4) (hb : b < 4) (hn : ∀ c b, t ∉ Q c b) : WR (putQ Q g b (Q g b ++ [t])) (upd wt g (wt g ++ [t])) := by
  have hnw : ∀ c, c < 4 → t ∉ wt c := fun c hc hx => by
    obtain ⟨k, _, z⟩ := h.sub hc hx
    exact hn _ _ z
  obtain ⟨bd, h1, h2⟩ := h
  have hf : ∀ c k, c < 4 → (wt c).filter (fun x => decide (upd bd t b x = k)) = (wt c).filter (fun x => decide (bd x = k)) := fun c k hc => by
    refine List.filter_congr (fun x hx => ?_)
    have hne : x ≠ t := fun q => by subst q; exact hnw c hc hx
    rw [upd_other _ _ hne]
  refine ⟨upd bd t b, fun c hc x hx => ?_, fun c k hc hk => ?_⟩
  · by_cases qx : x = t
    · subst qx
      rw [upd_same]; exact hb
    · rw [upd_other _ _ qx]
      by_cases q : c = g
      · subst q
        rw [upd_same] at hx
        rcases List.mem_append.1 hx with z | z
        · exact h1 _ hc x z
        · exact absurd (List.mem_singleton.1 z) qx
      · rw [upd_other _ _ q] at hx
        exact h1 _ hc x hx
  · by_cases q : c = g
    · subst q
      rw [upd_same, List.filter_append, hf c k hc, h2 c k hc hk]
      by_cases qk : k = b
      · subst qk
        rw [putQ_same]
        simp [upd_same]
      · rw [putQ_other _ _ (fun z => qk z.2)]
        have : ¬ (b = k) := fun z => qk z.symm
        simp [upd_same, this]
    · rw [upd_other _ _ q, putQ_other _ _ (fun z => q z.1), hf c k hc, h2 c k hc hk]
/-- The model's tasks and waiting lists are the scheduler's. -/
structure SR (s : Sched) (m : Mdl) (Q : Nat → Nat → List Nat) : Prop where
  inv : SInv s Q 16
  tk : ∀ x, x < 16 → m.tk x = r3 s x
  wr : WR Q m.wt
  bw : ∀ x, x < 16 → 0 ≤ (m.tk x).2.2 ∧ (m.tk x).2.2 < 4
theorem bw_upd {f : Nat → Int × Int × Int} {t : Nat} {v : Int × Int × Int} (h : ∀ x, x < 16 → 0 ≤ (f x).2.2 ∧ (f x).2.2 < 4) (hv : 0 ≤ v.2.2 ∧ v.2.2 < 4) : ∀ x, x < 16 → 0 ≤ (upd f t v x).2.2 ∧ (upd f t v x).2.2 < 4 := fun x hx => by
  by_cases q : x = t
  · subst q; rw [upd_same]; exact hv
  · rw [upd_other _ _ q]; exact h x hx
theorem SR.enq {s : Sched} {m : Mdl} {t h b : Nat} {Q : Nat → Nat → List Nat} (J : SInv s Q t) (r : Row s t h b) (wr : WR Q m.wt) (tk : ∀ x, x < 16 → x ≠ t → m.tk x = r3 s x) (et : (m.tk t).2 = ((h : Int), (b : Int))) (bw : ∀ x, x < 16 → 0 ≤ (m.tk x).2.2 ∧ (m.tk x).2.2 < 4) : SR (enq s t h b) (m.join t h) (putQ Q h b (Q h b ++ [t])) := by
  obtain ⟨e1, e2⟩ := r3_enq J r
  refine ⟨enq_inv J r, fun x hx => ?_, wr.join r.hh r.hb J.notin, bw_upd bw (bw t r.ht)⟩
  show upd m.tk t (2, (m.tk t).2.1, (m.tk t).2.2) x = _
  by_cases q : x = t
  · subst q
    rw [upd_same, e2, r.eh, r.eb, et]
  · rw [upd_other _ _ q, tk x hx q, e1 x q]
theorem SR.notw {s : Sched} {m : Mdl} {t c : Nat} {Q : Nat → Nat → List Nat} (R : SR s m Q) (hc : c < 4) (h2 : (s.tk t).st ≠ 2) : t ∉ m.wt c := fun hx => by
  obtain ⟨b, _, z⟩ := R.wr.sub hc hx
  exact h2 (R.inv.mem c b t z).2.2.2.2.1
theorem SR.stand {s : Sched} {m : Mdl} {t h b : Nat} {Q : Nat → Nat → List Nat} (R : SR s m Q) (r : Row s t h b) :
    ∃ Q', SInv (standDown s t h b) Q' t ∧ WR Q' (m.leave t h).wt ∧ (∀ x, r3 (standDown s t h b) x = r3 s x) ∧ Row (standDown s t h b) t h b := by
  have I := R.inv
  by_cases h2 : (s.tk t).st = 2
  · obtain ⟨A, C, e⟩ := I.queued r.ht h2 r.eh r.eb
    obtain ⟨J, E⟩ := deq_inv I r.hh r.hb e
    have hA : t ∉ A := by
      have := I.nod h b
      rw [e, List.nodup_append] at this
      exact fun z => this.2.2 t z t (by simp) rfl
    rw [standDown, if_pos h2]
    refine ⟨_, J, R.wr.leave r.hh r.hb e hA, fun x => ?_, ⟨r.ht, r.hh, r.hb, ?_, ?_⟩⟩
    · rw [r3, E.tk x]
      by_cases ex : x = t
      · subst ex; rw [if_pos rfl]; rfl
      · rw [if_neg ex]; rfl
    · rw [E.tk t, if_pos rfl]; exact r.eh
    · rw [E.tk t, if_pos rfl]; exact r.eb
  · rw [leave_no (R.notw r.hh h2)]
    by_cases h3 : (s.tk t).st = 3
    · rw [standDown, if_neg h2, if_pos h3]
      exact ⟨Q, I.halt r.ht h3 r.hh r.eh, R.wr, fun x => rfl, ⟨r.ht, r.hh, r.hb, r.eh, r.eb⟩⟩
    · rw [standDown, if_neg h2, if_neg h3]
      exact ⟨Q, I.grab h2 h3, R.wr, fun x => rfl, r⟩
theorem r3_1 (s : Sched) (x : Nat) : (r3 s x).1 = (s.tk x).st := rfl
theorem r3_2 (s : Sched) (x : Nat) : (r3 s x).2 = ((s.tk x).home, (s.tk x).band) := rfl
theorem Row.r32 {s : Sched} {t h b : Nat} (r : Row s t h b) : (r3 s t).2 = ((h : Int), (b : Int)) := by rw [r3_2, r.eh, r.eb]
theorem sr_ready {s : Sched} {m : Mdl} {t h b : Nat} {Q : Nat → Nat → List Nat} (R : SR s m Q) (r : Row s t h b) (h1 : (s.tk t).st = 1) : ∃ Q', SR (enq s t h b) (m.join t h) Q' :=
  ⟨_, SR.enq (R.inv.grab (t := t) (by omega) (by omega)) r R.wr (fun x hx _ => R.tk x hx) (by rw [R.tk t r.ht]; exact r.r32) R.bw⟩
theorem sr_yield {s : Sched} {m : Mdl} {t h b : Nat} {Q : Nat → Nat → List Nat} (R : SR s m Q) (r : Row s t h b) (h3 : (s.tk t).st = 3) : ∃ Q', SR (enq (standDown s t h b) t h b) (m.join t h) Q' := by
  obtain ⟨Q', J, W, ho, r1⟩ := R.stand r
  rw [leave_no (R.notw r.hh (by omega))] at W
  exact ⟨_, SR.enq J r1 W (fun x hx _ => by rw [ho]; exact R.tk x hx) (by rw [R.tk t r.ht]; exact r.r32) R.bw⟩
theorem sr_park {s : Sched} {m : Mdl} {t h b : Nat} {Q : Nat → Nat → List Nat} (R : SR s m Q) (r : Row s t h b) : ∃ Q', SR ((standDown s t h b).pSt t 1) ((m.leave t h).setTk t (1, (m.tk t).2.1, (m.tk t).2.2)) Q' := by
  obtain ⟨Q', J, W, ho, r1⟩ := R.stand r
  have hne : ∀ x, x ≠ t → (((standDown s t h b).pSt t 1).tk x) = (standDown s t h b).tk x := fun x hx => by simp [Sched.pSt, Sched.setTk, hx]
  have J2 := J.hand (s' := (standDown s t h b).pSt t 1) hne rfl rfl rfl rfl rfl
  refine ⟨Q', J2.close (.inr ⟨by simp [Sched.pSt, Sched.setTk], _, _, r1.hh, r1.hb, ?_, ?_⟩), fun x hx => ?_, W, bw_upd R.bw (R.bw t r.ht)⟩
  · simp [Sched.pSt, Sched.setTk]; exact r1.eh
  · simp [Sched.pSt, Sched.setTk]; exact r1.eb
  · show upd m.tk t (1, (m.tk t).2.1, (m.tk t).2.2) x = _
    by_cases q : x = t
    · subst q
      rw [upd_same, R.tk x hx, r.r32]
      simp only [r3, Sched.pSt, Sched.setTk, if_pos]
      rw [r1.eh, r1.eb]
    · rw [upd_other _ _ q, R.tk x hx, ← ho x, r3, r3, hne x q]
theorem sr_detach {s : Sched} {m : Mdl} {t h b g : Nat} {v : Int} {Q : Nat → Nat → List Nat} (R : SR s m Q) (r : Row s t h b) : ∃ Q', SR (vacate ((standDown s t h b).setLd g v) t) ((m.leave t h).setTk t (0, -1, 0)) Q' := by
  obtain ⟨Q', J, W, ho, r1⟩ := R.stand r
  generalize standDown s t h b = s1 at *
  have hne : ∀ x, x ≠ t → (vacate (s1.setLd g v) t).tk x = s1.tk x := fun x hx => by simp [vacate, Sched.pSt, Sched.pHome, Sched.pBand, Sched.pPrev, Sched.pNext, Sched.setTk, Sched.setLd, hx]
  have hself : (vacate (s1.setLd g v) t).tk t = ⟨0, -1, 0, -1, -1⟩ := by simp [vacate, Sched.pSt, Sched.pHome, Sched.pBand, Sched.pPrev, Sched.pNext, Sched.setTk, Sched.setLd]
  refine ⟨Q', (J.hand hne rfl rfl rfl rfl rfl).close (.inl (by rw [hself])), fun x hx => ?_, W, bw_upd R.bw (by simp)⟩
  show upd m.tk t (0, -1, 0) x = _
  by_cases q : x = t
  · subst q
    rw [upd_same, r3, hself]
  · rw [upd_other _ _ q, R.tk x hx, ← ho x, r3, r3, hne x q]
theorem sr_attach {s : Sched} {m : Mdl} {t h b : Nat} {Q : Nat → Nat → List Nat} (R : SR s m Q) (ht : t < 16) (h0 : (s.tk t).st = 0) (hh : h < 4) (hb : b < 4) : ∃ Q', SR (attachF s t h b) (m.setTk t (1, (h : Int), (b : Int))) Q' := by
  have J := R.inv.grab (t := t) (by omega) (by omega)
  have hne : ∀ x, x ≠ t → (attachF s t h b).tk x = s.tk x := fun x hx => by simp [attachF, Sched.pSt, Sched.pHome, Sched.pBand, Sched.pPrev, Sched.pNext, Sched.setTk, Sched.setLd, hx]
  have hself : (attachF s t h b).tk t = ⟨1, h, b, -1, -1⟩ := by simp [attachF, Sched.pSt, Sched.pHome, Sched.pBand, Sched.pPrev, Sched.pNext, Sched.setTk, Sched.setLd]
  refine ⟨Q, (J.hand hne rfl rfl rfl rfl rfl).close (.inr ⟨by rw [hself], h, b, hh, hb, by rw [hself], by rw [hself]⟩), fun x hx => ?_, R.wr, bw_upd R.bw ⟨by show (0 : Int) ≤ b; omega, by show (b : Int) < 4; omega⟩⟩
  show upd m.tk t (1, (h : Int), (b : Int)) x = _
  by_cases q : x = t
  · subst q
    rw [upd_same, r3, hself]
  · rw [upd_other _ _ q, R.tk x hx, r3, r3, hne x q]
theorem sr_migrate {s : Sched} {m : Mdl} {t h b g : Nat} {Q : Nat → Nat → List Nat} (R : SR s m Q) (r : Row s t h b) (h0 : (s.tk t).st ≠ 0) (hg : g < 4) :
    ((s.tk t).st = 1 → ∃ Q', SR (migMid (standDown s t h b) t h g) ((m.leave t h).setTk t ((m.tk t).1, (g : Int), (m.tk t).2.2)) Q') ∧ ((s.tk t).st ≠ 1 → ∃ Q', SR (enq (migMid (standDown s t h b) t h g) t g b) (((m.leave t h).setTk t ((m.tk t).1, (g : Int), (m.tk t).2.2)).join t g) Q') := by
  obtain ⟨Q', J, W, ho, r1⟩ := R.stand r
  have hst : ((standDown s t h b).tk t).st = (s.tk t).st := by have := ho t; simp only [r3, Prod.mk.injEq] at this; exact this.1
  generalize standDown s t h b = s1 at *
  have hne : ∀ x, x ≠ t → (migMid s1 t h g).tk x = s1.tk x := fun x hx => by simp [migMid, Sched.pHome, Sched.setTk, Sched.setLd, hx]
  have hself : (migMid s1 t h g).tk t = { s1.tk t with home := g } := by simp [migMid, Sched.pHome, Sched.setTk, Sched.setLd]
  have J2 := J.hand (s' := migMid s1 t h g) hne rfl rfl rfl rfl rfl
  have r2 : Row (migMid s1 t h g) t g b := ⟨r.ht, hg, r.hb, by rw [hself], by rw [hself]; exact r1.eb⟩
  have htk : ∀ x, x < 16 → x ≠ t → ((m.leave t h).setTk t ((m.tk t).1, (g : Int), (m.tk t).2.2)).tk x = r3 (migMid s1 t h g) x := fun x hx q => by
    show upd m.tk t ((m.tk t).1, (g : Int), (m.tk t).2.2) x = _
    rw [upd_other _ _ q, R.tk x hx, ← ho x, r3, r3, hne x q]
  have hte : ((m.leave t h).setTk t ((m.tk t).1, (g : Int), (m.tk t).2.2)).tk t = ((s.tk t).st, (g : Int), (b : Int)) := by
    show upd m.tk t ((m.tk t).1, (g : Int), (m.tk t).2.2) t = _
    rw [upd_same, R.tk t r.ht, r.r32]; rfl
  refine ⟨fun h1 => ⟨Q', J2.close (.inr ⟨by rw [hself]; exact hst.trans h1, g, b, hg, r.hb, r2.eh, r2.eb⟩), fun x hx => ?_, W, bw_upd R.bw (R.bw t r.ht)⟩, fun h1 => ⟨_, SR.enq J2 r2 W htk (by rw [hte]) (bw_upd R.bw (R.bw t r.ht))⟩⟩
  by_cases q : x = t
  · subst q
    rw [hte, r3, r2.eh, r2.eb, hself]
    show _ = ((s1.tk x).st, _, _)
    rw [hst]
  · exact htk x hx q
theorem sr_band {s : Sched} {m : Mdl} {t h b k : Nat} {Q : Nat → Nat → List Nat} (R : SR s m Q) (r : Row s t h b) (h0 : (s.tk t).st ≠ 0) (hk : k < 4) :
    ((s.tk t).st = 2 → ∃ Q', SR (setBandF s t h b k) (((m.setTk t ((m.tk t).1, (m.tk t).2.1, (k : Int))).leave t h).join t h) Q') ∧ ((s.tk t).st ≠ 2 → ∃ Q', SR (setBandF s t h b k) (m.setTk t ((m.tk t).1, (m.tk t).2.1, (k : Int))) Q') := by
  have I := R.inv
  unfold setBandF
  refine ⟨fun h2 => ?_, fun h2 => ?_⟩
  · rw [if_pos h2]
    obtain ⟨Q', J, W, ho, r1⟩ := R.stand r
    rw [standDown, if_pos h2] at J ho r1
    generalize deq s t h b = s1 at *
    have hne : ∀ x, x ≠ t → (s1.pBand t k).tk x = s1.tk x := fun x hx => by simp [Sched.pBand, Sched.setTk, hx]
    have J2 := J.hand (s' := s1.pBand t k) hne rfl rfl rfl rfl rfl
    have r2 : Row (s1.pBand t k) t h k := ⟨r.ht, r.hh, hk, by simp [Sched.pBand, Sched.setTk]; exact r1.eh, by simp [Sched.pBand, Sched.setTk]⟩
    refine ⟨_, SR.enq J2 r2 W (fun x hx q => ?_) ?_ (bw_upd R.bw ⟨by show (0 : Int) ≤ k; omega, by show (k : Int) < 4; omega⟩)⟩
    · show upd m.tk t ((m.tk t).1, (m.tk t).2.1, (k : Int)) x = _
      rw [upd_other _ _ q, R.tk x hx, ← ho x, r3, r3, hne x q]
    · show (upd m.tk t ((m.tk t).1, (m.tk t).2.1, (k : Int)) t).2 = _
      rw [upd_same, R.tk t r.ht, r.r32]
  · rw [if_neg h2]
    have hne : ∀ x, ((s.pBand t k).tk x).st = (s.tk x).st ∧ ((s.pBand t k).tk x).home = (s.tk x).home ∧ ((s.pBand t k).tk x).prev = (s.tk x).prev ∧ ((s.pBand t k).tk x).next = (s.tk x).next := fun x => by
      by_cases e : x = t
      · subst e; simp [Sched.pBand, Sched.setTk]
      · simp [Sched.pBand, Sched.setTk, e]
    refine ⟨Q, ?_, fun x hx => ?_, R.wr, bw_upd R.bw ⟨by show (0 : Int) ≤ k; omega, by show (k : Int) < 4; omega⟩⟩
    · refine ⟨fun c d hc hd => seg_congr _ _ _ _ _ (fun x _ => ⟨(hne x).2.2.1, (hne x).2.2.2⟩) (I.dll c d hc hd), I.nod, fun c d x hx => ?_, fun x hx hxt q => I.que x hx hxt (by rw [← (hne x).1]; exact q), fun c hc => ?_, fun x hx hxt q => ?_, fun x hx hxt => ?_, I.fl, I.qn⟩
      · have hm := I.mem c d x hx
        have hxt : x ≠ t := fun q => by subst q; exact h2 hm.2.2.2.2.1
        have : (s.pBand t k).tk x = s.tk x := by simp [Sched.pBand, Sched.setTk, hxt]
        rw [this]; exact hm
      · rcases I.cur c hc with q | ⟨p, a1, a2, a3, a4, a5⟩
        · exact .inl q
        · exact .inr ⟨p, a1, a2, a3, (hne p).1.trans a4, (hne p).2.1.trans a5⟩
      · rw [(hne x).1] at q
        rw [(hne x).2.1]
        exact I.run x hx hxt q
      · by_cases e : x = t
        · subst e
          exact .inr ⟨_, k, r.hh, hk, (hne x).2.1.trans r.eh, by simp [Sched.pBand, Sched.setTk]⟩
        · have : (s.pBand t k).tk x = s.tk x := by simp [Sched.pBand, Sched.setTk, e]
          rw [this]; exact I.dom x hx hxt
    · show upd m.tk t ((m.tk t).1, (m.tk t).2.1, (k : Int)) x = _
      by_cases q : x = t
      · subst q
        rw [upd_same, R.tk x hx]
        simp [r3, Sched.pBand, Sched.setTk]
      · rw [upd_other _ _ q, R.tk x hx]
        simp [r3, Sched.pBand, Sched.setTk, q]
end Go.Proofs.Qxb6500877aGreatDoor
