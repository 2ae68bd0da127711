import Derived.Test.Qxb6500877aGreatDoorPMo
import Derived.Test.Qxb6500877aGreatDoorQa
set_option linter.unusedVariables false
set_option linter.unusedSimpArgs false
namespace Go.Proofs.Qxb6500877aGreatDoor
open Go.RowKit

/-- What a law reads of a task: status, home, band. -/
def r3 (s : Sched) (x : Nat) : Int × Int × Int := ((s.tk x).st, (s.tk x).home, (s.tk x).band)
/-- Every band in the order of joining. -/
def WOrd (Q : Nat → Nat → List Nat) (η : Nat → Int) : Prop := ∀ c b, (Q c b).Pairwise (fun u v => η u ≤ η v)
/-- The law's record of the joinings, after a step. -/
def joinF (s s' : Sched) (i : Nat) (η : Nat → Int) (x : Nat) : Int := if (s'.tk x).st = 2 ∧ r3 s' x ≠ r3 s x then ((i : Int) + 1) else η x
theorem joinF_le {s s' : Sched} {i : Nat} {η : Nat → Int} (h : ∀ x, x < 16 → η x ≤ i + 1) : ∀ x, x < 16 → joinF s s' i η x ≤ i + 1 := fun x hx => by
  unfold joinF
  split
  · omega
  · exact h x hx
/-- A step that moves no task but t. -/
structure Mv (s s' : Sched) (t : Nat) (Q Q' : Nat → Nat → List Nat) : Prop where
  inv : SInv s' Q' 16
  oth : ∀ x, x ≠ t → r3 s' x = r3 s x
  q : ∀ c b, ((Q' c b).Sublist (Q c b) ∧ t ∉ Q' c b) ∨ ∃ A, A.Sublist (Q c b) ∧ t ∉ A ∧ Q' c b = A ++ [t] ∧ r3 s' t ≠ r3 s t
theorem pair_congr {l : List Nat} {η η' : Nat → Int} (h : l.Pairwise (fun u v => η u ≤ η v)) (e : ∀ x ∈ l, η' x = η x) : l.Pairwise (fun u v => η' u ≤ η' v) :=
  List.Pairwise.imp_of_mem (fun {a b} ha hb hab => by rw [e a ha, e b hb]; exact hab) h
theorem Mv.join {s s' : Sched} {t i : Nat} {Q Q' : Nat → Nat → List Nat} {η : Nat → Int} (m : Mv s s' t Q Q') (I : SInv s Q 16) (h : WOrd Q η) (le : ∀ x, x < 16 → η x ≤ i) : WOrd Q' (joinF s s' i η) := fun c b => by
  have key : ∀ x, x ≠ t → joinF s s' i η x = η x := fun x hx => by
    rw [joinF, if_neg (fun q => q.2 (m.oth x hx))]
  rcases m.q c b with ⟨h1, h2⟩ | ⟨A, h1, h2, e, h3⟩
  · exact pair_congr ((h c b).sublist h1) (fun x hx => key x (fun q => h2 (q ▸ hx)))
  · have ht := m.inv.mem c b t (by rw [e]; simp)
    have et : joinF s s' i η t = i + 1 := by rw [joinF, if_pos ⟨ht.2.2.2.2.1, h3⟩]
    rw [e, List.pairwise_append]
    refine ⟨pair_congr ((h c b).sublist h1) (fun x hx => key x (fun q => h2 (q ▸ hx))), List.pairwise_singleton _ _, fun a ha y hy => ?_⟩
    rw [List.mem_singleton] at hy
    rw [hy, et, key a (fun q => h2 (q ▸ ha))]
    have := le a (I.mem c b a (h1.subset ha)).2.2.1
    omega
theorem Mv.refl {s : Sched} {Q : Nat → Nat → List Nat} (I : SInv s Q 16) : Mv s s 16 Q Q :=
  ⟨I, fun _ _ => rfl, fun c b => .inl ⟨List.Sublist.refl _, fun h => by have := (I.mem c b 16 h).2.2.1; omega⟩⟩
theorem Mv.out {s s' : Sched} {t : Nat} {Q Q' : Nat → Nat → List Nat} (J : SInv s' Q' 16) (hn : ∀ c b, t ∉ Q' c b) (hs : ∀ c b, (Q' c b).Sublist (Q c b)) (ho : ∀ x, x ≠ t → r3 s' x = r3 s x) : Mv s s' t Q Q' :=
  ⟨J, ho, fun c b => .inl ⟨hs c b, hn c b⟩⟩
theorem r3_enq {s : Sched} {Q : Nat → Nat → List Nat} {t h b : Nat} (J : SInv s Q t) (r : Row s t h b) : (∀ x, x ≠ t → r3 (enq s t h b) x = r3 s x) ∧ r3 (enq s t h b) t = (2, (s.tk t).home, (s.tk t).band) := by
  have E := enq_eff (J.tail r.hh r.hb) (J.notin h b)
  refine ⟨fun x hx => ?_, ?_⟩
  · rw [r3, E.tk x, if_neg hx]; rfl
  · rw [r3, E.tk t, if_pos rfl]
theorem Mv.enq {s s1 : Sched} {t h b : Nat} {Q Q1 : Nat → Nat → List Nat} (J : SInv s1 Q1 t) (r : Row s1 t h b) (hs : ∀ c b, (Q1 c b).Sublist (Q c b)) (ho : ∀ x, x ≠ t → r3 s1 x = r3 s x) (hne : ((2 : Int), (h : Int), (b : Int)) ≠ r3 s t) : Mv s (enq s1 t h b) t Q (putQ Q1 h b (Q1 h b ++ [t])) := by
  obtain ⟨e1, e2⟩ := r3_enq J r
  refine ⟨enq_inv J r, fun x hx => (e1 x hx).trans (ho x hx), fun c k => ?_⟩
  by_cases q : c = h ∧ k = b
  · obtain ⟨rfl, rfl⟩ := q
    rw [putQ_same]
    exact .inr ⟨Q1 c k, hs c k, J.notin c k, rfl, by rw [e2, r.eh, r.eb]; exact hne⟩
  · rw [putQ_other _ _ q]
    exact .inl ⟨hs c k, J.notin c k⟩
theorem SInv.stand2 {s : Sched} {Q : Nat → Nat → List Nat} {t h b : Nat} (I : SInv s Q 16) (r : Row s t h b) :
    ∃ Q', SInv (standDown s t h b) Q' t ∧ (∀ c k, (Q' c k).Sublist (Q c k)) ∧ (∀ x, r3 (standDown s t h b) x = r3 s x) ∧ Row (standDown s t h b) t h b := by
  by_cases h2 : (s.tk t).st = 2
  · obtain ⟨A, C, e⟩ := I.queued r.ht h2 r.eh r.eb
    obtain ⟨J, E⟩ := deq_inv I r.hh r.hb e
    rw [standDown, if_pos h2]
    refine ⟨_, J, fun c k => ?_, fun x => ?_, ⟨r.ht, r.hh, r.hb, ?_, ?_⟩⟩
    · by_cases q : c = h ∧ k = b
      · obtain ⟨rfl, rfl⟩ := q
        rw [putQ_same, e]
        exact List.Sublist.append (List.Sublist.refl A) (List.sublist_cons_self t C)
      · rw [putQ_other _ _ q]
        exact List.Sublist.refl _
    · rw [r3, E.tk x]
      by_cases ex : x = t
      · subst ex; rw [if_pos rfl]; rfl
      · rw [if_neg ex]; rfl
    · rw [E.tk t, if_pos rfl]; exact r.eh
    · rw [E.tk t, if_pos rfl]; exact r.eb
  · by_cases h3 : (s.tk t).st = 3
    · rw [standDown, if_neg h2, if_pos h3]
      exact ⟨Q, I.halt r.ht h3 r.hh r.eh, fun c k => List.Sublist.refl _, fun x => rfl, ⟨r.ht, r.hh, r.hb, r.eh, r.eb⟩⟩
    · rw [standDown, if_neg h2, if_neg h3]
      exact ⟨Q, I.grab h2 h3, fun c k => List.Sublist.refl _, fun x => rfl, r⟩
theorem SInv.rowOf {s : Sched} {Q : Nat → Nat → List Nat} {t : Nat} (I : SInv s Q 16) (ht : t < 16) (h0 : (s.tk t).st ≠ 0) : Row s t (rowH s t) (rowB s t) := by
  rcases I.dom t ht (by omega) with h | ⟨h, b, h1, h2, h3, h4⟩
  · exact absurd h h0
  · have r : Row s t h b := ⟨ht, h1, h2, h3, h4⟩
    rw [r.rh, r.rb]
    exact r
/-- Some step that moves at most one task. -/
def Mvs (s s' : Sched) (Q : Nat → Nat → List Nat) : Prop := ∃ t Q', Mv s s' t Q Q'
theorem r3_ne {s : Sched} {t : Nat} {a b c : Int} (h : a ≠ (s.tk t).st ∨ b ≠ (s.tk t).home ∨ c ≠ (s.tk t).band) : (a, b, c) ≠ r3 s t := fun e => by
  simp only [r3, Prod.mk.injEq] at e
  rcases h with h | h | h
  · exact h e.1
  · exact h e.2.1
  · exact h e.2.2
theorem mv_ready {s : Sched} {Q : Nat → Nat → List Nat} {t : Nat} (I : SInv s Q 16) (ht : t < 16) (hst : (s.tk t).st = 1) : Mvs s (enq s t (rowH s t) (rowB s t)) Q :=
  ⟨t, _, Mv.enq (I.grab (t := t) (by omega) (by omega)) (I.rowOf ht (by omega)) (fun _ _ => List.Sublist.refl _) (fun _ _ => rfl) (r3_ne (.inl (by omega)))⟩
theorem mv_park {s : Sched} {Q : Nat → Nat → List Nat} {t : Nat} (I : SInv s Q 16) (ht : t < 16) (h0 : (s.tk t).st ≠ 0) : Mvs s ((standDown s t (rowH s t) (rowB s t)).pSt t 1) Q := by
  obtain ⟨Q', J, hs, ho, r⟩ := I.stand2 (I.rowOf ht h0)
  have hne : ∀ x, x ≠ t → (((standDown s t (rowH s t) (rowB s t)).pSt t 1).tk x) = (standDown s t (rowH s t) (rowB s t)).tk x := fun x hx => by simp [Sched.pSt, Sched.setTk, hx]
  have J2 := J.hand (s' := (standDown s t (rowH s t) (rowB s t)).pSt t 1) hne rfl rfl rfl rfl rfl
  refine ⟨t, Q', Mv.out (J2.close (.inr ⟨by simp [Sched.pSt, Sched.setTk], _, _, r.hh, r.hb, ?_, ?_⟩)) J.notin hs (fun x hx => ?_)⟩
  · simp [Sched.pSt, Sched.setTk]; exact r.eh
  · simp [Sched.pSt, Sched.setTk]; exact r.eb
  · rw [← ho x, r3, r3, hne x hx]
theorem mv_yield {s : Sched} {Q : Nat → Nat → List Nat} {t : Nat} (I : SInv s Q 16) (ht : t < 16) (h3 : (s.tk t).st = 3) : Mvs s (enq (standDown s t (rowH s t) (rowB s t)) t (rowH s t) (rowB s t)) Q := by
  obtain ⟨Q', J, hs, ho, r⟩ := I.stand2 (I.rowOf ht (by omega))
  exact ⟨t, _, Mv.enq J r hs (fun x _ => ho x) (r3_ne (.inl (by omega)))⟩
theorem mv_detach {s : Sched} {Q : Nat → Nat → List Nat} {t : Nat} (I : SInv s Q 16) (ht : t < 16) (h0 : (s.tk t).st ≠ 0) {h : Nat} {v : Int} : Mvs s (vacate ((standDown s t (rowH s t) (rowB s t)).setLd h v) t) Q := by
  obtain ⟨Q', J, hs, ho, r⟩ := I.stand2 (I.rowOf ht h0)
  generalize standDown s t (rowH s t) (rowB s t) = s1 at *
  have hne : ∀ x, x ≠ t → (vacate (s1.setLd h v) t).tk x = s1.tk x := fun x hx => by simp [vacate, Sched.pSt, Sched.pHome, Sched.pBand, Sched.pPrev, Sched.pNext, Sched.setTk, Sched.setLd, hx]
  have hself : (vacate (s1.setLd h v) t).tk t = ⟨0, -1, 0, -1, -1⟩ := by simp [vacate, Sched.pSt, Sched.pHome, Sched.pBand, Sched.pPrev, Sched.pNext, Sched.setTk, Sched.setLd]
  exact ⟨t, Q', Mv.out ((J.hand hne rfl rfl rfl rfl rfl).close (.inl (by rw [hself]))) J.notin hs (fun x hx => by rw [← ho x, r3, r3, hne x hx])⟩
theorem mv_attach {s : Sched} {Q : Nat → Nat → List Nat} {t h b : Nat} (I : SInv s Q 16) (ht : t < 16) (h0 : (s.tk t).st = 0) (hh : h < 4) (hb : b < 4) : Mvs s (attachF s t h b) Q := by
  have J := I.grab (t := t) (by omega) (by omega)
  have hne : ∀ x, x ≠ t → (attachF s t h b).tk x = s.tk x := fun x hx => by simp [attachF, Sched.pSt, Sched.pHome, Sched.pBand, Sched.pPrev, Sched.pNext, Sched.setTk, Sched.setLd, hx]
  have hself : (attachF s t h b).tk t = ⟨1, h, b, -1, -1⟩ := by simp [attachF, Sched.pSt, Sched.pHome, Sched.pBand, Sched.pPrev, Sched.pNext, Sched.setTk, Sched.setLd]
  exact ⟨t, Q, Mv.out ((J.hand hne rfl rfl rfl rfl rfl).close (.inr ⟨by rw [hself], h, b, hh, hb, by rw [hself], by rw [hself]⟩)) J.notin (fun _ _ => List.Sublist.refl _) (fun x hx => by rw [r3, r3, hne x hx])⟩
theorem mv_migrate {s : Sched} {Q : Nat → Nat → List Nat} {t g : Nat} (I : SInv s Q 16) (ht : t < 16) (h0 : (s.tk t).st ≠ 0) (hg : g < 4) (hgh : (s.tk t).home ≠ g) : Mvs s (migF s t g) Q := by
  obtain ⟨Q', J, hs, ho, r⟩ := I.stand2 (I.rowOf ht h0)
  unfold migF
  have hst : ((standDown s t (rowH s t) (rowB s t)).tk t).st = (s.tk t).st := by have := ho t; simp only [r3, Prod.mk.injEq] at this; exact this.1
  generalize hh : rowH s t = h at *
  generalize hb : rowB s t = b at *
  generalize standDown s t h b = s1 at *
  have hne : ∀ x, x ≠ t → (migMid s1 t h g).tk x = s1.tk x := fun x hx => by simp [migMid, Sched.pHome, Sched.setTk, Sched.setLd, hx]
  have hself : (migMid s1 t h g).tk t = { s1.tk t with home := g } := by simp [migMid, Sched.pHome, Sched.setTk, Sched.setLd]
  have J2 := J.hand (s' := migMid s1 t h g) hne rfl rfl rfl rfl rfl
  have r2 : Row (migMid s1 t h g) t g b := ⟨ht, hg, r.hb, by rw [hself], by rw [hself]; exact r.eb⟩
  split
  · rename_i h1
    exact ⟨t, Q', Mv.out (J2.close (.inr ⟨by rw [hself]; exact hst.trans h1, g, b, hg, r.hb, r2.eh, r2.eb⟩)) J.notin hs (fun x hx => by rw [← ho x, r3, r3, hne x hx])⟩
  · exact ⟨t, _, Mv.enq J2 r2 hs (fun x hx => by rw [← ho x, r3, r3, hne x hx]) (r3_ne (.inr (.inl (fun q => hgh q.symm))))⟩
theorem mv_band {s : Sched} {Q : Nat → Nat → List Nat} {t k : Nat} (I : SInv s Q 16) (ht : t < 16) (h0 : (s.tk t).st ≠ 0) (hk : k < 4) (hbk : (s.tk t).band ≠ k) : Mvs s (setBandF s t (rowH s t) (rowB s t) k) Q := by
  have r := I.rowOf ht h0
  unfold setBandF
  split
  · rename_i h2
    obtain ⟨Q', J, hs, ho, r1⟩ := I.stand2 r
    rw [standDown, if_pos h2] at J ho r1
    generalize rowH s t = h at *
    generalize rowB s t = b at *
    generalize deq s t h b = s1 at *
    have hne : ∀ x, x ≠ t → (s1.pBand t k).tk x = s1.tk x := fun x hx => by simp [Sched.pBand, Sched.setTk, hx]
    have J2 := J.hand (s' := s1.pBand t k) hne rfl rfl rfl rfl rfl
    have r2 : Row (s1.pBand t k) t h k := ⟨ht, r.hh, hk, by simp [Sched.pBand, Sched.setTk]; exact r1.eh, by simp [Sched.pBand, Sched.setTk]⟩
    exact ⟨t, _, Mv.enq J2 r2 hs (fun x hx => by rw [← ho x, r3, r3, hne x hx]) (r3_ne (.inr (.inr (fun q => hbk q.symm))))⟩
  · rename_i h2
    have hne : ∀ x, ((s.pBand t k).tk x).st = (s.tk x).st ∧ ((s.pBand t k).tk x).home = (s.tk x).home ∧ ((s.pBand t k).tk x).prev = (s.tk x).prev ∧ ((s.pBand t k).tk x).next = (s.tk x).next := fun x => by
      by_cases e : x = t
      · subst e; simp [Sched.pBand, Sched.setTk]
      · simp [Sched.pBand, Sched.setTk, e]
    have hno : ∀ c b, t ∉ Q c b := fun c b q => h2 (I.mem c b t q).2.2.2.2.1
    refine ⟨t, Q, Mv.out ?_ hno (fun _ _ => List.Sublist.refl _) (fun x hx => by rw [r3, r3]; simp [Sched.pBand, Sched.setTk, hx])⟩
    refine ⟨fun c d hc hd => seg_congr _ _ _ _ _ (fun x _ => ⟨(hne x).2.2.1, (hne x).2.2.2⟩) (I.dll c d hc hd), I.nod, fun c d x hx => ?_, fun x hx hxt q => I.que x hx hxt (by rw [← (hne x).1]; exact q), fun c hc => ?_, fun x hx hxt q => ?_, fun x hx hxt => ?_, I.fl, I.qn⟩
    · have hm := I.mem c d x hx
      have hxt : x ≠ t := fun q => by subst q; exact h2 hm.2.2.2.2.1
      have : (s.pBand t k).tk x = s.tk x := by simp [Sched.pBand, Sched.setTk, hxt]
      rw [this]; exact hm
    · rcases I.cur c hc with q | ⟨p, a1, a2, a3, a4, a5⟩
      · exact .inl q
      · exact .inr ⟨p, a1, a2, a3, (hne p).1.trans a4, (hne p).2.1.trans a5⟩
    · rw [(hne x).1] at q
      rw [(hne x).2.1]
      exact I.run x hx hxt q
    · by_cases e : x = t
      · subst e
        exact .inr ⟨_, k, r.hh, hk, (hne x).2.1.trans r.eh, by simp [Sched.pBand, Sched.setTk]⟩
      · have : (s.pBand t k).tk x = s.tk x := by simp [Sched.pBand, Sched.setTk, e]
        rw [this]; exact I.dom x hx hxt
theorem lightF_lt (g : Nat → Int) (n : Nat) : lightF g n ≤ n := lightF_le g n
theorem mv_task {s : Sched} {Q : Nat → Nat → List Nat} (I : SInv s Q 16) (o : OpS) : Mvs s (taskF s o).s Q := by
  have same : Mvs s s Q := ⟨16, Q, Mv.refl I⟩
  have pres : ∀ (u : Int) (K : Nat → TRes), (∀ x, x < 16 → (s.tk x).st ≠ 0 → Mvs s (K x).s Q) → Mvs s (presF s u K).s Q := fun u K h => by
    unfold presF
    split
    · split
      · exact same
      · exact h _ (by omega) ‹_›
    · exact same
  have fresh : ∀ (u : Int) (K : Nat → TRes), (∀ x, x < 16 → (s.tk x).st = 0 → Mvs s (K x).s Q) → Mvs s (attNew s u K).s Q := fun u K h => by
    unfold attNew
    split
    · split
      · exact h _ (by omega) ‹_›
      · exact same
    · exact same
  have att : ∀ x g : Nat, ∀ b : Int, x < 16 → (s.tk x).st = 0 → g < 4 → Mvs s (attK s x g b).s Q := fun x g b hx h0 hg => by
    unfold attK
    split
    · exact mv_attach I hx h0 hg (by omega)
    · exact same
  unfold taskF
  split
  · split
    · exact fresh _ _ (fun x hx h0 => att _ _ _ hx h0 (by have := lightF_lt s.ld 3; omega))
    · refine fresh _ _ (fun x hx h0 => ?_)
      split
      · exact att _ _ _ hx h0 (by omega)
      · exact same
  split
  · exact pres _ _ (fun x hx h0 => mv_detach I hx h0)
  split
  · refine pres _ _ (fun x hx h0 => ?_)
    split
    · exact mv_ready I hx ‹_›
    · exact same
  split
  · refine pres _ _ (fun x hx h0 => ?_)
    split
    · exact same
    · exact mv_park I hx h0
  split
  · refine pres _ _ (fun x hx h0 => ?_)
    split
    · exact mv_yield I hx ‹_›
    · exact same
  split
  · refine pres _ _ (fun x hx h0 => ?_)
    split
    · split
      · exact same
      · exact mv_migrate I hx h0 (by omega) (by omega)
    · exact same
  split
  · refine pres _ _ (fun x hx h0 => ?_)
    split
    · split
      · exact same
      · exact mv_band I hx h0 (by omega) (by omega)
    · exact same
  · exact same
end Go.Proofs.Qxb6500877aGreatDoor
