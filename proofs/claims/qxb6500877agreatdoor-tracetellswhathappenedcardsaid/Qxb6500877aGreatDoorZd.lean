import Derived.Test.Qxb6500877aGreatDoorZc
import Derived.Test.Qxb6500877aGreatDoorEa
import Derived.Test.Qxb6500877aGreatDoorZd0
import Derived.Test.Qxb6500877aGreatDoorPMq
set_option linter.unusedVariables false
set_option linter.unusedSimpArgs false
namespace Go.Proofs.Qxb6500877aGreatDoor
open Go.RowKit

theorem nodup_sub {α : Type} [DecidableEq α] : ∀ (l l' : List α), l.Nodup → (∀ x ∈ l, x ∈ l') → l.length ≤ l'.length
  | [], l', _, _ => Nat.zero_le _
  | x :: t, l', h, hs => by
    have hx := hs x (by simp)
    rw [List.nodup_cons] at h
    have := nodup_sub t (l'.erase x) h.2 (fun y hy => by
      have hne : y ≠ x := fun e => h.1 (e ▸ hy)
      exact (List.mem_erase_of_ne hne).2 (hs y (by simp [hy])))
    have hl := List.length_erase_of_mem hx
    have hp := List.length_pos_of_mem hx
    simp only [List.length_cons]
    omega
theorem split_at {α : Type} : ∀ (l : List α) (j : Nat) (t : α), l[j]? = some t → ∃ A C, l = A ++ t :: C ∧ (∀ x, l.set j x = A ++ x :: C) ∧ l.eraseIdx j = A ++ C
  | [], j, t, h => by simp at h
  | a :: l, 0, t, h => by
    simp at h
    subst h
    exact ⟨[], l, rfl, fun _ => rfl, rfl⟩
  | a :: l, j + 1, t, h => by
    have h' : l[j]? = some t := by simpa using h
    obtain ⟨A, C, e1, e2, e3⟩ := split_at l j t h'
    exact ⟨a :: A, C, by rw [e1]; rfl, fun x => by rw [List.set_cons_succ, e2]; rfl, by rw [List.eraseIdx_cons_succ, e3]; rfl⟩
/-- The model's timers are the machine's. -/
structure TmRl (τ : TSt) (m : Mdl) : Prop where
  mem : ∀ e : TmR, e ∈ m.tm ↔ τ.tm e.id = some ⟨e.core, e.dl, e.ck⟩
  nod : (m.tm.map (·.id)).Nodup
  nx : m.nx = τ.nx
  lt : ∀ e ∈ m.tm, e.id < m.nx
  co : ∀ e ∈ m.tm, 0 ≤ e.core ∧ e.core < 4
  len : m.tm.length ≤ 64
structure OthT (m m' : Mdl) : Prop where
  now : m'.now = m.now
  tk : m'.tk = m.tk
  wt : m'.wt = m.wt
  bx : m'.bx = m.bx
  ac : m'.ac = m.ac
theorem OthT.refl (m : Mdl) : OthT m m := ⟨rfl, rfl, rfl, rfl, rfl⟩
theorem TmRl.full {τ : TSt} {m : Mdl} (R : TmRl τ m) (h : FullT τ) : m.tm.length = 64 := by
  obtain ⟨l, h1, h2, h3⟩ := h
  have := nodup_sub l (m.tm.map (·.id)) h1 (fun id hid => by
    obtain ⟨⟨c, d, k⟩, hv⟩ := h3 id hid
    exact List.mem_map.2 ⟨⟨id, c, d, k⟩, (R.mem ⟨id, c, d, k⟩).2 hv, rfl⟩)
  rw [List.length_map] at this
  have := R.len
  omega
theorem TmRl.room {τ : TSt} {m : Mdl} (R : TmRl τ m) (h : RoomT τ) : m.tm.length < 64 := by
  obtain ⟨l, h1, h2⟩ := h
  have := nodup_sub (m.tm.map (·.id)) l R.nod (fun id hid => by
    obtain ⟨e, he, rfl⟩ := List.mem_map.1 hid
    exact h2 _ _ ((R.mem e).1 he))
  rw [List.length_map] at this
  omega
theorem arm_rel {τ τ' : TSt} {σ σ' : Sg} {m m' : Mdl} {ca d ck a z zm co tm : Int} (R : TmRl τ m) (hnx : 0 < τ.nx ∧ τ.nx < 18446744073709551615) (hst : ∀ i, i < 28 → m.st i = σ.st i) (hA : ArmR2 τ σ (argF 4 ca) d ck a z τ' σ') (hM : ArmM m ca d ck zm co tm m') :
    zm = z ∧ co = (if z = 0 then ca else -1) ∧ tm = a ∧ TmRl τ' m' ∧ OthT m m' ∧ ∀ i, i < 28 → m'.st i = σ'.st i := by
  obtain ⟨hA, hz⟩ := hA
  have no : z ≠ 0 → a = 0 ∧ τ' = τ ∧ σ' = σ := fun h => by
    rcases hA with ⟨_, h1⟩ | ⟨q, _⟩
    · exact h1
    · exact absurd q h
  rcases hM with ⟨hc, rfl, rfl, rfl, rfl⟩ | ⟨hc, hM⟩
  · rw [argF_out hc] at hz hA
    have e4 : z = 4 := by
      rcases hz with ⟨h, _⟩ | ⟨_, h, _⟩ | ⟨h, _⟩
      · exact h
      · omega
      · rcases hA with ⟨q, _⟩ | ⟨_, q, _⟩
        · exact absurd h q
        · omega
    subst e4
    obtain ⟨rfl, rfl, rfl⟩ := no (by omega)
    exact ⟨rfl, (if_neg (by omega)).symm, rfl, R, OthT.refl _, hst⟩
  · rw [argF_in hc] at hz hA
    rcases hM with ⟨hl, rfl, rfl, rfl, rfl⟩ | ⟨hl, rfl, hco, rfl, rfl⟩
    · have e9 : z = 9 := by
        rcases hz with ⟨_, h⟩ | ⟨h, _⟩ | ⟨_, h⟩
        · exact absurd hc h
        · exact h
        · have := R.room h; omega
      subst e9
      obtain ⟨rfl, rfl, rfl⟩ := no (by omega)
      exact ⟨rfl, (if_neg (by omega)).symm, rfl, R, OthT.refl _, hst⟩
    · subst co
      have hz0 : z = 0 ∧ RoomT τ := by
        rcases hz with ⟨_, h⟩ | ⟨_, _, h⟩ | h
        · exact absurd hc h
        · exact absurd (R.full h) hl
        · exact h
      obtain ⟨rfl, hr⟩ := hz0
      have hlen := R.room hr
      rcases hA with ⟨q, _⟩ | ⟨_, _, rfl, rfl, rfl⟩
      · exact absurd rfl q
      · have hno : ∀ e ∈ m.tm, e.id ≠ τ.nx := fun e he q => by
          have := R.lt e he
          rw [R.nx] at this
          omega
        refine ⟨rfl, (if_pos rfl).symm, R.nx, ⟨fun e => ?_, ?_, ?_, fun e he => ?_, fun e he => ?_, ?_⟩, ⟨rfl, rfl, rfl, rfl, rfl⟩, st_inc (m := (m.setNx (inc64 m.nx)).setTm _) hst (by omega)⟩
        · show e ∈ m.tm ++ [⟨m.nx, ca, d, ck⟩] ↔ updT τ.tm τ.nx (some ⟨ca, d, ck⟩) e.id = _
          rw [List.mem_append, List.mem_singleton, R.mem, R.nx]
          unfold updT
          by_cases q : e.id = τ.nx
          · rw [if_pos q]
            constructor
            · rintro (h | rfl)
              · exact absurd q (hno e ((R.mem e).2 h))
              · rfl
            · intro h
              simp only [Option.some.injEq, TmV.mk.injEq] at h
              obtain ⟨i, x, y, z⟩ := e
              simp only at h q
              obtain ⟨h1, h2, h3⟩ := h
              subst q h1 h2 h3
              exact .inr rfl
          · rw [if_neg q]
            constructor
            · rintro (h | rfl)
              · exact h
              · exact absurd rfl q
            · exact .inl
        · show ((m.tm ++ [(⟨m.nx, ca, d, ck⟩ : TmR)]).map (fun e : TmR => e.id)).Nodup
          rw [List.map_append, List.nodup_append]
          refine ⟨R.nod, by simp, fun x hx y hy => ?_⟩
          obtain ⟨e, he, rfl⟩ := List.mem_map.1 hx
          have ey : y = m.nx := by simpa using hy
          have := R.lt e he
          omega
        · show inc64 m.nx = τ.nx + 1
          rw [R.nx, inc64_small (by omega)]
        · have he' : e ∈ m.tm ++ [⟨m.nx, ca, d, ck⟩] := he
          show e.id < inc64 m.nx
          rw [inc64_small (by rw [R.nx]; omega)]
          rcases List.mem_append.1 he' with h | h
          · have := R.lt e h; omega
          · rw [List.mem_singleton.1 h]; show m.nx < _; omega
        · have he' : e ∈ m.tm ++ [⟨m.nx, ca, d, ck⟩] := he
          rcases List.mem_append.1 he' with h | h
          · exact R.co e h
          · rw [List.mem_singleton.1 h]; exact hc
        · show (m.tm ++ [_]).length ≤ 64
          rw [List.length_append]
          simp only [List.length_cons, List.length_nil]
          omega
theorem TmRl.only {τ : TSt} {m : Mdl} (R : TmRl τ m) {A C : List TmR} {t : TmR} (e : m.tm = A ++ t :: C) : ∀ u, u ∈ A ∨ u ∈ C → u.id ≠ t.id := fun u hu q => by
  have := R.nod
  rw [e, List.map_append, List.map_cons, List.nodup_append, List.nodup_cons] at this
  obtain ⟨_, ⟨h2, _⟩, h3⟩ := this
  rcases hu with h | h
  · exact h3 u.id (List.mem_map_of_mem h) t.id (by simp) q
  · exact h2 (by rw [← q]; exact List.mem_map_of_mem h)
theorem rearm_rel {τ τ' : TSt} {m m' : Mdl} {x d a c z zm co tm : Int} (R : TmRl τ m) (hA : RearmR τ x d a c z τ') (hM : RearmM m x d zm co tm m') :
    zm = (tmRS z c a).c ∧ co = (tmRS z c a).co ∧ (-1 : Int) = (tmRS z c a).tk ∧ tm = (tmRS z c a).tm ∧ TmRl τ' m' ∧ OthT m m' ∧ m'.st = m.st := by
  rcases hM with ⟨hn, rfl, rfl, rfl, rfl⟩ | ⟨j, t, hj, ht, _, rfl, rfl, rfl, rfl⟩
  · rcases hA with ⟨rfl, rfl, _⟩ | ⟨_, _, d0, ck, h, _⟩
    · exact ⟨rfl, rfl, rfl, rfl, R, OthT.refl _, rfl⟩
    · exact absurd rfl (hn ⟨x, c, d0, ck⟩ ((R.mem ⟨x, c, d0, ck⟩).2 h))
  · obtain ⟨A, C, e1, e2, _⟩ := split_at m.tm j t hj
    have htm : τ.tm t.id = some ⟨t.core, t.dl, t.ck⟩ := (R.mem t).1 (by rw [e1]; simp)
    subst ht
    rcases hA with ⟨_, _, h⟩ | ⟨rfl, rfl, d0, ck, h, rfl⟩
    · rw [h] at htm; cases htm
    · rw [htm] at h
      simp only [Option.some.injEq, TmV.mk.injEq] at h
      obtain ⟨rfl, rfl, rfl⟩ := h
      have only := R.only e1
      have em : (m.setTm (m.tm.set j { t with dl := d })).tm = A ++ { t with dl := d } :: C := e2 _
      have hin : ∀ u, u ∈ A ∨ u ∈ C → u ∈ m.tm := fun u hu => by rw [e1]; rcases hu with h | h <;> simp [h]
      refine ⟨rfl, rfl, rfl, rfl, ⟨fun e => ?_, ?_, R.nx, fun e he => ?_, fun e he => ?_, ?_⟩, ⟨rfl, rfl, rfl, rfl, rfl⟩, rfl⟩
      · rw [em]
        show _ ↔ updT τ.tm t.id (some ⟨t.core, d, t.ck⟩) e.id = _
        unfold updT
        by_cases q : e.id = t.id
        · rw [if_pos q]
          constructor
          · intro h
            rcases List.mem_append.1 h with h | h
            · exact absurd q (only e (.inl h))
            · rcases List.mem_cons.1 h with rfl | h
              · rfl
              · exact absurd q (only e (.inr h))
          · intro h
            simp only [Option.some.injEq, TmV.mk.injEq] at h
            obtain ⟨i, y, z, w⟩ := e
            simp only at h q
            obtain ⟨h1, h2, h3⟩ := h
            subst q h1 h2 h3
            simp
        · rw [if_neg q, ← R.mem e, e1]
          constructor
          · intro h
            rcases List.mem_append.1 h with h | h
            · simp [h]
            · rcases List.mem_cons.1 h with rfl | h
              · exact absurd rfl q
              · simp [h]
          · intro h
            rcases List.mem_append.1 h with h | h
            · simp [h]
            · rcases List.mem_cons.1 h with rfl | h
              · exact absurd rfl q
              · simp [h]
      · rw [em]
        have := R.nod
        rw [e1] at this
        simpa using this
      · rw [em] at he
        show e.id < m.nx
        rcases List.mem_append.1 he with h | h
        · exact R.lt e (hin e (.inl h))
        · rcases List.mem_cons.1 h with rfl | h
          · exact R.lt t (by rw [e1]; simp)
          · exact R.lt e (hin e (.inr h))
      · rw [em] at he
        rcases List.mem_append.1 he with h | h
        · exact R.co e (hin e (.inl h))
        · rcases List.mem_cons.1 h with rfl | h
          · exact R.co t (by rw [e1]; simp)
          · exact R.co e (hin e (.inr h))
      · show (m.tm.set j _).length ≤ 64
        rw [List.length_set]
        exact R.len
theorem cancel_rel {τ τ' : TSt} {σ σ' : Sg} {m m' : Mdl} {x a c z zm co tm : Int} (R : TmRl τ m) (hst : ∀ i, i < 28 → m.st i = σ.st i) (hA : CancelR τ σ x a c z τ' σ') (hM : CancelM m x zm co tm m') :
    zm = (tmRS z c a).c ∧ co = (tmRS z c a).co ∧ (-1 : Int) = (tmRS z c a).tk ∧ tm = (tmRS z c a).tm ∧ TmRl τ' m' ∧ OthT m m' ∧ ∀ i, i < 28 → m'.st i = σ'.st i := by
  rcases hM with ⟨hn, rfl, rfl, rfl, rfl⟩ | ⟨j, t, hj, ht, _, rfl, rfl, rfl, rfl⟩
  · rcases hA with ⟨rfl, rfl, rfl, _⟩ | ⟨_, _, ⟨d0, ck, h⟩, _⟩
    · exact ⟨rfl, rfl, rfl, rfl, R, OthT.refl _, hst⟩
    · exact absurd rfl (hn ⟨x, c, d0, ck⟩ ((R.mem ⟨x, c, d0, ck⟩).2 h))
  · obtain ⟨A, C, e1, _, e2⟩ := split_at m.tm j t hj
    have htm : τ.tm t.id = some ⟨t.core, t.dl, t.ck⟩ := (R.mem t).1 (by rw [e1]; simp)
    have hco := R.co t (by rw [e1]; simp)
    subst ht
    rcases hA with ⟨_, _, _, h⟩ | ⟨rfl, rfl, ⟨d0, ck, h⟩, rfl, rfl⟩
    · rw [h] at htm; cases htm
    · rw [htm] at h
      simp only [Option.some.injEq, TmV.mk.injEq] at h
      obtain ⟨rfl, rfl, rfl⟩ := h
      have only := R.only e1
      have em : ((m.inc (t.core.toNat * 7 + 5)).setTm (m.tm.eraseIdx j)).tm = A ++ C := e2
      have hin : ∀ u, u ∈ A ++ C → u ∈ m.tm := fun u hu => by rw [e1]; rcases List.mem_append.1 hu with h | h <;> simp [h]
      refine ⟨rfl, rfl, rfl, rfl, ⟨fun e => ?_, ?_, R.nx, fun e he => ?_, fun e he => ?_, ?_⟩, ⟨rfl, rfl, rfl, rfl, rfl⟩, st_inc hst (by omega)⟩
      · rw [em]
        show _ ↔ updT τ.tm t.id none e.id = _
        unfold updT
        by_cases q : e.id = t.id
        · rw [if_pos q]
          constructor
          · intro h
            exact absurd q (only e (List.mem_append.1 h))
          · intro h; cases h
        · rw [if_neg q, ← R.mem e, e1]
          constructor
          · intro h
            rcases List.mem_append.1 h with h | h <;> simp [h]
          · intro h
            rcases List.mem_append.1 h with h | h
            · simp [h]
            · rcases List.mem_cons.1 h with rfl | h
              · exact absurd rfl q
              · simp [h]
      · rw [em]
        have := R.nod
        rw [e1, List.map_append, List.map_cons, List.nodup_append, List.nodup_cons] at this
        obtain ⟨h1, ⟨_, h2⟩, h3⟩ := this
        rw [List.map_append, List.nodup_append]
        exact ⟨h1, h2, fun u hu v hv => h3 u hu v (List.mem_cons_of_mem _ hv)⟩
      · rw [em] at he
        exact R.lt e (hin e he)
      · rw [em] at he
        exact R.co e (hin e he)
      · rw [em]
        have := R.len
        rw [e1] at this
        simp only [List.length_append, List.length_cons] at this ⊢
        omega
theorem asc_pair {l : List TmR} (h : TmAsc l) (hn : (l.map (·.id)).Nodup) : l.Pairwise (fun e e' => e.dl < e'.dl ∨ (e.dl = e'.dl ∧ e.id < e'.id)) := by
  rw [List.pairwise_iff_getElem]
  intro i j hi hj hij
  have h1 := h i j _ _ hij (List.getElem?_eq_getElem hi) (List.getElem?_eq_getElem hj)
  rw [ltTm_no] at h1
  have h2 : l[i].id ≠ l[j].id := by
    rw [List.Nodup, List.pairwise_map, List.pairwise_iff_getElem] at hn
    exact hn i j hi hj hij
  omega
theorem incF_oth (l : List TmR) : ∀ m : Mdl, (incF m l).now = m.now ∧ (incF m l).tk = m.tk ∧ (incF m l).wt = m.wt ∧ (incF m l).bx = m.bx ∧ (incF m l).ac = m.ac ∧ (incF m l).tm = m.tm ∧ (incF m l).nx = m.nx := by
  induction l with
  | nil => exact fun m => ⟨rfl, rfl, rfl, rfl, rfl, rfl, rfl⟩
  | cons x l ih => exact fun m => ih (m.inc (x.core.toNat * 7 + 6))
theorem incF_st (ft : Int) : ∀ (l : List TmR) (m : Mdl) (σ : Sg), (∀ e ∈ l, 0 ≤ e.core ∧ e.core < 4) → (∀ i, i < 28 → m.st i = σ.st i) → ∀ i, i < 28 → (incF m l).st i = (firedSg σ (l.map (firM ft))).st i
  | [], m, σ, _, h => h
  | x :: l, m, σ, hc, h => incF_st ft l (m.inc (x.core.toNat * 7 + 6)) (σ.inc (x.core.toNat * 7 + 6)) (fun e he => hc e (by simp [he])) (st_inc h (by have := hc x (by simp); omega))
theorem plusI_after {t n : Nat} (ht : t < 18446744073709551616) (hn : n < 18446744073709551616) : plusI t n = ((afterF t n : Nat) : Int) := by
  unfold plusI afterF
  split <;> split <;> omega
theorem tick_rel {t n : Nat} {τ τ' : TSt} {σ : Sg} {m m' : Mdl} {l fs : List FiredS} (R : TmRl τ m) (hst : ∀ i, i < 28 → m.st i = σ.st i) (hn : m.now = t) (ht : t < 18446744073709551616) (hn2 : n < 18446744073709551616) (hA : AdvanceR τ τ' t n l) (hM : TickM m n fs m') :
    fs = l ∧ TmRl τ' m' ∧ m'.now = ((afterF t n : Nat) : Int) ∧ (m'.tk = m.tk ∧ m'.wt = m.wt ∧ m'.bx = m.bx ∧ m'.ac = m.ac) ∧ ∀ i, i < 28 → m'.st i = (firedSg σ l).st i := by
  obtain ⟨enx, hA⟩ := hA
  rcases hM with ⟨h0, rfl, rfl⟩ | ⟨h0, due, hp, ha, rfl, rfl⟩
  · have e0 : n = 0 := by omega
    subst e0
    rcases hA with ⟨_, rfl, rfl⟩ | ⟨q, _⟩
    · refine ⟨rfl, R, ?_, ⟨rfl, rfl, rfl, rfl⟩, hst⟩
      rw [hn, afterF_nil]
    · exact absurd rfl q
  · rcases hA with ⟨q, _⟩ | ⟨_, A⟩
    · omega
    have e1 : plusI m.now n = ((afterF t n : Nat) : Int) := by rw [hn]; exact plusI_after ht hn2
    have e2 : plusI m.now 1 = ((afterF t 1 : Nat) : Int) := by rw [hn]; show plusI (t : Int) ((1 : Nat) : Int) = _; exact plusI_after ht (by decide)
    rw [e1] at hp ⊢
    rw [e2]
    have hmem : ∀ e, e ∈ due ↔ e ∈ m.tm ∧ e.dl ≤ ((afterF t n : Nat) : Int) := fun e => by
      rw [hp.mem_iff, dueL, List.mem_filter]; simp
    have hnd : (due.map (·.id)).Nodup := by
      refine (hp.map (·.id)).nodup_iff.2 ?_
      exact R.nod.sublist (List.Sublist.map _ List.filter_sublist)
    have hpw := asc_pair ha hnd
    have eqf : due.map (firM ((afterF t 1 : Nat) : Int)) = l := by
      refine sorted_unique (R := fun e e' : FiredS => e.dl < e'.dl ∨ (e.dl = e'.dl ∧ e.id < e'.id)) (fun a h => by omega) (fun a b h h' => by omega) _ _ ?_ A.fs (fun e => ?_)
      · rw [List.pairwise_map]; exact hpw
      · rw [A.mem e, List.mem_map]
        constructor
        · rintro ⟨u, hu, rfl⟩
          obtain ⟨g1, g2⟩ := (hmem u).1 hu
          exact ⟨(R.mem u).1 g1, g2, rfl⟩
        · rintro ⟨g1, g2, g3⟩
          refine ⟨⟨e.id, e.core, e.dl, e.ck⟩, (hmem _).2 ⟨(R.mem ⟨e.id, e.core, e.dl, e.ck⟩).2 g1, g2⟩, ?_⟩
          obtain ⟨i, c, d, k, x⟩ := e
          simp only at g3
          rw [g3]
          rfl
    rw [eqf]
    have ho := incF_oth due ((m.setNow ((afterF t n : Nat) : Int)).setTm (keepL m ((afterF t n : Nat) : Int)))
    have hk : ∀ e, e ∈ keepL m ((afterF t n : Nat) : Int) ↔ e ∈ m.tm ∧ ¬ e.dl ≤ ((afterF t n : Nat) : Int) := fun e => by
      rw [keepL, List.mem_filter]; simp
    have hst' := incF_st ((afterF t 1 : Nat) : Int) due ((m.setNow ((afterF t n : Nat) : Int)).setTm (keepL m ((afterF t n : Nat) : Int))) σ (fun e he => R.co e ((hmem e).1 he).1) hst
    rw [eqf] at hst'
    refine ⟨rfl, ⟨fun e => ?_, ?_, ?_, fun e he => ?_, fun e he => ?_, ?_⟩, ho.1, ⟨ho.2.1, ho.2.2.1, ho.2.2.2.1, ho.2.2.2.2.1⟩, hst'⟩
    · rw [ho.2.2.2.2.2.1]
      show e ∈ keepL m _ ↔ _
      rw [hk e, A.rest, R.mem e]
      constructor
      · rintro ⟨g1, g2⟩
        refine ⟨g1, fun u hu q => ?_⟩
        obtain ⟨f1, f2, _⟩ := A.fin u hu
        rw [q, g1] at f1
        simp only [Option.some.injEq, TmV.mk.injEq] at f1
        omega
      · rintro ⟨g1, g2⟩
        refine ⟨g1, ?_⟩
        have := A.late e.id ⟨e.core, e.dl, e.ck⟩ ((A.rest _ _).2 ⟨g1, g2⟩)
        simp only at this
        omega
    · rw [ho.2.2.2.2.2.1]
      exact R.nod.sublist (List.Sublist.map _ List.filter_sublist)
    · rw [ho.2.2.2.2.2.2, enx]; exact R.nx
    · rw [ho.2.2.2.2.2.1] at he
      rw [ho.2.2.2.2.2.2]
      exact R.lt e ((hk e).1 he).1
    · rw [ho.2.2.2.2.2.1] at he
      exact R.co e ((hk e).1 he).1
    · rw [ho.2.2.2.2.2.1]
      exact Nat.le_trans (List.length_filter_le _ _) R.len
end Go.Proofs.Qxb6500877aGreatDoor
