import Derived.Test.Qxb6500877aGreatDoorTa
set_option linter.unusedVariables false
set_option linter.unusedSimpArgs false
namespace Go.Proofs.Qxb6500877aGreatDoor
open Go.RowKit

/-- On the way to a later reading: what has gone off so far (l), of the timers τ0. -/
structure AD (τ0 : Int → Option TmV) (ft : Nat) (N : Int) (s : Wheel) (L : Option (Nat × Nat) → List Nat) (fr : List Nat) (f : Int → Option Int) (xs : List Nat) (l : List FiredS) : Prop where
  wo : WO s L fr f xs
  hs : xs.Pairwise (fun x y => bef s x y = true)
  nn : L none = []
  fs : l.Pairwise (fun e e' => e.dl < e'.dl ∨ (e.dl = e'.dl ∧ e.id < e'.id))
  fb : ∀ e ∈ l, ∀ x, Pend L xs x → e.dl < (s.nd x).dl ∨ (e.dl = (s.nd x).dl ∧ e.id < (s.nd x).id)
  ft : ∀ e ∈ l, e.t = max e.dl (ft : Int) ∧ e.dl ≤ s.now
  vw : ∀ id v, τ0 id = some v ↔ (tmOf s f id = some v ∨ ∃ e ∈ l, e.id = id ∧ v = ⟨e.core, e.dl, e.ck⟩)
  ff : ∀ e ∈ l, f e.id = none
  nx : s.nid = N
theorem AD.expired {τ0 : Int → Option TmV} {ft : Nat} {N : Int} {s : Wheel} {L : Option (Nat × Nat) → List Nat} {fr : List Nat} {f : Int → Option Int} {xs : List Nat} {l : List FiredS} {x : Nat} {t : Int} (A : AD τ0 ft N s L fr f (x :: xs) l) (I : WInv s L fr f (x :: xs)) (hd : (s.nd x).dl ≤ s.now) (ht : t = max (s.nd x).dl (ft : Int)) :
    AD τ0 ft N (retireF s x) L (x :: fr) (forget f (s.nd x).id) xs (l ++ [firedOf s x t]) := by
  have hx : x ∉ xs := (List.nodup_cons.1 I.hnod).1
  have hL : ∀ r, x ∉ L r := I.notin (by have := (I.hnd x (by simp)).2; omega)
  have hne : ∀ {y : Nat}, y ≠ x → (retireF s x).nd y = s.nd y := fun {y} h => by simp [retireF, Wheel.pFree, Wheel.pLive, Wheel.setNd, h]
  have hyx : ∀ {y : Nat}, Pend L xs y → y ≠ x := fun {y} hy => by
    rcases hy with h | ⟨q, h⟩
    · exact fun e => hx (e ▸ h)
    · exact fun e => hL q (e ▸ h)
  have up : ∀ {y : Nat}, Pend L xs y → Pend L (x :: xs) y := fun {y} hy => by
    rcases hy with h | h
    · exact .inl (by simp [h])
    · exact .inr h
  have hpx : Pend L (x :: xs) x := .inl (by simp)
  have hmin : ∀ {y : Nat}, Pend L xs y → (s.nd x).dl < (s.nd y).dl ∨ ((s.nd x).dl = (s.nd y).dl ∧ (s.nd x).id < (s.nd y).id) := fun {y} hy => by
    rcases hy with h | ⟨q, h⟩
    · exact bef_iff.1 ((List.pairwise_cons.1 A.hs).1 y h)
    · match q, h with
      | none, h => rw [A.nn] at h; simp at h
      | some (k, z), h => have := A.wo.ahd k z y h; omega
  have hfx := (A.wo.inm x hpx).1
  refine ⟨A.wo.retire hx hL, pairwise_congr (List.pairwise_cons.1 A.hs).2 (fun a ha b hb h => by rw [bef_congr (s := s) (by rw [hne (hyx (.inl ha))]) (by rw [hne (hyx (.inl ha))]) (by rw [hne (hyx (.inl hb))]) (by rw [hne (hyx (.inl hb))])]; exact h), A.nn, ?_, fun e he y hy => ?_, fun e he => ?_, fun id v => ?_, fun e he => ?_, A.nx⟩
  · rw [List.pairwise_append]
    refine ⟨A.fs, by simp, fun e he e' he' => ?_⟩
    simp at he'
    subst he'
    exact A.fb e he x hpx
  · rw [hne (hyx hy)]
    rcases List.mem_append.1 he with he | he
    · exact A.fb e he y (up hy)
    · simp at he
      subst he
      exact hmin hy
  · rcases List.mem_append.1 he with he | he
    · exact A.ft e he
    · simp at he
      subst he
      exact ⟨ht, hd⟩
  · rw [A.vw id v, tm_retire I hfx id]
    by_cases e : id = (s.nd x).id
    · rw [if_pos e]
      have hv := tm_pend A.wo hpx
      constructor
      · rintro (h | ⟨e', he', h1, h2⟩)
        · rw [e, hv] at h
          exact .inr ⟨firedOf s x t, by simp, e.symm, (Option.some.inj h).symm⟩
        · exact .inr ⟨e', by simp [he'], h1, h2⟩
      · rintro (h | ⟨e', he', h1, h2⟩)
        · simp at h
        · rcases List.mem_append.1 he' with he' | he'
          · exact .inr ⟨e', he', h1, h2⟩
          · simp at he'
            subst he'
            exact .inl (by rw [e, hv, h2]; rfl)
    · rw [if_neg e]
      constructor
      · rintro (h | ⟨e', he', h1, h2⟩)
        · exact .inl h
        · exact .inr ⟨e', by simp [he'], h1, h2⟩
      · rintro (h | ⟨e', he', h1, h2⟩)
        · exact .inl h
        · rcases List.mem_append.1 he' with he' | he'
          · exact .inr ⟨e', he', h1, h2⟩
          · simp at he'
            subst he'
            exact absurd h1.symm e
  · rcases List.mem_append.1 he with he | he
    · unfold forget
      split
      · rfl
      · exact A.ff e he
    · simp at he
      subst he
      simp [forget, firedOf]
theorem AD.keep {τ0 : Int → Option TmV} {ft : Nat} {N : Int} {s s' : Wheel} {L : Option (Nat × Nat) → List Nat} {fr : List Nat} {f : Int → Option Int} {xs : List Nat} {l : List FiredS} (A : AD τ0 ft N s L fr f xs l) (hk : ∀ x, (s'.nd x).id = (s.nd x).id ∧ (s'.nd x).core = (s.nd x).core ∧ (s'.nd x).dl = (s.nd x).dl ∧ (s'.nd x).ck = (s.nd x).ck) (hn : s'.now = s.now) (hi : s'.nid = s.nid) : AD τ0 ft N s' L fr f xs l :=
  ⟨A.wo.keep (fun x => ⟨(hk x).1, (hk x).2.2.1⟩) hn hi, pairwise_congr A.hs (fun a _ b _ h => by rw [bef_congr (hk a).2.2.1 (hk a).1 (hk b).2.2.1 (hk b).1]; exact h), A.nn, A.fs, fun e he x hx => by rw [(hk x).1, (hk x).2.2.1]; exact A.fb e he x hx, fun e he => by rw [hn]; exact A.ft e he, fun id v => by rw [tm_keep (fun x => (hk x).2)]; exact A.vw id v, A.ff, hi.trans A.nx⟩
theorem AD.placed {τ0 : Int → Option TmV} {ft : Nat} {N : Int} {s s1 s' : Wheel} {L : Option (Nat × Nat) → List Nat} {fr : List Nat} {f : Int → Option Int} {xs : List Nat} {l : List FiredS} {x m d : Nat} {A C : List Nat} {lv sl : Int} (D : AD τ0 ft N s L fr f (x :: xs) l) (I : WInv s L fr f (x :: xs)) (h1 : ∀ y, (s1.nd y).id = (s.nd y).id ∧ (s1.nd y).core = (s.nd y).core ∧ (s1.nd y).dl = (s.nd y).dl ∧ (s1.nd y).ck = (s.nd y).ck) (hn1 : s1.now = s.now) (hi1 : s1.nid = s.nid)
    (em : s.now = m) (ed : (s.nd x).dl = d) (hm : m < 18446744073709551616) (hd : d < 18446744073709551616) (hmd : m < d) (eL : L (placeOf m d) = A ++ C) (E : InsEff s1 s' (placeOf m d) x A C lv sl) (q1 : ∀ y ∈ C, bef s1 x y = true) (q2 : ∀ y A', A = A' ++ [y] → bef s1 x y = false) :
    AD τ0 ft N s' (putL L (placeOf m d) (A ++ x :: C)) fr f xs l := by
  have D1 := D.keep h1 hn1 hi1
  have hL : ∀ r, x ∉ L r := I.notin (by have := (I.hnd x (by simp)).2; omega)
  have hW := D1.wo.place (by rw [hn1]; exact em) (by rw [(h1 x).2.2.1]; exact ed) hm hd eL E hL q1 q2
  have hk := E.keep
  have hp : placeOf m d = some (lvlOf m d, d / 64 ^ lvlOf m d % 64) := by rw [placeOf, if_neg (by omega)]
  have down : ∀ {y}, Pend (putL L (placeOf m d) (A ++ x :: C)) xs y → Pend L (x :: xs) y := fun {y} hy => by
    rcases hy with h | ⟨r, h⟩
    · exact .inl (by simp [h])
    · rcases mem_putL h with ⟨e, h⟩ | ⟨e, h⟩
      · rcases List.mem_append.1 h with h | h
        · exact .inr ⟨_, by rw [eL]; simp [h]⟩
        · rcases List.mem_cons.1 h with rfl | h
          · exact .inl (by simp)
          · exact .inr ⟨_, by rw [eL]; simp [h]⟩
      · exact .inr ⟨r, h⟩
  refine ⟨hW, pairwise_congr (List.pairwise_cons.1 D1.hs).2 (fun a _ b _ h => by rw [bef_congr (hk a).2.2.1 (hk a).1 (hk b).2.2.1 (hk b).1]; exact h), ?_, D.fs, fun e he y hy => ?_, fun e he => by rw [E.now, hn1]; exact D.ft e he, fun id v => ?_, D.ff, by rw [E.nid, hi1]; exact D.nx⟩
  · rw [putL_other _ _ (by rw [hp]; simp)]; exact D.nn
  · rw [(hk y).1, (hk y).2.2.1]
    exact D1.fb e he y (down hy)
  · rw [tm_keep (fun y => (hk y).2)]
    exact D1.vw id v
theorem taken_nd (s : Wheel) (r : Option (Nat × Nat)) (l : List Nat) (o : Nat → Int) (x : Nat) : ((taken s r l o).nd x).id = (s.nd x).id ∧ ((taken s r l o).nd x).core = (s.nd x).core ∧ ((taken s r l o).nd x).dl = (s.nd x).dl ∧ ((taken s r l o).nd x).ck = (s.nd x).ck := by
  have h := markL_nd s l x
  exact ⟨h.2.2.2.1, h.2.2.2.2.1, h.2.2.1, h.2.2.2.2.2⟩
theorem taken_now (s : Wheel) (r : Option (Nat × Nat)) (l : List Nat) (o : Nat → Int) : (taken s r l o).now = s.now ∧ (taken s r l o).nid = s.nid := by
  have h := markL_eq s l
  exact ⟨h.2.2.2.2.2.1, h.2.2.2.2.2.2.2.2.1⟩
/-- A whole list taken in hand. -/
theorem WO.take {s : Wheel} {L : Option (Nat × Nat) → List Nat} {fr : List Nat} {f : Int → Option Int} (O : WO s L fr f []) (r : Option (Nat × Nat)) : WO s (putL L r []) fr f (L r) := by
  have sub : ∀ q x, x ∈ putL L r [] q → x ∈ L q := fun q x h => by
    rcases mem_putL h with ⟨e, h⟩ | ⟨e, h⟩
    · simp at h
    · exact h
  have dn : ∀ x, Pend (putL L r []) (L r) x → Pend L [] x := fun x h => by
    rcases h with h | ⟨q, h⟩
    · exact .inr ⟨r, h⟩
    · exact .inr ⟨q, sub q x h⟩
  refine ⟨fun q => ?_, fun x hx => O.due x (sub _ x hx), fun k z x hx => O.ahd k z x (sub _ x hx), fun k z h n e => ?_, fun x hx => O.inm x (dn x hx), fun x hx => ?_⟩
  · by_cases e : q = r
    · subst e; rw [putL_same]; exact List.Pairwise.nil
    · rw [putL_other _ _ e]; exact O.srt q
  · obtain ⟨y, hy⟩ := List.exists_mem_of_ne_nil _ h
    exact O.dgt k z (List.ne_nil_of_mem (sub _ y hy)) n e
  · rcases O.all x hx with h | h | ⟨q, h⟩
    · exact .inl h
    · simp at h
    · by_cases e : q = r
      · subst e; exact .inr (.inl h)
      · exact .inr (.inr ⟨q, by rw [putL_other _ _ e]; exact h⟩)
theorem AD.due {τ0 : Int → Option TmV} {ft : Nat} {N : Int} {s : Wheel} {L : Option (Nat × Nat) → List Nat} {fr : List Nat} {f : Int → Option Int} (O : WO s L fr f []) (hv : tmOf s f = τ0) (hN : s.nid = N) (o : Nat → Int) : AD τ0 ft N (taken s none (L none) o) (putL L none []) fr f (L none) [] := by
  have A : AD τ0 ft N s (putL L none []) fr f (L none) [] := ⟨O.take none, O.srt none, putL_same _ _ _, List.Pairwise.nil, fun e he => by simp at he, fun e he => by simp at he, fun id v => by rw [hv]; simp, fun e he => by simp at he, hN⟩
  exact A.keep (taken_nd s none (L none) o) (taken_now s none (L none) o).1 (taken_now s none (L none) o).2
theorem tz_min {x j : Nat} (h0 : 0 < x) (h1 : x < 18446744073709551616) (hb : x.testBit j = true) : tz64 x ≤ j := by
  have h2 : x < 2 ^ 64 := by rw [p64]; exact h1
  obtain ⟨ht, m, hm⟩ := tzA_spec 64 x h0 h2
  have hm' : x = 2 ^ tz64 x * (2 * m + 1) := hm
  by_cases hc : tz64 x ≤ j
  · exact hc
  · rw [hm', Nat.testBit_two_pow_mul] at hb
    simp at hb
    omega
/-- The first slot in use lies ahead of the time, and all other slots behind it. -/
theorem first_facts {s : Wheel} {L : Option (Nat × Nat) → List Nat} {fr : List Nat} {f : Int → Option Int} {m q mo z st : Nat} (I : WInv s L fr f []) (O : WO s L fr f []) (em : s.now = m) (hq : q < 11) (h1 : s.occ q = mo) (h2 : 0 < mo) (h3 : mo < 18446744073709551616) (h4 : ∀ k, k < q → s.occ k = 0) (h5 : z = tz64 mo) (h6 : z < 64) (h7 : L (some (q, z)) ≠ []) (h9 : st = m / 64 ^ (q + 1) * 64 ^ (q + 1) + z * 64 ^ q) :
    m < st ∧ (∀ k z' y, y ∈ L (some (k, z')) → (k, z') ≠ (q, z) → (st : Int) < (s.nd y).dl) ∧ (∀ k z', L (some (k, z')) ≠ [] → (k, z') ≠ (q, z) → st / 64 ^ k % 64 < z') ∧ (∀ til, m ≤ til → til < st → ∀ k z', L (some (k, z')) ≠ [] → til / 64 ^ k % 64 < z') := by
  obtain ⟨x, hx⟩ := List.exists_mem_of_ne_nil _ h7
  obtain ⟨d, hd, hd'⟩ := I.dls x (I.mem _ x hx).2.1
  have F := slot_facts h6 (I.dig q z x hx d m hd em)
  rw [← h9] at F
  obtain ⟨f1, f2, f3, f4⟩ := F
  have hdig := I.dig q z x hx d m hd em
  rw [hdig] at f4
  have hdg := O.dgt q z h7 m em
  have hmq : m / 64 ^ q = m / 64 ^ (q + 1) * 64 + m / 64 ^ q % 64 := by
    rw [Nat.pow_succ, ← Nat.div_div_eq_div_mul]; omega
  have lvls : ∀ k z', L (some (k, z')) ≠ [] → q ≤ k := fun k z' hk => by
    by_cases hc : q ≤ k
    · exact hc
    · exact absurd (I.empty (fun _ => h4 k (by omega)) z') hk
  have up : ∀ a, a / 64 ^ (q + 1) = m / 64 ^ (q + 1) → ∀ k, q < k → a / 64 ^ k = m / 64 ^ k := fun a ha k hk => by
    obtain ⟨j, rfl⟩ : ∃ j, k = j + 1 := ⟨k - 1, by omega⟩
    exact div_up ha (by omega)
  have zmin : ∀ z', L (some (q, z')) ≠ [] → z ≤ z' := fun z' hz' => by
    obtain ⟨y, hy⟩ := List.exists_mem_of_ne_nil _ hz'
    have hz64 : z' < 64 := (I.mem _ y hy).1.2
    obtain ⟨mo', o1, o2, o3⟩ := I.occ q hq
    have e : mo' = mo := by omega
    subst e
    rw [h5]
    exact tz_min h2 h3 ((o3 z' hz64).2 hz')
  have lt_of : ∀ {a b k : Nat}, a / 64 ^ k < b / 64 ^ k → a < b := fun {a b k} h => by
    by_cases hc : a < b
    · exact hc
    · have := Nat.div_le_div_right (c := 64 ^ k) (Nat.le_of_not_lt hc)
      omega
  refine ⟨lt_of (k := q) (by omega), fun k z' y hy hne => ?_, fun k z' hne' hne => ?_, fun til ht1 ht2 k z' hne' => ?_⟩
  · obtain ⟨d', hd2, _⟩ := I.dls y (I.mem _ y hy).2.1
    have hdig' := I.dig k z' y hy d' m hd2 em
    have hk := lvls k z' (List.ne_nil_of_mem hy)
    rw [hd2]
    have : st < d' := by
      by_cases e : k = q
      · subst e
        have hz := zmin z' (List.ne_nil_of_mem hy)
        have hz2 : z ≠ z' := fun e => hne (by rw [e])
        exact lt_of (k := k) (by omega)
      · have e1 := up st f2 k (by omega)
        have hdg' := O.dgt k z' (List.ne_nil_of_mem hy) m em
        have e2 : m / 64 ^ k = m / 64 ^ (k + 1) * 64 + m / 64 ^ k % 64 := by
          rw [Nat.pow_succ, ← Nat.div_div_eq_div_mul]; omega
        exact lt_of (k := k) (by omega)
    omega
  · have hk := lvls k z' hne'
    by_cases e : k = q
    · subst e
      have hz := zmin z' hne'
      have hz2 : z ≠ z' := fun e => hne (by rw [e])
      rw [f4]
      omega
    · rw [up st f2 k (by omega)]
      exact O.dgt k z' hne' m em
  · have hk := lvls k z' hne'
    have hb := between_div ht1 (Nat.le_of_lt ht2) f2
    by_cases e : k = q
    · subst e
      have hz := zmin z' hne'
      have h8 : til / 64 ^ k < st / 64 ^ k := by
        rw [Nat.div_lt_iff_lt_mul (Nat.pos_of_ne_zero (by simp)), f4, ← hdig, ← f1]
        exact ht2
      have h10 : til / 64 ^ k = til / 64 ^ (k + 1) * 64 + til / 64 ^ k % 64 := by
        rw [Nat.pow_succ, ← Nat.div_div_eq_div_mul]; omega
      rw [hb] at h10
      omega
    · rw [up til hb k (by omega)]
      exact O.dgt k z' hne' m em
/-- The time stands at the first slot in use, whose rows are taken in hand. -/
theorem AD.opened {τ0 : Int → Option TmV} {ft : Nat} {N : Int} {s : Wheel} {L : Option (Nat × Nat) → List Nat} {fr : List Nat} {f : Int → Option Int} {l : List FiredS} {m q z st : Nat} (D : AD τ0 ft N s L fr f [] l) (em : s.now = m) (hms : m < st) (F2 : ∀ k z' y, y ∈ L (some (k, z')) → (k, z') ≠ (q, z) → (st : Int) < (s.nd y).dl) (F3 : ∀ k z', L (some (k, z')) ≠ [] → (k, z') ≠ (q, z) → st / 64 ^ k % 64 < z') (o : Nat → Int) :
    AD τ0 ft N (taken (s.pNow st) (some (q, z)) (L (some (q, z))) o) (putL L (some (q, z)) []) fr f (L (some (q, z))) l := by
  have O := D.wo.take (some (q, z))
  have hne : ∀ k z' y, y ∈ putL L (some (q, z)) [] (some (k, z')) → (k, z') ≠ (q, z) ∧ y ∈ L (some (k, z')) := fun k z' y hy => by
    rcases mem_putL hy with ⟨e, h⟩ | ⟨e, h⟩
    · simp at h
    · exact ⟨fun e' => e (by rw [e']), h⟩
  have nn : putL L (some (q, z)) [] none = [] := by rw [putL_other _ _ (by simp)]; exact D.nn
  have dn : ∀ x, Pend (putL L (some (q, z)) []) (L (some (q, z))) x → Pend L [] x := fun x h => by
    rcases h with h | ⟨r, h⟩
    · exact .inr ⟨_, h⟩
    · rcases mem_putL h with ⟨e, h⟩ | ⟨e, h⟩
      · simp at h
      · exact .inr ⟨r, h⟩
  have A : AD τ0 ft N (s.pNow st) (putL L (some (q, z)) []) fr f (L (some (q, z))) l := by
    refine ⟨⟨O.srt, fun x hx => ?_, fun k z' x hx => ?_, fun k z' h n e => ?_, O.inm, O.all⟩, D.wo.srt (some (q, z)), nn, D.fs, fun e he x hx => D.fb e he x (dn x hx), fun e he => ⟨(D.ft e he).1, ?_⟩, D.vw, D.ff, D.nx⟩
    · rw [nn] at hx; simp at hx
    · obtain ⟨h1, h2⟩ := hne k z' x hx
      exact F2 k z' x h2 h1
    · have en : n = st := by
        have : (st : Int) = n := e
        omega
      subst en
      obtain ⟨y, hy⟩ := List.exists_mem_of_ne_nil _ h
      obtain ⟨h1, h2⟩ := hne k z' y hy
      exact F3 k z' (List.ne_nil_of_mem h2) h1
    · have := (D.ft e he).2
      show e.dl ≤ (st : Int)
      omega
  exact A.keep (taken_nd (s.pNow st) (some (q, z)) (L (some (q, z))) o) (taken_now (s.pNow st) (some (q, z)) (L (some (q, z))) o).1 (taken_now (s.pNow st) (some (q, z)) (L (some (q, z))) o).2
/-- What an advance to 'til' does to the timers τ. -/
structure AdvR (τ τ' : Int → Option TmV) (til ft : Nat) (l : List FiredS) : Prop where
  fs : l.Pairwise (fun e e' => e.dl < e'.dl ∨ (e.dl = e'.dl ∧ e.id < e'.id))
  fin : ∀ e ∈ l, τ e.id = some ⟨e.core, e.dl, e.ck⟩ ∧ e.dl ≤ (til : Int) ∧ e.t = max e.dl (ft : Int)
  rest : ∀ id v, τ' id = some v ↔ (τ id = some v ∧ ∀ e ∈ l, e.id ≠ id)
  late : ∀ id v, τ' id = some v → (til : Int) < v.dl
theorem AD.stop {τ0 : Int → Option TmV} {ft m til : Nat} {N : Int} {s : Wheel} {L : Option (Nat × Nat) → List Nat} {fr : List Nat} {f : Int → Option Int} {l : List FiredS} (D : AD τ0 ft N s L fr f [] l) (I : WInv s L fr f []) (em : s.now = m) (hmt : m ≤ til) (F2 : ∀ k z y, y ∈ L (some (k, z)) → (til : Int) < (s.nd y).dl) (F4 : ∀ k z, L (some (k, z)) ≠ [] → til / 64 ^ k % 64 < z) :
    (WO (s.pNow til) L fr f [] ∧ s.nid = N) ∧ AdvR τ0 (tmOf (s.pNow til) f) til ft l := by
  have late : ∀ x, Pend L [] x → (til : Int) < (s.nd x).dl := fun x hx => by
    rcases hx with h | ⟨r, h⟩
    · simp at h
    · match r, h with
      | none, h => rw [D.nn] at h; simp at h
      | some (k, z), h => exact F2 k z x h
  refine ⟨⟨⟨D.wo.srt, fun x hx => by rw [D.nn] at hx; simp at hx, fun k z x hx => F2 k z x hx, fun k z h n e => ?_, D.wo.inm, D.wo.all⟩, D.nx⟩, D.fs, fun e he => ⟨(D.vw _ _).2 (.inr ⟨e, he, rfl, rfl⟩), ?_, (D.ft e he).1⟩, fun id v => ?_, fun id v h => ?_⟩
  · have en : n = til := by
      have : (til : Int) = n := e
      omega
    subst en
    exact F4 k z h
  · have := (D.ft e he).2
    omega
  · have hv : tmOf (s.pNow til) f = tmOf s f := rfl
    rw [hv]
    constructor
    · intro h
      refine ⟨(D.vw id v).2 (.inl h), fun e he e' => ?_⟩
      have := D.ff e he
      unfold tmOf at h
      rw [← e', this] at h
      simp at h
    · rintro ⟨h1, h2⟩
      rcases (D.vw id v).1 h1 with h | ⟨e, he, h3, _⟩
      · exact h
      · exact absurd h3 (h2 e he)
  · obtain ⟨x, hx, hp, _, rfl⟩ := tm_some I (show tmOf s f id = some v from h)
    exact late x hp
end Go.Proofs.Qxb6500877aGreatDoor
