import Derived.Test.Qxb6500877aGreatDoorWv
import Derived.Test.Qxb6500877aGreatDoorWw
set_option linter.unusedVariables false
set_option linter.unusedSimpArgs false
namespace Go.Proofs.Qxb6500877aGreatDoor
open Go.RowKit

/-- What a timer holds besides its id. -/
structure TmV where
  core : Int
  dl : Int
  ck : Int
def tmv (n : NodeS) : TmV := ⟨n.core, n.dl, n.ck⟩
/-- The pending timers, by id. -/
def tmOf (s : Wheel) (f : Int → Option Int) : Int → Option TmV := fun id => (f id).map (fun i => tmv (s.nd i.toNat))
theorem bef_iff {s : Wheel} {a b : Nat} : bef s a b = true ↔ (s.nd a).dl < (s.nd b).dl ∨ ((s.nd a).dl = (s.nd b).dl ∧ (s.nd a).id < (s.nd b).id) := by
  unfold bef
  split
  · rename_i h
    simp [h]
  · rename_i h
    simp [h]
theorem bef_congr {s s' : Wheel} {a b : Nat} (h1 : (s'.nd a).dl = (s.nd a).dl) (h2 : (s'.nd a).id = (s.nd a).id) (h3 : (s'.nd b).dl = (s.nd b).dl) (h4 : (s'.nd b).id = (s.nd b).id) : bef s' a b = bef s a b := by
  unfold bef
  rw [h1, h2, h3, h4]
/-- Row x is pending. -/
def Pend (L : Option (Nat × Nat) → List Nat) (xs : List Nat) (x : Nat) : Prop := x ∈ xs ∨ ∃ r, x ∈ L r
/-- The order of the wheel: its lists are sorted; the due are due, the others ahead; each pending row is in the map. -/
structure WO (s : Wheel) (L : Option (Nat × Nat) → List Nat) (fr : List Nat) (f : Int → Option Int) (xs : List Nat) : Prop where
  srt : ∀ r, (L r).Pairwise (fun x y => bef s x y = true)
  due : ∀ x ∈ L none, (s.nd x).dl ≤ s.now
  ahd : ∀ k z x, x ∈ L (some (k, z)) → s.now < (s.nd x).dl
  dgt : ∀ k z, L (some (k, z)) ≠ [] → ∀ n : Nat, s.now = n → n / 64 ^ k % 64 < z
  inm : ∀ x, Pend L xs x → f (s.nd x).id = some (x : Int) ∧ 0 < (s.nd x).id ∧ (s.nd x).id < s.nid
  all : ∀ x, x < 64 → x ∈ fr ∨ Pend L xs x
theorem WO.inj {s : Wheel} {L : Option (Nat × Nat) → List Nat} {fr : List Nat} {f : Int → Option Int} {xs : List Nat} (O : WO s L fr f xs) {x y : Nat} (hx : Pend L xs x) (hy : Pend L xs y) (e : (s.nd x).id = (s.nd y).id) : x = y := by
  have h1 := (O.inm x hx).1
  rw [e, (O.inm y hy).1] at h1
  have := Option.some.inj h1
  omega
theorem pairwise_congr {α : Type} {R S : α → α → Prop} {l : List α} (h : l.Pairwise R) (hc : ∀ x ∈ l, ∀ y ∈ l, R x y → S x y) : l.Pairwise S :=
  List.Pairwise.imp_of_mem (fun hx hy r => hc _ hx _ hy r) h
/-- Links turned, nothing else. -/
theorem WO.keep {s s' : Wheel} {L : Option (Nat × Nat) → List Nat} {fr : List Nat} {f : Int → Option Int} {xs : List Nat} (O : WO s L fr f xs) (hk : ∀ x, (s'.nd x).id = (s.nd x).id ∧ (s'.nd x).dl = (s.nd x).dl) (hn : s'.now = s.now) (hi : s'.nid = s.nid) : WO s' L fr f xs :=
  ⟨fun r => pairwise_congr (O.srt r) (fun x _ y _ h => by rw [bef_congr (hk x).2 (hk x).1 (hk y).2 (hk y).1]; exact h), fun x hx => by rw [(hk x).2, hn]; exact O.due x hx, fun k z x hx => by rw [(hk x).2, hn]; exact O.ahd k z x hx, fun k z h n e => O.dgt k z h n (by rw [← hn]; exact e), fun x hx => by rw [(hk x).1, hi]; exact O.inm x hx, O.all⟩
theorem lvl_dgt {n d k : Nat} (hn : n < 18446744073709551616) (hd : d < 18446744073709551616) (hk : lvlOf n d = k) (hlt : n < d) : n / 64 ^ k % 64 < d / 64 ^ k % 64 := by
  have h := lvl_agree hn hd
  rw [hk, Nat.pow_succ, ← Nat.div_div_eq_div_mul, ← Nat.div_div_eq_div_mul] at h
  have h1 : n / 64 ^ k ≤ d / 64 ^ k := Nat.div_le_div_right (Nat.le_of_lt hlt)
  have h2 : d / 64 ^ k ≠ n / 64 ^ k := fun e => by
    have := lvl_below (Nat.ne_of_lt hlt) e
    omega
  omega
/-- A row in hand laid on its list. -/
theorem WO.place {s s' : Wheel} {L : Option (Nat × Nat) → List Nat} {fr : List Nat} {f : Int → Option Int} {xs : List Nat} {i m d : Nat} {A C : List Nat} {lv sl : Int} (O : WO s L fr f (i :: xs)) (em : s.now = m) (ed : (s.nd i).dl = d) (hm : m < 18446744073709551616) (hd : d < 18446744073709551616) (eL : L (placeOf m d) = A ++ C) (E : InsEff s s' (placeOf m d) i A C lv sl)
    (hni : ∀ r, i ∉ L r) (q1 : ∀ y ∈ C, bef s i y = true) (q2 : ∀ x A', A = A' ++ [x] → bef s i x = false) : WO s' (putL L (placeOf m d) (A ++ i :: C)) fr f xs := by
  have hk := E.keep
  have key : WO s (putL L (placeOf m d) (A ++ i :: C)) fr f xs := by
    have hp : ∀ x, Pend (putL L (placeOf m d) (A ++ i :: C)) xs x ↔ Pend L (i :: xs) x := by
      intro x
      constructor
      · rintro (h | ⟨r, h⟩)
        · exact .inl (by simp [h])
        · rcases mem_putL h with ⟨e, h⟩ | ⟨e, h⟩
          · rcases List.mem_append.1 h with h | h
            · exact .inr ⟨_, by rw [eL]; simp [h]⟩
            · rcases List.mem_cons.1 h with rfl | h
              · exact .inl (by simp)
              · exact .inr ⟨_, by rw [eL]; simp [h]⟩
          · exact .inr ⟨r, h⟩
      · rintro (h | ⟨r, h⟩)
        · rcases List.mem_cons.1 h with rfl | h
          · exact .inr ⟨placeOf m d, by rw [putL_same]; simp⟩
          · exact .inl h
        · by_cases e : r = placeOf m d
          · subst e
            rw [eL] at h
            refine .inr ⟨placeOf m d, ?_⟩
            rw [putL_same]
            rcases List.mem_append.1 h with h | h <;> simp [h]
          · exact .inr ⟨r, by rw [putL_other _ _ e]; exact h⟩
    have hAi : ∀ a ∈ A, bef s a i = true := by
      intro a ha
      have hsr := O.srt (placeOf m d)
      rw [eL] at hsr
      have hsA := (List.pairwise_append.1 hsr).1
      obtain ⟨A', x, eA⟩ : ∃ A' x, A = A' ++ [x] := by
        rcases List.eq_nil_or_concat A with e | ⟨A', x, e⟩
        · rw [e] at ha; simp at ha
        · exact ⟨A', x, by rw [e, List.concat_eq_append]⟩
      have hxm : x ∈ L (placeOf m d) := by rw [eL, eA]; simp
      have hxi : bef s x i = true := by
        have h1 := q2 x A' eA
        have hne : (s.nd x).id ≠ (s.nd i).id := fun e => hni (placeOf m d) (by
          have := O.inj (x := x) (y := i) (.inr ⟨_, hxm⟩) (.inl (by simp)) e
          rw [← this]; exact hxm)
        rw [bef_iff]
        have h2 : ¬ ((s.nd i).dl < (s.nd x).dl ∨ ((s.nd i).dl = (s.nd x).dl ∧ (s.nd i).id < (s.nd x).id)) := fun h => by
          rw [bef_iff.2 h] at h1; simp at h1
        omega
      by_cases e : a = x
      · rw [e]; exact hxi
      · have hax : bef s a x = true := by
          rw [eA] at hsA ha
          rcases List.mem_append.1 ha with ha | ha
          · exact (List.pairwise_append.1 hsA).2.2 a ha x (by simp)
          · simp at ha; exact absurd ha e
        rw [bef_iff] at hax hxi ⊢
        omega
    refine ⟨fun r => ?_, fun x hx => ?_, fun k z x hx => ?_, fun k z h n e => ?_, fun x hx => O.inm x ((hp x).1 hx), fun x hx => ?_⟩
    · by_cases e : r = placeOf m d
      · subst e
        rw [putL_same]
        have hsr := O.srt (placeOf m d)
        rw [eL, List.pairwise_append] at hsr
        rw [List.pairwise_append, List.pairwise_cons]
        refine ⟨hsr.1, ⟨q1, hsr.2.1⟩, fun a ha b hb => ?_⟩
        rcases List.mem_cons.1 hb with rfl | hb
        · exact hAi a ha
        · exact hsr.2.2 a ha b hb
      · rw [putL_other _ _ e]; exact O.srt r
    · rcases mem_putL hx with ⟨e, h⟩ | ⟨e, h⟩
      · have hdm : d ≤ m := by
          unfold placeOf at e
          split at e
          · assumption
          · simp at e
        have : x ∈ L none ∨ x = i := by
          rw [e, eL]
          rcases List.mem_append.1 h with h | h
          · exact .inl (by simp [h])
          · rcases List.mem_cons.1 h with h | h
            · exact .inr h
            · exact .inl (by simp [h])
        rcases this with h | rfl
        · exact O.due x h
        · rw [ed, em]; omega
      · exact O.due x h
    · rcases mem_putL hx with ⟨e, h⟩ | ⟨e, h⟩
      · have hdm : m < d := by
          unfold placeOf at e
          split at e
          · simp at e
          · omega
        have : x ∈ L (some (k, z)) ∨ x = i := by
          rw [e, eL]
          rcases List.mem_append.1 h with h | h
          · exact .inl (by simp [h])
          · rcases List.mem_cons.1 h with h | h
            · exact .inr h
            · exact .inl (by simp [h])
        rcases this with h | rfl
        · exact O.ahd k z x h
        · rw [ed, em]; omega
      · exact O.ahd k z x h
    · by_cases e' : some (k, z) = placeOf m d
      · have en : n = m := by omega
        subst en
        unfold placeOf at e'
        split at e'
        · simp at e'
        · simp only [Option.some.injEq, Prod.mk.injEq] at e'
          obtain ⟨rfl, rfl⟩ := e'
          exact lvl_dgt hm hd rfl (by omega)
      · rw [putL_other _ _ e'] at h
        exact O.dgt k z h n e
    · rcases O.all x hx with h | h
      · exact .inl h
      · exact .inr ((hp x).2 h)
  exact key.keep (fun x => ⟨(hk x).1, (hk x).2.2.1⟩) E.now E.nid
/-- A row taken off its list. -/
theorem WO.unl {s s' : Wheel} {L : Option (Nat × Nat) → List Nat} {fr : List Nat} {f : Int → Option Int} {xs : List Nat} {r : Option (Nat × Nat)} {i : Nat} {A C : List Nat} (O : WO s L fr f xs) (eL : L r = A ++ i :: C) (E : UnlEff s s' r i A C) : WO s' (putL L r (A ++ C)) fr f (i :: xs) := by
  have hk := E.keep
  have sub : ∀ q x, x ∈ putL L r (A ++ C) q → x ∈ L q := fun q x h => by
    rcases mem_putL h with ⟨e, h⟩ | ⟨e, h⟩
    · rw [e, eL]
      rcases List.mem_append.1 h with h | h <;> simp [h]
    · exact h
  have key : WO s (putL L r (A ++ C)) fr f (i :: xs) := by
    refine ⟨fun q => ?_, fun x hx => O.due x (sub _ x hx), fun k z x hx => O.ahd k z x (sub _ x hx), fun k z h n e => ?_, fun x hx => O.inm x ?_, fun x hx => ?_⟩
    · by_cases e : q = r
      · subst e
        rw [putL_same]
        have h := O.srt q
        rw [eL, List.pairwise_append, List.pairwise_cons] at h
        exact List.pairwise_append.2 ⟨h.1, h.2.1.2, fun a ha b hb => h.2.2 a ha b (by simp [hb])⟩
      · rw [putL_other _ _ e]; exact O.srt q
    · obtain ⟨y, hy⟩ := List.exists_mem_of_ne_nil _ h
      exact O.dgt k z (List.ne_nil_of_mem (sub _ y hy)) n e
    · rcases hx with h | ⟨q, h⟩
      · rcases List.mem_cons.1 h with rfl | h
        · exact .inr ⟨r, by rw [eL]; simp⟩
        · exact .inl h
      · exact .inr ⟨q, sub q x h⟩
    · rcases O.all x hx with h | h | ⟨q, h⟩
      · exact .inl h
      · exact .inr (.inl (by simp [h]))
      · by_cases e : q = r
        · subst e
          rw [eL] at h
          rcases List.mem_append.1 h with h | h
          · exact .inr (.inr ⟨q, by rw [putL_same]; simp [h]⟩)
          · rcases List.mem_cons.1 h with rfl | h
            · exact .inr (.inl (by simp))
            · exact .inr (.inr ⟨q, by rw [putL_same]; simp [h]⟩)
        · exact .inr (.inr ⟨q, by rw [putL_other _ _ e]; exact h⟩)
  exact key.keep (fun x => ⟨(hk x).1, (hk x).2.2.1⟩) E.now E.nid
/-- A row given back. -/
theorem WO.retire {s : Wheel} {L : Option (Nat × Nat) → List Nat} {fr : List Nat} {f : Int → Option Int} {xs : List Nat} {x : Nat} (O : WO s L fr f (x :: xs)) (hx : x ∉ xs) (hL : ∀ r, x ∉ L r) : WO (retireF s x) L (x :: fr) (forget f (s.nd x).id) xs := by
  have hne : ∀ {y : Nat}, y ≠ x → (retireF s x).nd y = s.nd y := fun {y} h => by simp [retireF, Wheel.pFree, Wheel.pLive, Wheel.setNd, h]
  have hl : ∀ {q y}, y ∈ L q → y ≠ x := fun {q y} h e => hL q (e ▸ h)
  refine ⟨fun r => pairwise_congr (O.srt r) (fun a ha b hb h => by rw [bef_congr (s := s) (by rw [hne (hl ha)]) (by rw [hne (hl ha)]) (by rw [hne (hl hb)]) (by rw [hne (hl hb)])]; exact h), fun y hy => by rw [hne (hl hy)]; exact O.due y hy, fun k z y hy => by rw [hne (hl hy)]; exact O.ahd k z y hy, O.dgt, fun y hy => ?_, fun y hy => ?_⟩
  · have hyx : y ≠ x := by
      rcases hy with h | ⟨q, h⟩
      · exact fun e => hx (e ▸ h)
      · exact hl h
    have hy' : Pend L (x :: xs) y := by
      rcases hy with h | h
      · exact .inl (by simp [h])
      · exact .inr h
    rw [hne hyx]
    have hid : (s.nd y).id ≠ (s.nd x).id := fun e => hyx (O.inj hy' (.inl (by simp)) e)
    exact ⟨by rw [forget, if_neg hid]; exact (O.inm y hy').1, (O.inm y hy').2⟩
  · rcases O.all y hy with h | h | h
    · exact .inl (by simp [h])
    · rcases List.mem_cons.1 h with rfl | h
      · exact .inl (by simp)
      · exact .inr (.inl h)
    · exact .inr (.inr h)
theorem tm_retire {s : Wheel} {L : Option (Nat × Nat) → List Nat} {fr : List Nat} {f : Int → Option Int} {hand : List Nat} {x : Nat} (I : WInv s L fr f hand) (hf : f (s.nd x).id = some (x : Int)) (id : Int) : tmOf (retireF s x) (forget f (s.nd x).id) id = if id = (s.nd x).id then none else tmOf s f id := by
  unfold tmOf forget
  by_cases e : id = (s.nd x).id
  · simp [e]
  · simp only [if_neg e]
    cases h : f id with
    | none => rfl
    | some i =>
      obtain ⟨y, ey, hy, eid, _⟩ := I.map id i h
      subst ey
      have hyx : y ≠ x := fun e' => e (by rw [← eid, e'])
      have hne : (retireF s x).nd y = s.nd y := by simp [retireF, Wheel.pFree, Wheel.pLive, Wheel.setNd, hyx]
      simp only [Option.map_some, Int.toNat_natCast, hne]
theorem tm_keep {s s' : Wheel} {f : Int → Option Int} (hk : ∀ x, (s'.nd x).core = (s.nd x).core ∧ (s'.nd x).dl = (s.nd x).dl ∧ (s'.nd x).ck = (s.nd x).ck) : tmOf s' f = tmOf s f := by
  funext id
  unfold tmOf tmv
  cases f id with
  | none => rfl
  | some i => simp only [Option.map_some, (hk i.toNat).1, (hk i.toNat).2.1, (hk i.toNat).2.2]
theorem tm_pend {s : Wheel} {L : Option (Nat × Nat) → List Nat} {fr : List Nat} {f : Int → Option Int} {xs : List Nat} (O : WO s L fr f xs) {x : Nat} (hx : Pend L xs x) : tmOf s f (s.nd x).id = some (tmv (s.nd x)) := by
  unfold tmOf
  rw [(O.inm x hx).1]
  rfl
theorem tm_some {s : Wheel} {L : Option (Nat × Nat) → List Nat} {fr : List Nat} {f : Int → Option Int} {hand : List Nat} (I : WInv s L fr f hand) {id : Int} {v : TmV} (h : tmOf s f id = some v) : ∃ x, x < 64 ∧ Pend L hand x ∧ (s.nd x).id = id ∧ v = tmv (s.nd x) := by
  unfold tmOf at h
  cases hf : f id with
  | none => rw [hf] at h; simp at h
  | some i =>
    rw [hf] at h
    obtain ⟨x, ex, hx, eid, hm⟩ := I.map id i hf
    subst ex
    simp at h
    exact ⟨x, hx, hm, eid, h.symm⟩
end Go.Proofs.Qxb6500877aGreatDoor
