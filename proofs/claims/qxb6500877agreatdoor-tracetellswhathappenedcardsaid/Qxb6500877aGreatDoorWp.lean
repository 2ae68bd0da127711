import Derived.Test.Qxb6500877aGreatDoorWo
import Derived.Test.Qxb6500877aGreatDoorWi
set_option linter.unusedVariables false
set_option linter.unusedSimpArgs false
namespace Go.Proofs.Qxb6500877aGreatDoor
open Go.RowKit

theorem wrap_pow {z : Nat} (hz : z < 64) : IntKind.u64.wrap (2 ^ z) = ((2 ^ z : Nat) : Int) := by
  have h := (Nat.pow_lt_pow_iff_right (a := 2) (by omega)).2 hz
  rw [p64] at h
  have e : ((2 : Int) ^ z) = ((2 ^ z : Nat) : Int) := by simp
  rw [e]
  generalize 2 ^ z = P at h ⊢
  exact wrap_u64 (by omega)
theorem pow_lt64 {z : Nat} (hz : z < 64) : 2 ^ z < 18446744073709551616 := by
  have h := (Nat.pow_lt_pow_iff_right (a := 2) (by omega)).2 hz
  rw [p64] at h
  exact h
theorem orOcc_nat {m z : Nat} (hm : m < 18446744073709551616) (hz : z < 64) : ∃ m' : Nat, orOcc m z = m' ∧ m' < 18446744073709551616 ∧ ∀ j, j < 64 → (m'.testBit j = true ↔ j = z ∨ m.testBit j = true) := by
  have h := pow_lt64 hz
  refine ⟨m ||| 2 ^ z, ?_, ?_, fun j hj => ?_⟩
  · rw [orOcc, wrap_pow hz, bits_or_u64_nat _ _ hm h]
  · have h1 : m < 2 ^ 64 := by rw [p64]; exact hm
    have h2 : 2 ^ z < 2 ^ 64 := by rw [p64]; exact h
    have := Nat.or_lt_two_pow h1 h2
    rw [p64] at this
    exact this
  · rw [Nat.testBit_or, Nat.testBit_two_pow]
    by_cases e : j = z
    · subst e; simp
    · have : ¬ (z = j) := fun h => e h.symm
      simp [e, this]
theorem notOcc_nat {m z : Nat} (hm : m < 18446744073709551616) (hz : z < 64) : ∃ m' : Nat, notOcc m z = m' ∧ m' < 18446744073709551616 ∧ ∀ j, j < 64 → (m'.testBit j = true ↔ j ≠ z ∧ m.testBit j = true) := by
  have h := pow_lt64 hz
  refine ⟨m &&& (18446744073709551615 - 2 ^ z), ?_, ?_, fun j hj => ?_⟩
  · rw [notOcc, wrap_pow hz, u64_andNot_nat _ _ hm h]
  · exact Nat.lt_of_le_of_lt Nat.and_le_left hm
  · have e1 : 18446744073709551615 - 2 ^ z = 2 ^ 64 - (2 ^ z + 1) := by rw [p64]; omega
    rw [Nat.testBit_and, e1, Nat.testBit_two_pow_sub_succ (by rw [p64]; exact h), Nat.testBit_two_pow]
    by_cases e : j = z
    · subst e; simp
    · have : ¬ (z = j) := fun h => e h.symm
      simp [e, this, hj]

/-- The wheel in order: L: its lists, fr: the vacant rows, f: the map, hand: the rows in hand. -/
structure WInv (s : Wheel) (L : Option (Nat × Nat) → List Nat) (fr : List Nat) (f : Int → Option Int) (hand : List Nat) : Prop where
  dll : ∀ r, lOk r → Dll 64 (fun x => (s.nd x).pv) (fun x => (s.nd x).nx) (s.lh r) (s.lt r) (L r)
  nod : ∀ r, (L r).Nodup
  mem : ∀ r x, x ∈ L r → lOk r ∧ x < 64 ∧ (s.nd x).lv = lvOf r ∧ (s.nd x).sl = slOf r
  hnd : ∀ x ∈ hand, x < 64 ∧ (s.nd x).lv = -3
  hnod : hand.Nodup
  fre : NC s s.free fr
  frl : ∀ x ∈ fr, (s.nd x).lv = -2
  frn : fr.Nodup
  live : s.live = 64 - fr.length
  map : ∀ id i, f id = some i → ∃ x : Nat, i = x ∧ x < 64 ∧ (s.nd x).id = id ∧ (x ∈ hand ∨ ∃ r, x ∈ L r)
  ids : ∀ x, x < 64 → 0 ≤ (s.nd x).id ∧ (s.nd x).id < 18446744073709551616
  dls : ∀ x, x < 64 → ∃ d : Nat, (s.nd x).dl = d ∧ d < 18446744073709551616
  cos : ∀ x, x < 64 → 0 ≤ (s.nd x).core ∧ (s.nd x).core < 4
  occ : ∀ k, k < 11 → ∃ m : Nat, s.occ k = m ∧ m < 18446744073709551616 ∧ ∀ z, z < 64 → (m.testBit z = true ↔ L (some (k, z)) ≠ [])
  now : ∃ n : Nat, s.now = n ∧ n < 18446744073709551616
  dig : ∀ k z x, x ∈ L (some (k, z)) → ∀ d n : Nat, (s.nd x).dl = d → s.now = n → d / 64 ^ k = n / 64 ^ (k + 1) * 64 + z
  nid : 0 ≤ s.nid ∧ s.nid < 18446744073709551616

theorem NC_lt {s : Wheel} : ∀ (l : List Nat) (v : Int), NC s v l → ∀ x ∈ l, x < 64
  | [], _, _, x, hx => by simp at hx
  | y :: l, v, ⟨h1, h2, h3⟩, x, hx => by
    rcases List.mem_cons.1 hx with rfl | hx
    · exact h2
    · exact NC_lt l _ h3 x hx
theorem NC_congr {s s' : Wheel} : ∀ (l : List Nat) (v : Int), (∀ x ∈ l, (s'.nd x).nx = (s.nd x).nx) → NC s v l → NC s' v l
  | [], _, _, h => h
  | y :: l, v, hc, ⟨h1, h2, h3⟩ => ⟨h1, h2, by rw [hc y (by simp)]; exact NC_congr l _ (fun x hx => hc x (by simp [hx])) h3⟩
theorem seg_nc {s : Wheel} : ∀ (l : List Nat) (p v t : Int), Seg 64 (fun x => (s.nd x).pv) (fun x => (s.nd x).nx) p v l t (-1) → NC s v l
  | [], _, _, _, h => h.2.symm
  | y :: l, p, v, t, ⟨h1, h2, h3, h4⟩ => ⟨h1, h2, seg_nc l _ _ _ h4⟩
theorem seg_pc {s : Wheel} : ∀ (l rest : List Nat) (p v t u : Int), Seg 64 (fun x => (s.nd x).pv) (fun x => (s.nd x).nx) p v l t u → PC s p rest → PC s t (l.reverse ++ rest)
  | [], rest, p, v, t, u, h, hr => by have := h.1; subst this; exact hr
  | y :: l, rest, p, v, t, u, ⟨h1, h2, h3, h4⟩, hr => by
    have := seg_pc l (y :: rest) _ _ _ _ h4 ⟨rfl, h2, by rw [show (s.nd y).pv = p from h3]; exact hr⟩
    simpa using this
theorem seg_nx {s : Wheel} : ∀ (l : List Nat) (p v t u : Int), Seg 64 (fun x => (s.nd x).pv) (fun x => (s.nd x).nx) p v l t u → ∀ x ∈ l, (s.nd x).nx = u ∨ ∃ q ∈ l, (s.nd x).nx = (q : Int)
  | [], _, _, _, _, _, x, hx => by simp at hx
  | y :: l, p, v, t, u, ⟨h1, h2, h3, h4⟩, x, hx => by
    rcases List.mem_cons.1 hx with rfl | hx
    · match l, h4 with
      | [], h4 => exact .inl h4.2.symm
      | z :: l, h4 => exact .inr ⟨z, by simp, h4.1⟩
    · rcases seg_nx l _ _ _ _ h4 x hx with h | ⟨q, hq, h⟩
      · exact .inl h
      · exact .inr ⟨q, by simp [hq], h⟩
theorem WInv.apart {s : Wheel} {L : Option (Nat × Nat) → List Nat} {fr : List Nat} {f : Int → Option Int} {hand : List Nat} (I : WInv s L fr f hand) {x : Nat} {r q : Option (Nat × Nat)} (h : x ∈ L r) (h' : x ∈ L q) : r = q := by
  obtain ⟨_, _, a, b⟩ := I.mem r x h
  obtain ⟨_, _, c, d⟩ := I.mem q x h'
  exact home_inj (a.symm.trans c) (b.symm.trans d)
theorem lvOf_ge (r : Option (Nat × Nat)) : -1 ≤ lvOf r := by
  match r with
  | none => simp [lvOf]
  | some (k, z) => simp only [lvOf]; omega
theorem WInv.notin {s : Wheel} {L : Option (Nat × Nat) → List Nat} {fr : List Nat} {f : Int → Option Int} {hand : List Nat} (I : WInv s L fr f hand) {x : Nat} (h : (s.nd x).lv < -1) (r : Option (Nat × Nat)) : x ∉ L r := fun hx => by
  have := (I.mem r x hx).2.2.1
  have := lvOf_ge r
  omega
theorem WInv.insPre {s : Wheel} {L : Option (Nat × Nat) → List Nat} {fr : List Nat} {f : Int → Option Int} {hand : List Nat} (I : WInv s L fr f hand) {i : Nat} (hi : (s.nd i).lv < -1) {r : Option (Nat × Nat)} (hr : lOk r) : InsPre s r i (L r).reverse := by
  have D := I.dll r hr
  have hn := I.notin hi r
  have hlt := seg_lt _ _ _ _ _ D
  refine ⟨?_, fun x hx e => hn (by rw [← e]; simpa using hx), ?_, fun x hx => ?_⟩
  · have := seg_pc (s := s) _ [] _ _ _ _ D rfl
    simpa using this
  · have key : ∀ l : List Nat, Dll 64 (fun x => (s.nd x).pv) (fun x => (s.nd x).nx) (s.lh r) (s.lt r) l → (∀ x ∈ l, x < 64) → i ∉ l → s.lh r = -1 ∨ ∃ h : Nat, h < 64 ∧ h ≠ i ∧ s.lh r = h := fun l D hlt hn => by
      match l, D, hlt, hn with
      | [], D, _, _ => exact .inl D.2.symm
      | c :: C, D, hlt, hn => exact .inr ⟨c, hlt c (by simp), fun e => hn (by simp [e]), D.1⟩
    exact key _ D hlt hn
  · have hx' : x ∈ L r := by simpa using hx
    rcases seg_nx _ _ _ _ _ D x hx' with h | ⟨q, hq, h⟩
    · exact .inl h
    · exact .inr ⟨q, hlt q hq, fun e => hn (e ▸ hq), h⟩

/-- The lists with another one at r. -/
def putL (L : Option (Nat × Nat) → List Nat) (r : Option (Nat × Nat)) (l : List Nat) : Option (Nat × Nat) → List Nat := fun q => if q = r then l else L q
theorem putL_same (L : Option (Nat × Nat) → List Nat) (r : Option (Nat × Nat)) (l : List Nat) : putL L r l r = l := by simp [putL]
theorem putL_other (L : Option (Nat × Nat) → List Nat) {r q : Option (Nat × Nat)} (l : List Nat) (h : q ≠ r) : putL L r l q = L q := by simp [putL, h]
theorem mem_putL {L : Option (Nat × Nat) → List Nat} {r q : Option (Nat × Nat)} {l : List Nat} {x : Nat} (h : x ∈ putL L r l q) : (q = r ∧ x ∈ l) ∨ (q ≠ r ∧ x ∈ L q) := by
  by_cases e : q = r
  · subst e; rw [putL_same] at h; exact .inl ⟨rfl, h⟩
  · rw [putL_other _ _ e] at h; exact .inr ⟨e, h⟩

theorem InsEff.keep {s s' : Wheel} {r : Option (Nat × Nat)} {i : Nat} {A C : List Nat} {lv sl : Int} (E : InsEff s s' r i A C lv sl) (x : Nat) : (s'.nd x).id = (s.nd x).id ∧ (s'.nd x).core = (s.nd x).core ∧ (s'.nd x).dl = (s.nd x).dl ∧ (s'.nd x).ck = (s.nd x).ck := by
  rw [E.nd x]
  by_cases h : x = i
  · subst h; simp
  · simp [h]
theorem InsEff.lvl {s s' : Wheel} {r : Option (Nat × Nat)} {i : Nat} {A C : List Nat} {lv sl : Int} (E : InsEff s s' r i A C lv sl) {x : Nat} (h : x ≠ i) : (s'.nd x).lv = (s.nd x).lv ∧ (s'.nd x).sl = (s.nd x).sl := by
  rw [E.nd x]
  simp [h]
theorem InsEff.far {s s' : Wheel} {r : Option (Nat × Nat)} {i : Nat} {A C : List Nat} {lv sl : Int} (E : InsEff s s' r i A C lv sl) {x : Nat} (h : x ≠ i) (h' : x ∉ A ++ C) : s'.nd x = s.nd x := by
  rw [E.nd x, if_neg h]
  have h1 : ¬ (hdOr C = x) := by
    match C, h' with
    | [], _ => simp only [hdOr]; omega
    | c :: C, h' => intro e; have : c = x := by simp only [hdOr] at e; omega
                    exact h' (by simp [this])
  have h2 : ¬ (laOr A = x) := by
    rcases list_end A with rfl | ⟨A', q, rfl⟩
    · rw [laOr_nil]; omega
    · rw [laOr_snoc]
      intro e
      have : q = x := by omega
      exact h' (by simp [this])
  simp [h1, h2]

theorem ins_inv {s s' : Wheel} {L : Option (Nat × Nat) → List Nat} {fr : List Nat} {f : Int → Option Int} {hand : List Nat} {r : Option (Nat × Nat)} {i : Nat} {A C : List Nat} (I : WInv s L fr f (i :: hand)) (hr : lOk r) (eL : L r = A ++ C)
    (E : InsEff s s' r i A C (lvOf r) (slOf r)) (hocc : ∀ k, k < 11 → ∃ m : Nat, s'.occ k = m ∧ m < 18446744073709551616 ∧ ∀ z, z < 64 → (m.testBit z = true ↔ putL L r (A ++ i :: C) (some (k, z)) ≠ []))
    (hdig : ∀ k z, r = some (k, z) → ∀ d n : Nat, (s.nd i).dl = d → s.now = n → d / 64 ^ k = n / 64 ^ (k + 1) * 64 + z) : WInv s' (putL L r (A ++ i :: C)) fr f hand := by
  obtain ⟨hi, hlv⟩ := I.hnd i (by simp)
  have hni := I.notin (x := i) (by omega)
  have hnod := I.nod r
  rw [eL] at hnod
  have hniA : i ∉ A ++ C := by rw [← eL]; exact hni r
  have hnod' := nodup_put hnod hniA
  obtain ⟨_, _, nA, nC, ndA, ndC, _⟩ := nodup_mid hnod'
  have hfar : ∀ q, q ≠ r → ∀ x ∈ L q, s'.nd x = s.nd x := fun q hq x hx => E.far (fun e => hni q (e ▸ hx)) (by rw [← eL]; exact fun h => hq (I.apart hx h))
  refine ⟨fun q hq => ?_, fun q => ?_, fun q x hx => ?_, fun x hx => ?_, (List.nodup_cons.1 I.hnod).2, ?_, fun x hx => ?_, I.frn, by rw [E.live]; exact I.live, fun id j hj => ?_, fun x hx => by rw [(E.keep x).1]; exact I.ids x hx, fun x hx => by rw [(E.keep x).2.2.1]; exact I.dls x hx, fun x hx => by rw [(E.keep x).2.1]; exact I.cos x hx, hocc, by rw [E.now]; exact I.now, fun k z x hx d n hd hn => ?_, by rw [E.nid]; exact I.nid⟩
  · by_cases e : q = r
    · subst e
      rw [putL_same]
      have D := I.dll q hq
      rw [eL] at D
      refine dll_insert D hi ?_ ?_ (fun x hx => ?_) (fun x hx => ?_) nA nC ndA ndC ?_ ?_
      · show (s'.nd i).pv = _
        rw [E.nd i, if_pos rfl]
      · show (s'.nd i).nx = _
        rw [E.nd i, if_pos rfl]
      · show (s'.nd x).pv = _
        have hxi : x ≠ i := fun e => hniA (e ▸ hx)
        rw [E.nd x, if_neg hxi]
      · show (s'.nd x).nx = _
        have hxi : x ≠ i := fun e => hniA (e ▸ hx)
        rw [E.nd x, if_neg hxi]
      · rw [E.lh]; simp
      · rw [E.lt]; simp
    · rw [putL_other _ _ e]
      have h1 : s'.lh q = s.lh q := by rw [E.lh, if_neg (fun h => e h.1)]
      have h2 : s'.lt q = s.lt q := by rw [E.lt, if_neg (fun h => e h.1)]
      rw [h1, h2]
      exact seg_congr _ _ _ _ _ (fun x hx => by rw [hfar q e x hx]; exact ⟨rfl, rfl⟩) (I.dll q hq)
  · by_cases e : q = r
    · subst e; rw [putL_same]; exact hnod'
    · rw [putL_other _ _ e]; exact I.nod q
  · rcases mem_putL hx with ⟨e, hx2⟩ | ⟨e, hx⟩
    · rw [e]
      by_cases hxi : x = i
      · subst hxi
        rw [E.nd x, if_pos rfl]
        exact ⟨hr, hi, rfl, rfl⟩
      · have hx' : x ∈ L r := by
          rw [eL]
          simp only [List.mem_append, List.mem_cons] at hx2 ⊢
          rcases hx2 with h | h | h
          · exact .inl h
          · exact absurd h hxi
          · exact .inr h
        obtain ⟨a, b, c, d⟩ := I.mem r x hx'
        rw [(E.lvl hxi).1, (E.lvl hxi).2]
        exact ⟨a, b, c, d⟩
    · rw [hfar q e x hx]
      exact I.mem q x hx
  · obtain ⟨a, b⟩ := I.hnd x (by simp [hx])
    have hxi : x ≠ i := fun e => (List.nodup_cons.1 I.hnod).1 (e ▸ hx)
    rw [(E.lvl hxi).1]
    exact ⟨a, b⟩
  · rw [E.free]
    refine NC_congr _ _ (fun x hx => ?_) I.fre
    have hl := I.frl x hx
    rw [E.far (fun e => by rw [e] at hl; omega) (by rw [← eL]; exact I.notin (by omega) r)]
  · have hl := I.frl x hx
    rw [(E.lvl (fun e => by rw [e] at hl; omega)).1]
    exact hl
  · obtain ⟨x, a, b, c, d⟩ := I.map id j hj
    refine ⟨x, a, b, by rw [(E.keep x).1]; exact c, ?_⟩
    rcases d with d | ⟨q, d⟩
    · rcases List.mem_cons.1 d with rfl | d
      · exact .inr ⟨r, by rw [putL_same]; simp⟩
      · exact .inl d
    · refine .inr ⟨q, ?_⟩
      by_cases e : q = r
      · subst e
        rw [putL_same]
        rw [eL] at d
        simp only [List.mem_append, List.mem_cons] at d ⊢
        rcases d with d | d
        · exact .inl d
        · exact .inr (.inr d)
      · rw [putL_other _ _ e]; exact d
  · rw [(E.keep x).2.2.1] at hd
    rw [E.now] at hn
    rcases mem_putL hx with ⟨e, hx⟩ | ⟨e, hx⟩
    · by_cases hxi : x = i
      · subst hxi
        exact hdig k z e.symm d n hd hn
      · refine I.dig k z x ?_ d n hd hn
        rw [e, eL]
        simp only [List.mem_append, List.mem_cons] at hx ⊢
        rcases hx with h | h | h
        · exact .inl h
        · exact absurd h hxi
        · exact .inr h
    · exact I.dig k z x hx d n hd hn

end Go.Proofs.Qxb6500877aGreatDoor
