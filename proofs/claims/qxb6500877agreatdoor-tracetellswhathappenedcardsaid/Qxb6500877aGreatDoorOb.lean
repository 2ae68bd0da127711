import Derived.Test.Qxb6500877aGreatDoorOa
set_option linter.unusedVariables false
set_option linter.unusedSimpArgs false
namespace Go.Proofs.Qxb6500877aGreatDoor
open Go.RowKit

theorem tz4_low {m : Nat} (hm : m < 16) (h0 : 0 < m) : ∀ b, b < tz4 (m : Int) → m.testBit b = false := by
  have : ∀ m : Fin 16, 0 < m.val → ∀ b : Fin 4, b.val < tz4 (m.val : Int) → m.val.testBit b.val = false := by decide +kernel
  intro b hb
  have h4 := (tz4_bit hm h0).1
  exact this ⟨m, hm⟩ h0 ⟨b, by omega⟩ hb
theorem SInv.serve2 {s : Sched} {Q : Nat → Nat → List Nat} {c : Nat} (I : SInv s Q 16) (hc : c < 4) (hcur : s.cur c = -1) (hq : ∃ b, b < 4 ∧ Q c b ≠ []) :
    ∃ x k : Nat, ∃ C : List Nat, x < 16 ∧ k < 4 ∧ tz4 (s.fl c) = k ∧ s.hd c k = x ∧ Q c k = x :: C ∧ (∀ b, b < k → Q c b = []) ∧ SInv (((deq s x c k).pSt x 3).setCur c x) (putQ Q c k C) 16 ∧ ((((deq s x c k).pSt x 3).setCur c x).tk x).st = 3 ∧ ∀ y, y ≠ x → r3 (((deq s x c k).pSt x 3).setCur c x) y = r3 s y := by
  obtain ⟨m, h1, h2, h3⟩ := I.fl c hc
  obtain ⟨b0, hb0, hq0⟩ := hq
  have hm : 0 < m := by
    refine Nat.pos_of_ne_zero (fun e => ?_)
    have := (h3 b0 hb0).2 hq0
    rw [e] at this
    simp at this
  obtain ⟨k4, hbit⟩ := tz4_bit h2 hm
  have hlow := tz4_low h2 hm
  rw [← h1] at k4 hbit hlow
  generalize hk : tz4 (s.fl c) = k at k4 hbit hlow
  have hne := (h3 k k4).1 hbit
  obtain ⟨x, C, eQ⟩ := List.exists_cons_of_ne_nil hne
  have eQ' : Q c k = [] ++ x :: C := eQ
  obtain ⟨_, _, hx, _, hst, e1, e2⟩ := I.mem c k x (by rw [eQ]; simp)
  obtain ⟨J, E⟩ := deq_inv I hc k4 eQ'
  have hhd : s.hd c k = x := by
    have D := I.dll c k hc k4
    rw [eQ] at D
    exact D.1
  have r' : Row (deq s x c k) x c k := ⟨hx, hc, k4, by rw [E.tk x, if_pos rfl]; exact e1, by rw [E.tk x, if_pos rfl]; exact e2⟩
  refine ⟨x, k, C, hx, k4, rfl, hhd, eQ, fun b hb => ?_, J.start r' (by rw [E.cur]; exact hcur), by simp [Sched.pSt, Sched.setTk, Sched.setCur], fun y hy => ?_⟩
  · have := hlow b hb
    by_cases q : Q c b = []
    · exact q
    · have h5 := (h3 b (by omega)).2 q
      rw [this] at h5
      simp at h5
  · have e : (((deq s x c k).pSt x 3).setCur c x).tk y = (deq s x c k).tk y := by simp [Sched.pSt, Sched.setTk, Sched.setCur, hy]
    rw [r3, e, E.tk y, if_neg hy]; rfl
/-- The record of the joinings as the law holds it when it looks at a pick. -/
def wasF (s : Sched) (c i : Nat) (η : Nat → Int) : Nat → Int := if s.cur c = -1 then η else fun x => if x = (s.cur c).toNat then (i : Int) + 1 else η x
/-- The tasks that a pick chooses from. -/
def rivL (s : Sched) (Q : Nat → Nat → List Nat) (c : Nat) : List Nat := preQ (Q c) 4 ++ (if s.cur c = -1 then [] else [(s.cur c).toNat])
theorem preQ_mem {Q : Nat → List Nat} {x : Nat} : x ∈ preQ Q 4 ↔ ∃ b, b < 4 ∧ x ∈ Q b := by
  simp only [preQ, List.nil_append, List.mem_append]
  constructor
  · rintro (((h | h) | h) | h)
    · exact ⟨0, by omega, h⟩
    · exact ⟨1, by omega, h⟩
    · exact ⟨2, by omega, h⟩
    · exact ⟨3, by omega, h⟩
  · rintro ⟨b, hb, h⟩
    match b, hb with
    | 0, _ => exact .inl (.inl (.inl h))
    | 1, _ => exact .inl (.inl (.inr h))
    | 2, _ => exact .inl (.inr h)
    | 3, _ => exact .inr h
theorem wasF_le {s : Sched} {c i : Nat} {η : Nat → Int} (h : ∀ x, x < 16 → η x ≤ i) : ∀ x, x < 16 → wasF s c i η x ≤ i + 1 := fun x hx => by
  have := h x hx
  unfold wasF
  split
  · omega
  · show (if x = (s.cur c).toNat then (i : Int) + 1 else η x) ≤ _
    split <;> omega
theorem SInv.pick1 {s : Sched} {Q : Nat → Nat → List Nat} {c i : Nat} {η : Nat → Int} (I : SInv s Q 16) (hc : c < 4) (hr : s.cur c ≠ -1 ∨ 0 < s.qn c) (W : WOrd Q η) (le : ∀ x, x < 16 → η x ≤ i) :
    ∃ Q1, SInv (pick1 s c) Q1 16 ∧ (pick1 s c).cur c = -1 ∧ (∃ b, b < 4 ∧ Q1 c b ≠ []) ∧ WOrd Q1 (wasF s c i η) ∧ (∀ y, ((pick1 s c).tk y).band = (s.tk y).band) ∧ (∀ y, r3 (pick1 s c) y = r3 s y ∨ wasF s c i η y = i + 1) ∧ (∀ u, (∃ b, b < 4 ∧ u ∈ Q1 c b) ↔ u ∈ rivL s Q c) := by
  rcases I.cur c hc with q | ⟨p, a1, a2, a3, a4, a5⟩
  · have e1 : Go.Proofs.Qxb6500877aGreatDoor.pick1 s c = s := by rw [Go.Proofs.Qxb6500877aGreatDoor.pick1, if_pos q]
    have e2 : wasF s c i η = η := by rw [wasF, if_pos q]
    rw [e1, e2]
    refine ⟨Q, I, q, ?_, W, fun _ => rfl, fun _ => .inl rfl, fun u => ?_⟩
    · have hn : 0 < s.qn c := by
        rcases hr with h | h
        · exact absurd q h
        · exact h
      rw [I.qn c hc] at hn
      by_cases h0 : Q c 0 = []
      · by_cases h1 : Q c 1 = []
        · by_cases h2 : Q c 2 = []
          · by_cases h3 : Q c 3 = []
            · rw [h0, h1, h2, h3] at hn
              simp at hn
            · exact ⟨3, by omega, h3⟩
          · exact ⟨2, by omega, h2⟩
        · exact ⟨1, by omega, h1⟩
      · exact ⟨0, by omega, h0⟩
    · rw [rivL, if_pos q, List.append_nil, preQ_mem]
  · have hne : ¬ (s.cur c = -1) := by omega
    have ep : (s.cur c).toNat = p := by omega
    have J := I.halt a1 a4 hc a5
    rcases I.dom p a1 a2 with h0 | ⟨h, b, g1, g2, g3, g4⟩
    · omega
    have e : h = c := by omega
    subst e
    have eb : rowB s p = b := by rw [rowB, g4]; rfl
    have e1 : Go.Proofs.Qxb6500877aGreatDoor.pick1 s h = enq (s.setCur h (-1)) p h b := by rw [Go.Proofs.Qxb6500877aGreatDoor.pick1, if_neg hne, ep, eb]
    have e2 : wasF s h i η = fun x => if x = p then (i : Int) + 1 else η x := by rw [wasF, if_neg hne, ep]
    have r : Row (s.setCur h (-1)) p h b := ⟨a1, hc, g2, g3, g4⟩
    have E := enq_eff (J.tail hc g2) (J.notin h b)
    obtain ⟨f1, f2⟩ := r3_enq J r
    rw [e1, e2]
    have hm : ∀ c b x, x ∈ Q c b → (if x = p then (i : Int) + 1 else η x) = η x := fun c b x hx => by
      have hq : x ≠ p := fun q => by subst q; exact J.notin c b hx
      rw [if_neg hq]
    refine ⟨_, enq_inv J r, by rw [E.cur]; simp [Sched.setCur], ⟨b, g2, by rw [putQ_same]; simp⟩, fun c' b' => ?_, fun y => ?_, fun y => ?_, fun u => ?_⟩
    · by_cases q : c' = h ∧ b' = b
      · obtain ⟨rfl, rfl⟩ := q
        rw [putQ_same, List.pairwise_append]
        refine ⟨pair_congr (W c' b') (fun x hx => hm c' b' x hx), List.pairwise_singleton _ _, fun a ha y hy => ?_⟩
        rw [List.mem_singleton] at hy
        subst hy
        show (if a = y then (i : Int) + 1 else η a) ≤ (if y = y then (i : Int) + 1 else η y)
        rw [hm c' b' a ha, if_pos rfl]
        have := le a (I.mem c' b' a ha).2.2.1
        omega
      · rw [putQ_other _ _ q]
        exact pair_congr (W c' b') (fun x hx => hm c' b' x hx)
    · rw [E.tk y]
      by_cases q : y = p
      · subst q; rw [if_pos rfl]; rfl
      · rw [if_neg q]; rfl
    · by_cases q : y = p
      · subst q; exact .inr (if_pos rfl)
      · exact .inl (f1 y q)
    · rw [rivL, if_neg hne, ep, List.mem_append, List.mem_singleton, preQ_mem]
      constructor
      · rintro ⟨b', hb', hu⟩
        by_cases q : b' = b
        · subst q
          rw [putQ_same, List.mem_append, List.mem_singleton] at hu
          rcases hu with hu | hu
          · exact .inl ⟨b', hb', hu⟩
          · exact .inr hu
        · rw [putQ_other _ _ (fun z => q z.2)] at hu
          exact .inl ⟨b', hb', hu⟩
      · rintro (⟨b', hb', hu⟩ | hu)
        · refine ⟨b', hb', ?_⟩
          by_cases q : b' = b
          · subst q
            rw [putQ_same, List.mem_append]
            exact .inl hu
          · rw [putQ_other _ _ (fun z => q z.2)]
            exact hu
        · refine ⟨b, g2, ?_⟩
          rw [putQ_same, hu]
          simp
/-- A pick serves as the law says, and keeps the order. -/
theorem pick_law {s : Sched} {Q : Nat → Nat → List Nat} {c i : Nat} {η : Nat → Int} (I : SInv s Q 16) (hc : c < 4) (hr : s.cur c ≠ -1 ∨ 0 < s.qn c) (W : WOrd Q η) (le : ∀ x, x < 16 → η x ≤ i) :
    ∃ Q', SInv (pickS s c) Q' 16 ∧ WOrd Q' (joinF s (pickS s c) i (wasF s c i η)) ∧ pickX s c ∈ rivL s Q c ∧ ∀ u ∈ rivL s Q c, u < 16 ∧ (u ≠ pickX s c → (s.tk (pickX s c)).band ≤ (s.tk u).band ∧ ((s.tk u).band = (s.tk (pickX s c)).band → wasF s c i η (pickX s c) ≤ wasF s c i η u)) := by
  obtain ⟨Q1, I1, c1, q1, W1, bd, hw, hriv⟩ := I.pick1 hc hr W le
  obtain ⟨x, k, C, hx, k4, hk, hhd, eQ, hlow, J, hst, ho⟩ := I1.serve2 hc c1 q1
  have ex : pickX s c = x := by
    unfold pickX
    rw [hk, hhd]
    rfl
  have es : pickS s c = ((deq (pick1 s c) x c k).pSt x 3).setCur c x := by
    unfold pickS
    rw [ex, hk]
  rw [es, ex]
  have memS : ∀ c' b' y, y ∈ putQ Q1 c k C c' b' → y ∈ Q1 c' b' := fun c' b' y hy => by
    by_cases q : c' = c ∧ b' = k
    · obtain ⟨rfl, rfl⟩ := q
      rw [putQ_same] at hy
      rw [eQ]
      exact List.mem_cons_of_mem _ hy
    · rw [putQ_other _ _ q] at hy
      exact hy
  have xin : ∃ b, b < 4 ∧ x ∈ Q1 c b := ⟨k, k4, by rw [eQ]; simp⟩
  refine ⟨_, J, fun c' b' => ?_, (hriv x).1 xin, fun u hu => ?_⟩
  · have base : (putQ Q1 c k C c' b').Pairwise (fun u v => wasF s c i η u ≤ wasF s c i η v) := by
      by_cases q : c' = c ∧ b' = k
      · obtain ⟨rfl, rfl⟩ := q
        rw [putQ_same]
        have := W1 c' b'
        rw [eQ] at this
        exact (List.pairwise_cons.1 this).2
      · rw [putQ_other _ _ q]
        exact W1 c' b'
    refine pair_congr base (fun y hy => ?_)
    have hm := J.mem c' b' y hy
    have hyx : y ≠ x := fun q => by subst q; have := hm.2.2.2.2.1; omega
    unfold joinF
    split
    · rename_i h
      rcases hw y with h1 | h1
      · exact absurd ((ho y hyx).trans h1) h.2
      · exact h1.symm
    · rfl
  · obtain ⟨b, hb, hub⟩ := (hriv u).2 hu
    have hm := I1.mem c b u hub
    refine ⟨hm.2.2.1, fun hne => ?_⟩
    have hmx := I1.mem c k x (by rw [eQ]; simp)
    have e1 := bd u
    have e2 := bd x
    have e3 := hm.2.2.2.2.2.2
    have e4 := hmx.2.2.2.2.2.2
    have hkb : k ≤ b := by
      refine Nat.le_of_not_lt (fun q => ?_)
      rw [hlow b q] at hub
      simp at hub
    refine ⟨by omega, fun eb => ?_⟩
    have ekb : b = k := by omega
    subst ekb
    rw [eQ] at hub
    have h1 := W1 c b
    rw [eQ] at h1
    rcases List.mem_cons.1 hub with h2 | h2
    · exact absurd h2 hne
    · exact (List.pairwise_cons.1 h1).1 u h2
end Go.Proofs.Qxb6500877aGreatDoor
