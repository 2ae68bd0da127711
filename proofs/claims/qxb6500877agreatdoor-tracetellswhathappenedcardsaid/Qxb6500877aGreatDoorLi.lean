import Derived.Test.Qxb6500877aGreatDoorBa
set_option linter.unusedVariables false
set_option linter.unusedSimpArgs false
namespace Go.Proofs.Qxb6500877aGreatDoor
open Go.RowKit

/-- A stretch of a doubly linked list: comes from p, begins at v, ends at t, goes on to u. -/
def Seg (N : Nat) (P X : Nat → Int) : Int → Int → List Nat → Int → Int → Prop
  | p, v, [], t, u => t = p ∧ u = v
  | p, v, x :: xs, t, u => v = x ∧ x < N ∧ P x = p ∧ Seg N P X x (X x) xs t u

theorem seg_append {N : Nat} {P X : Nat → Int} : ∀ (A C : List Nat) (p v t u : Int), Seg N P X p v (A ++ C) t u ↔ ∃ t' u', Seg N P X p v A t' u' ∧ Seg N P X t' u' C t u
  | [], C, p, v, t, u => by
    constructor
    · intro h; exact ⟨p, v, ⟨rfl, rfl⟩, h⟩
    · rintro ⟨t', u', ⟨rfl, rfl⟩, h⟩; exact h
  | x :: A, C, p, v, t, u => by
    constructor
    · rintro ⟨h1, h2, h3, h4⟩
      obtain ⟨t', u', h5, h6⟩ := (seg_append A C _ _ _ _).1 h4
      exact ⟨t', u', ⟨h1, h2, h3, h5⟩, h6⟩
    · rintro ⟨t', u', ⟨h1, h2, h3, h5⟩, h6⟩
      exact ⟨h1, h2, h3, (seg_append A C _ _ _ _).2 ⟨t', u', h5, h6⟩⟩
theorem seg_congr {N : Nat} {P X P' X' : Nat → Int} : ∀ (l : List Nat) (p v t u : Int), (∀ x ∈ l, P' x = P x ∧ X' x = X x) → Seg N P X p v l t u → Seg N P' X' p v l t u
  | [], _, _, _, _, _, h => h
  | x :: l, p, v, t, u, hc, ⟨h1, h2, h3, h4⟩ => by
    obtain ⟨e1, e2⟩ := hc x (by simp)
    refine ⟨h1, h2, e1.trans h3, ?_⟩
    rw [e2]
    exact seg_congr l _ _ _ _ (fun y hy => hc y (by simp [hy])) h4
theorem seg_lt {N : Nat} {P X : Nat → Int} : ∀ (l : List Nat) (p v t u : Int), Seg N P X p v l t u → ∀ x ∈ l, x < N
  | [], _, _, _, _, _, x, hx => by simp at hx
  | y :: l, p, v, t, u, ⟨h1, h2, h3, h4⟩, x, hx => by
    rcases List.mem_cons.1 hx with rfl | hx
    · exact h2
    · exact seg_lt l _ _ _ _ h4 x hx
theorem seg_one {N : Nat} {P X : Nat → Int} {p v t u : Int} {q : Nat} : Seg N P X p v [q] t u ↔ v = q ∧ q < N ∧ P q = p ∧ t = q ∧ u = X q := Iff.rfl
/-- The last node's next is turned. -/
theorem seg_tail {N : Nat} {P X P' X' : Nat → Int} {A : List Nat} {q : Nat} {p v t u u' : Int} (h : Seg N P X p v (A ++ [q]) t u) (hA : ∀ x ∈ A, P' x = P x ∧ X' x = X x) (h1 : P' q = P q) (h2 : X' q = u') : Seg N P' X' p v (A ++ [q]) t u' := by
  obtain ⟨t', u1, h3, h4⟩ := (seg_append _ _ _ _ _ _).1 h
  obtain ⟨e1, e2, e3, e4, e5⟩ := seg_one.1 h4
  exact (seg_append _ _ _ _ _ _).2 ⟨t', u1, seg_congr _ _ _ _ _ hA h3, seg_one.2 ⟨e1, e2, h1.trans e3, e4, h2.symm⟩⟩
/-- The first node's prev is turned. -/
theorem seg_head {N : Nat} {P X P' X' : Nat → Int} {C : List Nat} {q : Nat} {p p' v t u : Int} (h : Seg N P X p v (q :: C) t u) (hC : ∀ x ∈ C, P' x = P x ∧ X' x = X x) (h1 : P' q = p') (h2 : X' q = X q) : Seg N P' X' p' v (q :: C) t u := by
  obtain ⟨e1, e2, e3, e4⟩ := h
  refine ⟨e1, e2, h1, ?_⟩
  rw [h2]
  exact seg_congr _ _ _ _ _ hC e4
theorem seg_last {N : Nat} {P X : Nat → Int} {A : List Nat} {q : Nat} {p v t u : Int} (h : Seg N P X p v (A ++ [q]) t u) : t = q ∧ u = X q := by
  obtain ⟨t', u1, h3, h4⟩ := (seg_append _ _ _ _ _ _).1 h
  obtain ⟨e1, e2, e3, e4, e5⟩ := seg_one.1 h4
  exact ⟨e4, e5⟩
theorem list_end (A : List Nat) : A = [] ∨ ∃ A' q, A = A' ++ [q] := by
  rcases List.eq_nil_or_concat A with h | ⟨A', q, h⟩
  · exact .inl h
  · exact .inr ⟨A', q, by rw [h]; simp⟩

/-- A whole list. -/
def Dll (N : Nat) (P X : Nat → Int) (h t : Int) (l : List Nat) : Prop := Seg N P X (-1) h l t (-1)
/-- The nodes that stand first and last. -/
def hdOr (C : List Nat) : Int := match C with | [] => -1 | c :: _ => c
def laOr (A : List Nat) : Int := match A.getLast? with | none => -1 | some q => q
theorem laOr_nil : laOr [] = -1 := rfl
theorem laOr_snoc (A : List Nat) (q : Nat) : laOr (A ++ [q]) = q := by simp [laOr]
theorem seg_join {N : Nat} {P X : Nat → Int} {A C : List Nat} {h t : Int} (H : Dll N P X h t (A ++ C)) : Seg N P X (-1) h A (laOr A) (hdOr C) ∧ Seg N P X (laOr A) (hdOr C) C t (-1) := by
  obtain ⟨t', u', h1, h2⟩ := (seg_append _ _ _ _ _ _).1 H
  have e1 : t' = laOr A := by
    rcases list_end A with rfl | ⟨A', q, rfl⟩
    · exact h1.1
    · rw [laOr_snoc]; exact (seg_last h1).1
  have e2 : u' = hdOr C := by
    match C, h2 with
    | [], h2 => exact h2.2.symm
    | c :: C, h2 => exact h2.1
  rw [e1, e2] at h1
  rw [e1, e2] at h2
  exact ⟨h1, h2⟩

theorem dll_insert {N : Nat} {P X P' X' : Nat → Int} {A C : List Nat} {h t h' t' : Int} {i : Nat} (H : Dll N P X h t (A ++ C)) (hi : i < N)
    (pi : P' i = laOr A) (xi : X' i = hdOr C)
    (hp : ∀ x ∈ A ++ C, P' x = if hdOr C = x then (i : Int) else P x) (hx : ∀ x ∈ A ++ C, X' x = if laOr A = x then (i : Int) else X x)
    (nA : ∀ x ∈ A, hdOr C ≠ x) (nC : ∀ x ∈ C, laOr A ≠ x) (ndA : ∀ A' q, A = A' ++ [q] → q ∉ A') (ndC : ∀ q C', C = q :: C' → q ∉ C')
    (eh : h' = if A = [] then (i : Int) else h) (et : t' = if C = [] then (i : Int) else t) : Dll N P' X' h' t' (A ++ i :: C) := by
  obtain ⟨h1, h2⟩ := seg_join H
  have S1 : Seg N P' X' (-1) h' A (laOr A) i := by
    rcases list_end A with rfl | ⟨A', q, rfl⟩
    · simp at eh; exact ⟨rfl, eh.symm⟩
    · rw [if_neg (by simp)] at eh
      rw [eh]
      have hq := ndA A' q rfl
      refine seg_tail h1 (fun x hxA => ⟨?_, ?_⟩) ?_ ?_
      · rw [hp x (by simp [hxA]), if_neg (nA x (by simp [hxA]))]
      · rw [hx x (by simp [hxA]), laOr_snoc, if_neg]
        intro e
        have : q = x := by omega
        exact hq (this ▸ hxA)
      · rw [hp q (by simp), if_neg (nA q (by simp))]
      · rw [hx q (by simp), laOr_snoc, if_pos rfl]
  have S2 : Seg N P' X' i (hdOr C) C t' (-1) := by
    match C, h2, et, ndC with
    | [], h2, et, _ => simp at et; exact ⟨et, rfl⟩
    | c :: C, h2, et, ndC =>
      rw [if_neg (by simp)] at et
      rw [et]
      have hc := ndC c C rfl
      refine seg_head h2 (fun x hxC => ⟨?_, ?_⟩) ?_ ?_
      · rw [hp x (by simp [hxC]), if_neg]
        intro e
        have : c = x := by simp only [hdOr] at e; omega
        exact hc (this ▸ hxC)
      · rw [hx x (by simp [hxC]), if_neg (nC x (by simp [hxC]))]
      · rw [hp c (by simp)]; simp [hdOr]
      · rw [hx c (by simp), if_neg (nC c (by simp))]
  refine (seg_append _ _ _ _ _ _).2 ⟨_, _, S1, rfl, hi, pi, ?_⟩
  rw [xi]
  exact S2

theorem dll_delete {N : Nat} {P X P' X' : Nat → Int} {A C : List Nat} {h t h' t' : Int} {i : Nat} (H : Dll N P X h t (A ++ i :: C))
    (hp : ∀ x ∈ A ++ C, P' x = if hdOr C = x then laOr A else P x) (hx : ∀ x ∈ A ++ C, X' x = if laOr A = x then hdOr C else X x)
    (nA : ∀ x ∈ A, hdOr C ≠ x) (nC : ∀ x ∈ C, laOr A ≠ x) (ndA : ∀ A' q, A = A' ++ [q] → q ∉ A') (ndC : ∀ q C', C = q :: C' → q ∉ C')
    (eh : h' = if A = [] then hdOr C else h) (et : t' = if C = [] then laOr A else t) : Dll N P' X' h' t' (A ++ C) := by
  obtain ⟨h1, h2⟩ := seg_join H
  obtain ⟨g1, g2, g3, g4⟩ := h2
  have exi : X i = hdOr C := by
    match C, g4 with
    | [], g4 => exact g4.2.symm
    | c :: C, g4 => exact g4.1
  rw [exi] at g4
  have S1 : Seg N P' X' (-1) h' A (laOr A) (hdOr C) := by
    rcases list_end A with rfl | ⟨A', q, rfl⟩
    · simp at eh; exact ⟨rfl, eh.symm⟩
    · rw [if_neg (by simp)] at eh
      rw [eh]
      have hq := ndA A' q rfl
      refine seg_tail h1 (fun x hxA => ⟨?_, ?_⟩) ?_ ?_
      · rw [hp x (by simp [hxA]), if_neg (nA x (by simp [hxA]))]
      · rw [hx x (by simp [hxA]), laOr_snoc, if_neg]
        intro e
        have : q = x := by omega
        exact hq (this ▸ hxA)
      · rw [hp q (by simp), if_neg (nA q (by simp))]
      · rw [hx q (by simp), laOr_snoc, if_pos rfl]
  have S2 : Seg N P' X' (laOr A) (hdOr C) C t' (-1) := by
    match C, g4, et, ndC with
    | [], h2, et, _ => simp at et; exact ⟨et, rfl⟩
    | c :: C, h2, et, ndC =>
      rw [if_neg (by simp)] at et
      rw [et]
      have hc := ndC c C rfl
      refine seg_head h2 (fun x hxC => ⟨?_, ?_⟩) ?_ ?_
      · rw [hp x (by simp [hxC]), if_neg]
        intro e
        have : c = x := by simp only [hdOr] at e; omega
        exact hc (this ▸ hxC)
      · rw [hx x (by simp [hxC]), if_neg (nC x (by simp [hxC]))]
      · rw [hp c (by simp)]; simp [hdOr]
      · rw [hx c (by simp), if_neg (nC c (by simp))]
  exact (seg_append _ _ _ _ _ _).2 ⟨_, _, S1, S2⟩

/-- What lies where in a list that bears each node once. -/
theorem nodup_mid {A C : List Nat} {i : Nat} (h : (A ++ i :: C).Nodup) : i ∉ A ∧ i ∉ C ∧ (∀ x ∈ A, hdOr C ≠ x) ∧ (∀ x ∈ C, laOr A ≠ x) ∧ (∀ A' q, A = A' ++ [q] → q ∉ A') ∧ (∀ q C', C = q :: C' → q ∉ C') ∧ (A ++ C).Nodup := by
  rw [List.nodup_append] at h
  obtain ⟨h1, h2, h3⟩ := h
  obtain ⟨h4, h5⟩ := List.nodup_cons.1 h2
  refine ⟨fun hi => h3 i hi i (by simp) rfl, h4, fun x hx e => ?_, fun x hx e => ?_, fun A' q e => ?_, fun q C' e => ?_, ?_⟩
  · match C, e with
    | [], e => simp only [hdOr] at e; omega
    | c :: C, e =>
      have : c = x := by simp only [hdOr] at e; omega
      exact h3 x hx c (by simp) this.symm
  · rcases list_end A with rfl | ⟨A', q, rfl⟩
    · rw [laOr_nil] at e; omega
    · rw [laOr_snoc] at e
      have : q = x := by omega
      exact h3 q (by simp) x (by simp [hx]) this
  · rw [e, List.nodup_append] at h1
    exact fun hq => h1.2.2 q hq q (by simp) rfl
  · rw [e] at h5
    exact (List.nodup_cons.1 h5).1
  · rw [List.nodup_append]
    exact ⟨h1, h5, fun a ha b hb => h3 a ha b (by simp [hb])⟩
theorem nodup_put {A C : List Nat} {i : Nat} (h : (A ++ C).Nodup) (hi : i ∉ A ++ C) : (A ++ i :: C).Nodup := by
  rw [List.nodup_append] at h ⊢
  obtain ⟨h1, h2, h3⟩ := h
  simp only [List.mem_append, not_or] at hi
  refine ⟨h1, List.nodup_cons.2 ⟨hi.2, h2⟩, fun a ha b hb => ?_⟩
  rcases List.mem_cons.1 hb with rfl | hb
  · intro e; exact hi.1 (e ▸ ha)
  · exact h3 a ha b hb
/-- So many different numbers below N. -/
theorem nodup_le : ∀ (N : Nat) (l : List Nat), l.Nodup → (∀ x ∈ l, x < N) → l.length ≤ N
  | 0, l, _, h => by
    match l, h with
    | [], _ => simp
    | x :: _, h => exact absurd (h x (by simp)) (by omega)
  | N + 1, l, hn, h => by
    have h1 := nodup_le N (l.erase N) (hn.erase N) (fun x hx => by
      have h2 := (List.Nodup.mem_erase_iff hn).1 hx
      have := h x h2.2
      omega)
    by_cases hm : N ∈ l
    · rw [List.length_erase_of_mem hm] at h1; omega
    · rw [List.erase_of_not_mem hm] at h1; omega

end Go.Proofs.Qxb6500877aGreatDoor
