import Derived.WalkKit
set_option linter.unusedVariables false
namespace Go.Proofs.Qxb6500880aGreat

/-- As many pigeons as holes, at most. -/
theorem pigeon : ∀ (r N : Nat) (f : Nat → Nat), (∀ i, i < N → 1 ≤ f i ∧ f i ≤ r) → (∀ i j, i < N → j < N → f i = f j → i = j) → N ≤ r
  | 0, N, f, h, _ => by
    rcases Nat.eq_zero_or_pos N with z | z
    · omega
    · have := h 0 z
      omega
  | r + 1, N, f, h, hi => by
    by_cases q : ∃ i, i < N ∧ f i = r + 1
    · obtain ⟨i, hiN, hfi⟩ := q
      obtain ⟨M, rfl⟩ : ∃ M, N = M + 1 := ⟨N - 1, by omega⟩
      have := pigeon r M (fun x => if x = i then f M else f x) (fun x hx => ?_) (fun x y hx hy e => ?_)
      · omega
      · show 1 ≤ (if x = i then f M else f x) ∧ (if x = i then f M else f x) ≤ r
        split
        · rename_i e
          have h1 := h M (by omega)
          have h2 : f M ≠ r + 1 := fun e2 => by
            have := hi M i (by omega) hiN (by rw [e2, hfi])
            omega
          omega
        · rename_i e
          have h1 := h x (by omega)
          have h2 : f x ≠ r + 1 := fun e2 => e (hi x i (by omega) hiN (by rw [e2, hfi]))
          omega
      · split at e <;> split at e
        · rename_i a b; omega
        · rename_i a b
          have := hi M y (by omega) (by omega) e
          omega
        · rename_i a b
          have := hi x M (by omega) (by omega) e
          omega
        · exact hi x y (by omega) (by omega) e
    · have := pigeon r N f (fun i hiN => ?_) hi
      · omega
      · have h1 := h i hiN
        have h2 : f i ≠ r + 1 := fun e => q ⟨i, hiN, e⟩
        omega

/-- A table of N slots, open addressing: slot i holds 0, or one more than a row's number; row j is sought from slot st j. -/
structure Tbl (N rows : Nat) (f st : Nat → Nat) : Prop where
  lt : rows < N
  le : ∀ i, i < N → f i ≤ rows
  at' : ∀ j, j < rows → ∃ d, d < N ∧ f ((st j + d) % N) = j + 1 ∧ ∀ e, e < d → f ((st j + e) % N) ≠ 0
  inj : ∀ i j, i < N → j < N → f i ≠ 0 → f i = f j → i = j

/-- A walk from any slot comes to a free one. -/
theorem Tbl.free {N rows : Nat} {f st : Nat → Nat} (h : Tbl N rows f st) (s : Nat) : ∃ D, D < N ∧ f ((s + D) % N) = 0 ∧ ∀ e, e < D → f ((s + e) % N) ≠ 0 := by
  have hN : 0 < N := by have := h.lt; omega
  have ex : ∃ D, D < N ∧ f ((s + D) % N) = 0 := by
    refine Classical.byContradiction fun hn => ?_
    have hall : ∀ i, i < N → f ((s + i) % N) ≠ 0 := fun i hi e => hn ⟨i, hi, e⟩
    have hp := pigeon rows N (fun i => f ((s + i) % N)) (fun i hi => ⟨by have := hall i hi; show 1 ≤ f ((s + i) % N); omega, h.le _ (Nat.mod_lt _ hN)⟩) (fun i j hi hj e => ?_)
    · have := h.lt; omega
    · have e2 := h.inj _ _ (Nat.mod_lt _ hN) (Nat.mod_lt _ hN) (hall i hi) e
      have h3 : (s % N + i) % N = (s % N + j) % N := by simpa [Nat.add_mod] using e2
      have h4 : s % N < N := Nat.mod_lt _ hN
      have a : (s % N + i) % N = if s % N + i < N then s % N + i else s % N + i - N := by
        split
        · rename_i q; exact Nat.mod_eq_of_lt q
        · rename_i q; rw [Nat.mod_eq_sub_mod (by omega), Nat.mod_eq_of_lt (by omega)]
      have b : (s % N + j) % N = if s % N + j < N then s % N + j else s % N + j - N := by
        split
        · rename_i q; exact Nat.mod_eq_of_lt q
        · rename_i q; rw [Nat.mod_eq_sub_mod (by omega), Nat.mod_eq_of_lt (by omega)]
      rw [a, b] at h3
      split at h3 <;> split at h3 <;> omega
  obtain ⟨D, hD, hz⟩ := ex
  induction D using Nat.strongRecOn with
  | _ D ih =>
    by_cases q : ∃ e, e < D ∧ f ((s + e) % N) = 0
    · obtain ⟨e, he, hz'⟩ := q
      exact ih e he (by omega) hz'
    · exact ⟨D, hD, hz, fun e he hz' => q ⟨e, he, hz'⟩⟩
/-- A row that is there lies ahead of the first free slot of its walk. -/
theorem Tbl.ahead {N rows : Nat} {f st : Nat → Nat} (h : Tbl N rows f st) {j D : Nat} (hj : j < rows) (hz : f ((st j + D) % N) = 0) (hD : ∀ e, e < D → f ((st j + e) % N) ≠ 0) : ∃ d, d < D ∧ f ((st j + d) % N) = j + 1 := by
  obtain ⟨d, h1, h2, h3⟩ := h.at' j hj
  refine ⟨d, ?_, h2⟩
  rcases Nat.lt_trichotomy d D with q | q | q
  · exact q
  · subst q; omega
  · exact absurd hz (h3 D q)
/-- The table with one more row, laid in the first free slot of its walk. -/
theorem Tbl.put {N rows : Nat} {f st : Nat → Nat} (h : Tbl N rows f st) {s D : Nat} (hr : rows + 1 < N) (hDN : D < N) (hz : f ((s + D) % N) = 0) (hD : ∀ e, e < D → f ((s + e) % N) ≠ 0) :
    Tbl N (rows + 1) (fun i => if i = (s + D) % N then rows + 1 else f i) (fun j => if j = rows then s else st j) := by
  have hN : 0 < N := by omega
  refine ⟨hr, fun i hi => ?_, fun j hj => ?_, fun i j hi hj h0 e => ?_⟩
  · show (if i = (s + D) % N then rows + 1 else f i) ≤ rows + 1
    split
    · omega
    · have := h.le i hi; omega
  · by_cases q : j = rows
    · subst q
      refine ⟨D, hDN, by simp, fun e he => ?_⟩
      show (if ((if j = j then s else st j) + e) % N = (s + D) % N then j + 1 else f (((if j = j then s else st j) + e) % N)) ≠ 0
      rw [if_pos rfl]
      split
      · omega
      · exact hD e he
    · obtain ⟨d, h1, h2, h3⟩ := h.at' j (by omega)
      refine ⟨d, h1, ?_, fun e he => ?_⟩
      · show (if ((if j = rows then s else st j) + d) % N = (s + D) % N then rows + 1 else f (((if j = rows then s else st j) + d) % N)) = j + 1
        rw [if_neg q]
        split
        · rename_i e; rw [e] at h2; omega
        · exact h2
      · show (if ((if j = rows then s else st j) + e) % N = (s + D) % N then rows + 1 else f (((if j = rows then s else st j) + e) % N)) ≠ 0
        rw [if_neg q]
        split
        · omega
        · exact h3 e he
  · have hli := h.le i hi
    have hlj := h.le j hj
    split at e <;> split at e
    · rename_i a b; rw [a, b]
    · rename_i a b; omega
    · rename_i a b; omega
    · rename_i a b
      rw [if_neg a] at h0
      exact h.inj i j hi hj h0 e
theorem Tbl.new {N : Nat} (hN : 0 < N) (st : Nat → Nat) : Tbl N 0 (fun _ => 0) st :=
  ⟨hN, fun _ _ => Nat.le_refl _, fun j hj => absurd hj (Nat.not_lt_zero j), fun _ _ _ _ h _ => absurd rfl h⟩
end Go.Proofs.Qxb6500880aGreat
