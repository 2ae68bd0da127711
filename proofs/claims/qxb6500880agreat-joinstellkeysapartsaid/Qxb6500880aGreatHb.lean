import Derived.Test.Qxb6500880aGreatHa
set_option linter.unusedVariables false
namespace Go.Proofs.Qxb6500880aGreat

/-- One more than the greatest row below u in bucket b; 0 if there is none. -/
def prevR (bk : Nat → Nat) (b : Nat) : Nat → Nat
  | 0 => 0
  | u + 1 => if bk u = b then u + 1 else prevR bk b u
theorem prevR_le (bk : Nat → Nat) (b : Nat) : ∀ u, prevR bk b u ≤ u
  | 0 => Nat.le_refl _
  | u + 1 => by
    unfold prevR
    have := prevR_le bk b u
    split <;> omega
theorem prevR_zero (bk : Nat → Nat) (b : Nat) : ∀ u, prevR bk b u = 0 → ∀ r, r < u → bk r ≠ b
  | 0, _, r, hr => by omega
  | u + 1, h, r, hr => by
    unfold prevR at h
    split at h
    · omega
    · rename_i q
      rcases (by omega : r < u ∨ r = u) with z | z
      · exact prevR_zero bk b u h r z
      · subst z; exact q
theorem prevR_some (bk : Nat → Nat) (b : Nat) : ∀ u r, prevR bk b u = r + 1 → r < u ∧ bk r = b ∧ ∀ x, r < x → x < u → bk x ≠ b
  | 0, r, h => by simp [prevR] at h
  | u + 1, r, h => by
    unfold prevR at h
    split at h
    · rename_i q
      have e : u = r := by omega
      subst e
      exact ⟨by omega, q, fun x h1 h2 => by omega⟩
    · rename_i q
      obtain ⟨h1, h2, h3⟩ := prevR_some bk b u r h
      refine ⟨by omega, h2, fun x h4 h5 => ?_⟩
      rcases (by omega : x < u ∨ x = u) with z | z
      · exact h3 x h4 z
      · subst z; exact q
/-- An index over the rows below 'done': the newest row of each bucket, and the next older one of each row. -/
structure Idx (size done : Nat) (hd ol bk : Nat → Nat) : Prop where
  h : ∀ b, b < size → hd b = prevR bk b done
  o : ∀ r, r < done → ol r = prevR bk (bk r) r
  k : ∀ r, r < done → bk r < size
theorem Idx.new (size : Nat) (ol bk : Nat → Nat) : Idx size 0 (fun _ => 0) ol bk := ⟨fun _ _ => rfl, fun r h => by omega, fun r h => by omega⟩
theorem Idx.put {size done : Nat} {hd ol bk : Nat → Nat} (h : Idx size done hd ol bk) (hb : bk done < size) : Idx size (done + 1) (fun b => if b = bk done then done + 1 else hd b) (fun r => if r = done then hd (bk done) else ol r) bk := by
  refine ⟨fun b hbs => ?_, fun r hr => ?_, fun r hr => ?_⟩
  · show (if b = bk done then done + 1 else hd b) = prevR bk b (done + 1)
    unfold prevR
    by_cases q : bk done = b
    · rw [if_pos q.symm, if_pos q]
    · rw [if_neg (fun e => q e.symm), if_neg q]
      exact h.h b hbs
  · show (if r = done then hd (bk done) else ol r) = prevR bk (bk r) r
    by_cases q : r = done
    · subst q
      rw [if_pos rfl]
      exact h.h _ hb
    · rw [if_neg q]
      exact h.o r (by omega)
  · rcases (by omega : r < done ∨ r = done) with z | z
    · exact h.k r z
    · subst z; exact hb
end Go.Proofs.Qxb6500880aGreat
