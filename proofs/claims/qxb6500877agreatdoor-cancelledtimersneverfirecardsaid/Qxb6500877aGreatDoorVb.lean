import Derived.Test.Qxb6500877aGreatDoorVa
set_option linter.unusedVariables false
set_option linter.unusedSimpArgs false
namespace Go.Proofs.Qxb6500877aGreatDoor
open Go.RowKit

theorem filter_two (p : Nat → Bool) : ∀ l : List Nat, (l.filter p).length + (l.filter (fun x => !p x)).length = l.length
  | [] => rfl
  | x :: l => by
    have := filter_two p l
    cases h : p x <;> simp [h] <;> omega
theorem live_card {s : Wheel} {L : Option (Nat × Nat) → List Nat} {fr : List Nat} {f : Int → Option Int} (I : WInv s L fr f []) (O : WO s L fr f []) : ∃ ks : List Int, ks.Nodup ∧ (∀ id, id ∈ ks ↔ (tmOf s f id).isSome = true) ∧ (∀ id ∈ ks, 0 ≤ id ∧ id < 18446744073709551616) ∧ s.live = (ks.length : Int) := by
  have hfr : ∀ x ∈ fr, x < 64 := NC_lt _ _ I.fre
  have hp : ∀ x, Pend L [] x ↔ x < 64 ∧ x ∉ fr := fun x => by
    constructor
    · rintro (h | ⟨r, h⟩)
      · simp at h
      · obtain ⟨_, h1, h2, _⟩ := I.mem r x h
        exact ⟨h1, fun hf => by have := I.frl x hf; have := lvOf_ge r; omega⟩
    · rintro ⟨h1, h2⟩
      rcases O.all x h1 with h | h
      · exact absurd h h2
      · exact h
  have hlen : ((List.range 64).filter (fun x => decide (x ∉ fr))).length = 64 - fr.length := by
    have h1 := filter_two (fun x => decide (x ∈ fr)) (List.range 64)
    have h2 : ((List.range 64).filter (fun x => decide (x ∈ fr))).length = fr.length := by
      refine ((List.perm_ext_iff_of_nodup (List.nodup_range.filter _) I.frn).2 (fun x => ?_)).length_eq
      simp only [List.mem_filter, List.mem_range, decide_eq_true_eq]
      exact ⟨fun h => h.2, fun h => ⟨hfr x h, h⟩⟩
    have h3 : (fun x => decide (x ∉ fr)) = (fun x => !decide (x ∈ fr)) := by funext x; simp
    rw [h3]
    simp only [List.length_range] at h1
    omega
  have hmem : ∀ x, x ∈ (List.range 64).filter (fun x => decide (x ∉ fr)) ↔ Pend L [] x := fun x => by
    rw [hp x]
    simp [List.mem_filter]
  refine ⟨((List.range 64).filter (fun x => decide (x ∉ fr))).map (fun x => (s.nd x).id), ?_, fun id => ?_, fun id hid => ?_, ?_⟩
  · refine List.pairwise_map.2 (List.Pairwise.imp_of_mem (fun {x y} hx hy hne e => hne (O.inj ((hmem x).1 hx) ((hmem y).1 hy) e)) (List.nodup_range.filter _))
  · constructor
    · intro h
      obtain ⟨x, hx, rfl⟩ := List.mem_map.1 h
      rw [tm_pend O ((hmem x).1 hx)]
      rfl
    · intro h
      obtain ⟨v, hv⟩ := Option.isSome_iff_exists.1 h
      obtain ⟨x, _, hx, rfl, _⟩ := tm_some I hv
      exact List.mem_map.2 ⟨x, (hmem x).2 hx, rfl⟩
  · obtain ⟨x, hx, rfl⟩ := List.mem_map.1 hid
    exact I.ids x ((hp x).1 ((hmem x).1 hx)).1
  · rw [List.length_map, hlen, I.live]
    have := nodup_le 64 fr I.frn hfr
    omega
end Go.Proofs.Qxb6500877aGreatDoor
