import Derived.Test.Qxb6500877aGreatDoorTb
set_option linter.unusedVariables false
set_option linter.unusedSimpArgs false
namespace Go.Proofs.Qxb6500877aGreatDoor
open Go.RowKit

def updT (τ : Int → Option TmV) (id : Int) (v : Option TmV) : Int → Option TmV := fun j => if j = id then v else τ j
theorem WO.arm {s : Wheel} {L : Option (Nat × Nat) → List Nat} {fr : List Nat} {f : Int → Option Int} {i : Nat} {c d ck : Int} (O : WO s L (i :: fr) f []) (I : WInv s L (i :: fr) f []) (h0 : 0 < s.nid) (h1 : s.nid + 1 < 18446744073709551616) : WO (armF s i c d ck) L fr (enroll f s.nid i) [i] ∧ (armF s i c d ck).nid = s.nid + 1 := by
  have hni : ∀ r, i ∉ L r := I.notin (by have := I.frl i (by simp); omega)
  have hne : ∀ {y : Nat}, y ≠ i → (armF s i c d ck).nd y = s.nd y := fun {y} h => by simp [armF, Wheel.pFree, Wheel.pNid, Wheel.pLive, Wheel.setNd, h]
  have hself : (armF s i c d ck).nd i = ⟨s.nid, c, d, ck, -1, -1, -3, 0⟩ := by simp [armF, Wheel.pFree, Wheel.pNid, Wheel.pLive, Wheel.setNd]
  have hl : ∀ {q y}, y ∈ L q → y ≠ i := fun {q y} h e => hni q (e ▸ h)
  have hnid : (armF s i c d ck).nid = s.nid + 1 := by
    show IntKind.u64.wrap (s.nid + 1) = s.nid + 1
    rw [IntKind.wrap_u64]; omega
  refine ⟨⟨fun r => pairwise_congr (O.srt r) (fun a ha b hb h => by rw [bef_congr (s := s) (by rw [hne (hl ha)]) (by rw [hne (hl ha)]) (by rw [hne (hl hb)]) (by rw [hne (hl hb)])]; exact h), fun y hy => by rw [hne (hl hy)]; exact O.due y hy, fun k z y hy => by rw [hne (hl hy)]; exact O.ahd k z y hy, O.dgt, fun y hy => ?_, fun y hy => ?_⟩, hnid⟩
  · rw [hnid]
    by_cases e : y = i
    · subst e
      rw [hself]
      exact ⟨by simp [enroll], h0, by show s.nid < s.nid + 1; omega⟩
    · have hy' : Pend L [] y := by
        rcases hy with h | h
        · simp at h; exact absurd h e
        · exact .inr h
      rw [hne e]
      obtain ⟨g1, g2, g3⟩ := O.inm y hy'
      exact ⟨by rw [enroll, if_neg (by omega)]; exact g1, g2, by omega⟩
  · rcases O.all y hy with h | h | h
    · rcases List.mem_cons.1 h with rfl | h
      · exact .inr (.inl (by simp))
      · exact .inl h
    · simp at h
    · exact .inr (.inr h)
theorem tm_arm {s : Wheel} {L : Option (Nat × Nat) → List Nat} {fr : List Nat} {f : Int → Option Int} {i : Nat} {c d ck : Int} (I : WInv s L (i :: fr) f []) : tmOf (armF s i c d ck) (enroll f s.nid i) = updT (tmOf s f) s.nid (some ⟨c, d, ck⟩) := by
  have hni : ∀ r, i ∉ L r := I.notin (by have := I.frl i (by simp); omega)
  have hself : (armF s i c d ck).nd i = ⟨s.nid, c, d, ck, -1, -1, -3, 0⟩ := by simp [armF, Wheel.pFree, Wheel.pNid, Wheel.pLive, Wheel.setNd]
  funext id
  unfold tmOf updT enroll
  by_cases e : id = s.nid
  · simp only [if_pos e, Option.map_some, Int.toNat_natCast, hself]
    rfl
  · simp only [if_neg e]
    cases h : f id with
    | none => rfl
    | some j =>
      obtain ⟨y, ey, hy, _, hm⟩ := I.map id j h
      subst ey
      have hyi : y ≠ i := fun e' => by
        rcases hm with hm | ⟨r, hm⟩
        · simp at hm
        · exact hni r (e' ▸ hm)
      have hne : (armF s i c d ck).nd y = s.nd y := by simp [armF, Wheel.pFree, Wheel.pNid, Wheel.pLive, Wheel.setNd, hyi]
      simp only [Option.map_some, Int.toNat_natCast, hne]
theorem WO.setdl {s : Wheel} {L : Option (Nat × Nat) → List Nat} {fr : List Nat} {f : Int → Option Int} {xs : List Nat} {x : Nat} {d : Int} (O : WO s L fr f (x :: xs)) (hL : ∀ r, x ∉ L r) : WO (s.setNd x { s.nd x with dl := d }) L fr f (x :: xs) := by
  have hne : ∀ {y : Nat}, y ≠ x → (s.setNd x { s.nd x with dl := d }).nd y = s.nd y := fun {y} h => by simp [Wheel.setNd, h]
  have hl : ∀ {q y}, y ∈ L q → y ≠ x := fun {q y} h e => hL q (e ▸ h)
  refine ⟨fun r => pairwise_congr (O.srt r) (fun a ha b hb h => by rw [bef_congr (s := s) (by rw [hne (hl ha)]) (by rw [hne (hl ha)]) (by rw [hne (hl hb)]) (by rw [hne (hl hb)])]; exact h), fun y hy => by rw [hne (hl hy)]; exact O.due y hy, fun k z y hy => by rw [hne (hl hy)]; exact O.ahd k z y hy, O.dgt, fun y hy => ?_, O.all⟩
  by_cases e : y = x
  · subst e
    have : ((s.setNd y { s.nd y with dl := d }).nd y).id = (s.nd y).id := by simp [Wheel.setNd]
    rw [this]
    exact O.inm y hy
  · rw [hne e]; exact O.inm y hy
theorem tm_setdl {s : Wheel} {L : Option (Nat × Nat) → List Nat} {fr : List Nat} {f : Int → Option Int} {hand : List Nat} {x : Nat} {d : Int} (I : WInv s L fr f hand) (hf : f (s.nd x).id = some (x : Int)) : tmOf (s.setNd x { s.nd x with dl := d }) f = updT (tmOf s f) (s.nd x).id (some ⟨(s.nd x).core, d, (s.nd x).ck⟩) := by
  funext id
  unfold tmOf updT
  by_cases e : id = (s.nd x).id
  · rw [if_pos e, e, hf]
    simp [Wheel.setNd, tmv]
  · rw [if_neg e]
    dsimp only
    cases h : f id with
    | none => rfl
    | some j =>
      obtain ⟨y, ey, hy, eid, hm⟩ := I.map id j h
      subst ey
      have hyx : y ≠ x := fun e' => e (by rw [← eid, e'])
      simp [Wheel.setNd, hyx]
theorem updT_self {τ : Int → Option TmV} {id : Int} {v : TmV} (h : τ id = some v) : updT τ id (some v) = τ := by
  funext j
  unfold updT
  by_cases e : j = id
  · rw [if_pos e, e, h]
  · rw [if_neg e]
theorem tm_forget {s : Wheel} {L : Option (Nat × Nat) → List Nat} {fr : List Nat} {f : Int → Option Int} {hand : List Nat} {x : Nat} (I : WInv s L fr f hand) (hf : f (s.nd x).id = some (x : Int)) : tmOf (retireF s x) (forget f (s.nd x).id) = updT (tmOf s f) (s.nd x).id none := by
  funext id
  rw [tm_retire I hf id]
  rfl
theorem tm_none {s : Wheel} {f : Int → Option Int} {id : Int} (h : f id = none) : tmOf s f id = none := by unfold tmOf; rw [h]; rfl
theorem tm_at {s : Wheel} {f : Int → Option Int} {id : Int} {x : Nat} (h : f id = some (x : Int)) : tmOf s f id = some (tmv (s.nd x)) := by unfold tmOf; rw [h]; rfl
end Go.Proofs.Qxb6500877aGreatDoor
