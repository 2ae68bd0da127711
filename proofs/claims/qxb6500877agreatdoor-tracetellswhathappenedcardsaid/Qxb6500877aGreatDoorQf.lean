import Derived.Test.Qxb6500877aGreatDoorQe
import Derived.Test.Qxb6500877aGreatDoorTa
set_option linter.unusedVariables false
set_option linter.unusedSimpArgs false
namespace Go.Proofs.Qxb6500877aGreatDoor
open Go.RowKit

theorem lev_mem {L : Option (Nat × Nat) → List Nat} {k x : Nat} : ∀ {z : Nat}, x ∈ lev L k z ↔ ∃ y, y < z ∧ x ∈ L (some (k, y))
  | 0 => by simp [lev]
  | z + 1 => by
    rw [lev, List.mem_append, lev_mem]
    constructor
    · rintro (⟨y, h1, h2⟩ | h)
      · exact ⟨y, by omega, h2⟩
      · exact ⟨z, by omega, h⟩
    · rintro ⟨y, h1, h2⟩
      by_cases e : y = z
      · subst e; exact .inr h2
      · exact .inl ⟨y, by omega, h2⟩
theorem preL_mem {L : Option (Nat × Nat) → List Nat} {x : Nat} : ∀ {k : Nat}, x ∈ preL L k ↔ x ∈ L none ∨ ∃ j z, j < k ∧ z < 64 ∧ x ∈ L (some (j, z))
  | 0 => by
    rw [preL]
    constructor
    · exact .inl
    · rintro (h | ⟨j, z, h, _⟩)
      · exact h
      · omega
  | k + 1 => by
    rw [preL, List.mem_append, preL_mem, lev_mem]
    constructor
    · rintro ((h | ⟨j, z, h1, h2, h3⟩) | ⟨y, h1, h2⟩)
      · exact .inl h
      · exact .inr ⟨j, z, by omega, h2, h3⟩
      · exact .inr ⟨k, y, by omega, h1, h2⟩
    · rintro (h | ⟨j, z, h1, h2, h3⟩)
      · exact .inl (.inl h)
      · by_cases e : j = k
        · subst e; exact .inr ⟨z, h2, h3⟩
        · exact .inl (.inr ⟨j, z, by omega, h2, h3⟩)
theorem slot_lt {s : Wheel} {L : Option (Nat × Nat) → List Nat} {fr : List Nat} {f : Int → Option Int} (I : WInv s L fr f []) (O : WO s L fr f []) {k k' z z' x y : Nat} (hx : x ∈ L (some (k, z))) (hy : y ∈ L (some (k', z'))) (h : k < k' ∨ (k = k' ∧ z < z')) : (s.nd x).dl < (s.nd y).dl := by
  obtain ⟨⟨hk, hz⟩, hx64, _⟩ := I.mem _ x hx
  obtain ⟨⟨hk', hz'⟩, hy64, _⟩ := I.mem _ y hy
  obtain ⟨n, en, hn⟩ := I.now
  obtain ⟨d, ed, hd⟩ := I.dls x hx64
  obtain ⟨d', ed', hd'⟩ := I.dls y hy64
  have e1 := I.dig k z x hx d n ed en
  have e2 := I.dig k' z' y hy d' n ed' en
  rw [ed, ed']
  rcases h with h | ⟨rfl, h⟩
  · have e3 := O.dgt k' z' (fun e => by rw [e] at hy; simp at hy) n en
    have p1 : n / 64 ^ (k' + 1) = n / 64 ^ k' / 64 := by rw [Nat.div_div_eq_div_mul, Nat.pow_succ]
    have p2 : d / 64 ^ (k + 1) = n / 64 ^ (k + 1) := by
      have : d / 64 ^ (k + 1) = d / 64 ^ k / 64 := by rw [Nat.div_div_eq_div_mul, Nat.pow_succ]
      rw [this, e1]
      omega
    have p3 : d / 64 ^ k' = n / 64 ^ k' := by
      have hk1 : 64 ^ k' = 64 ^ (k + 1) * 64 ^ (k' - (k + 1)) := by rw [← Nat.pow_add]; congr 1; omega
      rw [hk1, ← Nat.div_div_eq_div_mul, ← Nat.div_div_eq_div_mul, p2]
    have p4 : n / 64 ^ k' < d' / 64 ^ k' := by rw [e2, p1]; omega
    by_cases q : d < d'
    · omega
    · have := Nat.div_le_div_right (c := 64 ^ k') (show d' ≤ d by omega)
      omega
  · by_cases q : d < d'
    · omega
    · have := Nat.div_le_div_right (c := 64 ^ k) (show d' ≤ d by omega)
      omega
theorem lev_sorted {s : Wheel} {L : Option (Nat × Nat) → List Nat} {fr : List Nat} {f : Int → Option Int} (I : WInv s L fr f []) (O : WO s L fr f []) (k : Nat) : ∀ z, (lev L k z).Pairwise (fun x y => bef s x y = true)
  | 0 => List.Pairwise.nil
  | z + 1 => by
    rw [lev]
    refine List.pairwise_append.2 ⟨lev_sorted I O k z, O.srt _, fun x hx y hy => ?_⟩
    obtain ⟨y', h1, h2⟩ := lev_mem.1 hx
    exact bef_iff.2 (.inl (slot_lt I O h2 hy (.inr ⟨rfl, h1⟩)))
theorem preL_sorted {s : Wheel} {L : Option (Nat × Nat) → List Nat} {fr : List Nat} {f : Int → Option Int} (I : WInv s L fr f []) (O : WO s L fr f []) : ∀ k, (preL L k).Pairwise (fun x y => bef s x y = true)
  | 0 => O.srt none
  | k + 1 => by
    rw [preL]
    refine List.pairwise_append.2 ⟨preL_sorted I O k, lev_sorted I O k 64, fun x hx y hy => ?_⟩
    obtain ⟨z, h1, h2⟩ := lev_mem.1 hy
    refine bef_iff.2 (.inl ?_)
    rcases preL_mem.1 hx with h | ⟨j, z', h3, _, h4⟩
    · have h5 := O.due x h
      have h6 := O.ahd k z y h2
      omega
    · exact slot_lt I O h4 h2 (.inl h3)
theorem bef_irr {s : Wheel} {x : Nat} : ¬ (bef s x x = true) := fun h => by
  have := bef_iff.1 h
  omega
theorem preL_nodup {s : Wheel} {L : Option (Nat × Nat) → List Nat} {fr : List Nat} {f : Int → Option Int} (I : WInv s L fr f []) (O : WO s L fr f []) : (preL L 11).Nodup :=
  (preL_sorted I O 11).imp (fun {x y} h e => by subst e; exact bef_irr h)
theorem preL_pend {s : Wheel} {L : Option (Nat × Nat) → List Nat} {fr : List Nat} {f : Int → Option Int} (I : WInv s L fr f []) {x : Nat} : x ∈ preL L 11 ↔ Pend L [] x := by
  rw [preL_mem]
  constructor
  · rintro (h | ⟨j, z, _, _, h⟩)
    · exact .inr ⟨_, h⟩
    · exact .inr ⟨_, h⟩
  · rintro (h | ⟨r, h⟩)
    · simp at h
    · match r, h with
      | none, h => exact .inl h
      | some (k, z), h =>
        obtain ⟨⟨h1, h2⟩, _⟩ := I.mem _ x h
        exact .inr ⟨k, z, h1, h2, h⟩
theorem preL_live {s : Wheel} {L : Option (Nat × Nat) → List Nat} {fr : List Nat} {f : Int → Option Int} (I : WInv s L fr f []) (O : WO s L fr f []) : s.live = ((preL L 11).length : Nat) ∧ (preL L 11).length ≤ 64 := by
  have hfr : ∀ x ∈ fr, x < 64 := NC_lt _ _ I.fre
  have hp : ∀ x, Pend L [] x ↔ x < 64 ∧ x ∉ fr := fun x => by
    constructor
    · rintro (h | ⟨r, h⟩)
      · simp at h
      · obtain ⟨_, h1, h2, _⟩ := I.mem r x h
        exact ⟨h1, fun hf => by have := I.frl x hf; have := lvOf_ge r; omega⟩
    · rintro ⟨h1, h2⟩
      rcases O.all x h1 with h | h
      · exact absurd h h2
      · exact h
  have hnd := preL_nodup I O
  have hl : (preL L 11 ++ fr).length = 64 := by
    have : (preL L 11 ++ fr).Perm (List.range 64) := by
      refine (List.perm_ext_iff_of_nodup ?_ List.nodup_range).2 (fun x => ?_)
      · refine List.nodup_append.2 ⟨hnd, I.frn, fun a ha b hb e => ?_⟩
        subst e
        exact ((hp a).1 ((preL_pend I).1 ha)).2 hb
      · rw [List.mem_append, preL_pend I, hp x, List.mem_range]
        constructor
        · rintro (h | h)
          · exact h.1
          · exact hfr x h
        · intro h
          by_cases e : x ∈ fr
          · exact .inr e
          · exact .inl ⟨h, e⟩
    simpa using this.length_eq
  rw [List.length_append] at hl
  rw [I.live]
  omega
/-- The timers of τ, in the order of their deadlines and ids. -/
def TmSorted (τ : Int → Option TmV) (l : List TmR) : Prop := l.Pairwise (fun e e' => e.dl < e'.dl ∨ (e.dl = e'.dl ∧ e.id < e'.id)) ∧ ∀ e, e ∈ l ↔ τ e.id = some ⟨e.core, e.dl, e.ck⟩
theorem pendT_sorted {s : Wheel} {L : Option (Nat × Nat) → List Nat} {fr : List Nat} {f : Int → Option Int} (I : WInv s L fr f []) (O : WO s L fr f []) : TmSorted (tmOf s f) (pendT s L) := by
  refine ⟨?_, fun e => ?_⟩
  · rw [pendT, List.pairwise_map]
    exact (preL_sorted I O 11).imp (fun {x y} h => bef_iff.1 h)
  · rw [pendT, List.mem_map]
    constructor
    · rintro ⟨x, hx, rfl⟩
      exact tm_pend O ((preL_pend I).1 hx)
    · intro h
      obtain ⟨x, _, hx, hid, hv⟩ := tm_some I h
      refine ⟨x, (preL_pend I).2 hx, ?_⟩
      obtain ⟨a, b, c, d⟩ := e
      have := hv
      simp only [tmv, TmV.mk.injEq] at this
      simp only [tmR, TmR.mk.injEq]
      simp only at hid
      exact ⟨hid, by first | exact this.1 | exact this.1.symm, by first | exact this.2.1 | exact this.2.1.symm, by first | exact this.2.2 | exact this.2.2.symm⟩
theorem sorted_unique {α : Type} {R : α → α → Prop} (irr : ∀ a, ¬ R a a) (asy : ∀ a b, R a b → R b a → False) : ∀ (l l' : List α), l.Pairwise R → l'.Pairwise R → (∀ e, e ∈ l ↔ e ∈ l') → l = l'
  | [], [], _, _, _ => rfl
  | [], b :: t, _, _, h => by have := (h b).2 (by simp); simp at this
  | a :: t, [], _, _, h => by have := (h a).1 (by simp); simp at this
  | a :: t, b :: t', h1, h2, h => by
    obtain ⟨h1a, h1b⟩ := List.pairwise_cons.1 h1
    obtain ⟨h2a, h2b⟩ := List.pairwise_cons.1 h2
    have e : a = b := by
      rcases List.mem_cons.1 ((h a).1 (by simp)) with q | q
      · exact q
      · rcases List.mem_cons.1 ((h b).2 (by simp)) with q' | q'
        · exact q'.symm
        · exact absurd (h2a a q) (fun u => asy _ _ (h1a b q') u)
    subst e
    rw [sorted_unique irr asy t t' h1b h2b (fun e => ?_)]
    constructor
    · intro he
      rcases List.mem_cons.1 ((h e).1 (by simp [he])) with q | q
      · subst q; exact absurd (h1a e he) (irr e)
      · exact q
    · intro he
      rcases List.mem_cons.1 ((h e).2 (by simp [he])) with q | q
      · subst q; exact absurd (h2a e he) (irr e)
      · exact q
theorem TmSorted.unique {τ : Int → Option TmV} {l l' : List TmR} (h : TmSorted τ l) (h' : TmSorted τ l') : l = l' :=
  sorted_unique (fun a h => by omega) (fun a b h h' => by omega) l l' h.1 h'.1 (fun e => by rw [h.2 e, h'.2 e])
end Go.Proofs.Qxb6500877aGreatDoor
