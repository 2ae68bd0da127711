import Derived.Test.Qxb6500877aGreatDoorQk
import Derived.Test.Qxb6500877aGreatDoorQh
set_option linter.unusedVariables false
set_option linter.unusedSimpArgs false
namespace Go.Proofs.Qxb6500877aGreatDoor
open Go.RowKit

theorem seg_unique {N : Nat} {P X : Nat → Int} : ∀ (l l' : List Nat) (p v t t' : Int), Seg N P X p v l t (-1) → Seg N P X p v l' t' (-1) → l = l'
  | [], [], _, _, _, _, _, _ => rfl
  | [], y :: l', p, v, t, t', h, h' => by
    have h1 : (-1 : Int) = v := h.2
    have h2 : v = (y : Int) := h'.1
    omega
  | x :: l, [], p, v, t, t', h, h' => by
    have h1 : v = (x : Int) := h.1
    have h2 : (-1 : Int) = v := h'.2
    omega
  | x :: l, y :: l', p, v, t, t', h, h' => by
    have e : x = y := by have h1 := h.1; have h2 := h'.1; omega
    subst e
    rw [seg_unique l l' x (X x) t t' h.2.2.2 h'.2.2.2]
theorem SInv.unique {s : Sched} {Q Q' : Nat → Nat → List Nat} (I : SInv s Q 16) (I' : SInv s Q' 16) {c b : Nat} (hc : c < 4) (hb : b < 4) : Q c b = Q' c b :=
  seg_unique _ _ _ _ _ _ (I.dll c b hc hb) (I'.dll c b hc hb)
/-- The snapshot of a machine. -/
def SnapOf (t : Nat) (ν : Net) (τ : TSt) (σ : Sg) (S : Snap) : Prop := ∃ Q l, SInv σ.s Q 16 ∧ TmSorted τ.tm l ∧ S = mkSnap t ν σ Q l τ.nx
theorem preQ_four {Q Q' : Nat → List Nat} (h : ∀ b, b < 4 → Q b = Q' b) : preQ Q 4 = preQ Q' 4 := by
  simp only [preQ]
  rw [h 0 (by omega), h 1 (by omega), h 2 (by omega), h 3 (by omega)]
theorem SnapOf.eq {t : Nat} {ν : Net} {τ : TSt} {σ : Sg} {S S' : Snap} (h : SnapOf t ν τ σ S) (h' : SnapOf t ν τ σ S') : SnapEq S S' := by
  obtain ⟨Q, l, I, T, rfl⟩ := h
  obtain ⟨Q', l', I', T', rfl⟩ := h'
  exact ⟨rfl, fun _ _ => rfl, fun _ _ => rfl, fun c hc => preQ_four (fun b hb => I.unique I' hc hb), fun _ _ => rfl, fun _ _ => rfl, fun _ _ => rfl, fun _ _ => rfl, T.unique T', rfl⟩
theorem SnapOf.sm {w : World} {B mb t k : Nat} {ν : Net} {τ : TSt} {σ : Sg} {S : Snap} (M : Mach w B mb t k ν τ σ) (h : SnapOf t ν τ σ S) : SnapSm S := by
  obtain ⟨Q, l, I, T, rfl⟩ := h
  obtain ⟨ws, L, fr, f, _, WI, _, _, tw⟩ := M.tim
  have T2 := pendT_sorted WI tw.wo
  rw [tw.tm] at T2
  have e := T.unique T2
  refine ⟨fun c hc => ?_, fun b hb => ?_, ?_⟩
  · show (preQ (Q c) 4).length ≤ _
    have h0 := I.small c 0
    have h1 := I.small c 1
    have h2 := I.small c 2
    have h3 := I.small c 3
    simp [preQ]
    omega
  · show (boxL (ν.box b)).length ≤ _
    obtain ⟨n, en, hn⟩ := (M.net.2 b hb).n
    rw [boxL_len, en]
    omega
  · show l.length ≤ _
    rw [e, pendT, List.length_map]
    have := (preL_live WI tw.wo).2
    omega
theorem snap_full {w : World} {B mb t k : Nat} {ν : Net} {τ : TSt} {σ : Sg} (M : Mach w B mb t k ν τ σ) :
    Calls Tryz.prog 22 #[.pointer (some ⟨B, 0, none⟩)] w fun e w' => ∃ (cs : Array Value) (S : Snap), e = .returned (.agg cs) ∧ cs.size = 123 ∧ SnapOf t ν τ σ S ∧ SnapSm S ∧ (∀ j u, cs[j]? = some u → SCell w' w.heap.size S j u) ∧ Below w.heap.size w w' := by
  refine (snap_any M).mono ?_
  rintro e w' ⟨v, Q, l, rfl, I, T, ⟨cs, rfl, h1, h2⟩, hb⟩
  exact ⟨cs, _, rfl, h1, ⟨Q, l, I, T, rfl⟩, SnapOf.sm M ⟨Q, l, I, T, rfl⟩, h2, hb⟩
/-- A state that a snapshot gave, laid into a block of its own. -/
theorem stat_new {w : World} {base : Nat} {S : Snap} {cs : Array Value} (hs : cs.size = 123) (h : ∀ j u, cs[j]? = some u → SCell w base S j u) : StAt (w.alloc (.cells cs 61)) w.heap.size base S := by
  refine ⟨fun j hj => ?_, ⟨cs, heap_alloc_last w _, hs⟩⟩
  have e : cs[j]? = some (cs[j]'(by omega)) := Array.getElem?_eq_getElem _
  refine ⟨cs[j]'(by omega), ?_, fun _ => (h j _ e).keep (one_alloc w _).size (fun k _ hk => (one_alloc w _).block k hk)⟩
  rw [cell_of_row _ _ _ cs 61 (0, 0) (heap_alloc_last w _)]
  exact e
/-- A state copied over another one. -/
theorem stat_copy {w : World} {b base b2 base2 : Nat} {S S2 : Snap} {cs : Array Value} (h : StAt w b base S) (hr : w.heap[b]? = some (.cells cs 61)) (hz : cs.size = 123) (h2 : StAt w b2 base2 S2) (hb : b2 < base) : StAt (w.setRow b2 cs) b2 base S := by
  obtain ⟨c2, hc2, hz2⟩ := h2.row
  have hrow := setRow_row (cs := cs) hc2
  refine ⟨fun j hj => ?_, ⟨cs, hrow, hz⟩⟩
  have e : cs[j]? = some (cs[j]'(by omega)) := Array.getElem?_eq_getElem _
  refine ⟨cs[j]'(by omega), by rw [cell_of_row _ _ _ cs 61 (0, 0) hrow]; exact e, fun _ => ?_⟩
  obtain ⟨v, hv, hS⟩ := h.cell hj
  rw [cell_of_row _ _ _ cs 61 (0, 0) hr, e] at hv
  simp only [Option.some.injEq] at hv
  rw [hv]
  exact hS.keep (by rw [setRow_size]; exact Nat.le_refl _) (fun k hk _ => setRow_far (by omega))
theorem stat_one {w : World} {b base : Nat} {S : Snap} {cs : Array Value} (h : StAt w b base S) (hr : w.heap[b]? = some (.cells cs 61)) (hz : cs.size = 123) : (cs.all fun x => x.oneCell') = true := by
  rw [Array.all_eq_true]
  intro i hi
  obtain ⟨v, hv, hS⟩ := h.cell (j := i) (by omega)
  rw [cell_of_row _ _ _ cs 61 (0, 0) hr, Array.getElem?_eq_getElem hi] at hv
  simp only [Option.some.injEq] at hv
  rw [hv]
  exact scell_one hS
end Go.Proofs.Qxb6500877aGreatDoor
