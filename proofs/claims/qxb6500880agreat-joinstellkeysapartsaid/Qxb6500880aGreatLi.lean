import Derived.Deep.CutBlock
import Derived.OwnWalk
import Derived.Maps.AppendAt
import Derived.Maps.OwnSet
import Derived.Maps.OwnOps
import Derived.Laws.ResultCell
import Derived.Test.Qxb6500880aGreatLg
set_option linter.unusedVariables false
set_option linter.unusedSimpArgs false
namespace Go.Proofs.Qxb6500880aGreat
open Go.RowKit

/-- What the two loops have put in so far: all of the first a pairs, and b triples of the next. -/
def WK (np nt fs sn : Nat) (fv : Nat → Nat → Nat) (a b : Nat) (r : Nat → Nat) : Prop := ∃ i j, ((i < a ∧ j < nt) ∨ (i = a ∧ j < b)) ∧ (fv (64 + np + j) fs = fv (64 + i) 0 ∧ fv (64 + np + j) sn = fv (64 + i) 1) ∧ same3 (fv (64 + np + j)) r
theorem WK_none {np nt fs sn : Nat} {fv : Nat → Nat → Nat} (r : Nat → Nat) : ¬ WK np nt fs sn fv 0 0 r := fun ⟨i, j, h, _⟩ => by omega
theorem WK_row {np nt fs sn a : Nat} {fv : Nat → Nat → Nat} (r : Nat → Nat) : WK np nt fs sn fv a nt r ↔ WK np nt fs sn fv (a + 1) 0 r := by
  constructor
  · rintro ⟨i, j, h, h2⟩
    exact ⟨i, j, by omega, h2⟩
  · rintro ⟨i, j, h, h2⟩
    refine ⟨i, j, ?_, h2⟩
    by_cases q : i = a
    · exact .inr ⟨q, by omega⟩
    · exact .inl ⟨by omega, by omega⟩
theorem WK_all {np nt fs sn : Nat} {fv : Nat → Nat → Nat} (r : Nat → Nat) : WK np nt fs sn fv np 0 r ↔ WantK np nt fs sn fv r := by
  constructor
  · rintro ⟨i, j, h, ⟨h2, h3⟩, h4⟩
    exact ⟨j, by omega, ⟨i, by omega, h2, h3⟩, h4⟩
  · rintro ⟨j, hj, ⟨i, hi, h2, h3⟩, h4⟩
    exact ⟨i, j, .inl ⟨hi, hj⟩, ⟨h2, h3⟩, h4⟩
theorem WK_hit {np nt fs sn a b : Nat} {fv : Nat → Nat → Nat} (hb : b < nt) (h : fv (64 + np + b) fs = fv (64 + a) 0 ∧ fv (64 + np + b) sn = fv (64 + a) 1) (r : Nat → Nat) : WK np nt fs sn fv a (b + 1) r ↔ WK np nt fs sn fv a b r ∨ same3 (fv (64 + np + b)) r := by
  constructor
  · rintro ⟨i, j, h1, h2, h3⟩
    by_cases q : i = a ∧ j = b
    · obtain ⟨rfl, rfl⟩ := q
      exact .inr h3
    · exact .inl ⟨i, j, by omega, h2, h3⟩
  · rintro (⟨i, j, h1, h2, h3⟩ | z)
    · exact ⟨i, j, by omega, h2, h3⟩
    · exact ⟨a, b, by omega, h, z⟩
theorem WK_miss {np nt fs sn a b : Nat} {fv : Nat → Nat → Nat} (h : ¬ (fv (64 + np + b) fs = fv (64 + a) 0 ∧ fv (64 + np + b) sn = fv (64 + a) 1)) (r : Nat → Nat) : WK np nt fs sn fv a (b + 1) r ↔ WK np nt fs sn fv a b r := by
  constructor
  · rintro ⟨i, j, h1, h2, h3⟩
    by_cases q : i = a ∧ j = b
    · obtain ⟨rfl, rfl⟩ := q
      exact absurd h2 h
    · exact ⟨i, j, by omega, h2, h3⟩
  · rintro ⟨i, j, h1, h2, h3⟩
    exact ⟨i, j, by omega, h2, h3⟩
/-- The wanted set while it is filled. -/
structure WS (w8 wr : World) (M np nt fs sn : Nat) (fv : Nat → Nat → Nat) (a b : Nat) (n : Nat) (ky : Nat → Nat → Nat) : Prop where
  m : MapW wr M n ky
  k : ∀ r, (∃ i, i < n ∧ same3 (ky i) r) ↔ WK np nt fs sn fv a b r
  d : ∀ i j, i < n → j < i → ¬ same3 (ky i) (ky j)
  bl : Below M w8 wr
theorem WS.start {w8 : World} {np nt fs sn : Nat} {fv : Nat → Nat → Nat} : WS w8 (w8.alloc (.map #[] 0)) w8.heap.size np nt fs sn fv 0 0 0 (fun _ _ => 0) := ⟨MapW_new w8, fun r => ⟨fun ⟨i, hi, _⟩ => by omega, fun z => absurd z (WK_none r)⟩, fun i j hi => by omega, one_alloc _ _⟩
theorem WS.below {w8 wr w' : World} {M np nt fs sn a b n : Nat} {fv ky : Nat → Nat → Nat} (h : WS w8 wr M np nt fs sn fv a b n ky) (hb : Below wr.heap.size wr w') : WS w8 w' M np nt fs sn fv a b n ky := ⟨h.m.below hb, h.k, h.d, h.bl.trans (hb.mono (Nat.le_of_lt h.m.lt))⟩
theorem WS.row {w8 wr : World} {M np nt fs sn a n : Nat} {fv ky : Nat → Nat → Nat} (h : WS w8 wr M np nt fs sn fv a nt n ky) : WS w8 wr M np nt fs sn fv (a + 1) 0 n ky := ⟨h.m, fun r => (h.k r).trans (WK_row r), h.d, h.bl⟩
theorem WS.miss {w8 wr : World} {M np nt fs sn a b n : Nat} {fv ky : Nat → Nat → Nat} (h : WS w8 wr M np nt fs sn fv a b n ky) (hm : ¬ (fv (64 + np + b) fs = fv (64 + a) 0 ∧ fv (64 + np + b) sn = fv (64 + a) 1)) : WS w8 wr M np nt fs sn fv a (b + 1) n ky := ⟨h.m, fun r => (h.k r).trans (WK_miss hm r).symm, h.d, h.bl⟩
theorem WS.hit {w8 wr : World} {M np nt fs sn a b n : Nat} {fv ky : Nat → Nat → Nat} (h : WS w8 wr M np nt fs sn fv a b n ky) (hb : b < nt) (hm : fv (64 + np + b) fs = fv (64 + a) 0 ∧ fv (64 + np + b) sn = fv (64 + a) 1) : ∃ w' n' ky', (Instr.mapUpdate 48 (.map (some M)) (key3 (fv (64 + np + b))) (.bool true)).run Tryz.prog wr = .ok () w' ∧ WS w8 w' M np nt fs sn fv a (b + 1) n' ky' ∧ Wr M wr w' := by
  obtain ⟨w', n', ky', h1, h2, h3, _, h5, h6⟩ := h.m.put (fv (64 + np + b))
  have hl := h.m.lt
  refine ⟨w', n', ky', h1, ⟨h2, fun r => ?_, h6 h.d, ⟨h3.os.trans h.bl.os, h3.tape.trans h.bl.tape, h3.output.trans h.bl.output, Nat.le_trans h.bl.size h3.size, fun q hq => (h3.block q (by omega) (by omega)).trans (h.bl.block q hq)⟩⟩, h3⟩
  rw [h5 r, h.k r]
  exact (WK_hit hb hm r).symm
theorem cell_three (w : World) (f : Nat → Nat) (ty : TypeId) {t : Nat} (ht : t < 3) : (w.alloc (.cells #[.int .i64 (f 0 : Int), .int .i64 (f 1 : Int), .int .i64 (f 2 : Int)] ty)).cell? ⟨w.heap.size, t, none⟩ = some (.int .i64 (f t : Int)) := by
  rw [new_cell rfl]
  rcases (by omega : t = 0 ∨ t = 1 ∨ t = 2) with h | h | h <;> (subst h; rfl)
end Go.Proofs.Qxb6500880aGreat
