import Derived.Deep.CutBlock
import Derived.OwnWalk
import Derived.Maps.AppendAt
import Derived.Maps.OwnSet
import Derived.Maps.OwnOps
import Derived.Laws.ResultCell
import Derived.Test.Qxb6500880aLa
set_option linter.unusedVariables false
set_option linter.unusedSimpArgs false
namespace Go.Proofs.Qxb6500880a
open Go.RowKit

def trmL (f : Nat → Nat) : Nat → List Value
  | 0 => []
  | k + 1 => trmL f k ++ [.int .u8 0, .int .i64 (f k : Int), .int .i64 0, .string ByteArray.empty]
theorem trmL_len (f : Nat → Nat) : ∀ n, (trmL f n).length = n * 4
  | 0 => rfl
  | n + 1 => by
    unfold trmL
    rw [List.length_append, trmL_len f n]
    simp
    omega
theorem trmL_get (f : Nat → Nat) (t i : Nat) (hi : i < 4) : ∀ n, t < n → (trmL f n)[t * 4 + i]? = ([.int .u8 0, .int .i64 (f t : Int), .int .i64 0, .string ByteArray.empty] : List Value)[i]?
  | 0, h => by omega
  | n + 1, h => by
    unfold trmL
    by_cases q : t = n
    · subst q
      rw [List.getElem?_append_right (by rw [trmL_len]; omega), trmL_len]
      congr 1
      omega
    · rw [List.getElem?_append_left (by rw [trmL_len]; omega)]
      exact trmL_get f t i hi n (by omega)
theorem TermsAt.of_own {w : World} {base n : Nat} {v : Value} {f : Nat → Nat} (h : w.ownsRow base 34 4 v n (trmL f n)) (hn : 0 < n) : TermsAt w v n f ∧ ∃ q, v.ownBlock = some q ∧ base ≤ q ∧ q < w.heap.size := by
  obtain ⟨g, c, e, h1, h2, h3, h4, h5⟩ := own_full h hn
  have z : ∀ t, t < n → ∀ i, i < 4 → w.cell? ⟨g, t * 4 + i, none⟩ = _ := fun t ht i hi => (h4 (t * 4 + i) (by omega)).trans (trmL_get f t i hi n ht)
  exact ⟨⟨_, c, e, h1, .inr ⟨g, rfl, fun t ht => ⟨z t ht 0 (by omega), z t ht 1 (by omega), z t ht 2 (by omega), z t ht 3 (by omega)⟩⟩⟩, g, by rw [e]; rfl, h2, h3⟩
/-- The literals of a rule's body. -/
def litL (av : Nat → Value) : Nat → List Value
  | 0 => []
  | k + 1 => litL av k ++ [.int .u8 0, .int .u8 0, .string (nmS true), av k]
theorem litL_upd (av : Nat → Value) (k : Nat) (v : Value) : ∀ i, i ≤ k → litL (updV av k v) i = litL av i
  | 0, _ => rfl
  | i + 1, h => by
    unfold litL
    rw [litL_upd av k v i (by omega), updV_other av v (by omega)]
theorem litL_len (av : Nat → Value) : ∀ n, (litL av n).length = n * 4
  | 0 => rfl
  | n + 1 => by
    unfold litL
    rw [List.length_append, litL_len av n]
    simp
    omega
theorem litL_get (av : Nat → Value) (t i : Nat) (hi : i < 4) : ∀ n, t < n → (litL av n)[t * 4 + i]? = ([.int .u8 0, .int .u8 0, .string (nmS true), av t] : List Value)[i]?
  | 0, h => by omega
  | n + 1, h => by
    unfold litL
    by_cases q : t = n
    · subst q
      rw [List.getElem?_append_right (by rw [litL_len]; omega), litL_len]
      congr 1
      omega
    · rw [List.getElem?_append_left (by rw [litL_len]; omega)]
      exact litL_get av t i hi n (by omega)
/-- A body under construction: k literals. -/
structure LitI (w : World) (base : Nat) (bv : Value) (av : Nat → Value) (k n V : Nat) : Prop where
  own : w.ownsRow base 31 4 bv k (litL av k)
  tm : ∀ j, j < k → TermsAt w (av j) n (fun t => (j * n + t) % V)
  tq : ∀ j, j < k → ∃ q, (av j).ownBlock = some q ∧ base ≤ q ∧ q < w.heap.size ∧ bv.ownBlock ≠ some q
theorem LitI.keep {w w' : World} {base : Nat} {bv : Value} {av : Nat → Value} {k n V : Nat} (h : LitI w base bv av k n V) (hs : w.heap.size ≤ w'.heap.size) (hk : ∀ q, base ≤ q → q < w.heap.size → w'.heap[q]? = w.heap[q]?) : LitI w' base bv av k n V := by
  refine ⟨own_one h.own (fun q hq => hk q (h.own.lt q hq).1 (h.own.lt q hq).2), fun j hj => ?_, fun j hj => ?_⟩
  · obtain ⟨q, e, h1, h2, _⟩ := h.tq j hj
    exact (h.tm j hj).keep (fun q' e' hl => by rw [e] at e'; have := some_eq e'; subst this; exact hk q h1 h2)
  · obtain ⟨q, e, h1, h2, h3⟩ := h.tq j hj
    exact ⟨q, e, h1, by omega, h3⟩
theorem LitI.body {w : World} {base : Nat} {bv : Value} {av : Nat → Value} {k n V : Nat} (h : LitI w base bv av k n V) (hk : 0 < k) : BodyAt w bv k n V := by
  obtain ⟨g, c, e, h1, h2, h3, h4, h5⟩ := own_full h.own hk
  have z : ∀ t, t < k → ∀ i, i < 4 → w.cell? ⟨g, t * 4 + i, none⟩ = _ := fun t ht i hi => (h4 (t * 4 + i) (by omega)).trans (litL_get av t i hi k ht)
  refine ⟨_, c, e, h1, .inr ⟨g, rfl, fun j hj => ⟨z j hj 0 (by omega), z j hj 1 (by omega), z j hj 2 (by omega), av j, z j hj 3 (by omega), h.tm j hj, ?_⟩⟩⟩
  obtain ⟨q, e1, _, h2', _⟩ := h.tq j hj
  exact ⟨q, e1, h2'⟩
end Go.Proofs.Qxb6500880a
