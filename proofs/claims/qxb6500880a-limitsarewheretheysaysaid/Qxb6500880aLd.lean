import Derived.Deep.CutBlock
import Derived.OwnWalk
import Derived.Maps.AppendAt
import Derived.Maps.OwnSet
import Derived.Maps.OwnOps
import Derived.Laws.ResultCell
import Derived.Test.Qxb6500880aLc
set_option linter.unusedVariables false
set_option linter.unusedSimpArgs false
namespace Go.Proofs.Qxb6500880a
open Go.RowKit

def oneL : Nat → List Value
  | 0 => []
  | k + 1 => oneL k ++ [.int .u8 1, .int .i64 0, .int .i64 1, .string ByteArray.empty]
theorem oneL_len : ∀ n, (oneL n).length = n * 4
  | 0 => rfl
  | n + 1 => by
    unfold oneL
    rw [List.length_append, oneL_len n]
    simp
    omega
theorem oneL_get (t i : Nat) (hi : i < 4) : ∀ n, t < n → (oneL n)[t * 4 + i]? = ([.int .u8 1, .int .i64 0, .int .i64 1, .string ByteArray.empty] : List Value)[i]?
  | 0, h => by omega
  | n + 1, h => by
    unfold oneL
    by_cases q : t = n
    · subst q
      rw [List.getElem?_append_right (by rw [oneL_len]; omega), oneL_len]
      congr 1
      omega
    · rw [List.getElem?_append_left (by rw [oneL_len]; omega)]
      exact oneL_get t i hi n (by omega)
theorem OnesAt.of_own {w : World} {base n : Nat} {v : Value} (h : w.ownsRow base 34 4 v n (oneL n)) (hn : 0 < n) : OnesAt w v n := by
  obtain ⟨g, c, e, h1, h2, h3, h4, h5⟩ := own_full h hn
  have z : ∀ t, t < n → ∀ i, i < 4 → w.cell? ⟨g, t * 4 + i, none⟩ = _ := fun t ht i hi => (h4 (t * 4 + i) (by omega)).trans (oneL_get t i hi n ht)
  exact ⟨_, c, e, h1, .inr ⟨g, rfl, fun t ht => ⟨z t ht 0 (by omega), z t ht 1 (by omega), z t ht 2 (by omega), z t ht 3 (by omega)⟩⟩⟩
end Go.Proofs.Qxb6500880a
