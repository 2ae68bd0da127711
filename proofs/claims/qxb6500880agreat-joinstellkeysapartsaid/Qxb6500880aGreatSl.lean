import Derived.Deep.CutBlock
import Derived.OwnWalk
import Derived.Maps.AppendAt
import Derived.Maps.OwnSet
import Derived.Maps.OwnOps
import Derived.Laws.ResultCell
import Derived.Laws.AppendOwnNone
import Derived.Test.Qxb6500880aGreatSk
set_option linter.unusedVariables false
set_option linter.unusedSimpArgs false
namespace Go.Proofs.Qxb6500880aGreat
open Go.RowKit

theorem sortRows_tiny {w : World} {EB RX n c : Nat} {p : Option Addr} (hn : n ≤ 1) :
    Calls Tryz.prog 37 #[.slice p n c, (.func (.func 38) #[] #[.pointer (some ⟨EB, 0, none⟩), .pointer (some ⟨RX, 0, none⟩)])] w fun e w' => e = .returned (.tuple #[]) ∧ Below w.heap.size w w' := by
  refine sortFunc_any (sliceStable_any (by omega) ?_)
  rw [if_pos hn]
  refine stable_any (by omega) ?_
  refine (insertion_tiny hn).mono ?_
  rintro e w' ⟨rfl, b⟩
  exact ⟨rfl, then_ (then_ (then_ (then_ (then_ (one_alloc _ _) (one_alloc _ _)) (one_alloc _ _)) (one_alloc _ _)) (one_alloc _ _)) b⟩
end Go.Proofs.Qxb6500880aGreat
