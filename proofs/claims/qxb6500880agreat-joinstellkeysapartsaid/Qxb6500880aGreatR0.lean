import Derived.Deep.CutBlock
import Derived.OwnWalk
import Derived.Maps.AppendAt
import Derived.Test.Qxb6500880aGreatA
set_option linter.unusedVariables false
set_option linter.unusedSimpArgs false
namespace Go.Proofs.Qxb6500880aGreat
open Go.RowKit

theorem setCell_self {w : World} {b o : Nat} {v : Value} (h : w.cell? ⟨b, o, none⟩ = some v) : w.setCell ⟨b, o, none⟩ v = w := by
  have : (w.setCell ⟨b, o, none⟩ v).heap = w.heap := by
    unfold World.setCell
    apply Array.ext
    · simp
    · intro i h1 h2
      simp only [Array.getElem_modify]
      split
      · rename_i hb
        subst hb
        unfold World.cell? at h
        have e : w.heap[b]? = some w.heap[b] := Array.getElem?_eq_getElem h2
        simp only [e] at h
        cases hq : w.heap[b] with
        | cells c el fr =>
          rw [hq] at h
          simp at h
          show Obj.cells (c.setIfInBounds o v) el fr = _
          congr 1
          apply Array.ext
          · simp
          · intro j g1 g2
            rw [Array.getElem_setIfInBounds]
            split
            · rename_i z
              subst z
              rw [Array.getElem?_eq_getElem g2] at h
              exact (Option.some.inj h).symm
            · rfl
        | _ => rfl
      · rfl
  calc w.setCell ⟨b, o, none⟩ v = { w with heap := (w.setCell ⟨b, o, none⟩ v).heap } := rfl
    _ = w := by rw [this]
end Go.Proofs.Qxb6500880aGreat
