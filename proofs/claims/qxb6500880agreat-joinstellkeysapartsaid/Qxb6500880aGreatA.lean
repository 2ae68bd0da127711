import Derived.Deep.CutBlock
import Derived.OwnWalk
import Derived.Maps.AppendAt
import Derived.WalkKit
import Derived.WalkSpells
import Derived.WalkLawsBesides
import Derived.Deep.QuietTactic
import Derived.BigQuiet
import Derived.Deep.RegionWith
import Derived.Deep.RegionHeld3
import Derived.Deep.DeepCutAuto
import Derived.Deep.LoopGhost
import Derived.Test.Qxb6500880aGreatRows
set_option linter.unusedVariables false
set_option linter.unusedSimpArgs false
namespace Go.Proofs.Qxb6500880aGreat
open Go.RowKit

theorem one_alloc (w : World) (o : Obj) : Below w.heap.size w (w.alloc o) := (Below.refl _ _).alloc (Nat.le_refl _) _
theorem below_to {n : Nat} {w w1 w2 : World} (h : Below n w w1) (d : Below w1.heap.size w1 w2) (hn : n ≤ w1.heap.size) : Below n w w2 := h.trans (d.mono hn)
theorem then_ {w w1 w2 : World} (h : Below w.heap.size w w1) (d : Below w1.heap.size w1 w2) : Below w.heap.size w w2 := h.trans (d.mono h.size)
theorem below_dr {n : Nat} {w w1 : World} (h : Below n w w1) : Below n w w1.drew := ⟨h.os, h.tape, h.output, h.size, h.block⟩
theorem below_drN {n : Nat} {w w1 : World} (h : Below n w w1) (k : Nat) : Below n w (w1.drewN k) := ⟨h.os, h.tape, h.output, h.size, h.block⟩
theorem far_set {w : World} {b o q : Nat} {v : Value} (h : q ≠ b) : (w.setCell ⟨b, o, none⟩ v).heap[q]? = w.heap[q]? := by
  simp only [World.setCell, Array.getElem?_modify]
  rw [if_neg (fun e => h e.symm)]
theorem below_cell {n : Nat} {w w1 : World} (h : Below n w w1) {b o : Nat} (hq : n ≤ b) (v : Value) : Below n w (w1.setCell ⟨b, o, none⟩ v) :=
  ⟨h.os, h.tape, h.output, by have := h.size; simpa using this, fun k hk => (far_set (by omega)).trans (h.block k hk)⟩
theorem own_shape {w : World} {base e s n : Nat} {v : Value} {xs : List Value} (h : w.ownsRow base e s v n xs) : ∃ p cap, v = .slice p n cap := by
  rcases h.2 with ⟨e1, e2⟩ | ⟨g, cap, cur, e1, _⟩
  · exact ⟨none, 0, by rw [e1, e2]⟩
  · exact ⟨_, cap, e1⟩
theorem own_one {w w' : World} {base e s n : Nat} {v : Value} {xs : List Value} (h : w.ownsRow base e s v n xs) (hk : ∀ q, v.ownBlock = some q → w'.heap[q]? = w.heap[q]?) : w'.ownsRow base e s v n xs := by
  refine ⟨h.1, ?_⟩
  rcases h.2 with q | ⟨g, cap, cur, e1, h1, h2, r⟩
  · exact .inl q
  · subst e1
    exact .inr ⟨g, cap, cur, rfl, h1, (hk g rfl).trans h2, r⟩
theorem hideIt {p : Prop} (h : p) : Hid p := h
theorem Hid_out {p : Prop} (h : Hid p) : p := h
end Go.Proofs.Qxb6500880aGreat
