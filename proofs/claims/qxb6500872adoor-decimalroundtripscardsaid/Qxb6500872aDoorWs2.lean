import Derived.Test.Qxb6500872aDoorWs
set_option linter.unusedVariables false
namespace Go.Proofs.Qxb6500872aDoor
open Go.RowKit

theorem istring_hid {m : Bool} {a : Option Addr} {n c : Nat} {xs : List Int} {w : World} (h : Limbs w a n c xs) (hn : n ≤ 100000) :
    Calls Tryd.prog 7 #[.agg #[.bool m, .slice a n c]] w fun e w' => (∃ t, e = .returned (.string t)) ∧ Below w.heap.size w w' :=
  (istring_any h hn).mono fun e w' ⟨⟨_, he, _⟩, hb⟩ => ⟨⟨_, he⟩, hb⟩
theorem bitLen_hid {a : Option Addr} {n c : Nat} {xs : List Int} {w : World} (h : Limbs w a n c xs) :
    Calls Tryd.prog 26 #[.slice a n c] w fun e w' => (∃ v, e = .returned (.int .i64 v)) ∧ Below w.heap.size w w' :=
  (bitLen_any h).mono fun e w' ⟨he, hw⟩ => ⟨he, hw ▸ Below.refl _ _⟩

/-- Six stores into one block, seen from another. -/
theorem far6 {w : World} {a : Addr} {x : Value} {b : Nat} {u0 u1 u2 u3 u4 u5 : Value} (h : w.cell? a = some x) (hb : b ≠ a.block) :
    ((((((w.setCell ⟨b, 0, none⟩ u0).setCell ⟨b, 1, none⟩ u1).setCell ⟨b, 2, none⟩ u2).setCell ⟨b, 3, none⟩ u3).setCell ⟨b, 4, none⟩ u4).setCell ⟨b, 5, none⟩ u5).cell? a = some x := by
  rw [far2' hb, far2' hb, far2' hb, far2' hb, far2' hb, far2' hb]; exact h

theorem far2d {w : World} {p q a : Addr} {u v x : Value} (h : w.cell? a = some x) (hp : p.block ≠ a.block) (hq : q.block ≠ a.block) : ((w.setCell p u).setCell q v).drew.cell? a = some x := far2 h hp hq
theorem later_ne {W w : World} (h : Below W.heap.size W w) (b : Nat) (hb : b < W.heap.size) : ¬ b = w.heap.size := by have := h.size; omega
theorem later_ne' {W w : World} (h : Below W.heap.size W w) (b : Nat) (hb : b < W.heap.size) : ¬ w.heap.size = b := by have := h.size; omega

theorem one_kept {w1 w4 : World} {v0 v1 : Value} {t : TypeId} (hb : Below (w1.alloc (.cells #[v0, v1] t)).drew.heap.size (w1.alloc (.cells #[v0, v1] t)).drew w4) :
    w4.cell? ⟨w1.heap.size, 0, none⟩ = some v0 ∧ w4.cell? ⟨w1.heap.size, 1, none⟩ = some v1 ∧ w4.frozen? ⟨w1.heap.size, 0, none⟩ = false ∧ w4.frozen? ⟨w1.heap.size, 1, none⟩ = false ∧ w1.heap.size < w4.heap.size := by
  have hs := hb.size
  refine ⟨cell_later hb (by simp), cell_later hb (by simp), (hb.frozen (p := ⟨w1.heap.size, 0, none⟩) (by simp)).trans (by simp), (hb.frozen (p := ⟨w1.heap.size, 1, none⟩) (by simp)).trans (by simp), ?_⟩
  simp at hs
  omega
theorem two_kept {w1 w4 : World} {v0 v1 u0 u1 : Value} {t t' : TypeId} (hb : Below ((w1.alloc (.cells #[v0, v1] t)).alloc (.cells #[u0, u1] t')).drew.heap.size ((w1.alloc (.cells #[v0, v1] t)).alloc (.cells #[u0, u1] t')).drew w4) :
    w4.cell? ⟨w1.heap.size, 0, none⟩ = some v0 ∧ w4.cell? ⟨w1.heap.size, 1, none⟩ = some v1 ∧ w4.frozen? ⟨w1.heap.size, 0, none⟩ = false ∧ w4.frozen? ⟨w1.heap.size, 1, none⟩ = false ∧
    w4.cell? ⟨w1.heap.size + 1, 0, none⟩ = some u0 ∧ w4.cell? ⟨w1.heap.size + 1, 1, none⟩ = some u1 ∧ w4.frozen? ⟨w1.heap.size + 1, 0, none⟩ = false ∧ w4.frozen? ⟨w1.heap.size + 1, 1, none⟩ = false := by
  refine ⟨cell_later hb (by simp), cell_later hb (by simp), (hb.frozen (p := ⟨w1.heap.size, 0, none⟩) (by simp; omega)).trans (by simp), (hb.frozen (p := ⟨w1.heap.size, 1, none⟩) (by simp; omega)).trans (by simp),
    cell_later hb (by simp), cell_later hb (by simp), (hb.frozen (p := ⟨w1.heap.size + 1, 0, none⟩) (by simp)).trans (by simp), (hb.frozen (p := ⟨w1.heap.size + 1, 1, none⟩) (by simp)).trans (by simp)⟩
end Go.Proofs.Qxb6500872aDoor
