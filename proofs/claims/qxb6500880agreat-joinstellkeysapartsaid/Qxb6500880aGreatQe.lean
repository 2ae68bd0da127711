import Derived.Deep.CutBlock
import Derived.OwnWalk
import Derived.Maps.AppendAt
import Derived.Maps.OwnSet
import Derived.Maps.OwnOps
import Derived.Laws.ResultCell
import Derived.Laws.AppendOwnNone
import Derived.Test.Qxb6500880aGreatQd
set_option linter.unusedVariables false
set_option linter.unusedSimpArgs false
namespace Go.Proofs.Qxb6500880aGreat
open Go.RowKit

theorem RelO.set_marks' {w : World} {b : Nat} {nm : ByteArray} {s : RelS} {d : Nat → Nat} {N : Nat} {f : Nat → Nat} (h : RelO w b nm s d N f) {w' : World} {x : Value} {o c : Nat} (k : ∀ q, fpR b s q → q ≠ b → q < w.heap.size → w'.heap[q]? = w.heap[q]?) (R : RelAt w' b nm { s with idx := x, old := o, cur := c }) : RelO w' b nm { s with idx := x, old := o, cur := c } d N f := by
  refine ⟨R, own_keep h.own (fun q hq hl => k q (.inr (.inl hq)) (fun e => h.d1.1 (e ▸ hq)) hl), ?_, ?_, h.fit, h.big, h.pw, h.dist, h.d1, h.d2, h.d3, h.a0, h.a1, h.val⟩
  · obtain ⟨ys, o⟩ := h.why
    exact ⟨ys, own_keep o (fun q hq hl => k q (.inr (.inr (.inr hq))) (fun e => h.d1.2.2 (e ▸ hq)) hl)⟩
  · rcases h.tab with z | ⟨h1, h2, h3⟩
    · exact .inl z
    · exact .inr ⟨h1, h2.blk (fun q hq => k q (.inr (.inr (.inl hq))) (fun e => h.d1.2.1 (e ▸ hq)) (h2.lt (by omega) hq)), h3⟩
/-- The relations with the index in the list of the first. -/
def X1 (X : Nat → RS) (v : Value) : Nat → RS := updX X 0 ⟨{ (X 0).s with idx := v }, (X 0).d, (X 0).N, (X 0).f⟩
theorem X1_0 (X : Nat → RS) (v : Value) : X1 X v 0 = ⟨{ (X 0).s with idx := v }, (X 0).d, (X 0).N, (X 0).f⟩ := updX_same _ _ _
theorem X1_o (X : Nat → RS) (v : Value) {j : Nat} (h : j ≠ 0) : X1 X v j = X j := updX_other _ _ h
theorem fpE_X1 {D : RD} {X : Nat → RS} {v : Value} {j q : Nat} : fpE D (X1 X v) j q ↔ fpE D X j q := by
  match j with
  | 0 => exact Iff.rfl
  | 1 => exact Iff.rfl
  | 2 => exact Iff.rfl
  | 3 => exact Iff.rfl
  | 4 => exact Iff.rfl
  | j + 5 =>
    show fpR (D.rb j) (X1 X v j).s q ↔ fpR (D.rb j) (X j).s q
    by_cases z : j = 0
    · subst z; rw [X1_0]; exact Iff.rfl
    · rw [X1_o _ _ z]
theorem ES.planned {w w' : World} {D : RD} {c c' : Nat → Value} {X : Nat → RS} {v : Value} (h : ES w D c X) (he : EngAt w' D.E c') (R : RelAt w' (D.rb 0) (D.nm 0) { (X 0).s with idx := v }) (W : Ws (fun q => q = D.rb 0 ∨ q = D.E) w w') : ES w' D c' (X1 X v) := by
  have far : ∀ j q, j < 9 → j ≠ 0 → fpE D X j q → (j = 5 → q ≠ D.rb 0) → w'.heap[q]? = w.heap[q]? := fun j q hj h0 hq h5 => W.block q (h.flt j q hj hq) (fun e => by
    rcases e with e | e
    · have : j = 5 := h.dj j 5 q hj (by omega) hq (.inl e)
      exact h5 this e
    · exact h0 (h.dj j 0 q hj (by omega) hq e))
  refine h.step W.size he (fun j hj => ?_) (far 3 _ (by omega) (by omega) rfl (by omega)) (fun q hq => far 4 q (by omega) (by omega) hq (by omega)) (fun a b q ha hb h1 h2 => h.dj a b q ha hb (fpE_X1.1 h1) (fpE_X1.1 h2))
  by_cases z : j = 0
  · subst z; rw [X1_0]; exact (h.re 0 hj).set_marks' (fun q hq hne _ => far 5 q (by omega) (by omega) hq (fun _ => hne)) R
  · rw [X1_o _ _ z]
    exact (h.re j hj).keep (fun q hq _ => far (j + 5) q (by omega) (by omega) hq (by omega))
theorem Rdy.dk {w : World} {D : RD} {c : Nat → Value} {X : Nat → RS} (h : Rdy w D c X) (v : Value) : DK D (X1 X v) := by
  refine ⟨h.um, h.ur, h.uh, h.o, ?_, ?_, ?_⟩
  · rw [X1_0, X1_o _ _ (by omega), X1_o _ _ (by omega)]; exact h.A
  · rw [X1_0]; exact h.r0
  · rw [X1_o _ _ (by omega)]; exact h.r1
/-- The rows of c that the rule tells. -/
def FJ (D : RD) (X : Nat → RS) (r : Nat) : Prop := ∃ i, i < (X 1).s.rows ∧ ∀ t, t < 2 → (X 0).d (r * 3 + D.cf t) = (X 1).d (i * 2 + t)
theorem FJ_of {D : RD} {X : Nat → RS} {v : Value} {p : PT} {i : IXf} (r : Nat) : FA (D.rp (X1 X v) p i) (D.rp (X1 X v) p i).se.rows r ↔ FJ D X r := by
  have e1 : (D.rp (X1 X v) p i).se = (X 1).s := by show (X1 X v 1).s = _; rw [X1_o _ _ (by omega)]
  have e2 : (D.rp (X1 X v) p i).de = (X 1).d := by show (X1 X v 1).d = _; rw [X1_o _ _ (by omega)]
  have e3 : (D.rp (X1 X v) p i).dc = (X 0).d := by show (X1 X v 0).d = _; rw [X1_0]
  unfold FA FJ mtc krE keyR
  rw [e1, e2, e3]
  exact Iff.rfl
/-- What the evaluation leaves. -/
structure EvO (w w' : World) (D : RD) (c : Nat → Value) (X : Nat → RS) (c' : Nat → Value) (X' : Nat → RS) : Prop where
  s : ES w' D c' X'
  c : ∀ k, k ≠ 12 → k ≠ 14 → k ≠ 16 → k ≠ 17 → k ≠ 18 → k ≠ 19 → k ≠ 20 → k ≠ 23 → c' k = c k
  x0 : ∃ v, X' 0 = ⟨{ (X 0).s with idx := v }, (X 0).d, (X 0).N, (X 0).f⟩
  x1 : X' 1 = X 1 ∧ X' 3 = X 3
  A : (X' 2).s.A = 3
  k : KI (X 0).d (X 0).s.rows (X' 2).d (X' 2).s.rows (FJ D X)
  fr : ∀ q, fpR (D.rb 2) (X' 2).s q → fpR (D.rb 2) (X 2).s q ∨ w.heap.size ≤ q
  W : Ws (fun q => q = D.E ∨ q = D.GR ∨ q = D.GC ∨ q = D.rb 0 ∨ fpR (D.rb 2) (X 2).s q) w w'
end Go.Proofs.Qxb6500880aGreat
