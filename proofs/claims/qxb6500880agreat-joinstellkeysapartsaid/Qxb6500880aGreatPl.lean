import Derived.Deep.CutBlock
import Derived.OwnWalk
import Derived.Maps.AppendAt
import Derived.Maps.OwnSet
import Derived.Maps.OwnOps
import Derived.Laws.ResultCell
import Derived.Lib.AppendZerosOnto
import Derived.Test.Qxb6500880aGreatPk
set_option linter.unusedVariables false
set_option linter.unusedSimpArgs false
namespace Go.Proofs.Qxb6500880aGreat
open Go.RowKit

theorem RI.adv0 {p : RunP} {T0 B : Nat} {c0 : Nat → Value} {s0 : RelS} {x x' : RX} {F R : Nat → Prop} (h : RI p T0 B c0 s0 x F) (N : Nx x x' (fun k => k = 19) R (fun k => k = 2 ∨ k = 4)) (h19 : ∃ a, x'.c 19 = .int .i64 a) (h4 : ∃ a, x'.cu 4 = .int .i64 a) : RI p T0 B c0 s0 x' F := by
  refine ⟨?_, ?_, (N.c 0 (by omega)).trans h.cb, ?_, ?_, h19, fun k h1 h2 h3 h4 h5 => (N.c k h4).trans (h.cc k h1 h2 h3 h4 h5), ?_, h4, (N.u 5 (by omega)).trans h.u5, ?_, ?_, ?_, ?_, ?_⟩
  · rw [N.s]; exact h.A
  · rw [N.s]; exact h.mks
  · rw [N.c 16 (by omega), N.s]; exact h.c16
  · rw [N.c 18 (by omega)]; exact h.c18
  · rw [N.pn, N.s]; exact h.pr
  · rw [N.u 6 (by omega)]; exact h.u6
  · rw [N.u 7 (by omega)]; exact h.u7
  · rw [N.u 9 (by omega)]; exact h.u9
  · rw [N.u 10 (by omega)]; exact h.u10
  · rw [N.d, N.s]; exact h.k
theorem RI.adv1 {p : RunP} {T0 B : Nat} {c0 : Nat → Value} {s0 : RelS} {x x' : RX} {F R : Nat → Prop} (h : RI p T0 B c0 s0 x F) (N : Nx x x' (fun k => k = 19) R (fun k => k = 9 ∨ k = 10)) (h19 : ∃ a, x'.c 19 = .int .i64 a) (h9 : ∃ a, x'.cu 9 = .int .i32 a) (h10 : ∃ a, x'.cu 10 = .int .i64 a) : RI p T0 B c0 s0 x' F := by
  refine ⟨?_, ?_, (N.c 0 (by omega)).trans h.cb, ?_, ?_, h19, fun k h1 h2 h3 h4 h5 => (N.c k h4).trans (h.cc k h1 h2 h3 h4 h5), ?_, ?_, (N.u 5 (by omega)).trans h.u5, ?_, ?_, h9, h10, ?_⟩
  · rw [N.s]; exact h.A
  · rw [N.s]; exact h.mks
  · rw [N.c 16 (by omega), N.s]; exact h.c16
  · rw [N.c 18 (by omega)]; exact h.c18
  · rw [N.pn, N.s]; exact h.pr
  · rw [N.u 4 (by omega)]; exact h.u4
  · rw [N.u 6 (by omega)]; exact h.u6
  · rw [N.u 7 (by omega)]; exact h.u7
  · rw [N.d, N.s]; exact h.k
theorem RI.conc {p : RunP} {T0 B r0 : Nat} {c0 : Nat → Value} {s0 : RelS} {x x' : RX} {b : Bool} {F : Nat → Prop} (h : RI p T0 B c0 s0 x F) (N : Cn x x') (io5 : InsOut x.s x'.s x.d x'.d x.r b) (h18 : ∃ a, x'.c 18 = .int .i64 a) (ht : b = true → x'.c 16 = .int .i64 ((T0 + x.s.rows + 1 : Nat) : Int) ∧ x'.prn = x.prn + 3) (hf : b = false → x'.c 16 = x.c 16 ∧ x'.prn = x.prn) (hr : r0 < p.sc.rows) (hv : ∀ t, t < 3 → x.r t = p.dc (r0 * 3 + t)) : RI p T0 B c0 s0 x' (fun r => F r ∨ r = r0) := by
  refine ⟨io5.A.trans h.A, ⟨io5.idx.trans h.mks.1, io5.old.trans h.mks.2.1, io5.cur.trans h.mks.2.2⟩, (N.c 0 (by omega) (by omega) (by omega) (by omega)).trans h.cb, ?_, h18, ?_, fun k h1 h2 h3 h4 h5 => (N.c k h1 h2 h3 h5).trans (h.cc k h1 h2 h3 h4 h5), ?_, ?_, ?_, ?_, ?_, ?_, ?_, h.k.ins h.A hr hv io5⟩
  · cases b
    · rw [(hf rfl).1, (io5.f rfl).1]; exact h.c16
    · rw [(ht rfl).1, (io5.t rfl).1]
      rfl
  · rw [N.c 19 (by omega) (by omega) (by omega) (by omega)]; exact h.c19
  · cases b
    · rw [(hf rfl).2, (io5.f rfl).1]; exact h.pr
    · rw [(ht rfl).2, (io5.t rfl).1, h.pr]; omega
  · rw [N.cu]; exact h.u4
  · rw [N.cu]; exact h.u5
  · rw [N.cu]; exact h.u6
  · rw [N.cu]; exact h.u7
  · rw [N.cu]; exact h.u9
  · rw [N.cu]; exact h.u10
/-- At the head of the loop, at the outer cursor. -/
structure LA (w : World) (Q : RP) (p : RunP) (T0 B : Nat) (c0 : Nat → Value) (s0 : RelS) (i : Nat) (y : RX) : Prop where
  x : RAt w Q y
  ri : RI p T0 B c0 s0 y (FA p i)
  u1 : y.cu 1 = .int .i64 (p.se.rows : Int)
  u2 : y.cu 2 = .int .i64 (i : Int)
/-- ... at the inner one. -/
structure LB (w : World) (Q : RP) (p : RunP) (T0 B : Nat) (c0 : Nat → Value) (s0 : RelS) (i m : Nat) (y : RX) : Prop where
  x : RAt w Q y
  ri : RI p T0 B c0 s0 y (FB p i m)
  u1 : y.cu 1 = .int .i64 (p.se.rows : Int)
  u2 : y.cu 2 = .int .i64 ((i + 1 : Nat) : Int)
  u6 : y.cu 6 = .int .i64 0
  u7 : y.cu 7 = .int .i64 (p.sc.rows : Int)
  u9 : y.cu 9 = .int .i32 (prevR (bkF p.dc 3 p.cf 2) (hashN (krE p i) 2 % 16) m : Int)
  kn : y.kn = 2
  kx : y.kx = symL (krE p i) 2
  r : ∀ t, t < 2 → y.r (p.cf t) = krE p i t
def RunEnd (w : World) (Q : RP) (p : RunP) (T0 B : Nat) (c0 : Nat → Value) (s0 : RelS) : Prop := ∃ y, RAt w Q y ∧ RI p T0 B c0 s0 y (FA p p.se.rows)
theorem krE_lt {Q : RP} {p : RunP} (S : RunS Q p) {i : Nat} (hi : i < p.se.rows) : ∀ t, t < 2 → krE p i t < 64 := fun t ht => S.vE _ (by omega)
/-- One step of the inner cursor, in one shape. -/
theorem adv1_b {w : World} {Q : RP} {p : RunP} {T0 B i m : Nat} {c0 : Nat → Value} {s0 : RelS} {y : RX} (L : LB w Q p T0 B c0 s0 i m y) (S : RunS Q p) (hi : i < p.se.rows) (hm : m ≤ p.sc.rows) :
    Calls Tryz.prog 67 #[.pointer (some ⟨Q.E, 0, none⟩), .pointer (some ⟨p.gs, 8, none⟩), .pointer (some ⟨Q.GC, 6, none⟩)] w fun e w' => ∃ (b : Bool) (y' : RX), e = .returned (.bool b) ∧ RAt w' Q y' ∧ ((b = false ∧ LA w' Q p T0 B c0 s0 (i + 1) y') ∨ (b = true ∧ ∃ r, r < m ∧ mtc p (krE p i) r ∧ (∀ r', r < r' → r' < m → ¬ mtc p (krE p i) r') ∧ RI p T0 B c0 s0 y' (FB p i m) ∧ y'.cu 1 = .int .i64 (p.se.rows : Int) ∧ y'.cu 2 = .int .i64 ((i + 1 : Nat) : Int) ∧ y'.cu 6 = .int .i64 0 ∧ y'.cu 7 = .int .i64 (p.sc.rows : Int) ∧ y'.cu 9 = .int .i32 (prevR (bkF p.dc 3 p.cf 2) (hashN (krE p i) 2 % 16) r : Int) ∧ y'.kn = 2 ∧ y'.kx = symL (krE p i) 2 ∧ (∀ t, t < 2 → y'.r (p.cf t) = krE p i t) ∧ ∀ t, t < 3 → y'.r t = p.dc (r * 3 + t))) := by
  refine (adv1_any L.x S L.ri.c19 L.ri.u10 L.u6 L.u7 L.u9 hm L.kn L.kx (krE_lt S hi)).mono ?_
  rintro e w' ⟨y', Y, N, ⟨rfl, hno, q19, q10, q9⟩ | ⟨r, hr, hmt, hno, rfl, h9, h19, h10, hth⟩⟩
  · refine ⟨false, y', rfl, Y, .inl ⟨rfl, Y, ?_, (N.u 1 (by omega)).trans L.u1, (N.u 2 (by omega)).trans L.u2⟩⟩
    have h19 : ∃ a, y'.c 19 = .int .i64 a := by rw [q19]; exact L.ri.c19
    have h10 : ∃ a, y'.cu 10 = .int .i64 a := by rw [q10]; exact L.ri.u10
    exact (L.ri.adv1 N h19 q9 h10).congr (fun r _ => FB_end hno)
  · have hcf : ∀ t, t < 2 → p.cf t ≠ p.th := fun t ht => by
      unfold RunP.cf
      have := S.o
      split <;> omega
    have hk : ∀ t, t < 2 → y'.r (p.cf t) = krE p i t := fun t ht => (N.r _ (hcf t ht)).trans (L.r t ht)
    refine ⟨true, y', rfl, Y, .inr ⟨rfl, r, hr, hmt, hno, L.ri.adv1 N h19 ⟨_, h9⟩ h10, (N.u 1 (by omega)).trans L.u1, (N.u 2 (by omega)).trans L.u2, (N.u 6 (by omega)).trans L.u6, (N.u 7 (by omega)).trans L.u7, h9, N.kn.trans L.kn, N.kx.trans L.kx, hk, fun t ht => ?_⟩⟩
    have m0 := hmt 0 (by omega)
    have m1 := hmt 1 (by omega)
    have k0 := hk 0 (by omega)
    have k1 := hk 1 (by omega)
    have e0 : p.cf 0 = p.fs := rfl
    have e1 : p.cf 1 = p.sn := rfl
    unfold keyR at m0 m1
    rw [← k0, e0] at m0
    rw [← k1, e1] at m1
    have ho := S.o
    have hc : t = p.fs ∨ t = p.sn ∨ t = p.th := by omega
    rcases hc with z | z | z
    · rw [z]; exact m0.symm
    · rw [z]; exact m1.symm
    · rw [z]; exact hth
end Go.Proofs.Qxb6500880aGreat
