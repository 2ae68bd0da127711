import Derived.Deep.CutBlock
import Derived.OwnWalk
import Derived.Maps.AppendAt
import Derived.Maps.OwnSet
import Derived.Maps.OwnOps
import Derived.Laws.ResultCell
import Derived.Lib.AppendZerosOnto
import Derived.Test.Qxb6500880aGreatPj
set_option linter.unusedVariables false
set_option linter.unusedSimpArgs false
namespace Go.Proofs.Qxb6500880aGreat
open Go.RowKit

/-- More rows than values: two of them are alike. -/
theorem pigeonM : ∀ (m n : Nat) (f : Nat → Nat), (∀ i, i < n → f i < m) → (∀ i j, i < n → j < i → f i ≠ f j) → n ≤ m
  | 0, n, f, h, _ => by
    rcases Nat.eq_zero_or_pos n with z | z
    · omega
    · have := h 0 z; omega
  | m + 1, 0, f, h, d => by omega
  | m + 1, n + 1, f, h, d => by
    by_cases q : ∃ k, k < n ∧ f k = m
    · obtain ⟨k, hk, e⟩ := q
      have hn := h n (by omega)
      have hnm : f n ≠ m := fun z => d n k (by omega) hk (by omega)
      have := pigeonM m n (fun i => if i = k then f n else f i) (fun i hi => by
        show (if i = k then f n else f i) < m
        by_cases q : i = k
        · rw [if_pos q]; omega
        · rw [if_neg q]
          have := h i (by omega)
          have : f i ≠ m := fun z => by
            rcases (by omega : i < k ∨ k < i) with y | y
            · exact d k i (by omega) y (by omega)
            · exact d i k (by omega) y (by omega)
          omega) (fun i j hi hj => by
        show (if i = k then f n else f i) ≠ (if j = k then f n else f j)
        by_cases q1 : i = k
        · rw [if_pos q1, if_neg (by omega)]
          exact d n j (by omega) (by omega)
        · rw [if_neg q1]
          by_cases q2 : j = k
          · rw [if_pos q2]
            exact fun z => d n i (by omega) (by omega) z.symm
          · rw [if_neg q2]
            exact d i j (by omega) hj)
      omega
    · have := pigeonM m n f (fun i hi => by
        have := h i (by omega)
        have : f i ≠ m := fun z => q ⟨i, hi, z⟩
        omega) (fun i j hi hj => d i j (by omega) hj)
      omega
/-- Row j of k is row r of c. -/
def rowIs (d dc : Nat → Nat) (j r : Nat) : Prop := ∀ t, t < 3 → d (j * 3 + t) = dc (r * 3 + t)
/-- k holds just the rows of c that F tells. -/
structure KI (dc : Nat → Nat) (C : Nat) (d : Nat → Nat) (rows : Nat) (F : Nat → Prop) : Prop where
  a : ∀ j, j < rows → ∃ r, r < C ∧ F r ∧ rowIs d dc j r
  b : ∀ r, r < C → F r → ∃ j, j < rows ∧ rowIs d dc j r
theorem KI.congr {dc d : Nat → Nat} {C rows : Nat} {F F' : Nat → Prop} (h : KI dc C d rows F) (e : ∀ r, r < C → (F r ↔ F' r)) : KI dc C d rows F' :=
  ⟨fun j hj => by
    obtain ⟨r, h1, h2, h3⟩ := h.a j hj
    exact ⟨r, h1, (e r h1).1 h2, h3⟩, fun r hr hF => h.b r hr ((e r hr).2 hF)⟩
theorem KI.le {dc d : Nat → Nat} {C rows : Nat} {F : Nat → Prop} (h : KI dc C d rows F) (hd : distR d 3 rows) : rows ≤ C := by
  have hc : ∀ j, ∃ r, j < rows → r < C ∧ rowIs d dc j r := fun j => by
    by_cases q : j < rows
    · obtain ⟨r, h1, _, h3⟩ := h.a j q
      exact ⟨r, fun _ => ⟨h1, h3⟩⟩
    · exact ⟨0, fun z => absurd z q⟩
  refine pigeonM C rows (fun j => Classical.choose (hc j)) (fun i hi => (Classical.choose_spec (hc i) hi).1) (fun i j hi hj e => ?_)
  have h1 := (Classical.choose_spec (hc i) hi).2
  have h2 := (Classical.choose_spec (hc j) (by omega)).2
  have e' : Classical.choose (hc i) = Classical.choose (hc j) := e
  rw [e'] at h1
  exact hd i j hi hj (fun c hc => by
    show d (j * 3 + c) = d (i * 3 + c)
    rw [h1 c hc, h2 c hc])
theorem KI.ins {dc d d' v : Nat → Nat} {C r0 : Nat} {s s' : RelS} {b : Bool} {F : Nat → Prop} (h : KI dc C d s.rows F) (hA : s.A = 3) (hr : r0 < C) (hv : ∀ t, t < 3 → v t = dc (r0 * 3 + t)) (io5 : InsOut s s' d d' v b) : KI dc C d' s'.rows (fun r => F r ∨ r = r0) := by
  cases b
  · obtain ⟨e1, e2, j0, hj0, hs⟩ := io5.f rfl
    rw [hA] at hs
    rw [e1, e2]
    refine ⟨fun j hj => ?_, fun r hr hF => ?_⟩
    · obtain ⟨r, h1, h2, h3⟩ := h.a j hj
      exact ⟨r, h1, .inl h2, h3⟩
    · rcases hF with z | z
      · exact h.b r hr z
      · subst z
        exact ⟨j0, hj0, fun t ht => (hs t ht).trans (hv t ht)⟩
  · obtain ⟨e1, e2, hno⟩ := io5.t rfl
    rw [hA] at e2
    have old : ∀ j r, j < s.rows → (rowIs d' dc j r ↔ rowIs d dc j r) := fun j r hj => by
      have := sameR_cat (d := d) (r := v) (r' := fun t => dc (r * 3 + t)) (A := 3) hj
      rw [← e2] at this
      exact this
    have nw : rowIs d' dc s.rows r0 := by
      have := (sameR_new (d := d) (r := v) (r' := fun t => dc (r0 * 3 + t)) (A := 3) (rows := s.rows)).2 hv
      rw [← e2] at this
      exact this
    rw [e1]
    refine ⟨fun j hj => ?_, fun r hr hF => ?_⟩
    · by_cases q : j < s.rows
      · obtain ⟨r, h1, h2, h3⟩ := h.a j q
        exact ⟨r, h1, .inl h2, (old j r q).2 h3⟩
      · have : j = s.rows := by omega
        subst this
        exact ⟨r0, hr, .inr rfl, nw⟩
    · rcases hF with z | z
      · obtain ⟨j, h1, h2⟩ := h.b r hr z
        exact ⟨j, by omega, (old j r h1).2 h2⟩
      · subst z
        exact ⟨s.rows, by omega, nw⟩
/-- The key of row i of e. -/
def krE (p : RunP) (i : Nat) : Nat → Nat := fun t => p.de (i * 2 + t)
/-- The rows of c that are concluded when the rows of e below i are through. -/
def FA (p : RunP) (i : Nat) (r : Nat) : Prop := ∃ i', i' < i ∧ mtc p (krE p i') r
/-- ... and row i of e for the rows of c from m on. -/
def FB (p : RunP) (i m : Nat) (r : Nat) : Prop := FA p i r ∨ (m ≤ r ∧ mtc p (krE p i) r)
theorem FB_start (p : RunP) (i C r : Nat) (hr : r < C) : FA p i r ↔ FB p i C r := ⟨.inl, fun h => by
  rcases h with h | h
  · exact h
  · omega⟩
theorem FB_end {p : RunP} {i m r : Nat} (hno : ∀ r, r < m → ¬ mtc p (krE p i) r) : FB p i m r ↔ FA p (i + 1) r := by
  constructor
  · rintro (⟨i', h1, h2⟩ | ⟨h1, h2⟩)
    · exact ⟨i', by omega, h2⟩
    · exact ⟨i, by omega, h2⟩
  · rintro ⟨i', h1, h2⟩
    by_cases q : i' < i
    · exact .inl ⟨i', q, h2⟩
    · have : i' = i := by omega
      subst this
      exact .inr ⟨by
        by_cases q2 : m ≤ r
        · exact q2
        · exact absurd h2 (hno r (by omega)), h2⟩
theorem FB_next {p : RunP} {i m r0 : Nat} (h0 : r0 < m) (hm : mtc p (krE p i) r0) (hno : ∀ r, r0 < r → r < m → ¬ mtc p (krE p i) r) (r : Nat) : (FB p i m r ∨ r = r0) ↔ FB p i r0 r := by
  constructor
  · rintro ((h | ⟨h1, h2⟩) | h)
    · exact .inl h
    · exact .inr ⟨by omega, h2⟩
    · subst h; exact .inr ⟨Nat.le_refl _, hm⟩
  · rintro (h | ⟨h1, h2⟩)
    · exact .inl (.inl h)
    · by_cases q : r = r0
      · exact .inr q
      · by_cases q2 : m ≤ r
        · exact .inl (.inr ⟨q2, h2⟩)
        · exact absurd h2 (hno r (by omega) (by omega))
/-- What a run of the plan keeps in order: T0 facts ahead, B the budget, c0 the engine's cells and s0 the relation k at the start. -/
structure RI (p : RunP) (T0 B : Nat) (c0 : Nat → Value) (s0 : RelS) (x : RX) (F : Nat → Prop) : Prop where
  A : x.s.A = 3
  mks : x.s.idx = s0.idx ∧ x.s.old = s0.old ∧ x.s.cur = s0.cur
  cb : x.c 0 = .int .i64 (B : Int)
  c16 : x.c 16 = .int .i64 ((T0 + x.s.rows : Nat) : Int)
  c18 : ∃ a, x.c 18 = .int .i64 a
  c19 : ∃ a, x.c 19 = .int .i64 a
  cc : ∀ k, k ≠ 14 → k ≠ 16 → k ≠ 18 → k ≠ 19 → k ≠ 23 → x.c k = c0 k
  pr : x.prn = 3 * x.s.rows
  u4 : ∃ a, x.cu 4 = .int .i64 a
  u5 : x.cu 5 = .slice none 0 0
  u6 : ∃ a, x.cu 6 = .int .i64 a
  u7 : ∃ a, x.cu 7 = .int .i64 a
  u9 : ∃ a, x.cu 9 = .int .i32 a
  u10 : ∃ a, x.cu 10 = .int .i64 a
  k : KI p.dc p.sc.rows x.d x.s.rows F
theorem RI.congr {p : RunP} {T0 B : Nat} {c0 : Nat → Value} {s0 : RelS} {x : RX} {F F' : Nat → Prop} (h : RI p T0 B c0 s0 x F) (e : ∀ r, r < p.sc.rows → (F r ↔ F' r)) : RI p T0 B c0 s0 x F' := ⟨h.A, h.mks, h.cb, h.c16, h.c18, h.c19, h.cc, h.pr, h.u4, h.u5, h.u6, h.u7, h.u9, h.u10, h.k.congr e⟩
end Go.Proofs.Qxb6500880aGreat
