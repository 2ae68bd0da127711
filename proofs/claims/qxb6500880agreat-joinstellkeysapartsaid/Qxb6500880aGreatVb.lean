import Derived.Deep.CutBlock
import Derived.OwnWalk
import Derived.Maps.AppendAt
import Derived.Maps.OwnSet
import Derived.Maps.OwnOps
import Derived.Laws.ResultCell
import Derived.Test.Qxb6500880aGreatVa
set_option linter.unusedVariables false
set_option linter.unusedSimpArgs false
namespace Go.Proofs.Qxb6500880aGreat
open Go.RowKit

theorem kf_val (k : Fin 4) : kf k.val = k := Fin.ext (Nat.mod_eq_of_lt k.isLt)
theorem kf_nat {j : Nat} (h : j < 4) : (kf j).val = j := Nat.mod_eq_of_lt h
theorem fnK_four (rb : Nat → Nat) (k : Fin 4) : fnK rb 4 k = some (rb k.val) := if_pos k.isLt
theorem RelO_new {w : World} {b A : Nat} {nm : ByteArray} (h : RelAt w b nm (rel0 A)) (a0 : 0 < A) (a1 : A ≤ 1000) : RelO w b nm (rel0 A) (fun _ => 0) 0 (fun _ => 0) := by
  refine ⟨h, ?_, ⟨[], ⟨by simp [rel0], .inl ⟨rfl, rfl⟩⟩⟩, .inl ⟨rfl, rfl, rfl⟩, by simp [rel0], .inl (by omega), .inl rfl, fun i j hi => by simp [rel0] at hi, ⟨by simp [rel0, Value.ownBlock], by simp [rel0, Value.ownBlock], by simp [rel0, Value.ownBlock]⟩, fun q hq => by simp [rel0, Value.ownBlock] at hq, fun q hq => by simp [rel0, Value.ownBlock] at hq, a0, a1, fun j hj => by omega⟩
  have e : (rel0 A).rows * (rel0 A).A = 0 := Nat.zero_mul _
  rw [e]
  exact ⟨rfl, .inl ⟨rfl, rfl⟩⟩
theorem fpR_new {b A q : Nat} (h : fpR b (rel0 A) q) : q = b := by
  rcases h with h | h | h | h
  · exact h
  · simp [rel0, Value.ownBlock] at h
  · simp [rel0, Value.ownBlock] at h
  · simp [rel0, Value.ownBlock] at h
theorem Ws.then {S S' : Nat → Prop} {w w1 w2 : World} (h : Ws S w w1) (g : Ws S' w1 w2) (hs : ∀ q, S' q → S q ∨ w.heap.size ≤ q) : Ws S w w2 := ⟨g.os.trans h.os, g.tape.trans h.tape, g.output.trans h.output, Nat.le_trans h.size g.size, fun q h1 h2 => (g.block q (Nat.lt_of_lt_of_le h1 h.size) (fun z => by rcases hs q z with y | y; exact h2 y; omega)).trans (h.block q h1 h2)⟩
/-- The first look at the facts. -/
structure P1 (w w1 wr : World) (E nb base : Nat) (rb ar : Nat → Nat) (c : Nat → Value) (i : Nat) (rb' : Nat → Nat) (c' : Nat → Value) : Prop where
  T : Tab wr E nb base rb' ar (if i = 0 then 3 else 4) c'
  hc : ∀ k, k ≠ 5 → c' k = c k
  hr : ∀ j, j < 3 → rb' j = rb j
  h3 : i ≠ 0 → w.heap.size < rb' 3
  v5 : (c' 5).ownBlock = (c 5).ownBlock ∨ ∀ q, (c' 5).ownBlock = some q → w.heap.size < q
  W : Ws (fun q => q = E ∨ q = nb ∨ (c 5).ownBlock = some q) w1 wr
theorem P1.below {w w1 wr wx : World} {E nb base i : Nat} {rb ar rb' : Nat → Nat} {c c' : Nat → Value} (h : P1 w w1 wr E nb base rb ar c i rb' c') (hb : Below wr.heap.size wr wx) : P1 w w1 wx E nb base rb ar c i rb' c' := ⟨h.T.below hb, h.hc, h.hr, h.h3, h.v5, h.W.below hb⟩
theorem P1.next {w w1 wr : World} {E nb base i : Nat} {rb ar rb' : Nat → Nat} {c c' : Nat → Value} (h : P1 w w1 wr E nb base rb ar c i rb' c') (hi : i ≠ 0) : P1 w w1 wr E nb base rb ar c (i + 1) rb' c' := by
  refine ⟨?_, h.hc, h.hr, fun _ => h.h3 hi, h.v5, h.W⟩
  have := h.T
  rw [if_neg hi] at this
  rw [if_neg (by omega)]
  exact this
def S0 (E nb SB mi : Nat) (rb : Nat → Nat) (c : Nat → Value) (q : Nat) : Prop := q = E ∨ q = nb ∨ q = SB ∨ q = mi ∨ (c 5).ownBlock = some q ∨ ∃ j, j < 3 ∧ q = rb j
/-- The facts being loaded. -/
structure P2 (w w1 wr : World) (E nb CB SB mi : Nat) (rb rb' ar : Nat → Nat) (c c' : Nat → Value) (fk : Nat → Fin 4) (fv : Nat → Nat → Nat) (i kk : Nat) (x : FX) : Prop where
  F : FAt wr E nb CB SB mi rb' ar c' x
  k : x.k = kk
  ct : ∀ j, j < 4 → ∀ r, hasR (x.d j) (ar j) (x.s j).rows r ↔ ∃ i', i' < i ∧ fk i' = kf j ∧ ∀ t, t < ar j → fv i' t = r t
  rw' : ∀ j, j < 4 → (x.s j).rows ≤ i
  nt : x.nt ≤ i
  ix : ∀ j, j < 4 → (x.s j).idx = .slice none 0 0 ∧ (x.s j).old = 0 ∧ (x.s j).cur = 0
  W : Ws (S0 E nb SB mi rb c) w wr
  z : wr.heap[w.heap.size]? = w1.heap[w.heap.size]?
  fr : ∀ k q, 3 ≤ k → k < 10 → fpF E nb CB SB mi rb' c' x k q → (q = SB ∨ q = mi ∨ (c 5).ownBlock = some q ∨ ∃ j, j < 3 ∧ q = rb j) ∨ w.heap.size < q
theorem P2.below {w w1 wr wx : World} {E nb CB SB mi : Nat} {rb rb' ar : Nat → Nat} {c c' : Nat → Value} {fk : Nat → Fin 4} {fv : Nat → Nat → Nat} {i kk : Nat} {x : FX} (h : P2 w w1 wr E nb CB SB mi rb rb' ar c c' fk fv i kk x) (hb : Below wr.heap.size wr wx) (hw : w.heap.size < wr.heap.size) : P2 w w1 wx E nb CB SB mi rb rb' ar c c' fk fv i kk x :=
  ⟨h.F.below hb, h.k, h.ct, h.rw', h.nt, h.ix, h.W.below hb, (hb.block _ hw).trans h.z, h.fr⟩
/-- What is known of the old blocks. -/
structure Olds (w : World) (E nb CB SB mi base : Nat) (rb : Nat → Nat) (c : Nat → Value) : Prop where
  b : CB < base ∧ E < base ∧ nb < base ∧ SB < base ∧ mi < base ∧ base ≤ w.heap.size
  d : CB ≠ E ∧ CB ≠ nb ∧ CB ≠ SB ∧ CB ≠ mi ∧ E ≠ nb ∧ E ≠ SB ∧ E ≠ mi ∧ nb ≠ SB ∧ nb ≠ mi ∧ SB ≠ mi
  r : ∀ j, j < 3 → base ≤ rb j ∧ rb j < w.heap.size ∧ (c 5).ownBlock ≠ some (rb j)
  c5 : ∀ q, (c 5).ownBlock = some q → base ≤ q ∧ q < w.heap.size
  inj : ∀ j j', j < 3 → j' < 3 → rb j = rb j' → j = j'
theorem Olds.s0 {w : World} {E nb CB SB mi base : Nat} {rb : Nat → Nat} {c : Nat → Value} (h : Olds w E nb CB SB mi base rb c) {q : Nat} (hq : S0 E nb SB mi rb c q) : q < w.heap.size ∧ q ≠ CB := by
  obtain ⟨b1, b2, b3, b4, b5, b6⟩ := h.b
  obtain ⟨d1, d2, d3, d4, _⟩ := h.d
  rcases hq with z | z | z | z | z | ⟨j, hj, z⟩
  · exact ⟨by omega, by omega⟩
  · exact ⟨by omega, by omega⟩
  · exact ⟨by omega, by omega⟩
  · exact ⟨by omega, by omega⟩
  · have := h.c5 q z
    exact ⟨by omega, by omega⟩
  · have := h.r j hj
    exact ⟨by omega, by omega⟩
def fx0 (ar : Nat → Nat) : FX := ⟨.slice none 0 0, 0, .slice none 0 0, 0, [], fun j => rel0 (ar j), fun _ _ => 0, fun _ => 0, fun _ _ => 0, 0⟩
theorem P1.start {w w1 wr : World} {E nb CB SB mi base i : Nat} {rb ar rb' : Nat → Nat} {c c' : Nat → Value} {fk : Nat → Fin 4} {fv : Nat → Nat → Nat} (h : P1 w w1 wr E nb base rb ar c i rb' c') (hi : i ≠ 0) (O : Olds w E nb CB SB mi base rb c) (h16 : c 16 = .int .i64 0) (HS : SymsAt wr SB mi (.slice none 0 0) 0) (HC : wr.cell? ⟨CB, 0, none⟩ = some (.pointer (some ⟨E, 0, none⟩))) (b1 : Below w.heap.size w w1) (hw1 : w.heap.size < w1.heap.size) (a0 : ∀ j, j < 4 → 0 < ar j) (a1 : ∀ j, j < 4 → ar j ≤ 32) :
    P2 w w1 wr E nb CB SB mi rb rb' ar c c' fk fv 0 0 (fx0 ar) := by
  have T := h.T
  rw [if_neg hi] at T
  have h3 := h.h3 hi
  have he : updV c' 16 (.int .i64 ((fx0 ar).nt : Int)) = c' := by
    funext j
    unfold updV
    split
    · rename_i e; rw [e, h.hc 16 (by omega), h16]; rfl
    · rfl
  obtain ⟨b1', b2, b3, b4, b5, b6⟩ := O.b
  obtain ⟨d1, d2, d3, d4, d5, d6, d7, d8, d9, d10⟩ := O.d
  have hrb : ∀ j, j < 4 → base ≤ rb' j ∧ (rb' j < w.heap.size → ∃ j', j' < 3 ∧ rb' j = rb j') ∧ rb' j ≠ w.heap.size := fun j hj => by
    by_cases q : j < 3
    · have := O.r j q
      rw [h.hr j q]
      exact ⟨this.1, fun _ => ⟨j, q, rfl⟩, by omega⟩
    · have e : j = 3 := by omega
      subst e
      exact ⟨by omega, fun z => by omega, by omega⟩
  have h5 : ∀ q, (c' 5).ownBlock = some q → base ≤ q := fun q hq => (T.own.lt q hq).1
  refine ⟨⟨by rw [he]; exact T.e, T.m, HC, HS, ⟨rfl, .inl ⟨rfl, rfl⟩⟩, ?_, fun j hj => RelO_new (T.r j hj).1 (a0 j hj) (by have := a1 j hj; omega), fun j _ => rfl, ?_⟩, rfl, ?_, fun j _ => Nat.le_refl _, Nat.le_refl _, fun j _ => ⟨rfl, rfl, rfl⟩, ?_, ?_, ?_⟩
  · obtain ⟨h1, h2⟩ := T.own
    refine ⟨h1, h2.imp id ?_⟩
    rintro ⟨g, cap, cur, e1, _, r⟩
    exact ⟨g, cap, cur, e1, Nat.zero_le _, r⟩
  · have key : ∀ k q, k < 10 → fpF E nb CB SB mi rb' c' (fx0 ar) k q → (k = 0 ∧ q = E) ∨ (k = 1 ∧ q = nb) ∨ (k = 2 ∧ q = CB) ∨ (k = 3 ∧ (q = SB ∨ q = mi)) ∨ (k = 5 ∧ (c' 5).ownBlock = some q) ∨ ∃ j, j < 4 ∧ k = j + 6 ∧ q = rb' j := by
      intro k q hk hq
      match k, hk, hq with
      | 0, _, hq => exact .inl ⟨rfl, hq⟩
      | 1, _, hq => exact .inr (.inl ⟨rfl, hq⟩)
      | 2, _, hq => exact .inr (.inr (.inl ⟨rfl, hq⟩))
      | 3, _, hq =>
        rcases hq with z | z | z
        · exact .inr (.inr (.inr (.inl ⟨rfl, .inl z⟩)))
        · exact .inr (.inr (.inr (.inl ⟨rfl, .inr z⟩)))
        · simp [fx0, Value.ownBlock] at z
      | 4, _, hq =>
        have z : (fx0 ar).row.ownBlock = some q := hq
        simp [fx0, Value.ownBlock] at z
      | 5, _, hq => exact .inr (.inr (.inr (.inr (.inl ⟨rfl, hq⟩))))
      | k + 6, hk, hq => exact .inr (.inr (.inr (.inr (.inr ⟨k, by omega, rfl, fpR_new hq⟩))))
    intro a b q ha hb h1 h2
    have k1 := key a q ha h1
    have k2 := key b q hb h2
    have hq5 : (c' 5).ownBlock = some q → base ≤ q := h5 q
    have hq6 : ∀ j, j < 4 → q = rb' j → base ≤ q ∧ (c' 5).ownBlock ≠ some q := fun j hj e => by
      rw [e]
      exact ⟨(hrb j hj).1, (T.r j hj).2.2⟩
    rcases k1 with ⟨e1, f1⟩ | ⟨e1, f1⟩ | ⟨e1, f1⟩ | ⟨e1, f1⟩ | ⟨e1, f1⟩ | ⟨j1, g1, e1, f1⟩ <;> rcases k2 with ⟨e2, f2⟩ | ⟨e2, f2⟩ | ⟨e2, f2⟩ | ⟨e2, f2⟩ | ⟨e2, f2⟩ | ⟨j2, g2, e2, f2⟩ <;>
      first
      | omega
      | (have := hq5 f1; omega)
      | (have := hq5 f2; omega)
      | (have := (hq6 j1 g1 f1).1; omega)
      | (have := (hq6 j2 g2 f2).1; omega)
      | exact absurd f2 (hq6 j1 g1 f1).2
      | exact absurd f1 (hq6 j2 g2 f2).2
      | (have := T.inj j1 j2 g1 g2 (f1.symm.trans f2); omega)
  · intro j hj r
    constructor
    · rintro ⟨i, hi, _⟩
      exact absurd hi (Nat.not_lt_zero i)
    · rintro ⟨i, hi, _⟩
      exact absurd hi (Nat.not_lt_zero i)
  · exact (Ws.of_below b1).then h.W (fun q hq => by
      rcases hq with z | z | z
      · exact .inl (.inl z)
      · exact .inl (.inr (.inl z))
      · exact .inl (.inr (.inr (.inr (.inr (.inl z))))))
  · refine h.W.block _ hw1 (fun hq => ?_)
    rcases hq with z | z | z
    · omega
    · omega
    · have := O.c5 _ z
      omega
  · intro k q hk0 hk hq
    match k, hk0, hk, hq with
    | 3, _, _, hq =>
      rcases hq with z | z | z
      · exact .inl (.inl z)
      · exact .inl (.inr (.inl z))
      · simp [fx0, Value.ownBlock] at z
    | 4, _, _, hq =>
      have z : (fx0 ar).row.ownBlock = some q := hq
      simp [fx0, Value.ownBlock] at z
    | 5, _, _, hq =>
      have z : (c' 5).ownBlock = some q := hq
      rcases h.v5 with y | y
      · exact .inl (.inr (.inr (.inl (y ▸ z))))
      · exact .inr (y q z)
    | k + 6, _, hk, hq =>
      have e := fpR_new hq
      subst e
      have := hrb k (by omega)
      rcases Nat.lt_trichotomy (rb' k) w.heap.size with z | z | z
      · exact .inl (.inr (.inr (.inr (this.2.1 z))))
      · exact absurd z this.2.2
      · exact .inr z
end Go.Proofs.Qxb6500880aGreat
