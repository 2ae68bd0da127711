import Derived.Deep.CutBlock
import Derived.OwnWalk
import Derived.Maps.AppendAt
import Derived.Test.Qxb6500880aGreatE
set_option linter.unusedVariables false
set_option linter.unusedSimpArgs false
namespace Go.Proofs.Qxb6500880aGreat
open Go.RowKit

/-- n symbols as values. -/
def symL (d : Nat → Nat) (L : Nat) : List Value := (List.range L).map (fun j => Value.int .u32 (d j : Int))
theorem symL_len (d : Nat → Nat) (L : Nat) : (symL d L).length = L := by simp [symL]
theorem symL_get {d : Nat → Nat} {L j : Nat} (h : j < L) : (symL d L)[j]? = some (.int .u32 (d j : Int)) := by simp [symL, h]
theorem symL_inv {d : Nat → Nat} {L j : Nat} {u : Value} (h : (symL d L)[j]? = some u) : j < L ∧ u = .int .u32 (d j : Int) := by
  by_cases q : j < L
  · rw [symL_get q] at h
    exact ⟨q, (Option.some.inj h).symm⟩
  · rw [List.getElem?_eq_none (by rw [symL_len]; omega)] at h
    cases h
theorem symL_one (d : Nat → Nat) (L : Nat) : ∀ u ∈ symL d L, u.oneCell' = true := by
  intro u hu
  simp only [symL, List.mem_map] at hu
  obtain ⟨j, _, rfl⟩ := hu
  rfl
/-- The row r behind the first L symbols of d. -/
def catR (d : Nat → Nat) (L : Nat) (r : Nat → Nat) : Nat → Nat := fun j => if j < L then d j else r (j - L)
theorem catR_lo {d r : Nat → Nat} {L j : Nat} (h : j < L) : catR d L r j = d j := if_pos h
theorem catR_hi {d r : Nat → Nat} {L j : Nat} : catR d L r (L + j) = r j := by
  unfold catR
  rw [if_neg (by omega)]
  congr 1
  omega
theorem symL_cat (d r : Nat → Nat) (L A : Nat) : symL d L ++ symL r A = symL (catR d L r) (L + A) := by
  apply List.ext_getElem?
  intro j
  rcases Nat.lt_or_ge j L with h | h
  · rw [List.getElem?_append_left (by rw [symL_len]; exact h), symL_get h, symL_get (by omega), catR_lo h]
  · rw [List.getElem?_append_right (by rw [symL_len]; exact h), symL_len]
    rcases Nat.lt_or_ge j (L + A) with h2 | h2
    · obtain ⟨k, rfl⟩ : ∃ k, j = L + k := ⟨j - L, by omega⟩
      rw [symL_get h2, catR_hi, Nat.add_sub_cancel_left, symL_get (by omega)]
    · rw [List.getElem?_eq_none (by rw [symL_len]; omega), List.getElem?_eq_none (by rw [symL_len]; omega)]
theorem symL_congr {d d' : Nat → Nat} {L : Nat} (h : ∀ j, j < L → d j = d' j) : symL d L = symL d' L := by
  apply List.ext_getElem?
  intro j
  rcases Nat.lt_or_ge j L with q | q
  · rw [symL_get q, symL_get q, h j q]
  · rw [List.getElem?_eq_none (by rw [symL_len]; exact q), List.getElem?_eq_none (by rw [symL_len]; exact q)]
theorem SymR.of_own {w : World} {base n : Nat} {v : Value} {d : Nat → Nat} (h : w.ownsRow base 109 1 v n (symL d n)) : SymR w v n d := by
  have hc := fun g e => World.ownsRow.cells (g := g) h e
  rcases h.2 with ⟨e1, e2⟩ | ⟨g, cap, cur, e1, _, _, r⟩
  · exact ⟨none, 0, by rw [e1, e2], by omega, .inl e2⟩
  · refine ⟨_, cap, e1, r.1, .inr ⟨g, 0, rfl, fun j hj => ?_⟩⟩
    have := hc g (by rw [e1]; rfl) j _ (symL_get hj)
    rw [addr_add] at this
    exact this
theorem SymR.news {w : World} {g off n : Nat} {r : Nat → Nat} (h : ∀ j, j < n → w.cell? ⟨g, off + j, none⟩ = some (.int .u32 (r j : Int))) : ∀ j u, (symL r n)[j]? = some u → w.cell? ((⟨g, off, none⟩ : Addr).add j) = some u := fun j u hu => by
  obtain ⟨hj, rfl⟩ := symL_inv hu
  rw [addr_add]
  exact h j hj
theorem Ws.grow {S : Nat → Prop} {w w1 w2 : World} {row : Option Nat} (h : Ws S w w1) (g : w1.grownBy w2 row) (hs : ∀ q, row = some q → S q ∨ w.heap.size ≤ q) : Ws S w w2 :=
  ⟨g.os.trans h.os, g.tape.trans h.tape, g.output.trans h.output, Nat.le_trans h.size g.size, fun q h1 h2 => (g.block q (Nat.lt_of_lt_of_le h1 h.size) (fun e => by rcases hs q e.symm with z | z; exact h2 z; omega)).trans (h.block q h1 h2)⟩
theorem Ws.symR {S : Nat → Prop} {w w1 : World} (h : Ws S w w1) {v : Value} {n : Nat} {r : Nat → Nat} (H : SymR w v n r) (hv : ∀ q, v.ownBlock = some q → ¬ S q) : SymR w1 v n r := H.blk fun q hq hl => h.block q hl (hv q hq)
theorem own_keep {w w' : World} {base e s n : Nat} {v : Value} {xs : List Value} (h : w.ownsRow base e s v n xs) (hk : ∀ q, v.ownBlock = some q → q < w.heap.size → w'.heap[q]? = w.heap[q]?) : w'.ownsRow base e s v n xs := own_one h fun q hq => hk q hq (h.lt q hq).2
theorem Ws.own {S : Nat → Prop} {w w1 : World} (h : Ws S w w1) {base e s n : Nat} {v : Value} {xs : List Value} (H : w.ownsRow base e s v n xs) (hv : ∀ q, v.ownBlock = some q → ¬ S q) : w1.ownsRow base e s v n xs := own_keep H fun q hq hl => h.block q hl (hv q hq)
/-- The blocks of a relation. -/
def fpR (b : Nat) (s : RelS) (q : Nat) : Prop := q = b ∨ s.data.ownBlock = some q ∨ s.slots.ownBlock = some q ∨ s.why.ownBlock = some q
/-- A relation with its rows d, its table f of N places, in order. -/
structure RelO (w : World) (b : Nat) (nm : ByteArray) (s : RelS) (d : Nat → Nat) (N : Nat) (f : Nat → Nat) : Prop where
  at' : RelAt w b nm s
  own : w.ownsRow 0 109 1 s.data (s.rows * s.A) (symL d (s.rows * s.A))
  why : ∃ ys, w.ownsRow 0 21 1 s.why s.rows ys
  tab : (N = 0 ∧ s.slots = .slice none 0 0 ∧ s.rows = 0) ∨ (16 ≤ N ∧ SlotAt w s.slots N f ∧ Tbl N s.rows f (stF d s.A N))
  fit : 4 * s.rows ≤ 3 * N
  big : N ≤ 16 ∨ 3 * N ≤ 8 * (s.rows + 1)
  pw : N = 0 ∨ ∃ x, N = 2 ^ x
  dist : distR d s.A s.rows
  d1 : s.data.ownBlock ≠ some b ∧ s.slots.ownBlock ≠ some b ∧ s.why.ownBlock ≠ some b
  d2 : ∀ q, s.data.ownBlock = some q → s.slots.ownBlock ≠ some q ∧ s.why.ownBlock ≠ some q
  d3 : ∀ q, s.slots.ownBlock = some q → s.why.ownBlock ≠ some q
  a0 : 0 < s.A
  a1 : s.A ≤ 1000
  val : ∀ j, j < s.rows * s.A → d j < 64
theorem RelO.keep {w w' : World} {b : Nat} {nm : ByteArray} {s : RelS} {d : Nat → Nat} {N : Nat} {f : Nat → Nat} (h : RelO w b nm s d N f) (hk : ∀ q, fpR b s q → q < w.heap.size → w'.heap[q]? = w.heap[q]?) : RelO w' b nm s d N f := by
  refine ⟨h.at'.blk (hk b (.inl rfl) h.at'.lt), own_keep h.own (fun q hq => hk q (.inr (.inl hq))), ?_, ?_, h.fit, h.big, h.pw, h.dist, h.d1, h.d2, h.d3, h.a0, h.a1, h.val⟩
  · obtain ⟨ys, o⟩ := h.why
    exact ⟨ys, own_keep o (fun q hq => hk q (.inr (.inr (.inr hq))))⟩
  · rcases h.tab with z | ⟨h1, h2, h3⟩
    · exact .inl z
    · exact .inr ⟨h1, h2.blk (fun q hq => hk q (.inr (.inr (.inl hq))) (h2.lt (by omega) hq)), h3⟩
theorem RelO.below {w w' : World} {b : Nat} {nm : ByteArray} {s : RelS} {d : Nat → Nat} {N : Nat} {f : Nat → Nat} (h : RelO w b nm s d N f) (hb : Below w.heap.size w w') : RelO w' b nm s d N f := h.keep fun q _ hq => hb.block q hq
theorem RelO.ws {S : Nat → Prop} {w w' : World} {b : Nat} {nm : ByteArray} {s : RelS} {d : Nat → Nat} {N : Nat} {f : Nat → Nat} (h : RelO w b nm s d N f) (W : Ws S w w') (hS : ∀ q, fpR b s q → ¬ S q) : RelO w' b nm s d N f := h.keep fun q hq hl => W.block q hl (hS q hq)
theorem RelO.fp_lt {w : World} {b : Nat} {nm : ByteArray} {s : RelS} {d : Nat → Nat} {N : Nat} {f : Nat → Nat} (h : RelO w b nm s d N f) {q : Nat} (hq : fpR b s q) : q < w.heap.size := by
  rcases hq with rfl | hq | hq | hq
  · exact h.at'.lt
  · exact (h.own.lt q hq).2
  · rcases h.tab with ⟨_, z, _⟩ | ⟨h1, h2, _⟩
    · rw [z] at hq; simp [Value.ownBlock] at hq
    · exact h2.lt (by omega) hq
  · obtain ⟨ys, o⟩ := h.why
    exact (o.lt q hq).2
theorem RelO.set_marks {w : World} {b : Nat} {nm : ByteArray} {s : RelS} {d : Nat → Nat} {N : Nat} {f : Nat → Nat} (h : RelO w b nm s d N f) {w' : World} {x : Value} {o c : Nat} (W : Wr b w w') (R : RelAt w' b nm { s with idx := x, old := o, cur := c }) : RelO w' b nm { s with idx := x, old := o, cur := c } d N f := by
  have k : ∀ q, q ≠ b → q < w.heap.size → w'.heap[q]? = w.heap[q]? := fun q h1 h2 => W.block q h2 h1
  refine ⟨R, own_keep h.own (fun q hq hl => k q (fun e => h.d1.1 (e ▸ hq)) hl), ?_, ?_, h.fit, h.big, h.pw, h.dist, h.d1, h.d2, h.d3, h.a0, h.a1, h.val⟩
  · obtain ⟨ys, o⟩ := h.why
    exact ⟨ys, own_keep o (fun q hq hl => k q (fun e => h.d1.2.2 (e ▸ hq)) hl)⟩
  · rcases h.tab with z | ⟨h1, h2, h3⟩
    · exact .inl z
    · exact .inr ⟨h1, h2.blk (fun q hq => k q (fun e => h.d1.2.1 (e ▸ hq)) (h2.lt (by omega) hq)), h3⟩
theorem pw_le20 {N : Nat} (h : ∃ x, N = 2 ^ x) (hN : N ≤ 10000) : ∃ x, N = 2 ^ x ∧ x ≤ 20 := by
  obtain ⟨x, rfl⟩ := h
  refine ⟨x, rfl, ?_⟩
  rcases Nat.lt_or_ge 20 x with z | z
  · have := Nat.pow_le_pow_right (show 0 < 2 by omega) (show 21 ≤ x from z)
    have e : (2 : Nat) ^ 21 = 2097152 := by decide
    omega
  · exact z
/-- What 'insert' does. -/
structure InsOut (s s' : RelS) (d d' r : Nat → Nat) (x : Bool) : Prop where
  A : s'.A = s.A
  idx : s'.idx = s.idx
  old : s'.old = s.old
  cur : s'.cur = s.cur
  f : x = false → s'.rows = s.rows ∧ d' = d ∧ ∃ j, j < s.rows ∧ sameR d s.A r j
  t : x = true → s'.rows = s.rows + 1 ∧ d' = catR d (s.rows * s.A) r ∧ ∀ j, j < s.rows → ¬ sameR d s.A r j
theorem sameR_cat {d r r' : Nat → Nat} {A rows j : Nat} (hj : j < rows) : sameR (catR d (rows * A) r) A r' j ↔ sameR d A r' j := by
  have q : ∀ c, c < A → j * A + c < rows * A := fun c hc => by
    have q := Nat.mul_le_mul_right A (show j + 1 ≤ rows from hj)
    rw [Nat.add_mul] at q
    omega
  constructor
  · intro h c hc
    rw [← h c hc, catR_lo (q c hc)]
  · intro h c hc
    rw [← h c hc, catR_lo (q c hc)]
theorem sameR_new {d r r' : Nat → Nat} {A rows : Nat} : sameR (catR d (rows * A) r) A r' rows ↔ ∀ c, c < A → r c = r' c := by
  constructor
  · intro h c hc
    rw [← h c hc, catR_hi]
  · intro h c hc
    rw [← h c hc, catR_hi]
theorem rowF_cat {d r : Nat → Nat} {A rows i c : Nat} (hi : i < rows) (hc : c < A) : rowF (catR d (rows * A) r) A i c = rowF d A i c := by
  have q := Nat.mul_le_mul_right A (show i + 1 ≤ rows from hi)
  rw [Nat.add_mul] at q
  exact catR_lo (by omega)
theorem rowF_new {d r : Nat → Nat} {A rows c : Nat} : rowF (catR d (rows * A) r) A rows c = r c := catR_hi
theorem distR_cat {d r : Nat → Nat} {A rows : Nat} (h : distR d A rows) (hn : ∀ j, j < rows → ¬ sameR d A r j) : distR (catR d (rows * A) r) A (rows + 1) := by
  intro i j hi hj hs
  rw [sameR_cat (by omega)] at hs
  by_cases q : i = rows
  · subst q
    exact hn j hj (fun c hc => by rw [hs c hc, rowF_new])
  · exact h i j (by omega) hj (fun c hc => by rw [hs c hc, rowF_cat (by omega) hc])
theorem stF_cat {d r : Nat → Nat} {A rows N j : Nat} (hj : j < rows) : stF (catR d (rows * A) r) A N j = stF d A N j := by
  unfold stF
  rw [hashN_congr (fun c hc => rowF_cat hj hc)]
theorem stF_new {d r : Nat → Nat} {A rows N : Nat} : stF (catR d (rows * A) r) A N rows = hashN r A % N := by
  unfold stF
  rw [hashN_congr (fun c _ => rowF_new)]
theorem val_cat {d r : Nat → Nat} {A rows : Nat} (h : ∀ j, j < rows * A → d j < 64) (hr : ∀ j, j < A → r j < 64) : ∀ j, j < (rows + 1) * A → catR d (rows * A) r j < 64 := fun j hj => by
  rw [Nat.add_mul, Nat.one_mul] at hj
  rcases Nat.lt_or_ge j (rows * A) with q | q
  · rw [catR_lo q]; exact h j q
  · obtain ⟨k, rfl⟩ : ∃ k, j = rows * A + k := ⟨j - rows * A, by omega⟩
    rw [catR_hi]; exact hr k (by omega)
theorem cell_new_i32 (w : World) (pr : Int) : ∀ j u, ([Value.int .i32 pr] : List Value)[j]? = some u → (w.alloc (.cells #[.int .i32 pr] 21)).cell? ((⟨w.heap.size, 0, none⟩ : Addr).add j) = some u := by
  intro j u h
  match j, h with
  | 0, h => simp at h; subst h; simp [Addr.add]
  | j + 1, h => simp at h
end Go.Proofs.Qxb6500880aGreat
