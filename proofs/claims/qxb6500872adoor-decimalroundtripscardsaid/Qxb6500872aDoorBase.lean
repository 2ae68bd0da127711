/-
  The words of this seat's walks: a row of limbs in memory ('Limbs'), what a call may have written ('Wrote', 'Below').
-/
import Derived.Test.Qxb6500872aDoorRows
import Derived.Test.Qxb6500872aDoorNum
import Derived.WalkKit
import Derived.WalkSpells
import Derived.WalkLawsBesides
import Derived.Deep.QuietTactic
import Derived.BigQuiet
import Derived.Deep.RegionWith
import Derived.Deep.RegionHeld3
import Derived.Deep.DeepCutAuto
namespace Go.Proofs.Qxb6500872aDoor
open Go.RowKit

/-- The slice (a, n, c) reads the limbs zs. -/
structure Limbs (w : World) (a : Option Addr) (n c : Nat) (zs : List Int) : Prop where
  len : zs.length = n
  cap : n ≤ c
  big : c ≤ 1000000
  rng : ∀ j : Nat, 0 ≤ zs[j]?.getD 0 ∧ zs[j]?.getD 0 < 4294967296
  mem : n = 0 ∨ ∃ b off, a = some ⟨b, off, none⟩ ∧ ∀ j, j < n → w.cell? ⟨b, off + j, none⟩ = some (.int .u32 (zs[j]?.getD 0))

theorem Limbs.below {w w' : World} {a : Option Addr} {n c : Nat} {zs : List Int} (h : Limbs w a n c zs) (hb : Below w.heap.size w w') : Limbs w' a n c zs :=
  ⟨h.len, h.cap, h.big, h.rng, by
    rcases h.mem with h0 | ⟨b, off, ha, hc⟩
    · exact .inl h0
    · exact .inr ⟨b, off, ha, fun j hj => cell_later hb (hc j hj)⟩⟩

theorem Limbs.at {w : World} {a : Option Addr} {n c : Nat} {zs : List Int} (h : Limbs w a n c zs) {k : Nat} (hk : k < n) :
    ∃ b off, a = some ⟨b, off, none⟩ ∧ ∀ j, j < n → w.cell? ⟨b, off + j, none⟩ = some (.int .u32 (zs[j]?.getD 0)) := by
  rcases h.mem with h0 | h1
  · omega
  · exact h1

theorem getD_take (zs : List Int) (m j : Nat) (h : j < m) : (zs.take m)[j]?.getD 0 = zs[j]?.getD 0 := by
  rw [List.getElem?_take_of_lt h]

theorem getD_take_any (zs : List Int) (m j : Nat) : (zs.take m)[j]?.getD 0 = if j < m then zs[j]?.getD 0 else 0 := by
  rw [List.getElem?_take]
  by_cases h : j < m
  · simp [h]
  · simp [h]

/-- A shorter slice over the same limbs. -/
theorem Limbs.take {w : World} {a : Option Addr} {n c : Nat} {zs : List Int} (h : Limbs w a n c zs) {m c' : Nat} (hm : m ≤ n) (hc : m ≤ c') (hc' : c' ≤ 1000000) : Limbs w a m c' (zs.take m) := by
  refine ⟨by rw [List.length_take, h.len]; omega, hc, hc', fun j => ?_, ?_⟩
  · rw [getD_take_any]; split
    · exact h.rng j
    · omega
  · rcases h.mem with h0 | ⟨b, off, ha, hcell⟩
    · exact .inl (by omega)
    · exact .inr ⟨b, off, ha, fun j hj => by rw [getD_take _ _ _ hj]; exact hcell j (by omega)⟩

theorem Limbs.nil (w : World) : Limbs w none 0 0 [] := ⟨rfl, Nat.le_refl _, by omega, fun j => by simp, .inl rfl⟩

def norm (zs : List Int) : List Int := zs.take (nl zs zs.length)
theorem norm_length (zs : List Int) : (norm zs).length = nl zs zs.length := by
  have := nl_le zs zs.length
  simp [norm]; omega

theorem Limbs.norm {w : World} {a : Option Addr} {n c : Nat} {zs : List Int} (h : Limbs w a n c zs) : Limbs w a (nl zs n) (nl zs n) (norm zs) := by
  have h1 := nl_le zs n
  have h2 := h.cap
  have h3 := h.big
  have := h.take (m := nl zs n) (c' := nl zs n) h1 (Nat.le_refl _) (by omega)
  rw [show Qxb6500872aDoor.norm zs = zs.take (nl zs n) by rw [Qxb6500872aDoor.norm, h.len]]
  exact this

/-- Only cells lo .. hi-1 of block b have been written. -/
structure Wrote (b lo hi : Nat) (w w' : World) : Prop where
  os : w'.os = w.os
  tape : w'.tape = w.tape
  output : w'.output = w.output
  size : w'.heap.size = w.heap.size
  block : ∀ k, k ≠ b → w'.heap[k]? = w.heap[k]?
  frz : ∀ p, w'.frozen? p = w.frozen? p
  cell : ∀ o, ¬ (lo ≤ o ∧ o < hi) → w'.cell? ⟨b, o, none⟩ = w.cell? ⟨b, o, none⟩

theorem Wrote.refl (b lo hi : Nat) (w : World) : Wrote b lo hi w w := ⟨rfl, rfl, rfl, rfl, fun _ _ => rfl, fun _ => rfl, fun _ _ => rfl⟩
theorem Wrote.trans {b lo hi : Nat} {x y z : World} (h : Wrote b lo hi x y) (k : Wrote b lo hi y z) : Wrote b lo hi x z :=
  ⟨k.os.trans h.os, k.tape.trans h.tape, k.output.trans h.output, k.size.trans h.size, fun i hi => (k.block i hi).trans (h.block i hi), fun p => (k.frz p).trans (h.frz p), fun o ho => (k.cell o ho).trans (h.cell o ho)⟩
theorem Wrote.mono {b lo hi lo' hi' : Nat} {w w' : World} (h : Wrote b lo hi w w') (h1 : lo' ≤ lo) (h2 : hi ≤ hi') : Wrote b lo' hi' w w' :=
  ⟨h.os, h.tape, h.output, h.size, h.block, h.frz, fun o ho => h.cell o (by omega)⟩
theorem Wrote.drew {b lo hi : Nat} {w w' : World} (h : Wrote b lo hi w w') : Wrote b lo hi w w'.drew := ⟨h.os, h.tape, h.output, h.size, h.block, h.frz, h.cell⟩
theorem Wrote.drewN {b lo hi : Nat} {w w' : World} (h : Wrote b lo hi w w') (n : Nat) : Wrote b lo hi w (w'.drewN n) := ⟨h.os, h.tape, h.output, h.size, h.block, h.frz, h.cell⟩
theorem Wrote.setCell {b lo hi : Nat} {w w' : World} (h : Wrote b lo hi w w') {o : Nat} (h1 : lo ≤ o) (h2 : o < hi) (v : Value) : Wrote b lo hi w (w'.setCell ⟨b, o, none⟩ v) :=
  h.trans ⟨rfl, rfl, rfl, by simp [World.setCell], fun k hk => Below.heap_setCell _ _ _ _ hk, fun p => World.frozen?_setCell _ _ _ _, fun o' ho => World.cell?_setCell_other _ _ _ _ (fun e => ho (by cases e; exact ⟨h1, h2⟩))⟩
theorem Wrote.cell_far {b lo hi : Nat} {w w' : World} (h : Wrote b lo hi w w') {k o : Nat} (hk : k ≠ b) : w'.cell? ⟨k, o, none⟩ = w.cell? ⟨k, o, none⟩ := World.cell?_of_block (h.block k hk)
theorem Wrote.below {b lo hi B : Nat} {w w' : World} (h : Wrote b lo hi w w') (hB : B ≤ b) : Below B w w' :=
  ⟨h.os, h.tape, h.output, Nat.le_of_eq h.size.symm, fun k hk => h.block k (by omega)⟩

theorem bcell {W w1 : World} (hb : Below W.heap.size W w1) : (∀ b o, b < W.heap.size → w1.cell? ⟨b, o, none⟩ = W.cell? ⟨b, o, none⟩) ∧ (∀ b o, b < W.heap.size → w1.frozen? ⟨b, o, none⟩ = W.frozen? ⟨b, o, none⟩) :=
  ⟨fun b o h => hb.cell (p := ⟨b, o, none⟩) h, fun b o h => hb.frozen (p := ⟨b, o, none⟩) h⟩

theorem chain {W w1 w2 : World} (h1 : Below W.heap.size W w1) (h2 : Below w1.heap.size w1 w2) : Below W.heap.size W w2 := h1.trans (h2.mono h1.size)
theorem one_alloc (w : World) (o : Obj) : Below w.heap.size w (w.alloc o) := (Below.refl _ _).alloc (Nat.le_refl _) _

theorem ret_int {k : IntKind} {a b : Int} (h : a = b) : Ending.returned (.int k a) = .returned (.int k b) := by rw [h]
theorem ret_bool {a b : Bool} (h : a = b) : Ending.returned (.bool a) = .returned (.bool b) := by rw [h]

theorem two_alloc (w : World) (o o' : Obj) : Below w.heap.size w ((w.alloc o).alloc o') := ((Below.refl _ _).alloc (Nat.le_refl _) _).alloc (by simp) _

theorem after2 {w w1 : World} {o o' : Obj} (hb : Below ((w.alloc o).alloc o').heap.size ((w.alloc o).alloc o') w1) : Below w.heap.size w w1 :=
  (two_alloc w o o').trans (hb.mono (by simp; omega))

/-- Behind a call that leaves old memory: the cells of blocks k that were there. -/
theorem kept2 {W w1 : World} (hb : Below W.heap.size W w1) {b : Nat} {v0 v1 : Value} (h0 : W.cell? ⟨b, 0, none⟩ = some v0) (h1 : W.cell? ⟨b, 1, none⟩ = some v1)
    (f0 : W.frozen? ⟨b, 0, none⟩ = false) (f1 : W.frozen? ⟨b, 1, none⟩ = false) :
    w1.cell? ⟨b, 0, none⟩ = some v0 ∧ w1.cell? ⟨b, 1, none⟩ = some v1 ∧ w1.frozen? ⟨b, 0, none⟩ = false ∧ w1.frozen? ⟨b, 1, none⟩ = false := by
  have hlt : b < W.heap.size := World.block_lt_of_cell? _ _ h0
  exact ⟨cell_later hb h0, cell_later hb h1, (hb.frozen (p := ⟨b, 0, none⟩) hlt).trans f0, (hb.frozen (p := ⟨b, 1, none⟩) hlt).trans f1⟩

end Go.Proofs.Qxb6500872aDoor
