import Derived.Test.Qxb6500877aGreatDoorWi
import Derived.Maps.OwnSet
import Derived.Maps.OwnOps
set_option linter.unusedVariables false
set_option linter.unusedSimpArgs false
namespace Go.Proofs.Qxb6500877aGreatDoor
open Go.RowKit

theorem mapLaw : Maps.Keyed Tryz.prog 36 := Maps.int_keyed Tryz.underlying36
theorem zero156 (w : World) : (zeroValue 156).run Tryz.prog w = .ok (.int .i16 0) w := by kernel_rfl

/-- The timers' map, as read. -/
def MapAt (w : World) (mb n : Nat) (D : DataW Unit) : Prop := w.ownsMap Tryz.prog 36 (plainElem Tryz.prog 156) mb n D
theorem MapAt.drew {w : World} {mb n : Nat} {D : DataW Unit} (h : MapAt w mb n D) : MapAt w.drew mb n D := World.ownsMap.drew h
theorem MapAt.lt {w : World} {mb n : Nat} {D : DataW Unit} (h : MapAt w mb n D) : mb < w.heap.size := World.ownsMap.lt h

/-- Of what was there, only cells lo .. hi-1 of block b, and the map in block m, have been written. -/
structure Mut2 (b lo hi m : Nat) (w w' : World) : Prop where
  os : w'.os = w.os
  tape : w'.tape = w.tape
  output : w'.output = w.output
  size : w.heap.size ≤ w'.heap.size
  block : ∀ k, k < w.heap.size → k ≠ b → k ≠ m → w'.heap[k]? = w.heap[k]?
  frz : ∀ o, w'.frozen? ⟨b, o, none⟩ = w.frozen? ⟨b, o, none⟩
  cell : ∀ o, ¬ (lo ≤ o ∧ o < hi) → w'.cell? ⟨b, o, none⟩ = w.cell? ⟨b, o, none⟩
theorem Mut.to2 {b lo hi m : Nat} {w w' : World} (h : Mut b lo hi w w') : Mut2 b lo hi m w w' := ⟨h.os, h.tape, h.output, h.size, fun k hk hb _ => h.block k hk hb, h.frz, h.cell⟩
theorem Mut2.refl (b lo hi m : Nat) (w : World) : Mut2 b lo hi m w w := (Mut.refl b lo hi w).to2
theorem Mut2.trans {b lo hi m : Nat} {x y z : World} (h : Mut2 b lo hi m x y) (k : Mut2 b lo hi m y z) : Mut2 b lo hi m x z :=
  ⟨k.os.trans h.os, k.tape.trans h.tape, k.output.trans h.output, Nat.le_trans h.size k.size, fun i hi hb hm => (k.block i (Nat.lt_of_lt_of_le hi h.size) hb hm).trans (h.block i hi hb hm), fun o => (k.frz o).trans (h.frz o), fun o ho => (k.cell o ho).trans (h.cell o ho)⟩
theorem Mut2.drew {b lo hi m : Nat} {w w' : World} (h : Mut2 b lo hi m w w') : Mut2 b lo hi m w w'.drew := ⟨h.os, h.tape, h.output, h.size, h.block, h.frz, h.cell⟩
theorem Mut2.setCell {b lo hi m : Nat} {w w' : World} (h : Mut2 b lo hi m w w') {o : Nat} (h1 : lo ≤ o) (h2 : o < hi) (v : Value) : Mut2 b lo hi m w (w'.setCell ⟨b, o, none⟩ v) :=
  h.trans ((Mut.refl b lo hi w').setCell h1 h2 v).to2
theorem Mut2.far {b lo hi m : Nat} {w w' : World} (h : Mut2 b lo hi m w w') {k o : Nat} {v : Value} (hk : k ≠ b) (hm : k ≠ m) (hc : w.cell? ⟨k, o, none⟩ = some v) : w'.cell? ⟨k, o, none⟩ = some v := by
  have hlt : k < w.heap.size := World.block_lt_of_cell? _ _ hc
  rw [← hc]
  exact World.cell?_of_block (h.block k hlt hk hm)
theorem turned_block {w w' : World} {m : Nat} (h : w.mapTurned w' m) {k : Nat} (hk : k ≠ m) : w'.heap[k]? = w.heap[k]? := by
  obtain ⟨es, c, es', c', hb, rfl⟩ := h
  simp only [Go.ChangeMaps.setBlock, Array.getElem?_setIfInBounds]
  rw [if_neg (by omega)]
theorem turned_mut {w w' : World} {b lo hi m : Nat} (h : w.mapTurned w' m) (hb : b ≠ m) : Mut2 b lo hi m w w' := by
  have hk := fun {k : Nat} (hk : k ≠ m) => turned_block h hk
  obtain ⟨es, c, es', c', hm, rfl⟩ := h
  exact ⟨rfl, rfl, rfl, by simp [Go.ChangeMaps.setBlock], fun k _ _ hkm => hk hkm, fun o => World.frozen?_of_block (a := ⟨b, o, none⟩) (hk hb), fun o _ => World.cell?_of_block (a := ⟨b, o, none⟩) (hk hb)⟩
theorem WheelAt.turned {w w' : World} {B m : Nat} {s : Wheel} (h : WheelAt w B s) (ht : w.mapTurned w' m) (hb : B ≠ m) : WheelAt w' B s := by
  have M := turned_mut (lo := 0) (hi := 0) ht hb
  exact ⟨fun o ho => by rw [M.cell _ (by omega)]; exact h.cell o ho, fun o => by rw [M.frz]; exact h.frz o⟩
theorem MapAt.cell {w : World} {mb n : Nat} {D : DataW Unit} (h : MapAt w mb n D) {a : Addr} (ha : mb ≠ a.block) (u : Value) : MapAt (w.setCell a u) mb n D := World.ownsMap.setCell h ha u
theorem MapAt.mut {w w' : World} {mb n B lo hi : Nat} {D : DataW Unit} (h : MapAt w mb n D) (m : Mut B lo hi w w') (hb : mb ≠ B) : MapAt w' mb n D := by
  have hlt := h.lt
  obtain ⟨es, clock, hm, r⟩ := h
  exact ⟨es, clock, (m.block mb hlt hb).trans hm, r⟩

end Go.Proofs.Qxb6500877aGreatDoor
