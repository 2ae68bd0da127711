import Derived.Deep.CutBlock
import Derived.OwnWalk
import Derived.Maps.AppendAt
import Derived.Maps.OwnSet
import Derived.Maps.OwnOps
import Derived.Test.Qxb6500880aGreatJ
set_option linter.unusedVariables false
set_option linter.unusedSimpArgs false
namespace Go.Proofs.Qxb6500880aGreat
open Go.RowKit

/-- The names: c, e, k, n. -/
def nmB : Fin 4 → UInt8
  | 0 => 99
  | 1 => 101
  | 2 => 107
  | 3 => 110
def nmS (k : Fin 4) : ByteArray := ⟨#[nmB k]⟩
def nmL (k : Fin 4) : Lit := .string [nmB k]
theorem nm_key0 : keyOf Tryz.prog 9 (.string (nmS 0)) = some (nmL 0) := by kernel_rfl
theorem nm_key1 : keyOf Tryz.prog 9 (.string (nmS 1)) = some (nmL 1) := by kernel_rfl
theorem nm_key2 : keyOf Tryz.prog 9 (.string (nmS 2)) = some (nmL 2) := by kernel_rfl
theorem nm_key3 : keyOf Tryz.prog 9 (.string (nmS 3)) = some (nmL 3) := by kernel_rfl
theorem nm_key (k : Fin 4) : keyOf Tryz.prog 9 (.string (nmS k)) = some (nmL k) :=
  match k with
  | 0 => nm_key0
  | 1 => nm_key1
  | 2 => nm_key2
  | 3 => nm_key3
theorem nmB_inj : ∀ k k' : Fin 4, nmB k = nmB k' → k = k' := by decide
theorem nm_ne {k k' : Fin 4} (h : k ≠ k') : nmL k ≠ nmL k' := fun e => h (nmB_inj k k' (by simpa [nmL] using e))
theorem nm_is (k : Fin 4) : WideAt.IsKeyLit (nmL k) := by simp [nmL, WideAt.IsKeyLit]
/-- How a pointer to a block is read. -/
def ptrElem : Value → Option (DataW Unit × List MemPlace)
  | .pointer (some ⟨b, 0, none⟩) => some (.lit (.int .u64 (b : Int)), [])
  | .pointer none => some (.lit (.int .i64 0), [])
  | _ => none
def ptrO (o : Option Nat) : Value := .pointer (o.map (fun b => ⟨b, 0, none⟩))
def ptrD (o : Option Nat) : DataW Unit := match o with | some b => .lit (.int .u64 (b : Int)) | none => .lit (.int .i64 0)
theorem ptrElem_O (o : Option Nat) : ptrElem (ptrO o) = some (ptrD o, []) := by cases o <;> rfl
theorem ptrElem_inv {v : Value} {o : Option Nat} {ps : List MemPlace} (h : ptrElem v = some (ptrD o, ps)) : v = ptrO o := by
  unfold ptrElem at h
  split at h
  · rename_i b
    simp only [Option.some.injEq, Prod.mk.injEq] at h
    cases o with
    | none => have := h.1; simp [ptrD] at this
    | some c =>
      have := h.1
      simp [ptrD] at this
      obtain rfl : b = c := by omega
      rfl
  · simp only [Option.some.injEq, Prod.mk.injEq] at h
    cases o with
    | none => rfl
    | some c => have := h.1; simp [ptrD] at this
  · simp at h
theorem nmlaw : Maps.Keyed Tryz.prog 9 := Maps.string_keyed Tryz.underlying9
theorem nmzero (w : World) : (zeroValue 99).run Tryz.prog w = .ok (.pointer none) w := by kernel_rfl
/-- The relations by name. -/
def MapN (w : World) (mb n : Nat) (f : Fin 4 → Option Nat) : Prop :=
  ∃ D : DataW Unit, w.ownsMap Tryz.prog 9 ptrElem mb n D ∧ ∀ k, Maps.has D (nmL k) = (f k).isSome ∧ D.atKey (nmL k) (ptrD none) = ptrD (f k)
theorem MapN.blk {w w' : World} {mb n : Nat} {f : Fin 4 → Option Nat} (h : MapN w mb n f) (hb : w'.heap[mb]? = w.heap[mb]?) : MapN w' mb n f := by
  obtain ⟨D, ⟨es, clock, hm, q⟩, r⟩ := h
  exact ⟨D, ⟨es, clock, hb.trans hm, q⟩, r⟩
theorem MapN.lt {w : World} {mb n : Nat} {f : Fin 4 → Option Nat} (h : MapN w mb n f) : mb < w.heap.size := by
  obtain ⟨D, h, r⟩ := h
  exact World.ownsMap.lt h
theorem MapN.below {w w' : World} {mb n : Nat} {f : Fin 4 → Option Nat} (h : MapN w mb n f) (hb : Below w.heap.size w w') : MapN w' mb n f := h.blk (hb.block mb h.lt)
theorem MapN_new (w : World) : MapN (w.alloc (.map #[] 0)) w.heap.size 0 (fun _ => none) :=
  ⟨_, World.ownsMap_made w _ _ _, fun k => ⟨rfl, rfl⟩⟩
theorem MapN.look {w : World} {mb n : Nat} {f : Fin 4 → Option Nat} (h : MapN w mb n f) (k : Fin 4) :
    (Instr.lookup 75 (.map (some mb)) (.string (nmS k)) true).run Tryz.prog w = .ok (.tuple #[ptrO (f k), .bool (f k).isSome]) w := by
  obtain ⟨D, h, r⟩ := h
  obtain ⟨v, ps, hrun, hv⟩ := World.ownsMap.look_ok h nmlaw Tryz.underlying75 (nmzero w) (zd := ptrD none) (zp := []) (ptrElem_O none) (nm_key k)
  obtain ⟨r1, r2⟩ := r k
  rw [r2] at hv
  rw [hrun, r1, ptrElem_inv hv]
theorem MapN.look1 {w : World} {mb n : Nat} {f : Fin 4 → Option Nat} (h : MapN w mb n f) (k : Fin 4) :
    (Instr.lookup 75 (.map (some mb)) (.string (nmS k)) false).run Tryz.prog w = .ok (ptrO (f k)) w := by
  obtain ⟨D, h, r⟩ := h
  obtain ⟨v, ps, hrun, hv⟩ := World.ownsMap.lookup h nmlaw Tryz.underlying75 (nmzero w) (zd := ptrD none) (zp := []) (ptrElem_O none) (nm_key k)
  obtain ⟨r1, r2⟩ := r k
  rw [r2] at hv
  rw [hrun, ptrElem_inv hv]
theorem MapN.store {w : World} {mb n : Nat} {f : Fin 4 → Option Nat} (h : MapN w mb n f) (hn : n < 1000000) (k : Fin 4) (b : Nat) :
    ∃ w', (Instr.mapUpdate 75 (.map (some mb)) (.string (nmS k)) (.pointer (some ⟨b, 0, none⟩))).run Tryz.prog w = .ok () w' ∧ MapN w' mb (n + 1) (fun j => if j = k then some b else f j) ∧ Wr mb w w' := by
  obtain ⟨D, h, r⟩ := h
  have hI := World.ownsMap.isMap h
  obtain ⟨w', hrun, hm, ht⟩ := World.ownsMap.store h nmlaw Tryz.underlying75 (by unfold maxLen; omega) (val := .pointer (some ⟨b, 0, none⟩)) (nm_key k) (ptrElem_O (some b))
  refine ⟨w', hrun, ⟨_, hm, fun j => ?_⟩, ?_⟩
  · by_cases q : j = k
    · subst q
      simp only [if_true]
      rw [Maps.has_put_same hI (nm_is j), Maps.atKey_put_same hI (nm_is j)]
      exact ⟨rfl, rfl⟩
    · simp only [if_neg q]
      rw [Maps.has_put_other (nm_ne q), Maps.atKey_put_other (nm_ne q)]
      exact r j
  · have hg := ht.grown
    exact ⟨hg.os, hg.tape, hg.output, hg.size, fun q h1 h2 => hg.block q h1 (fun z => h2 (by simpa using z))⟩
theorem look_nilN (w : World) (k : Fin 4) : (Instr.lookup 75 (.map none) (.string (nmS k)) false).run Tryz.prog w = .ok (.pointer none) w :=
  Maps.look_nil false nmlaw Tryz.underlying75 (nmzero w) (nm_key k)
end Go.Proofs.Qxb6500880aGreat
