import Derived.Test.Qxb6500877aGreatDoorPMd
import Derived.Test.Qxb6500877aGreatDoorPMj
import Derived.Test.Qxb6500877aGreatDoorPMi
set_option linter.unusedVariables false
set_option linter.unusedSimpArgs false
namespace Go.Proofs.Qxb6500877aGreatDoor
open Go.RowKit




/-- As 'Done', from a block 'base' on all may have been written. -/
structure Near (base : Nat) (w w' : World) (B mb t k : Nat) (ν : Net) (τ : TSt) (σ : Sg) : Prop where
  m : Mach w' B mb t k ν τ σ
  f : Mut3 B 0 6753 mb base w w'
theorem Near.refl {base : Nat} {w : World} {B mb t k : Nat} {ν : Net} {τ : TSt} {σ : Sg} (h : Mach w B mb t k ν τ σ) : Near base w w B mb t k ν τ σ := ⟨h, Mut3.refl _ _ _ _ _ _⟩
theorem Near.done {base : Nat} {w w1 w2 : World} {B mb t k t' k' : Nat} {ν ν' : Net} {τ τ' : TSt} {σ σ' : Sg} (h : Near base w w1 B mb t k ν τ σ) (d : Done w1 w2 B mb t' k' ν' τ' σ') (hb : base ≤ w.heap.size) : Near base w w2 B mb t' k' ν' τ' σ' := by
  have hs := h.f.size
  exact ⟨d.m, h.f.trans ⟨d.f.os, d.f.tape, d.f.output, d.f.size, fun k hk => d.f.block k (by omega), d.f.frz, d.f.cell⟩⟩
theorem Near.trans {base : Nat} {w w1 w2 : World} {B mb t k t' k' : Nat} {ν ν' : Net} {τ τ' : TSt} {σ σ' : Sg} (h : Near base w w1 B mb t k ν τ σ) (d : Near base w1 w2 B mb t' k' ν' τ' σ') : Near base w w2 B mb t' k' ν' τ' σ' := ⟨d.m, h.f.trans d.f⟩
theorem Near.mono {base : Nat} {w w1 : World} {B mb t k k' : Nat} {ν : Net} {τ : TSt} {σ : Sg} (h : Near base w w1 B mb t k ν τ σ) (hk : k ≤ k') : Near base w w1 B mb t k' ν τ σ := ⟨h.m.mono hk, h.f⟩
theorem Near.drew {base : Nat} {w w1 : World} {B mb t k : Nat} {ν : Net} {τ : TSt} {σ : Sg} (h : Near base w w1 B mb t k ν τ σ) : Near base w w1.drew B mb t k ν τ σ := ⟨h.m.drew, h.f.drew⟩
theorem Near.below {base : Nat} {w w1 w2 : World} {B mb t k : Nat} {ν : Net} {τ : TSt} {σ : Sg} (h : Near base w w1 B mb t k ν τ σ) (hb : Below w1.heap.size w1 w2) (hw : base ≤ w.heap.size) : Near base w w2 B mb t k ν τ σ := h.done ((Done.refl h.m).below hb) hw
theorem Near.fresh {base : Nat} {w w1 : World} {B mb t k : Nat} {ν : Net} {τ : TSt} {σ : Sg} (h : Near base w w1 B mb t k ν τ σ) (q : Addr) (hq : base ≤ q.block) (hB : B < base) (hm : mb < base) (v : Value) : Near base w (w1.setCell q v) B mb t k ν τ σ := by
  have h2 := h.m.hB
  refine ⟨h.m.fresh q ⟨by omega, by omega, by omega⟩ v, h.f.trans ⟨rfl, rfl, rfl, by simp, fun k hk _ _ => ?_, fun o => World.frozen?_setCell _ _ _ _, fun o _ => World.cell?_setCell_far _ _ _ _ (by show q.block ≠ B; omega)⟩⟩
  simp only [World.setCell, Array.getElem?_modify]
  rw [if_neg (by omega)]
theorem Near.to_done {w w1 : World} {B mb t k : Nat} {ν : Net} {τ : TSt} {σ : Sg} (h : Near w.heap.size w w1 B mb t k ν τ σ) : Done w w1 B mb t k ν τ σ := ⟨h.m, h.f⟩
theorem Done.to_near {base : Nat} {w w1 : World} {B mb t k : Nat} {ν : Net} {τ : TSt} {σ : Sg} (h : Done w w1 B mb t k ν τ σ) (hb : base ≤ w.heap.size) : Near base w w1 B mb t k ν τ σ :=
  ⟨h.m, ⟨h.f.os, h.f.tape, h.f.output, h.f.size, fun k hk => h.f.block k (by omega), h.f.frz, h.f.cell⟩⟩

/-- What may lie in the cells of a result. -/
def resK : Nat → Value → Prop
  | 3, x => ∃ v, x = .int .u64 v
  | 4, x => x = .bool false
  | 7, x => ∃ v, x = .int .u32 v
  | 8, x => ∃ v, x = .int .u64 v
  | 9, x => ∃ v, x = .int .u64 v
  | 10, x => ∃ v, x = .int .u64 v
  | 11, x => ∃ v, x = .int .u64 v
  | 12, x => ∃ v, x = .int .u64 v
  | 13, x => ∃ v, x = .int .u64 v
  | 14, x => x = .slice none 0 0
  | _, x => ∃ v, x = .int .i64 v
structure ResAt (w : World) (b : Nat) : Prop where
  cell : ∀ j, j < 15 → ∃ x, w.cell? ⟨b, j, none⟩ = some x ∧ resK j x
  fz : ∀ o, w.frozen? ⟨b, o, none⟩ = false
theorem ResAt.blk {w w' : World} {b : Nat} (h : ResAt w b) (e : w'.heap[b]? = w.heap[b]?) : ResAt w' b :=
  ⟨fun j hj => by rw [World.cell?_of_block (a := ⟨b, j, none⟩) e]; exact h.cell j hj, fun o => (World.frozen?_of_block (a := ⟨b, o, none⟩) e).trans (h.fz o)⟩
theorem ResAt.lt {w : World} {b : Nat} (h : ResAt w b) : b < w.heap.size := by
  obtain ⟨x, hx, _⟩ := h.cell 0 (by omega)
  exact World.block_lt_of_cell? _ _ hx
theorem ResAt.drew {w : World} {b : Nat} (h : ResAt w b) : ResAt w.drew b := ⟨h.cell, h.fz⟩
theorem ResAt.set {w : World} {b j : Nat} {v : Value} (h : ResAt w b) (hj : j < 15) (hv : resK j v) : ResAt (w.setCell ⟨b, j, none⟩ v) b := by
  refine ⟨fun i hi => ?_, fun o => by simpa using h.fz o⟩
  by_cases e : i = j
  · subst e
    obtain ⟨x, hx, _⟩ := h.cell i hi
    exact ⟨v, World.cell?_setCell_same _ _ _ hx, hv⟩
  · obtain ⟨x, hx, hk⟩ := h.cell i hi
    exact ⟨x, by rw [World.cell?_setCell_other _ _ _ _ (by simp <;> omega)]; exact hx, hk⟩
theorem ResAt.other {w : World} {b : Nat} (h : ResAt w b) (q : Addr) (hq : q.block ≠ b) (v : Value) : ResAt (w.setCell q v) b := h.blk (by simp only [World.setCell, Array.getElem?_modify]; rw [if_neg hq])
theorem ResAt.code {w : World} {b : Nat} (h : ResAt w b) : ∃ v, w.cell? ⟨b, 0, none⟩ = some (.int .i64 v) := by
  obtain ⟨x, hx, v, rfl⟩ := h.cell 0 (by omega)
  exact ⟨v, hx⟩
theorem ResAt.core {w : World} {b : Nat} (h : ResAt w b) : ∃ v, w.cell? ⟨b, 1, none⟩ = some (.int .i64 v) := by
  obtain ⟨x, hx, v, rfl⟩ := h.cell 1 (by omega)
  exact ⟨v, hx⟩
theorem ResAt.task {w : World} {b : Nat} (h : ResAt w b) : ∃ v, w.cell? ⟨b, 2, none⟩ = some (.int .i64 v) := by
  obtain ⟨x, hx, v, rfl⟩ := h.cell 2 (by omega)
  exact ⟨v, hx⟩
theorem ResAt.timer {w : World} {b : Nat} (h : ResAt w b) : ∃ v, w.cell? ⟨b, 3, none⟩ = some (.int .u64 v) := by
  obtain ⟨x, hx, v, rfl⟩ := h.cell 3 (by omega)
  exact ⟨v, hx⟩

/-- The numbers of a result. -/
structure RS where
  c : Int
  co : Int
  tk : Int
  tm : Int
/-- What lies in the cells of a result that has no message and no timers. -/
def rsK (r : RS) : Nat → Value → Prop
  | 0, x => ∃ v, Hid (v = r.c) ∧ x = .int .i64 v
  | 1, x => ∃ v, Hid (v = r.co) ∧ x = .int .i64 v
  | 2, x => ∃ v, Hid (v = r.tk) ∧ x = .int .i64 v
  | 3, x => ∃ v, Hid (v = r.tm) ∧ x = .int .u64 v
  | 4, x => x = .bool false
  | 5, x => ∃ v, Hid (v = 0) ∧ x = .int .i64 v
  | 6, x => ∃ v, Hid (v = 0) ∧ x = .int .i64 v
  | 7, x => ∃ v, Hid (v = 0) ∧ x = .int .u32 v
  | 14, x => x = .slice none 0 0
  | _, x => ∃ v, Hid (v = 0) ∧ x = .int .u64 v
structure ResX (w : World) (b : Nat) (r : RS) : Prop where
  cell : ∀ j, j < 15 → ∃ x, w.cell? ⟨b, j, none⟩ = some x ∧ rsK r j x
  fz : ∀ o, w.frozen? ⟨b, o, none⟩ = false
theorem ResX.blk {w w' : World} {b : Nat} {r : RS} (h : ResX w b r) (e : w'.heap[b]? = w.heap[b]?) : ResX w' b r :=
  ⟨fun j hj => by rw [World.cell?_of_block (a := ⟨b, j, none⟩) e]; exact h.cell j hj, fun o => (World.frozen?_of_block (a := ⟨b, o, none⟩) e).trans (h.fz o)⟩
theorem ResX.lt {w : World} {b : Nat} {r : RS} (h : ResX w b r) : b < w.heap.size := by
  obtain ⟨x, hx, _⟩ := h.cell 0 (by omega)
  exact World.block_lt_of_cell? _ _ hx
theorem ResX.drew {w : World} {b : Nat} {r : RS} (h : ResX w b r) : ResX w.drew b r := ⟨h.cell, h.fz⟩
theorem ResX.setj {w : World} {b j : Nat} {r r' : RS} {v : Value} (h : ResX w b r) (hv : rsK r' j v) (hr : ∀ i x, i ≠ j → rsK r i x → rsK r' i x) : ResX (w.setCell ⟨b, j, none⟩ v) b r' := by
  refine ⟨fun i hi => ?_, fun o => by simpa using h.fz o⟩
  obtain ⟨x, hx, hk⟩ := h.cell i hi
  by_cases e : i = j
  · subst e
    exact ⟨v, World.cell?_setCell_same _ _ _ hx, hv⟩
  · exact ⟨x, by rw [World.cell?_setCell_other _ _ _ _ (by simp <;> omega)]; exact hx, hr i x e hk⟩
theorem rsK_c {r : RS} {a : Int} {i : Nat} {x : Value} (e : i ≠ 0) (h : rsK r i x) : rsK { r with c := a } i x := by
  unfold rsK at h ⊢
  split at h <;> first | exact absurd rfl e | exact h
theorem rsK_co {r : RS} {a : Int} {i : Nat} {x : Value} (e : i ≠ 1) (h : rsK r i x) : rsK { r with co := a } i x := by
  unfold rsK at h ⊢
  split at h <;> first | exact absurd rfl e | exact h
theorem rsK_tk {r : RS} {a : Int} {i : Nat} {x : Value} (e : i ≠ 2) (h : rsK r i x) : rsK { r with tk := a } i x := by
  unfold rsK at h ⊢
  split at h <;> first | exact absurd rfl e | exact h
theorem rsK_tm {r : RS} {a : Int} {i : Nat} {x : Value} (e : i ≠ 3) (h : rsK r i x) : rsK { r with tm := a } i x := by
  unfold rsK at h ⊢
  split at h <;> first | exact absurd rfl e | exact h
theorem ResX.set0 {w : World} {b : Nat} {r : RS} (h : ResX w b r) (v : Int) : ResX (w.setCell ⟨b, 0, none⟩ (.int .i64 v)) b { r with c := v } := h.setj ⟨v, hideIt rfl, rfl⟩ (fun _ _ => rsK_c)
theorem ResX.set1 {w : World} {b : Nat} {r : RS} (h : ResX w b r) (v : Int) : ResX (w.setCell ⟨b, 1, none⟩ (.int .i64 v)) b { r with co := v } := h.setj ⟨v, hideIt rfl, rfl⟩ (fun _ _ => rsK_co)
theorem ResX.set2 {w : World} {b : Nat} {r : RS} (h : ResX w b r) (v : Int) : ResX (w.setCell ⟨b, 2, none⟩ (.int .i64 v)) b { r with tk := v } := h.setj ⟨v, hideIt rfl, rfl⟩ (fun _ _ => rsK_tk)
theorem ResX.set3 {w : World} {b : Nat} {r : RS} (h : ResX w b r) (v : Int) : ResX (w.setCell ⟨b, 3, none⟩ (.int .u64 v)) b { r with tm := v } := h.setj ⟨v, hideIt rfl, rfl⟩ (fun _ _ => rsK_tm)
theorem ResX.other {w : World} {b : Nat} {r : RS} (h : ResX w b r) (q : Addr) (hq : q.block ≠ b) (v : Value) : ResX (w.setCell q v) b r := h.blk (by simp only [World.setCell, Array.getElem?_modify]; rw [if_neg hq])
theorem ResX.code {w : World} {b : Nat} {r : RS} (h : ResX w b r) : ∃ v, w.cell? ⟨b, 0, none⟩ = some (.int .i64 v) := by
  obtain ⟨x, hx, v, _, rfl⟩ := h.cell 0 (by omega)
  exact ⟨v, hx⟩
theorem ResX.core {w : World} {b : Nat} {r : RS} (h : ResX w b r) : ∃ v, w.cell? ⟨b, 1, none⟩ = some (.int .i64 v) := by
  obtain ⟨x, hx, v, _, rfl⟩ := h.cell 1 (by omega)
  exact ⟨v, hx⟩
theorem ResX.task {w : World} {b : Nat} {r : RS} (h : ResX w b r) : ∃ v, w.cell? ⟨b, 2, none⟩ = some (.int .i64 v) := by
  obtain ⟨x, hx, v, _, rfl⟩ := h.cell 2 (by omega)
  exact ⟨v, hx⟩
theorem ResX.timer {w : World} {b : Nat} {r : RS} (h : ResX w b r) : ∃ v, w.cell? ⟨b, 3, none⟩ = some (.int .u64 v) := by
  obtain ⟨x, hx, v, _, rfl⟩ := h.cell 3 (by omega)
  exact ⟨v, hx⟩
theorem ResX.kind {w : World} {b : Nat} {r : RS} (h : ResX w b r) : ResAt w b := by
  refine ⟨fun j hj => ?_, h.fz⟩
  obtain ⟨x, hx, hk⟩ := h.cell j hj
  refine ⟨x, hx, ?_⟩
  match j, hj, hk with
  | 0, _, ⟨v, _, e⟩ => exact ⟨v, e⟩
  | 1, _, ⟨v, _, e⟩ => exact ⟨v, e⟩
  | 2, _, ⟨v, _, e⟩ => exact ⟨v, e⟩
  | 3, _, ⟨v, _, e⟩ => exact ⟨v, e⟩
  | 4, _, e => exact e
  | 5, _, ⟨v, _, e⟩ => exact ⟨v, e⟩
  | 6, _, ⟨v, _, e⟩ => exact ⟨v, e⟩
  | 7, _, ⟨v, _, e⟩ => exact ⟨v, e⟩
  | 8, _, ⟨v, _, e⟩ => exact ⟨v, e⟩
  | 9, _, ⟨v, _, e⟩ => exact ⟨v, e⟩
  | 10, _, ⟨v, _, e⟩ => exact ⟨v, e⟩
  | 11, _, ⟨v, _, e⟩ => exact ⟨v, e⟩
  | 12, _, ⟨v, _, e⟩ => exact ⟨v, e⟩
  | 13, _, ⟨v, _, e⟩ => exact ⟨v, e⟩
  | 14, _, e => exact e
/-- A step of a script, in range. -/
structure OpS where
  kd : Nat
  a : Int
  b : Int
  c : Int
  x : Nat
  y : Nat
structure OpS.ok (o : OpS) : Prop where
  kd : o.kd < 256
  x : o.x < 18446744073709551616
  y : o.y < 18446744073709551616
def opV (o : OpS) : Value := .agg #[.int .u8 o.kd, .int .i64 o.a, .int .i64 o.b, .int .i64 o.c, .int .u64 o.x, .int .u64 o.y]
structure OpAt (w : World) (p : Nat) (o : OpS) : Prop where
  c0 : w.cell? ⟨p, 0, none⟩ = some (.int .u8 o.kd)
  c1 : w.cell? ⟨p, 1, none⟩ = some (.int .i64 o.a)
  c2 : w.cell? ⟨p, 2, none⟩ = some (.int .i64 o.b)
  c3 : w.cell? ⟨p, 3, none⟩ = some (.int .i64 o.c)
  c4 : w.cell? ⟨p, 4, none⟩ = some (.int .u64 o.x)
  c5 : w.cell? ⟨p, 5, none⟩ = some (.int .u64 o.y)
theorem OpAt.blk {w w' : World} {p : Nat} {o : OpS} (h : OpAt w p o) (e : w'.heap[p]? = w.heap[p]?) : OpAt w' p o :=
  ⟨(World.cell?_of_block (a := ⟨p, 0, none⟩) e).trans h.c0, (World.cell?_of_block (a := ⟨p, 1, none⟩) e).trans h.c1, (World.cell?_of_block (a := ⟨p, 2, none⟩) e).trans h.c2, (World.cell?_of_block (a := ⟨p, 3, none⟩) e).trans h.c3, (World.cell?_of_block (a := ⟨p, 4, none⟩) e).trans h.c4, (World.cell?_of_block (a := ⟨p, 5, none⟩) e).trans h.c5⟩
theorem OpAt.lt {w : World} {p : Nat} {o : OpS} (h : OpAt w p o) : p < w.heap.size := World.block_lt_of_cell? _ _ h.c0
theorem op_new (w : World) (o : OpS) (t : TypeId) : OpAt (w.alloc (.cells #[.int .u8 o.kd, .int .i64 o.a, .int .i64 o.b, .int .i64 o.c, .int .u64 o.x, .int .u64 o.y] t)) w.heap.size o := by
  refine ⟨?_, ?_, ?_, ?_, ?_, ?_⟩ <;> simp

end Go.Proofs.Qxb6500877aGreatDoor
