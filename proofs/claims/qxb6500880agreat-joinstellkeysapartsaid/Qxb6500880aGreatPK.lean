import Derived.Deep.CutBlock
import Derived.OwnWalk
import Derived.Maps.AppendAt
import Derived.Maps.OwnSet
import Derived.Maps.OwnOps
import Derived.Laws.ResultCell
import Derived.Test.Qxb6500880aGreatPm
set_option linter.unusedVariables false
set_option linter.unusedSimpArgs false
namespace Go.Proofs.Qxb6500880aGreat
open Go.RowKit

theorem cells_of {w : World} {b o : Nat} {v : Value} (h : w.cell? ⟨b, o, none⟩ = some v) : ∃ ca ta fr, w.heap[b]? = some (.cells ca ta fr) := by
  unfold World.cell? at h
  split at h
  · rename_i x cs ta fr hx
    exact ⟨_, _, _, hx⟩
  all_goals simp at h
theorem same_other {w : World} {a b : Nat} {va vb : Value} (hab : a ≠ b) (ha : w.cell? ⟨a, 0, none⟩ = some va) (fa : ∀ o, w.frozen? ⟨a, o, none⟩ = false) (hb : w.cell? ⟨b, 0, none⟩ = some vb) (fb : ∀ o, w.frozen? ⟨b, o, none⟩ = false) : (sameAddr ⟨a, 0, none⟩ ⟨b, 0, none⟩).run Tryz.prog w = .ok false w := by
  obtain ⟨ca, ta, fra, ea⟩ := cells_of ha
  obtain ⟨cb, tb, frb, eb⟩ := cells_of hb
  simp [sameAddr, hab, fa, fb, ea, eb, noView, viewAt, World.shape?, mayBeOne, stringish]
/-- A map with relations for keys: empty, or with one entry. -/
def PM0 (w : World) (mb : Nat) : Prop := w.heap[mb]? = some (.map #[] 0)
def PM1 (w : World) (mb hb : Nat) (v : Value) : Prop := w.heap[mb]? = some (.map #[{ key := .pointer (some ⟨hb, 0, none⟩), val := v, born := 0 }] 1)
theorem PM0_new (w : World) : PM0 (w.alloc (.map #[] 0)) w.heap.size := by
  show (w.heap.push (.map #[] 0))[w.heap.size]? = _
  simp
theorem ckey (e : Bool) (d : Nat) (p : Option Addr) (w : World) : (Instr.checkKey e (d + 1) 99 (.pointer p)).run Tryz.prog w = .ok () w := by simp [Instr.checkKey, run_underlying Tryz.underlying99]
theorem ckey' (e : Bool) (p : Option Addr) (w : World) : (Instr.checkKey e 10000 99 (.pointer p)).run Tryz.prog w = .ok () w := ckey e 9999 p w
theorem PM1.blk {w w' : World} {mb hb : Nat} {v : Value} (h : PM1 w mb hb v) (e : w'.heap[mb]? = w.heap[mb]?) : PM1 w' mb hb v := e.trans h
theorem PM1.lt {w : World} {mb hb : Nat} {v : Value} (h : PM1 w mb hb v) : mb < w.heap.size := by
  unfold PM1 at h
  exact (Array.getElem?_eq_some_iff.mp h).1
theorem PM1.below {w w' : World} {mb hb : Nat} {v : Value} (h : PM1 w mb hb v) (hb' : Below w.heap.size w w') : PM1 w' mb hb v := h.blk (hb'.block mb h.lt)
theorem PM0.look {w : World} {mb b : Nat} (h : PM0 w mb) (c : Bool) : (Instr.lookup 158 (.map (some mb)) (.pointer (some ⟨b, 0, none⟩)) c).run Tryz.prog w = .ok (if c then .tuple #[.int .i64 0, .bool false] else .int .i64 0) w := by
  unfold PM0 at h
  have hz : (zeroValue 3).run Tryz.prog w = .ok (.int .i64 0) w := by kernel_rfl
  cases c <;> simp [Instr.lookup, run_underlying Tryz.underlying158, run_underlying Tryz.underlying99, h, run_getObj_map w _ _ _ h, ckey', Instr.findKey, Instr.findNow, hz]
theorem PM0.lookB {w : World} {mb b : Nat} (h : PM0 w mb) : (Instr.lookup 163 (.map (some mb)) (.pointer (some ⟨b, 0, none⟩)) false).run Tryz.prog w = .ok (.bool false) w := by
  unfold PM0 at h
  have hz : (zeroValue 4).run Tryz.prog w = .ok (.bool false) w := by kernel_rfl
  simp [Instr.lookup, run_underlying Tryz.underlying163, run_underlying Tryz.underlying99, h, run_getObj_map w _ _ _ h, ckey', Instr.findKey, Instr.findNow, hz]
theorem eq_same (w : World) (b : Nat) : (Op.equal 99 (.pointer (some ⟨b, 0, none⟩)) (.pointer (some ⟨b, 0, none⟩))).run Tryz.prog w = .ok true w := by
  have hs : (sizeOf 98).run Tryz.prog w = .ok 12 w := by kernel_rfl
  have hd : ∀ d, (Op.equalIn (d + 1) 99 (.pointer (some ⟨b, 0, none⟩)) (.pointer (some ⟨b, 0, none⟩))).run Tryz.prog w = .ok true w := fun d => by simp [Op.equalIn, run_underlying Tryz.underlying99, hs, sameAddr]
  exact hd 9999
theorem eq_other {w : World} {a b : Nat} {va vb : Value} (hab : a ≠ b) (ha : w.cell? ⟨a, 0, none⟩ = some va) (fa : ∀ o, w.frozen? ⟨a, o, none⟩ = false) (hb : w.cell? ⟨b, 0, none⟩ = some vb) (fb : ∀ o, w.frozen? ⟨b, o, none⟩ = false) : (Op.equal 99 (.pointer (some ⟨a, 0, none⟩)) (.pointer (some ⟨b, 0, none⟩))).run Tryz.prog w = .ok false w := by
  have hs : (sizeOf 98).run Tryz.prog w = .ok 12 w := by kernel_rfl
  have hd : ∀ d, (Op.equalIn (d + 1) 99 (.pointer (some ⟨a, 0, none⟩)) (.pointer (some ⟨b, 0, none⟩))).run Tryz.prog w = .ok false w := fun d => by simp [Op.equalIn, run_underlying Tryz.underlying99, hs, same_other hab ha fa hb fb]
  exact hd 9999
theorem PM1.look {w : World} {mb hb : Nat} {v : Value} (h : PM1 w mb hb v) : (Instr.lookup 158 (.map (some mb)) (.pointer (some ⟨hb, 0, none⟩)) false).run Tryz.prog w = .ok v w := by
  unfold PM1 at h
  simp [Instr.lookup, run_underlying Tryz.underlying158, run_underlying Tryz.underlying99, h, run_getObj_map w _ _ _ h, ckey', Instr.findKey, Instr.findNow, Instr.sameNow, Instr.findAsking, eq_same]
theorem PM1.miss {w : World} {mb hb rb : Nat} {v va vb : Value} (h : PM1 w mb hb v) (hab : rb ≠ hb) (ha : w.cell? ⟨rb, 0, none⟩ = some va) (fa : ∀ o, w.frozen? ⟨rb, o, none⟩ = false) (hb' : w.cell? ⟨hb, 0, none⟩ = some vb) (fb : ∀ o, w.frozen? ⟨hb, o, none⟩ = false) : (Instr.lookup 158 (.map (some mb)) (.pointer (some ⟨rb, 0, none⟩)) true).run Tryz.prog w = .ok (.tuple #[.int .i64 0, .bool false]) w := by
  unfold PM1 at h
  have hz : (zeroValue 3).run Tryz.prog w = .ok (.int .i64 0) w := by kernel_rfl
  simp [Instr.lookup, run_underlying Tryz.underlying158, run_underlying Tryz.underlying99, h, run_getObj_map w _ _ _ h, ckey', Instr.findKey, Instr.findNow, Instr.sameNow, Instr.findAsking, eq_other hab ha fa hb' fb, hz]
theorem PM1.missB {w : World} {mb hb rb : Nat} {v va vb : Value} (h : PM1 w mb hb v) (hab : rb ≠ hb) (ha : w.cell? ⟨rb, 0, none⟩ = some va) (fa : ∀ o, w.frozen? ⟨rb, o, none⟩ = false) (hb' : w.cell? ⟨hb, 0, none⟩ = some vb) (fb : ∀ o, w.frozen? ⟨hb, o, none⟩ = false) : (Instr.lookup 163 (.map (some mb)) (.pointer (some ⟨rb, 0, none⟩)) false).run Tryz.prog w = .ok (.bool false) w := by
  unfold PM1 at h
  have hz : (zeroValue 4).run Tryz.prog w = .ok (.bool false) w := by kernel_rfl
  simp [Instr.lookup, run_underlying Tryz.underlying163, run_underlying Tryz.underlying99, h, run_getObj_map w _ _ _ h, ckey', Instr.findKey, Instr.findNow, Instr.sameNow, Instr.findAsking, eq_other hab ha fa hb' fb, hz]
theorem setObj_map {w : World} {r : Nat} {es : Array MapEntry} {clock : Nat} (o : Obj) (hb : w.heap[r]? = some (.map es clock)) : (setObj r o).run Tryz.prog w = .ok () { w with heap := w.heap.setIfInBounds r o } := by
  simp [setObj, Sem.run, hb]
theorem PM0.put {w : World} {mb hb : Nat} (h : PM0 w mb) (T : TypeId) (hT : T = 158 ∨ T = 163) (v : Value) : ∃ w', (Instr.mapUpdate T (.map (some mb)) (.pointer (some ⟨hb, 0, none⟩)) v).run Tryz.prog w = .ok () w' ∧ PM1 w' mb hb v ∧ Wr mb w w' := by
  unfold PM0 at h
  have hl : mb < w.heap.size := (Array.getElem?_eq_some_iff.mp h).1
  refine ⟨{ w with heap := w.heap.setIfInBounds mb (.map #[{ key := .pointer (some ⟨hb, 0, none⟩), val := v, born := 0 }] 1) }, ?_, ?_, ?_⟩
  · rcases hT with rfl | rfl
    · simp [Instr.mapUpdate, run_underlying Tryz.underlying158, run_underlying Tryz.underlying99, h, run_getObj_map w _ _ _ h, ckey', Instr.findKey, Instr.findNow, setObj_map _ h]
    · simp [Instr.mapUpdate, run_underlying Tryz.underlying163, run_underlying Tryz.underlying99, h, run_getObj_map w _ _ _ h, ckey', Instr.findKey, Instr.findNow, setObj_map _ h]
  · simp [PM1, hl]
  · refine ⟨rfl, rfl, rfl, by simp, fun q h1 h2 => ?_⟩
    rw [Array.getElem?_setIfInBounds_ne (fun e => h2 e.symm)]
theorem PM0.len {w : World} {mb : Nat} (h : PM0 w mb) (ty : TypeId) : (Builtin.len_ #[158] ty #[.map (some mb)]).run Tryz.prog w = .ok (.int .i64 0) w := by
  unfold PM0 at h
  simp [Builtin.len_, run_underlying Tryz.underlying158, h, run_getObj_map w _ _ _ h]
  rfl
theorem PM1.len {w : World} {mb hb : Nat} {v : Value} (h : PM1 w mb hb v) (ty : TypeId) : (Builtin.len_ #[158] ty #[.map (some mb)]).run Tryz.prog w = .ok (.int .i64 1) w := by
  unfold PM1 at h
  simp [Builtin.len_, run_underlying Tryz.underlying158, h, run_getObj_map w _ _ _ h]
  rfl
end Go.Proofs.Qxb6500880aGreat
