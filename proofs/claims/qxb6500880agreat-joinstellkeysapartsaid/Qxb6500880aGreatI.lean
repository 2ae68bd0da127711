import Derived.Deep.CutBlock
import Derived.OwnWalk
import Derived.Maps.AppendAt
import Derived.Maps.OwnSet
import Derived.Maps.OwnOps
import Derived.Test.Qxb6500880aGreatH
set_option linter.unusedVariables false
set_option linter.unusedSimpArgs false
namespace Go.Proofs.Qxb6500880aGreat
open Go.RowKit

theorem MapRlaw : Maps.Keyed Tryz.prog 3 := Maps.int_keyed Tryz.underlying3
theorem MapRzero (w : World) : (zeroValue 3).run Tryz.prog w = .ok (.int .i64 0) w := by kernel_rfl
/-- A map in block mb, as a function. -/
def MapR (w : World) (mb n : Nat) (f : Int → Option Int) : Prop :=
  ∃ D : DataW Unit, w.ownsMap Tryz.prog 3 (plainElem Tryz.prog 3) mb n D ∧ (∀ id : Int, (-9223372036854775808) ≤ id → id < 9223372036854775808 → Maps.has D (.int .i64 id) = (f id).isSome ∧ D.atKey (.int .i64 id) (.lit (.int .i64 0)) = .lit (.int .i64 ((f id).getD 0))) ∧ Maps.size D = n
theorem MapR.blk {w w' : World} {mb n : Nat} {f : Int → Option Int} (h : MapR w mb n f) (hb : w'.heap[mb]? = w.heap[mb]?) : MapR w' mb n f := by
  obtain ⟨D, ⟨es, clock, hm, q⟩, r⟩ := h
  exact ⟨D, ⟨es, clock, hb.trans hm, q⟩, r⟩
theorem MapR.lt {w : World} {mb n : Nat} {f : Int → Option Int} (h : MapR w mb n f) : mb < w.heap.size := by
  obtain ⟨D, h, r⟩ := h
  exact World.ownsMap.lt h
theorem MapR.below {w w' : World} {mb n : Nat} {f : Int → Option Int} (h : MapR w mb n f) (hb : Below w.heap.size w w') : MapR w' mb n f := h.blk (hb.block mb h.lt)
theorem MapR_new (w : World) : MapR (w.alloc (.map #[] 0)) w.heap.size 0 (fun _ => none) := by
  refine ⟨_, World.ownsMap_made w _ _ _, fun id _ _ => ⟨rfl, rfl⟩, rfl⟩
theorem MapRwfk {id : Int} (h0 : (-9223372036854775808) ≤ id) (h1 : id < 9223372036854775808) : (Lit.int .i64 id).wf = true := by
  show (decide (((-9223372036854775808) : Int) ≤ id) && decide (id ≤ 9223372036854775808 - 1)) = true
  simp; omega
theorem MapRwfe {id : Int} (h0 : (-9223372036854775808) ≤ id) (h1 : id < 9223372036854775808) : (Lit.int .i64 id).wf = true := by
  show (decide (((-9223372036854775808) : Int) ≤ id) && decide (id ≤ 9223372036854775808 - 1)) = true
  simp; omega
theorem MapRkey {id : Int} (h0 : (-9223372036854775808) ≤ id) (h1 : id < 9223372036854775808) : keyOf Tryz.prog 3 (.int .i64 id) = some (.int .i64 id) :=
  Maps.keyOf_int_mk Tryz.underlying3 (MapRwfk h0 h1)
theorem MapR.look {w : World} {mb n : Nat} {f : Int → Option Int} (h : MapR w mb n f) {id : Int} (h0 : (-9223372036854775808) ≤ id) (h1 : id < 9223372036854775808) :
    (Instr.lookup 88 (.map (some mb)) (.int .i64 id) true).run Tryz.prog w = .ok (.tuple #[.int .i64 ((f id).getD 0), .bool (f id).isSome]) w := by
  obtain ⟨D, h, r, _⟩ := h
  obtain ⟨v, ps, hrun, hv⟩ := World.ownsMap.look_ok h MapRlaw Tryz.underlying88 (MapRzero w) (zd := .lit (.int .i64 0)) (zp := []) (plainElem_int Tryz.underlying3 (by decide)) (MapRkey h0 h1)
  obtain ⟨c, rfl, hc, _⟩ := plainElem_int_inv Tryz.underlying3 hv
  obtain ⟨r1, r2⟩ := r id h0 h1
  rw [hrun, r1]
  have : D.atKey (.int .i64 id) (.lit (.int .i64 0)) = .lit (.int .i64 c) := congrArg Prod.fst hc
  rw [r2] at this
  have e := (Lit.int.inj (DataW.lit.inj this)).2
  subst e
  rfl
theorem MapR.len {w : World} {mb n : Nat} {f : Int → Option Int} (h : MapR w mb n f) (ty : TypeId) : (Builtin.len_ #[88] ty #[.map (some mb)]).run Tryz.prog w = .ok (.int .i64 (n : Int)) w := by
  obtain ⟨D, h, _, e⟩ := h
  rw [World.ownsMap.len h Tryz.underlying88 ty, e]
theorem MapR.store {w : World} {mb n : Nat} {f : Int → Option Int} (h : MapR w mb n f) (hn : n < 1000000) {id v : Int} (h0 : (-9223372036854775808) ≤ id) (h1 : id < 9223372036854775808) (v0 : (-9223372036854775808) ≤ v) (v1 : v < 9223372036854775808) (hf : f id = none) :
    ∃ w', (Instr.mapUpdate 88 (.map (some mb)) (.int .i64 id) (.int .i64 v)).run Tryz.prog w = .ok () w' ∧ MapR w' mb (n + 1) (fun j => if j = id then some v else f j) ∧ Wr mb w w' := by
  obtain ⟨D, h, r, e⟩ := h
  have hI := World.ownsMap.isMap h
  obtain ⟨w', hrun, hm, ht⟩ := World.ownsMap.store h MapRlaw Tryz.underlying88 (by unfold maxLen; omega) (val := .int .i64 v) (MapRkey h0 h1) (plainElem_int (a := v) Tryz.underlying3 (MapRwfe v0 v1))
  have ik : WideAt.IsKeyLit (.int .i64 id) := by simp [WideAt.IsKeyLit]
  refine ⟨w', hrun, ⟨_, hm, fun j j0 j1 => ?_, ?_⟩, ?_⟩
  · by_cases q : j = id
    · subst q
      simp only [if_true]
      rw [Maps.has_put_same hI ik, Maps.atKey_put_same hI ik]
      exact ⟨rfl, rfl⟩
    · simp only [if_neg q]
      rw [Maps.has_put_other (by simpa using q), Maps.atKey_put_other (by simpa using q)]
      exact r j j0 j1
  · rw [Maps.size_put (World.ownsMap.tidy h MapRlaw), (r id h0 h1).1, hf, e]
    rfl
  · have hg := ht.grown
    exact ⟨hg.os, hg.tape, hg.output, hg.size, fun q h1 h2 => hg.block q h1 (fun z => h2 (by simpa using z))⟩
theorem MapSlaw : Maps.Keyed Tryz.prog 2 := Maps.int_keyed Tryz.underlying2
theorem MapSzero (w : World) : (zeroValue 109).run Tryz.prog w = .ok (.int .u32 0) w := by kernel_rfl
/-- A map in block mb, as a function. -/
def MapS (w : World) (mb n : Nat) (f : Int → Option Int) : Prop :=
  ∃ D : DataW Unit, w.ownsMap Tryz.prog 2 (plainElem Tryz.prog 109) mb n D ∧ (∀ id : Int, (-9223372036854775808) ≤ id → id < 9223372036854775808 → Maps.has D (.int .i64 id) = (f id).isSome ∧ D.atKey (.int .i64 id) (.lit (.int .u32 0)) = .lit (.int .u32 ((f id).getD 0))) ∧ Maps.size D = n
theorem MapS.blk {w w' : World} {mb n : Nat} {f : Int → Option Int} (h : MapS w mb n f) (hb : w'.heap[mb]? = w.heap[mb]?) : MapS w' mb n f := by
  obtain ⟨D, ⟨es, clock, hm, q⟩, r⟩ := h
  exact ⟨D, ⟨es, clock, hb.trans hm, q⟩, r⟩
theorem MapS.lt {w : World} {mb n : Nat} {f : Int → Option Int} (h : MapS w mb n f) : mb < w.heap.size := by
  obtain ⟨D, h, r⟩ := h
  exact World.ownsMap.lt h
theorem MapS.below {w w' : World} {mb n : Nat} {f : Int → Option Int} (h : MapS w mb n f) (hb : Below w.heap.size w w') : MapS w' mb n f := h.blk (hb.block mb h.lt)
theorem MapS_new (w : World) : MapS (w.alloc (.map #[] 0)) w.heap.size 0 (fun _ => none) := by
  refine ⟨_, World.ownsMap_made w _ _ _, fun id _ _ => ⟨rfl, rfl⟩, rfl⟩
theorem MapSwfk {id : Int} (h0 : (-9223372036854775808) ≤ id) (h1 : id < 9223372036854775808) : (Lit.int .i64 id).wf = true := by
  show (decide (((-9223372036854775808) : Int) ≤ id) && decide (id ≤ 9223372036854775808 - 1)) = true
  simp; omega
theorem MapSwfe {id : Int} (h0 : 0 ≤ id) (h1 : id < 4294967296) : (Lit.int .u32 id).wf = true := by
  show (decide ((0 : Int) ≤ id) && decide (id ≤ 4294967296 - 1)) = true
  simp; omega
theorem MapSkey {id : Int} (h0 : (-9223372036854775808) ≤ id) (h1 : id < 9223372036854775808) : keyOf Tryz.prog 2 (.int .i64 id) = some (.int .i64 id) :=
  Maps.keyOf_int_mk Tryz.underlying2 (MapSwfk h0 h1)
theorem MapS.look {w : World} {mb n : Nat} {f : Int → Option Int} (h : MapS w mb n f) {id : Int} (h0 : (-9223372036854775808) ≤ id) (h1 : id < 9223372036854775808) :
    (Instr.lookup 126 (.map (some mb)) (.int .i64 id) true).run Tryz.prog w = .ok (.tuple #[.int .u32 ((f id).getD 0), .bool (f id).isSome]) w := by
  obtain ⟨D, h, r, _⟩ := h
  obtain ⟨v, ps, hrun, hv⟩ := World.ownsMap.look_ok h MapSlaw Tryz.underlying126 (MapSzero w) (zd := .lit (.int .u32 0)) (zp := []) (plainElem_int Tryz.underlying109 (by decide)) (MapSkey h0 h1)
  obtain ⟨c, rfl, hc, _⟩ := plainElem_int_inv Tryz.underlying109 hv
  obtain ⟨r1, r2⟩ := r id h0 h1
  rw [hrun, r1]
  have : D.atKey (.int .i64 id) (.lit (.int .u32 0)) = .lit (.int .u32 c) := congrArg Prod.fst hc
  rw [r2] at this
  have e := (Lit.int.inj (DataW.lit.inj this)).2
  subst e
  rfl
theorem MapS.len {w : World} {mb n : Nat} {f : Int → Option Int} (h : MapS w mb n f) (ty : TypeId) : (Builtin.len_ #[126] ty #[.map (some mb)]).run Tryz.prog w = .ok (.int .i64 (n : Int)) w := by
  obtain ⟨D, h, _, e⟩ := h
  rw [World.ownsMap.len h Tryz.underlying126 ty, e]
theorem MapS.store {w : World} {mb n : Nat} {f : Int → Option Int} (h : MapS w mb n f) (hn : n < 1000000) {id v : Int} (h0 : (-9223372036854775808) ≤ id) (h1 : id < 9223372036854775808) (v0 : 0 ≤ v) (v1 : v < 4294967296) (hf : f id = none) :
    ∃ w', (Instr.mapUpdate 126 (.map (some mb)) (.int .i64 id) (.int .u32 v)).run Tryz.prog w = .ok () w' ∧ MapS w' mb (n + 1) (fun j => if j = id then some v else f j) ∧ Wr mb w w' := by
  obtain ⟨D, h, r, e⟩ := h
  have hI := World.ownsMap.isMap h
  obtain ⟨w', hrun, hm, ht⟩ := World.ownsMap.store h MapSlaw Tryz.underlying126 (by unfold maxLen; omega) (val := .int .u32 v) (MapSkey h0 h1) (plainElem_int (a := v) Tryz.underlying109 (MapSwfe v0 v1))
  have ik : WideAt.IsKeyLit (.int .i64 id) := by simp [WideAt.IsKeyLit]
  refine ⟨w', hrun, ⟨_, hm, fun j j0 j1 => ?_, ?_⟩, ?_⟩
  · by_cases q : j = id
    · subst q
      simp only [if_true]
      rw [Maps.has_put_same hI ik, Maps.atKey_put_same hI ik]
      exact ⟨rfl, rfl⟩
    · simp only [if_neg q]
      rw [Maps.has_put_other (by simpa using q), Maps.atKey_put_other (by simpa using q)]
      exact r j j0 j1
  · rw [Maps.size_put (World.ownsMap.tidy h MapSlaw), (r id h0 h1).1, hf, e]
    rfl
  · have hg := ht.grown
    exact ⟨hg.os, hg.tape, hg.output, hg.size, fun q h1 h2 => hg.block q h1 (fun z => h2 (by simpa using z))⟩
end Go.Proofs.Qxb6500880aGreat
