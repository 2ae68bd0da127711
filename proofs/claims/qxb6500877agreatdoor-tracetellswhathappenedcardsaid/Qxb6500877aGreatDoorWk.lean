import Derived.Test.Qxb6500877aGreatDoorWj
set_option linter.unusedVariables false
set_option linter.unusedSimpArgs false
namespace Go.Proofs.Qxb6500877aGreatDoor
open Go.RowKit

theorem has_not {D : DataW Unit} {k : Lit} (h : Maps.has D k = false) (z : DataW Unit) : D.atKey k z = z := Maps.atKey_of_not_has h z
/-- The timers' map as a function. -/
def MapOf (w : World) (mb n : Nat) (f : Int → Option Int) : Prop :=
  ∃ D, MapAt w mb n D ∧ ∀ id : Int, 0 ≤ id → id < 18446744073709551616 → Maps.has D (.int .u64 id) = (f id).isSome ∧ D.atKey (.int .u64 id) (.lit (.int .i16 0)) = .lit (.int .i16 ((f id).getD 0))
theorem MapOf.drew {w : World} {mb n : Nat} {f : Int → Option Int} (h : MapOf w mb n f) : MapOf w.drew mb n f := by
  obtain ⟨D, h, r⟩ := h
  exact ⟨D, h.drew, r⟩
theorem MapOf.lt {w : World} {mb n : Nat} {f : Int → Option Int} (h : MapOf w mb n f) : mb < w.heap.size := by
  obtain ⟨D, h, r⟩ := h
  exact h.lt
theorem MapOf.cell {w : World} {mb n : Nat} {f : Int → Option Int} (h : MapOf w mb n f) {a : Addr} (ha : mb ≠ a.block) (u : Value) : MapOf (w.setCell a u) mb n f := by
  obtain ⟨D, h, r⟩ := h
  exact ⟨D, h.cell ha u, r⟩
theorem MapOf.mut {w w' : World} {mb n B lo hi : Nat} {f : Int → Option Int} (h : MapOf w mb n f) (m : Mut B lo hi w w') (hb : mb ≠ B) : MapOf w' mb n f := by
  obtain ⟨D, h, r⟩ := h
  exact ⟨D, h.mut m hb, r⟩
theorem MapOf.mono {w : World} {mb n n' : Nat} {f : Int → Option Int} (h : MapOf w mb n f) (hn : n ≤ n') : MapOf w mb n' f := by
  obtain ⟨D, h, r⟩ := h
  exact ⟨D, World.ownsMap.mono h hn, r⟩
theorem MapOf.block {w w' : World} {mb n : Nat} {f : Int → Option Int} (h : MapOf w mb n f) (hb : w'.heap[mb]? = w.heap[mb]?) : MapOf w' mb n f := by
  obtain ⟨D, ⟨es, clock, hm, q⟩, r⟩ := h
  exact ⟨D, ⟨es, clock, hb.trans hm, q⟩, r⟩
theorem wf64 {id : Int} (h0 : 0 ≤ id) (h1 : id < 18446744073709551616) : (Lit.int .u64 id).wf = true := by
  show (decide ((0 : Int) ≤ id) && decide (id ≤ 18446744073709551615)) = true
  simp; omega
theorem wf16 {v : Int} (h0 : -32768 ≤ v) (h1 : v < 32768) : (Lit.int .i16 v).wf = true := by
  show (decide ((-32768 : Int) ≤ v) && decide (v ≤ 32767)) = true
  simp; omega
theorem key64 {id : Int} (h0 : 0 ≤ id) (h1 : id < 18446744073709551616) : keyOf Tryz.prog 36 (.int .u64 id) = some (.int .u64 id) :=
  Maps.keyOf_int_mk Tryz.underlying36 (wf64 h0 h1)
theorem isKey64 (id : Int) : WideAt.IsKeyLit (.int .u64 id) := by simp [WideAt.IsKeyLit]
theorem MapOf.look {w : World} {mb n : Nat} {f : Int → Option Int} (h : MapOf w mb n f) {id : Int} (h0 : 0 ≤ id) (h1 : id < 18446744073709551616) :
    (Instr.lookup 161 (.map (some mb)) (.int .u64 id) true).run Tryz.prog w = .ok (.tuple #[.int .i16 ((f id).getD 0), .bool (f id).isSome]) w := by
  obtain ⟨D, h, r⟩ := h
  obtain ⟨v, ps, hrun, hv⟩ := World.ownsMap.look_ok h mapLaw Tryz.underlying161 (zero156 w) (zd := .lit (.int .i16 0)) (zp := []) (plainElem_int Tryz.underlying156 (by decide)) (key64 h0 h1)
  obtain ⟨c, rfl, hc, _⟩ := plainElem_int_inv Tryz.underlying156 hv
  obtain ⟨r1, r2⟩ := r id h0 h1
  rw [hrun, r1]
  have : D.atKey (.int .u64 id) (.lit (.int .i16 0)) = .lit (.int .i16 c) := congrArg Prod.fst hc
  rw [r2] at this
  have e := (Lit.int.inj (DataW.lit.inj this)).2
  subst e
  rfl
theorem MapOf.drop {w : World} {mb n : Nat} {f : Int → Option Int} (h : MapOf w mb n f) {id : Int} (h0 : 0 ≤ id) (h1 : id < 18446744073709551616) (ty : TypeId) :
    ∃ w', (Builtin.delete_ #[161, 36] ty #[.map (some mb), .int .u64 id]).run Tryz.prog w = .ok (.tuple #[]) w' ∧ MapOf w' mb n (fun j => if j = id then none else f j) ∧ w.mapTurned w' mb := by
  obtain ⟨D, h, r⟩ := h
  obtain ⟨w', hrun, hm, ht⟩ := World.ownsMap.drop h mapLaw Tryz.underlying161 (key64 h0 h1) ty
  refine ⟨w', hrun, ⟨_, hm, fun j j0 j1 => ?_⟩, ht⟩
  by_cases e : j = id
  · subst e
    simp only [if_true]
    rw [Maps.has_del_same, Maps.atKey_del_same]
    exact ⟨rfl, rfl⟩
  · simp only [if_neg e]
    rw [Maps.has_del_other (by simpa using e), Maps.atKey_del_other (by simpa using e)]
    exact r j j0 j1
theorem MapOf.store {w : World} {mb n : Nat} {f : Int → Option Int} (h : MapOf w mb n f) (hn : n < maxLen) {id v : Int} (h0 : 0 ≤ id) (h1 : id < 18446744073709551616) (v0 : -32768 ≤ v) (v1 : v < 32768) :
    ∃ w', (Instr.mapUpdate 161 (.map (some mb)) (.int .u64 id) (.int .i16 v)).run Tryz.prog w = .ok () w' ∧ MapOf w' mb (n + 1) (fun j => if j = id then some v else f j) ∧ w.mapTurned w' mb := by
  obtain ⟨D, h, r⟩ := h
  have hI := World.ownsMap.isMap h
  obtain ⟨w', hrun, hm, ht⟩ := World.ownsMap.store h mapLaw Tryz.underlying161 hn (val := .int .i16 v) (key64 h0 h1) (plainElem_int (a := v) Tryz.underlying156 (wf16 v0 v1))
  refine ⟨w', hrun, ⟨_, hm, fun j j0 j1 => ?_⟩, ht⟩
  by_cases e : j = id
  · subst e
    simp only [if_true]
    rw [Maps.has_put_same hI (isKey64 _), Maps.atKey_put_same hI (isKey64 _)]
    exact ⟨rfl, rfl⟩
  · simp only [if_neg e]
    rw [Maps.has_put_other (by simpa using e), Maps.atKey_put_other (by simpa using e)]
    exact r j j0 j1

end Go.Proofs.Qxb6500877aGreatDoor
