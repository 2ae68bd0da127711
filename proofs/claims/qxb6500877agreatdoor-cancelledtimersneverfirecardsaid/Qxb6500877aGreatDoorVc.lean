import Derived.Test.Qxb6500877aGreatDoorVb
import Derived.Test.Qxb6500877aGreatDoorUMl0
set_option linter.unusedVariables false
set_option linter.unusedSimpArgs false
namespace Go.Proofs.Qxb6500877aGreatDoor
open Go.RowKit

/-- The law's map of cancelled timers. -/
def MapB (w : World) (b n : Nat) (χ : Int → Bool) : Prop :=
  ∃ D : DataW Unit, w.ownsMap Tryz.prog 36 (plainElem Tryz.prog 4) b n D ∧ ∀ id : Int, 0 ≤ id → id < 18446744073709551616 → D.atKey (.int .u64 id) (.lit (.bool false)) = .lit (.bool (χ id))
theorem MapB.block {w w' : World} {b n : Nat} {χ : Int → Bool} (h : MapB w b n χ) (hb : w'.heap[b]? = w.heap[b]?) : MapB w' b n χ := by
  obtain ⟨D, ⟨es, clock, hm, q⟩, r⟩ := h
  exact ⟨D, ⟨es, clock, hb.trans hm, q⟩, r⟩
theorem MapB.lt {w : World} {b n : Nat} {χ : Int → Bool} (h : MapB w b n χ) : b < w.heap.size := by
  obtain ⟨D, h, r⟩ := h
  exact World.ownsMap.lt h
theorem MapB.mono {w : World} {b n n' : Nat} {χ : Int → Bool} (h : MapB w b n χ) (hn : n ≤ n') : MapB w b n' χ := by
  obtain ⟨D, h, r⟩ := h
  exact ⟨D, World.ownsMap.mono h hn, r⟩
theorem MapB.store {w : World} {b n : Nat} {χ : Int → Bool} (h : MapB w b n χ) (hn : n < maxLen) {id : Int} (h0 : 0 ≤ id) (h1 : id < 18446744073709551616) (x : Bool) :
    ∃ w', (Instr.mapUpdate 89 (.map (some b)) (.int .u64 id) (.bool x)).run Tryz.prog w = .ok () w' ∧ MapB w' b (n + 1) (fun j => if j = id then x else χ j) ∧ w.mapTurned w' b := by
  obtain ⟨D, h, r⟩ := h
  have hI := World.ownsMap.isMap h
  obtain ⟨w', hrun, hm, ht⟩ := World.ownsMap.store h mapLaw Tryz.underlying89 hn (val := .bool x) (key64 h0 h1) (plainElem_bool Tryz.underlying4 x)
  refine ⟨w', hrun, ⟨_, hm, fun j j0 j1 => ?_⟩, ht⟩
  by_cases e : j = id
  · subst e
    simp only [if_true]
    rw [Maps.atKey_put_same hI (isKey64 _)]
  · simp only [if_neg e]
    rw [Maps.atKey_put_other (by simpa using e)]
    exact r j j0 j1
/-- The law's book: pending timers, cancelled timers. -/
structure BookAt (w : World) (bk pb cb n : Nat) (τ : Int → Option TmV) (χ : Int → Bool) : Prop where
  c0 : w.cell? ⟨bk, 0, none⟩ = some (.map (some pb))
  c1 : w.cell? ⟨bk, 1, none⟩ = some (.map (some cb))
  pm : MapT w pb n τ
  cm : MapB w cb n χ
  ne : bk ≠ pb ∧ bk ≠ cb ∧ pb ≠ cb
theorem BookAt.keep {w w' : World} {bk pb cb n : Nat} {τ : Int → Option TmV} {χ : Int → Bool} (h : BookAt w bk pb cb n τ χ) (hk : ∀ k, k = bk ∨ k = pb ∨ k = cb → w'.heap[k]? = w.heap[k]?) : BookAt w' bk pb cb n τ χ :=
  ⟨(World.cell?_of_block (a := ⟨bk, 0, none⟩) (hk bk (by omega))).trans h.c0, (World.cell?_of_block (a := ⟨bk, 1, none⟩) (hk bk (by omega))).trans h.c1, h.pm.block (hk pb (by omega)), h.cm.block (hk cb (by omega)), h.ne⟩
theorem BookAt.lt {w : World} {bk pb cb n : Nat} {τ : Int → Option TmV} {χ : Int → Bool} (h : BookAt w bk pb cb n τ χ) : bk < w.heap.size ∧ pb < w.heap.size ∧ cb < w.heap.size := ⟨World.block_lt_of_cell? _ _ h.c0, h.pm.lt, h.cm.lt⟩
theorem BookAt.mono {w : World} {bk pb cb n n' : Nat} {τ : Int → Option TmV} {χ : Int → Bool} (h : BookAt w bk pb cb n τ χ) (hn : n ≤ n') : BookAt w bk pb cb n' τ χ := ⟨h.c0, h.c1, h.pm.mono hn, h.cm.mono hn, h.ne⟩
theorem BookAt.below {w w' : World} {bk pb cb n : Nat} {τ : Int → Option TmV} {χ : Int → Bool} (h : BookAt w bk pb cb n τ χ) (hb : Below w.heap.size w w') : BookAt w' bk pb cb n τ χ := by
  have := h.lt
  exact h.keep fun k hk => hb.block k (by omega)
theorem BookAt.drew {w : World} {bk pb cb n : Nat} {τ : Int → Option TmV} {χ : Int → Bool} (h : BookAt w bk pb cb n τ χ) : BookAt w.drew bk pb cb n τ χ := h.keep fun _ _ => rfl
/-- Of what was there, only the two maps have turned. -/
structure MutM (pb cb : Nat) (w w' : World) : Prop where
  os : w'.os = w.os
  tape : w'.tape = w.tape
  output : w'.output = w.output
  size : w.heap.size ≤ w'.heap.size
  block : ∀ k, k < w.heap.size → k ≠ pb → k ≠ cb → w'.heap[k]? = w.heap[k]?
theorem MutM.refl (pb cb : Nat) (w : World) : MutM pb cb w w := ⟨rfl, rfl, rfl, Nat.le_refl _, fun _ _ _ _ => rfl⟩
theorem MutM.trans {pb cb : Nat} {a b c : World} (h : MutM pb cb a b) (k : MutM pb cb b c) : MutM pb cb a c :=
  ⟨k.os.trans h.os, k.tape.trans h.tape, k.output.trans h.output, Nat.le_trans h.size k.size, fun i hi h1 h2 => (k.block i (Nat.lt_of_lt_of_le hi h.size) h1 h2).trans (h.block i hi h1 h2)⟩
theorem MutM.drew {pb cb : Nat} {w w' : World} (h : MutM pb cb w w') : MutM pb cb w w'.drew := ⟨h.os, h.tape, h.output, h.size, h.block⟩
theorem MutM.below {pb cb : Nat} {w w' : World} (h : Below w.heap.size w w') : MutM pb cb w w' := ⟨h.os, h.tape, h.output, h.size, fun k hk _ _ => h.block k hk⟩
theorem MutM.turned {pb cb m : Nat} {w w' : World} (h : w.mapTurned w' m) (hm : m = pb ∨ m = cb) : MutM pb cb w w' := by
  have hk := fun {k : Nat} (hk : k ≠ m) => turned_block h hk
  obtain ⟨es, c, es', c', hb, rfl⟩ := h
  exact ⟨rfl, rfl, rfl, by simp [Go.ChangeMaps.setBlock], fun k _ h1 h2 => hk (by omega)⟩
theorem MutM.fresh {pb cb : Nat} {w w' : World} (h : MutM pb cb w w') (q : Addr) (hq : w.heap.size ≤ q.block) (v : Value) : MutM pb cb w (w'.setCell q v) :=
  ⟨h.os, h.tape, h.output, by have := h.size; simpa using this, fun k hk h1 h2 => (heap_set (by omega)).trans (h.block k hk h1 h2)⟩
theorem tm_same (id : Int) (v : TmV) (w : World) : (Op.equalIn 10000 84 (tmVal id v) (tmVal id v)).run Tryz.prog w = .ok true w := by
  have hS : Tryz.prog.underlying 84 = some (.struct (Tryz.prog.fieldsOf 84)) := by kernel_rfl
  have hp : Tryz.prog.stoodInHeld 84 = false := by kernel_rfl
  unfold tmVal
  rw [show (10000 : Nat) = 9999 + 1 from rfl, run_equalIn_agg w 9999 84 _ _ hS hp]
  simp only [Program.fieldsOf, Tryz.underlying84]
  go_simp
theorem tm_neq (id c d k : Int) (w : World) : (binOp .neq 84 (.agg #[.int .u64 id, .int .i64 c, .int .u64 d, .int .u64 k]) (.agg #[.int .u64 id, .int .i64 c, .int .u64 d, .int .u64 k])).run Tryz.prog w = .ok (.bool false) w := by
  have h := tm_same id ⟨c, d, k⟩ w
  unfold tmVal at h
  rw [run_neq_struct, h]
  rfl
theorem guard84 : Tryz.prog.eqGuardType Tryz.prog.depth 84 = false := by kernel_rfl
theorem make88 (w : World) : (Instr.makeMap 88 none).run Tryz.prog w = .ok (.map (some w.heap.size)) (w.alloc (.map #[] 0)) := by kernel_rfl
theorem make89 (w : World) : (Instr.makeMap 89 none).run Tryz.prog w = .ok (.map (some w.heap.size)) (w.alloc (.map #[] 0)) := by kernel_rfl
theorem mapT_made (w : World) : MapT (w.alloc (.map #[] 0)) w.heap.size 0 (fun _ => none) := ⟨.map [], World.ownsMap_made w _ _ _, fun id _ _ => ⟨rfl, rfl⟩⟩
theorem mapB_made (w : World) : MapB (w.alloc (.map #[] 0)) w.heap.size 0 (fun _ => false) := ⟨.map [], World.ownsMap_made w _ _ _, fun id _ _ => rfl⟩
set_option maxHeartbeats 2000000 in
theorem book_new (w : World) : Calls Tryz.prog 36 #[] w fun e w' => ∃ bk pb cb, e = .returned (.pointer (some ⟨bk, 0, none⟩)) ∧ BookAt w' bk pb cb 0 (fun _ => none) (fun _ => false) ∧ w.heap.size ≤ bk ∧ w.heap.size ≤ pb ∧ w.heap.size ≤ cb ∧ Below w.heap.size w w' := by
  have h1 := make88 w
  have h2 := make89 (w.alloc (.map #[] 0))
  have b1 := one_alloc w (.map #[] 0)
  have P0 := mapT_made w
  have s1 : (w.alloc (.map #[] 0)).heap.size = w.heap.size + 1 := by simp
  generalize w.alloc (.map #[] 0) = W1 at *
  have b2 := one_alloc W1 (.map #[] 0)
  have C0 := mapB_made W1
  have s2 : (W1.alloc (.map #[] 0)).heap.size = w.heap.size + 2 := by simp [s1]
  rw [s1] at h2 C0
  generalize W1.alloc (.map #[] 0) = W2 at *
  go_enter Tryz.func36, Tryz.ntmps36
  go_wp2
  go_ret
  have b3 := one_alloc W2 (.cells #[.map (some w.heap.size), .map (some (w.heap.size + 1))] 91)
  refine ⟨w.heap.size + 2, w.heap.size, w.heap.size + 1, rfl, ⟨by rw [← s2]; simp, by rw [← s2]; simp, (P0.block (b2.block _ (by omega))).block (b3.block _ (by omega)), C0.block (b3.block _ (by omega)), by omega⟩, by omega, by omega, by omega, ?_⟩
  exact below_to (below_to b1 b2 (by omega)) b3 (by omega)
set_option maxHeartbeats 1000000 in
theorem pending_any {w : World} {B : Nat} {s : Wheel} (H : WheelAt w B s) : Calls Tryz.prog 40 #[.pointer (some ⟨B, 0, none⟩)] w fun e w' => e = .returned (.int .i64 s.live) ∧ w' = w := by
  obtain ⟨_, _, o2, _, _⟩ := H.one
  go_enter Tryz.func40, Tryz.ntmps40
  go_wp2
  go_ret
  exact ⟨rfl, rfl⟩
end Go.Proofs.Qxb6500877aGreatDoor
