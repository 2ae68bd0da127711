import Derived.Maps.RangeWalk
import Derived.Test.Qxb6500877aGreatDoorTe
set_option linter.unusedVariables false
set_option linter.unusedSimpArgs false
namespace Go.Proofs.Qxb6500877aGreatDoor
open Go.RowKit

def tmD (id : Int) (v : TmV) : DataW Unit := .agg [.lit (.int .u64 id), .lit (.int .i64 v.core), .lit (.int .u64 v.dl), .lit (.int .u64 v.ck)]
def tmVal (id : Int) (v : TmV) : Value := .agg #[.int .u64 id, .int .i64 v.core, .int .u64 v.dl, .int .u64 v.ck]
def R4L : List Value → Option (DataW Unit × List MemPlace)
  | [.int .u64 a, .int .i64 c, .int .u64 d, .int .u64 k] => some (tmD a ⟨c, d, k⟩, [])
  | _ => none
/-- How an entry of the law's map reads. -/
def R4 : Value → Option (DataW Unit × List MemPlace)
  | .agg xs => R4L xs.toList
  | _ => none
theorem R4_mk (id : Int) (v : TmV) : R4 (tmVal id v) = some (tmD id v, []) := rfl
theorem R4L_inv {l : List Value} {z : DataW Unit × List MemPlace} (h : R4L l = some z) : ∃ a v, l = [.int .u64 a, .int .i64 v.core, .int .u64 v.dl, .int .u64 v.ck] ∧ z = (tmD a v, []) := by
  unfold R4L at h
  split at h
  · rename_i a c d k
    exact ⟨a, ⟨c, d, k⟩, rfl, (Option.some.inj h).symm⟩
  · simp at h
theorem R4_inv {x : Value} {z : DataW Unit × List MemPlace} (h : R4 x = some z) : ∃ a v, x = tmVal a v ∧ z = (tmD a v, []) := by
  unfold R4 at h
  split at h
  · rename_i xs
    obtain ⟨a, v, e, hz⟩ := R4L_inv h
    refine ⟨a, v, ?_, hz⟩
    unfold tmVal
    congr 1
    obtain ⟨l⟩ := xs
    have e' : l = _ := e
    rw [e']
  · simp at h
theorem tmD_inj {a b : Int} {v u : TmV} (h : tmD a v = tmD b u) : a = b ∧ v = u := by
  unfold tmD at h
  obtain ⟨v1, v2, v3⟩ := v
  obtain ⟨u1, u2, u3⟩ := u
  simp at h
  exact ⟨h.1, by rw [h.2.1, h.2.2.1, h.2.2.2]⟩
theorem zero84 (w : World) : (zeroValue 84).run Tryz.prog w = .ok (tmVal 0 ⟨0, 0, 0⟩) w := by kernel_rfl
def dOf (id : Int) : Option TmV → DataW Unit
  | none => tmD 0 ⟨0, 0, 0⟩
  | some v => tmD id v
def vOf (id : Int) : Option TmV → Value
  | none => tmVal 0 ⟨0, 0, 0⟩
  | some v => tmVal id v
/-- The law's map of pending timers. -/
def MapT (w : World) (b n : Nat) (τ : Int → Option TmV) : Prop :=
  ∃ D, w.ownsMap Tryz.prog 36 R4 b n D ∧ ∀ id : Int, 0 ≤ id → id < 18446744073709551616 → Maps.has D (.int .u64 id) = (τ id).isSome ∧ D.atKey (.int .u64 id) (tmD 0 ⟨0, 0, 0⟩) = dOf id (τ id)
theorem MapT.block {w w' : World} {b n : Nat} {τ : Int → Option TmV} (h : MapT w b n τ) (hb : w'.heap[b]? = w.heap[b]?) : MapT w' b n τ := by
  obtain ⟨D, ⟨es, clock, hm, q⟩, r⟩ := h
  exact ⟨D, ⟨es, clock, hb.trans hm, q⟩, r⟩
theorem MapT.lt {w : World} {b n : Nat} {τ : Int → Option TmV} (h : MapT w b n τ) : b < w.heap.size := by
  obtain ⟨D, h, r⟩ := h
  exact World.ownsMap.lt h
theorem MapT.mono {w : World} {b n n' : Nat} {τ : Int → Option TmV} (h : MapT w b n τ) (hn : n ≤ n') : MapT w b n' τ := by
  obtain ⟨D, h, r⟩ := h
  exact ⟨D, World.ownsMap.mono h hn, r⟩
theorem dOf_val {id : Int} {o : Option TmV} {x : Value} {ps : List MemPlace} (h : R4 x = some (dOf id o, ps)) : x = vOf id o := by
  obtain ⟨a, v, rfl, hz⟩ := R4_inv h
  have e : dOf id o = tmD a v := congrArg Prod.fst hz
  cases o with
  | none => obtain ⟨rfl, rfl⟩ := tmD_inj e; rfl
  | some u => obtain ⟨rfl, rfl⟩ := tmD_inj e; rfl
theorem MapT.look {w : World} {b n : Nat} {τ : Int → Option TmV} (h : MapT w b n τ) {id : Int} (h0 : 0 ≤ id) (h1 : id < 18446744073709551616) :
    (Instr.lookup 88 (.map (some b)) (.int .u64 id) true).run Tryz.prog w = .ok (.tuple #[vOf id (τ id), .bool (τ id).isSome]) w := by
  obtain ⟨D, h, r⟩ := h
  obtain ⟨v, ps, hrun, hv⟩ := World.ownsMap.look_ok h mapLaw Tryz.underlying88 (zero84 w) (R4_mk 0 ⟨0, 0, 0⟩) (key64 h0 h1)
  obtain ⟨r1, r2⟩ := r id h0 h1
  rw [r2] at hv
  rw [hrun, r1, dOf_val hv]
theorem MapT.look1 {w : World} {b n : Nat} {τ : Int → Option TmV} (h : MapT w b n τ) {id : Int} (h0 : 0 ≤ id) (h1 : id < 18446744073709551616) :
    (Instr.lookup 88 (.map (some b)) (.int .u64 id) false).run Tryz.prog w = .ok (vOf id (τ id)) w := by
  obtain ⟨D, h, r⟩ := h
  obtain ⟨v, ps, hrun, hv⟩ := World.ownsMap.lookup h mapLaw Tryz.underlying88 (zero84 w) (R4_mk 0 ⟨0, 0, 0⟩) (key64 h0 h1)
  obtain ⟨r1, r2⟩ := r id h0 h1
  rw [r2] at hv
  rw [hrun, dOf_val hv]
theorem MapT.drop {w : World} {b n : Nat} {τ : Int → Option TmV} (h : MapT w b n τ) {id : Int} (h0 : 0 ≤ id) (h1 : id < 18446744073709551616) (ty : TypeId) :
    ∃ w', (Builtin.delete_ #[88, 36] ty #[.map (some b), .int .u64 id]).run Tryz.prog w = .ok (.tuple #[]) w' ∧ MapT w' b n (updT τ id none) ∧ w.mapTurned w' b := by
  obtain ⟨D, h, r⟩ := h
  obtain ⟨w', hrun, hm, ht⟩ := World.ownsMap.drop h mapLaw Tryz.underlying88 (key64 h0 h1) ty
  refine ⟨w', hrun, ⟨_, hm, fun j j0 j1 => ?_⟩, ht⟩
  by_cases e : j = id
  · subst e
    simp only [updT, if_true]
    rw [Maps.has_del_same, Maps.atKey_del_same]
    exact ⟨rfl, rfl⟩
  · simp only [updT, if_neg e]
    rw [Maps.has_del_other (by simpa using e), Maps.atKey_del_other (by simpa using e)]
    exact r j j0 j1
theorem MapT.store {w : World} {b n : Nat} {τ : Int → Option TmV} (h : MapT w b n τ) (hn : n < maxLen) {id : Int} {v : TmV} (h0 : 0 ≤ id) (h1 : id < 18446744073709551616) :
    ∃ w', (Instr.mapUpdate 88 (.map (some b)) (.int .u64 id) (tmVal id v)).run Tryz.prog w = .ok () w' ∧ MapT w' b (n + 1) (updT τ id (some v)) ∧ w.mapTurned w' b := by
  obtain ⟨D, h, r⟩ := h
  have hI := World.ownsMap.isMap h
  obtain ⟨w', hrun, hm, ht⟩ := World.ownsMap.store h mapLaw Tryz.underlying88 hn (val := tmVal id v) (key64 h0 h1) (R4_mk id v)
  refine ⟨w', hrun, ⟨_, hm, fun j j0 j1 => ?_⟩, ht⟩
  by_cases e : j = id
  · subst e
    simp only [updT, if_true]
    rw [Maps.has_put_same hI (isKey64 _), Maps.atKey_put_same hI (isKey64 _)]
    exact ⟨rfl, rfl⟩
  · simp only [updT, if_neg e]
    rw [Maps.has_put_other (by simpa using e), Maps.atKey_put_other (by simpa using e)]
    exact r j j0 j1
open Go.WideElems (Fit rd rg pl rd_val elemAt rg_of rd_key) in
theorem keys_u64 {w : World} {b n : Nat} {D : DataW Unit} (h : w.ownsMap Tryz.prog 36 R4 b n D) : ∃ es, D = .map es ∧ es.Pairwise (fun p q => p.1 ≠ q.1) ∧ ∀ p ∈ es, ∃ a, p.1 = .int .u64 a ∧ 0 ≤ a ∧ a < 18446744073709551616 := by
  obtain ⟨es, e, hp, _⟩ := World.ownsMap.entries h mapLaw
  refine ⟨es, e, hp, fun p hpm => ?_⟩
  obtain ⟨es', clock, _, F, _, rfl⟩ := h
  have e' := DataW.map.inj e
  rw [← e'] at hpm
  obtain ⟨x, hx, rfl⟩ := List.mem_map.1 (mem_sorted.1 hpm)
  obtain ⟨y, hy⟩ := F.reads x hx
  rw [rg_of hy]
  obtain ⟨a, _, h2, h3⟩ := Maps.keyOf_int_inv Tryz.underlying36 (rd_key hy)
  have e0 : IntKind.u64.min = 0 := by decide
  have e1 : IntKind.u64.max = 18446744073709551615 := by decide
  simp [Lit.wf] at h3
  exact ⟨a, h2, by omega, by omega⟩
/-- How many entries the map has. -/
theorem MapT.size {w : World} {b n : Nat} {τ : Int → Option TmV} (h : MapT w b n τ) (ty : TypeId) {ks : List Int} (hn : ks.Nodup) (hk : ∀ id, id ∈ ks ↔ (τ id).isSome = true) (hr : ∀ id ∈ ks, 0 ≤ id ∧ id < 18446744073709551616) : (Builtin.len_ #[88] ty #[.map (some b)]).run Tryz.prog w = .ok (.int .i64 (ks.length : Int)) w := by
  obtain ⟨D, h, r⟩ := h
  rw [World.ownsMap.len h Tryz.underlying88 ty]
  obtain ⟨es, rfl, hp, hu⟩ := keys_u64 h
  have e : es.length = ks.length := by
    have h1 : (es.map (·.1)).Nodup := List.pairwise_map.2 hp
    have h2 : (ks.map (fun id => Lit.int .u64 id)).Nodup := List.pairwise_map.2 (hn.imp (fun hne e => hne (Lit.int.inj e).2))
    have := ((List.perm_ext_iff_of_nodup h1 h2).2 (fun l => ?_)).length_eq
    · simpa using this
    · constructor
      · intro hl
        obtain ⟨p, hpm, rfl⟩ := List.mem_map.1 hl
        obtain ⟨a, ea, a0, a1⟩ := hu p hpm
        refine List.mem_map.2 ⟨a, (hk a).2 ?_, ea.symm⟩
        rw [← (r a a0 a1).1, Maps.has_eq, List.any_eq_true]
        exact ⟨p, hpm, by rw [ea]; exact WideAt.sameKey_self (isKey64 a)⟩
      · intro hl
        obtain ⟨a, ha, rfl⟩ := List.mem_map.1 hl
        obtain ⟨a0, a1⟩ := hr a ha
        have := (hk a).1 ha
        rw [← (r a a0 a1).1, Maps.has_eq, List.any_eq_true] at this
        obtain ⟨p, hpm, hs⟩ := this
        exact List.mem_map.2 ⟨p, hpm, WideAt.sameKey_eq hs⟩
  simp only [Maps.size_eq, e]
end Go.Proofs.Qxb6500877aGreatDoor
