import Derived.Deep.CutBlock
import Derived.OwnWalk
import Derived.Maps.AppendAt
import Derived.Maps.OwnSet
import Derived.Maps.OwnOps
import Derived.Laws.ResultCell
import Derived.Test.Qxb6500880aO
set_option linter.unusedVariables false
set_option linter.unusedSimpArgs false
namespace Go.Proofs.Qxb6500880a
open Go.RowKit

theorem results_tmp_cell {fn : Func} {p u : Tmp} {ty : TypeId} (h : fn.results = #[.tmp u, .cell p ty]) (tmps : Array Value) (P : Program) (w : World) :
    (results fn tmps).run P w =
      ((asAddr (tmps.getD p undef)).run P w).andThen fun a w₁ => ((loadVar ty a).run P w₁).andThen fun v w₂ => .ok (.tuple #[tmps.getD u undef, v]) w₂ := by
  simp only [results, h]
  simp [Sem.run_bind, Result.andThen]
theorem kA_min {V : Nat} (hV : 0 < V) (a : Nat) : ∀ t, kA (min a V) (fun t => (a + t) % V) t = min (a + t) V
  | 0 => by show min a V = min (a + 0) V; rw [Nat.add_zero]
  | t + 1 => by
    show (if (a + t) % V < kA (min a V) (fun t => (a + t) % V) t then _ else _) = _
    rw [kA_min hV a t]
    by_cases h : a + t < V
    · rw [Nat.mod_eq_of_lt h, if_neg (by omega)]
      omega
    · rw [if_pos (by have := Nat.mod_lt (a + t) hV; omega)]
      omega
theorem kA_ok {V : Nat} (hV : 0 < V) (a t : Nat) : (a + t) % V ≤ kA (min a V) (fun t => (a + t) % V) t := by
  rw [kA_min hV a t]
  by_cases h : a + t < V
  · rw [Nat.mod_eq_of_lt h]; omega
  · have := Nat.mod_lt (a + t) hV; omega
/-- The body of the rule: m literals of n places, filled round and round with V variables. -/
def BodyAt (w : World) (bv : Value) (m n V : Nat) : Prop := ∃ p c, bv = .slice p m c ∧ m ≤ c ∧ (m = 0 ∨ ∃ g, p = some ⟨g, 0, none⟩ ∧ ∀ j, j < m → w.cell? ⟨g, j * 4, none⟩ = some (.int .u8 0) ∧ w.cell? ⟨g, j * 4 + 1, none⟩ = some (.int .u8 0) ∧ w.cell? ⟨g, j * 4 + 2, none⟩ = some (.string (nmS true)) ∧ ∃ av, w.cell? ⟨g, j * 4 + 3, none⟩ = some av ∧ TermsAt w av n (fun t => (j * n + t) % V) ∧ (∃ q, av.ownBlock = some q ∧ q < w.heap.size))
theorem BodyAt.below {w w' : World} {bv : Value} {m n V : Nat} (h : BodyAt w bv m n V) (hb : Below w.heap.size w w') : BodyAt w' bv m n V := by
  obtain ⟨p, c, e, hc, h⟩ := h
  refine ⟨p, c, e, hc, ?_⟩
  rcases h with h | ⟨g, e, h⟩
  · exact .inl h
  · refine .inr ⟨g, e, fun j hj => ?_⟩
    obtain ⟨a0, a1, a2, av, a3, a4, q, a5, a6⟩ := h j hj
    exact ⟨cell_later hb a0, cell_later hb a1, cell_later hb a2, av, cell_later hb a3, a4.below hb, q, a5, Nat.lt_of_lt_of_le a6 hb.size⟩
/-- What the compiler reads: its engine, the relations. -/
structure Env (w : World) (CB E nb rb hb kk : Nat) (fn : Bool → Option Nat) (s sh : RelS) : Prop where
  c0 : w.cell? ⟨CB, 0, none⟩ = some (.pointer (some ⟨E, 0, none⟩))
  e6 : w.cell? ⟨E, 6, none⟩ = some (.map (some nb))
  mn : MapN w nb kk fn
  hr : RelAt w rb (nmS true) s
  hh : RelAt w hb (nmS false) sh
theorem Env.keep {w w' : World} {CB E nb rb hb kk : Nat} {fn : Bool → Option Nat} {s sh : RelS} (h : Env w CB E nb rb hb kk fn s sh) (hk : ∀ q, (q = CB ∨ q = E ∨ q = nb ∨ q = rb ∨ q = hb) → w'.heap[q]? = w.heap[q]?) : Env w' CB E nb rb hb kk fn s sh :=
  ⟨(World.cell?_of_block (a := ⟨CB, 0, none⟩) (hk CB (.inl rfl))).trans h.c0, (World.cell?_of_block (a := ⟨E, 6, none⟩) (hk E (.inr (.inl rfl)))).trans h.e6, h.mn.blk (hk nb (.inr (.inr (.inl rfl)))), h.hr.blk (hk rb (.inr (.inr (.inr (.inl rfl))))), h.hh.blk (hk hb (.inr (.inr (.inr (.inr rfl)))))⟩
theorem Env.lt {w : World} {CB E nb rb hb kk : Nat} {fn : Bool → Option Nat} {s sh : RelS} (h : Env w CB E nb rb hb kk fn s sh) : CB < w.heap.size ∧ E < w.heap.size ∧ nb < w.heap.size ∧ rb < w.heap.size ∧ hb < w.heap.size :=
  ⟨World.block_lt_of_cell? _ _ h.c0, World.block_lt_of_cell? _ _ h.e6, h.mn.lt, h.hr.lt, h.hh.lt⟩
theorem Env.below {w w' : World} {CB E nb rb hb kk : Nat} {fn : Bool → Option Nat} {s sh : RelS} (h : Env w CB E nb rb hb kk fn s sh) (hb' : Below w.heap.size w w') : Env w' CB E nb rb hb kk fn s sh := h.keep (fun q hq => hb'.block q (by have := h.lt; omega))
set_option maxRecDepth 20000 in
set_option maxHeartbeats 8000000 in
theorem rule_big {w : World} {cb : Value} {bv : Value} {p : Option Addr} {m c : Nat} {nm : ByteArray} {ha : Value} {hpa : Option Addr} {hna hca : Nat} (hbv : bv = .slice p m c) (hha : ha = .slice hpa hna hca) (hm : 64 < m) (hcb : ∃ CB, cb = .pointer (some ⟨CB, 0, none⟩)) :
    Calls Try.prog 13 #[cb, .int .i64 0, .agg #[.string nm, ha, bv]] w fun e w' => e = .returned (.tuple #[.pointer none, .agg #[.int .u8 3, .int .i64 0, .int .i64 0]]) ∧ Below w.heap.size w w' := by
  obtain ⟨CB, rfl⟩ := hcb
  subst hbv hha
  have hgt : (m : Int) > 64 := by omega
  have hgt' : (64 : Int) < (m : Int) := by omega
  go_enter Try.func13, Try.ntmps13
  go_wp2
  refine bodyPost_ret (v := .tuple #[.pointer none, .agg #[.int .u8 3, .int .i64 0, .int .i64 0]]) ?_ rfl ?_
  · rw [results_tmp_cell rfl]
    go_simp
  · exact ⟨rfl, then_ (one_alloc _ _) (one_alloc _ _)⟩
end Go.Proofs.Qxb6500880a
