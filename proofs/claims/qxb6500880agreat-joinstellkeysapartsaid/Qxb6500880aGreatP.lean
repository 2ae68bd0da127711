import Derived.Deep.CutBlock
import Derived.OwnWalk
import Derived.Maps.AppendAt
import Derived.Maps.OwnSet
import Derived.Maps.OwnOps
import Derived.Laws.ResultCell
import Derived.Test.Qxb6500880aGreatO
set_option linter.unusedVariables false
set_option linter.unusedSimpArgs false
namespace Go.Proofs.Qxb6500880aGreat
open Go.RowKit

theorem results_tmp_cell {fn : Func} {p u : Tmp} {ty : TypeId} (h : fn.results = #[.tmp u, .cell p ty]) (tmps : Array Value) (P : Program) (w : World) :
    (results fn tmps).run P w =
      ((asAddr (tmps.getD p undef)).run P w).andThen fun a w₁ => ((loadVar ty a).run P w₁).andThen fun v w₂ => .ok (.tuple #[tmps.getD u undef, v]) w₂ := by
  simp only [results, h]
  simp [Sem.run_bind, Result.andThen]
theorem kA_const {k : Nat} {f : Nat → Nat} : ∀ n, (∀ t, t < n → f t < k) → kA k f n = k
  | 0, _ => rfl
  | n + 1, h => by
    have ih := kA_const n (fun t ht => h t (by omega))
    unfold kA
    rw [ih, if_pos (h n (by omega))]
/-- The body of a rule: literal j names relation key j, its arguments are the variables F j. -/
def BodyAt (w : World) (bv : Value) (m : Nat) (key : Nat → Fin 4) (nn : Nat → Nat) (F : Nat → Nat → Nat) : Prop := ∃ p c, bv = .slice p m c ∧ m ≤ c ∧ (m = 0 ∨ ∃ g, p = some ⟨g, 0, none⟩ ∧ ∀ j, j < m → w.cell? ⟨g, j * 4, none⟩ = some (.int .u8 0) ∧ w.cell? ⟨g, j * 4 + 1, none⟩ = some (.int .u8 0) ∧ w.cell? ⟨g, j * 4 + 2, none⟩ = some (.string (nmS (key j))) ∧ ∃ av, w.cell? ⟨g, j * 4 + 3, none⟩ = some av ∧ TermsAt w av (nn j) (F j) ∧ (∃ q, av.ownBlock = some q ∧ q < w.heap.size))
theorem BodyAt.below {w w' : World} {bv : Value} {m : Nat} {key : Nat → Fin 4} {nn : Nat → Nat} {F : Nat → Nat → Nat} (h : BodyAt w bv m key nn F) (hb : Below w.heap.size w w') : BodyAt w' bv m key nn F := by
  obtain ⟨p, c, e, hc, h⟩ := h
  refine ⟨p, c, e, hc, ?_⟩
  rcases h with h | ⟨g, e, h⟩
  · exact .inl h
  · refine .inr ⟨g, e, fun j hj => ?_⟩
    obtain ⟨a0, a1, a2, av, a3, a4, q, a5, a6⟩ := h j hj
    exact ⟨cell_later hb a0, cell_later hb a1, cell_later hb a2, av, cell_later hb a3, a4.below hb, q, a5, Nat.lt_of_lt_of_le a6 hb.size⟩
/-- What the compiler reads: its engine, the relations. -/
structure Env (w : World) (CB E nb kk : Nat) (fn : Fin 4 → Option Nat) (sf : Fin 4 → RelS) : Prop where
  c0 : w.cell? ⟨CB, 0, none⟩ = some (.pointer (some ⟨E, 0, none⟩))
  e6 : w.cell? ⟨E, 6, none⟩ = some (.map (some nb))
  mn : MapN w nb kk fn
  rel : ∀ k b, fn k = some b → RelAt w b (nmS k) (sf k)
theorem Env.keep {w w' : World} {CB E nb kk : Nat} {fn : Fin 4 → Option Nat} {sf : Fin 4 → RelS} (h : Env w CB E nb kk fn sf) (hk : ∀ q, (q = CB ∨ q = E ∨ q = nb ∨ ∃ k, fn k = some q) → w'.heap[q]? = w.heap[q]?) : Env w' CB E nb kk fn sf :=
  ⟨(World.cell?_of_block (a := ⟨CB, 0, none⟩) (hk CB (.inl rfl))).trans h.c0, (World.cell?_of_block (a := ⟨E, 6, none⟩) (hk E (.inr (.inl rfl)))).trans h.e6, h.mn.blk (hk nb (.inr (.inr (.inl rfl)))), fun k b hb => (h.rel k b hb).blk (hk b (.inr (.inr (.inr ⟨k, hb⟩))))⟩
theorem Env.lt {w : World} {CB E nb kk : Nat} {fn : Fin 4 → Option Nat} {sf : Fin 4 → RelS} (h : Env w CB E nb kk fn sf) : CB < w.heap.size ∧ E < w.heap.size ∧ nb < w.heap.size :=
  ⟨World.block_lt_of_cell? _ _ h.c0, World.block_lt_of_cell? _ _ h.e6, h.mn.lt⟩
theorem Env.rlt {w : World} {CB E nb kk : Nat} {fn : Fin 4 → Option Nat} {sf : Fin 4 → RelS} (h : Env w CB E nb kk fn sf) {q : Nat} (hq : ∃ k, fn k = some q) : q < w.heap.size := by
  obtain ⟨k, hk⟩ := hq
  exact (h.rel k q hk).lt
theorem Env.qlt {w : World} {CB E nb kk : Nat} {fn : Fin 4 → Option Nat} {sf : Fin 4 → RelS} (h : Env w CB E nb kk fn sf) {q : Nat} (hq : q = CB ∨ q = E ∨ q = nb ∨ ∃ k, fn k = some q) : q < w.heap.size := by
  obtain ⟨h1, h2, h3⟩ := h.lt
  rcases hq with z | z | z | z
  · omega
  · omega
  · omega
  · exact h.rlt z
theorem Env.below {w w' : World} {CB E nb kk : Nat} {fn : Fin 4 → Option Nat} {sf : Fin 4 → RelS} (h : Env w CB E nb kk fn sf) (hb' : Below w.heap.size w w') : Env w' CB E nb kk fn sf := h.keep (fun q hq => hb'.block q (h.qlt hq))
end Go.Proofs.Qxb6500880aGreat
