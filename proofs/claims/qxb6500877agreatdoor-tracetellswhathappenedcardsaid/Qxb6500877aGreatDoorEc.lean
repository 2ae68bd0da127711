import Derived.Laws.AppendOwnNone
import Derived.OwnWalk
import Derived.Test.Qxb6500877aGreatDoorEb
set_option linter.unusedVariables false
set_option linter.unusedSimpArgs false
namespace Go.Proofs.Qxb6500877aGreatDoor
open Go.RowKit

theorem fired_one (l : List FiredS) : ∀ u ∈ firedCells l, u.oneCell' = true := by
  intro u hu
  unfold firedCells at hu
  obtain ⟨x, _, hx⟩ := List.mem_flatMap.1 hu
  simp at hx
  rcases hx with rfl | rfl | rfl | rfl | rfl <;> rfl
theorem firedCells_app (l l' : List FiredS) : firedCells (l ++ l') = firedCells l ++ firedCells l' := by simp [firedCells]
/-- Timers appended to timers. -/
theorem wpList_append_fired {w : World} {ops : Array Oper} {rest : List Oper} {o : Oper} {a : Act} {Q : Exit → Act → World → Prop} (hgd : o.guard = none) (s x : Operand)
    (ho : o.op = .call { callee := .builtin .append, args := #[s, x], argTypes := #[41, 41] }) {base base2 : Nat} {v1 v2 : Value} {l1 l2 : List FiredS} (hs : a.eval s = v1) (hx : a.eval x = v2) (H1 : FiredAt w base v1 l1) (H2 : FiredAt w base2 v2 l2) (hn : l1.length + l2.length ≤ 1000000) (hb : base ≤ w.heap.size)
    (h : ∀ v' w', FiredAt w' base v' (l1 ++ l2) → w.grownBy w' v1.ownBlock → wpList Tryz.prog ops Q rest (a.put o.dst v') w') : wpList Tryz.prog ops Q (o :: rest) a w := by
  obtain ⟨i0_, hi_, hz0, hz1, hz2⟩ := info_parts info86
  have hcc := fun g e => World.ownsRow.cells (g := g) H2 e
  rcases H2.2 with ⟨e1, e2⟩ | ⟨g, cap, cur, e1, e2, e3, _⟩
  · have : l2 = [] := List.eq_nil_of_length_eq_zero e2
    subst this
    subst e1
    refine wpList_append_own_none hgd s x 41 ho base 86 i0_ 5 Tryz.underlying41 hi_ v1 l1.length (firedCells l1) hs H1 hx ?_
    exact h v1 w (by rw [List.append_nil]; exact H1) ⟨rfl, rfl, rfl, Nat.le_refl _, fun _ _ _ => rfl⟩
  · subst e1
    refine wpList_append_own _ hgd s x 41 ho base 86 i0_ (.agg #[.int .u64 0, .int .i64 0, .int .u64 0, .int .u64 0, .int .u64 0]) 5 40 Tryz.underlying41 hi_ hz0 hz1 hz2 rfl (by decide) v1 l1.length (firedCells l1) hs H1 ⟨g, 0, none⟩ l2.length cap (firedCells l2) hx H2.1 (hcc g rfl) (fired_one l2) (by unfold maxLen; omega) (by omega) hb ?_
    intro v' w' hown hg _
    refine h v' w' ?_ hg
    show w'.ownsRow base 86 5 v' (l1 ++ l2).length (firedCells (l1 ++ l2))
    rw [firedCells_app, List.length_append]
    exact hown
theorem FiredAt.keep {w w' : World} {base : Nat} {v : Value} {l : List FiredS} (h : FiredAt w base v l) (hk : ∀ k, base ≤ k → k < w.heap.size → w'.heap[k]? = w.heap[k]?) : FiredAt w' base v l := by
  have hlt := World.ownsRow.lt h
  refine ⟨h.1, ?_⟩
  rcases h.2 with e | ⟨g, cap, cur, e1, e2, e3, r⟩
  · exact .inl e
  · subst e1
    exact .inr ⟨g, cap, cur, rfl, e2, (hk g e2 (hlt g rfl).2).trans e3, r⟩
theorem FiredAt.own {w : World} {base : Nat} {v : Value} {l : List FiredS} (h : FiredAt w base v l) : ∀ g, v.ownBlock = some g → base ≤ g := fun g e => (World.ownsRow.lt h g e).1
theorem Done.andThen {w w1 w2 : World} {B mb t t' k k' : Nat} {ν ν' : Net} {τ τ' : TSt} {σ σ' : Sg} (h : Done w w1 B mb t k ν τ σ) (D : Done w1 w2 B mb t' k' ν' τ' σ') : Done w w2 B mb t' k' ν' τ' σ' :=
  ⟨D.m, h.f.trans ⟨D.f.os, D.f.tape, D.f.output, D.f.size, fun q hq h1 h2 => D.f.block q (Nat.lt_of_lt_of_le hq h.f.size) h1 h2, D.f.frz, D.f.cell⟩⟩
theorem Done.grown {w w1 w2 : World} {B mb t k : Nat} {ν : Net} {τ : TSt} {σ : Sg} (h : Done w w1 B mb t k ν τ σ) (hB : B < w.heap.size) (hm : mb < w.heap.size) {row : Option Nat} (hg : w1.grownBy w2 row) (hr : ∀ g, row = some g → w.heap.size ≤ g) : Done w w2 B mb t k ν τ σ := by
  have h2 := h.m.hB
  have hk : ∀ q, q < w.heap.size → w2.heap[q]? = w1.heap[q]? := fun q hq => hg.block q (Nat.lt_of_lt_of_le hq h.f.size) (fun e => by have := hr q e.symm; omega)
  have eB := hk B hB
  refine ⟨h.m.blocks (fun q hq => hk q (by omega)), h.f.trans ⟨hg.os, hg.tape, hg.output, hg.size, fun q hq _ _ => hk q hq, fun o => World.frozen?_of_block (a := ⟨B, o, none⟩) eB, fun o _ => World.cell?_of_block (a := ⟨B, o, none⟩) eB⟩⟩
theorem step_tick {w : World} {B mb t k : Nat} {ν : Net} {τ : TSt} {σ : Sg} (M : Mach w B mb t k ν τ σ) (hk : k < 800000) (o : OpS) (ho : o.ok) (hn : tickOf o ≠ 0) :
    Calls Tryz.prog 19 #[.pointer (some ⟨B, 0, none⟩), opV o] w fun e w' => ∃ (v : Value) (l : List FiredS) (τ' : TSt), ResL v e ∧ FiredAt w' w.heap.size v l ∧ Done w w' B mb (afterF t (tickOf o)) (k + 4) ν τ' (firedSg σ l) ∧ AdvanceR τ τ' t (tickOf o) l := by
  by_cases h2 : o.kd = 2
  · have e : tickOf o = 1 := by unfold tickOf; rw [if_pos h2]
    rw [e]
    exact step_2 M hk o ho h2
  · by_cases h3 : o.kd = 3
    · have e : tickOf o = o.x := by unfold tickOf; rw [if_neg h2, if_pos h3]
      rw [e]
      exact step_3 M hk o ho h3
    · exact absurd (by unfold tickOf; rw [if_neg h2, if_neg h3]) hn
/-- The machine and its two copies, each in its state. -/
structure TQ (n0 : Nat) (w0 w : World) (B mb t k : Nat) (ν : Net) (τ : TSt) (σ : Sg) (B1 mb1 t1 k1 : Nat) (τ1 : TSt) (σ1 : Sg) (B2 mb2 t2 k2 : Nat) (τ2 : TSt) (σ2 : Sg) (N : Nat) : Prop where
  m : Mach w B mb t k ν τ σ
  m1 : Mach w B1 mb1 t1 k1 ν τ1 σ1
  m2 : Mach w B2 mb2 t2 k2 ν τ2 σ2
  b : Below n0 w0 w
  s : n0 ≤ w.heap.size
  h0 : n0 ≤ B ∧ n0 ≤ mb
  h1 : B < B1 ∧ mb < B1 ∧ B < mb1 ∧ mb < mb1
  h2 : B1 < B2 ∧ B1 < mb2 ∧ mb1 < B2 ∧ mb1 < mb2
  h3 : B2 < N ∧ mb2 < N ∧ N ≤ w.heap.size
section
variable {n0 : Nat} {w0 w w' : World} {B mb t k : Nat} {ν : Net} {τ : TSt} {σ : Sg} {B1 mb1 t1 k1 : Nat} {τ1 : TSt} {σ1 : Sg} {B2 mb2 t2 k2 : Nat} {τ2 : TSt} {σ2 : Sg} {N : Nat}
theorem TQ.keep (H : TQ n0 w0 w B mb t k ν τ σ B1 mb1 t1 k1 τ1 σ1 B2 mb2 t2 k2 τ2 σ2 N) (hb : Below w.heap.size w w') : TQ n0 w0 w' B mb t k ν τ σ B1 mb1 t1 k1 τ1 σ1 B2 mb2 t2 k2 τ2 σ2 N :=
  ⟨H.m.below hb, H.m1.below hb, H.m2.below hb, below_to H.b hb H.s, Nat.le_trans H.s hb.size, H.h0, H.h1, H.h2, by have := hb.size; have := H.h3; omega⟩
theorem TQ.zero (H : TQ n0 w0 w B mb t k ν τ σ B1 mb1 t1 k1 τ1 σ1 B2 mb2 t2 k2 τ2 σ2 N) {t' k' : Nat} {τ' : TSt} {σ' : Sg} (D : Done w w' B mb t' k' ν τ' σ') : TQ n0 w0 w' B mb t' k' ν τ' σ' B1 mb1 t1 k1 τ1 σ1 B2 mb2 t2 k2 τ2 σ2 N := by
  have h0 := H.h0
  have h1 := H.h1
  have h2 := H.h2
  exact ⟨D.m, H.m1.over D (by omega) (by omega), H.m2.over D (by omega) (by omega), below_done H.b D H.s (by omega) (by omega), Nat.le_trans H.s D.f.size, H.h0, H.h1, H.h2, by have := D.f.size; have := H.h3; omega⟩
theorem TQ.one (H : TQ n0 w0 w B mb t k ν τ σ B1 mb1 t1 k1 τ1 σ1 B2 mb2 t2 k2 τ2 σ2 N) {t' k' : Nat} {τ' : TSt} {σ' : Sg} (D : Done w w' B1 mb1 t' k' ν τ' σ') : TQ n0 w0 w' B mb t k ν τ σ B1 mb1 t' k' τ' σ' B2 mb2 t2 k2 τ2 σ2 N := by
  have h0 := H.h0
  have h1 := H.h1
  have h2 := H.h2
  exact ⟨H.m.over D (by omega) (by omega), D.m, H.m2.over D (by omega) (by omega), below_done H.b D H.s (by omega) (by omega), Nat.le_trans H.s D.f.size, H.h0, H.h1, H.h2, by have := D.f.size; have := H.h3; omega⟩
theorem TQ.two (H : TQ n0 w0 w B mb t k ν τ σ B1 mb1 t1 k1 τ1 σ1 B2 mb2 t2 k2 τ2 σ2 N) {t' k' : Nat} {τ' : TSt} {σ' : Sg} (D : Done w w' B2 mb2 t' k' ν τ' σ') : TQ n0 w0 w' B mb t k ν τ σ B1 mb1 t1 k1 τ1 σ1 B2 mb2 t' k' τ' σ' N := by
  have h0 := H.h0
  have h1 := H.h1
  have h2 := H.h2
  exact ⟨H.m.over D (by omega) (by omega), H.m1.over D (by omega) (by omega), D.m, below_done H.b D H.s (by omega) (by omega), Nat.le_trans H.s D.f.size, H.h0, H.h1, H.h2, by have := D.f.size; have := H.h3; omega⟩
end
theorem FrAt.over {w w' : World} {base : Nat} {v : Value} {l : List FiredS} (h : FrAt w base v l) {B mb t k : Nat} {ν : Net} {τ : TSt} {σ : Sg} (D : Done w w' B mb t k ν τ σ) (hn : B < base ∧ mb < base) : FrAt w' base v l :=
  h.keep D.f.size (fun q h1 h2 => D.f.block q h2 (by omega) (by omega))
theorem FiredAt.over {w w' : World} {base : Nat} {v : Value} {l : List FiredS} (h : FiredAt w base v l) {B mb t k : Nat} {ν : Net} {τ : TSt} {σ : Sg} (D : Done w w' B mb t k ν τ σ) (hn : B < base ∧ mb < base) : FiredAt w' base v l :=
  h.keep (fun q h1 h2 => D.f.block q h2 (by omega) (by omega))
theorem FrAt.wide {w : World} {base base' : Nat} {v : Value} {l : List FiredS} (h : FrAt w base v l) (hb : base' ≤ base) : FrAt w base' v l := by
  rcases h with h | ⟨g, cap, h1, h2, h3⟩
  · exact .inl h
  · exact .inr ⟨g, cap, h1, by omega, h3⟩
theorem field43 (c co tk tm : Int) (hm : Bool) (m : MsgV) (p : Option Addr) (a n : Nat) (w : World) : (Instr.field 43 (resV c co tk tm hm m p a n) 6).run Tryz.prog w = .ok (.slice p a n) w := by
  kernel_rfl
theorem wpList_field43 {w : World} {ops : Array Oper} {rest : List Oper} {o : Oper} {a : Act} {Q : Exit → Act → World → Prop} (hgd : o.guard = none) (x : Operand) (ho : o.op = .field 43 x 6) {c co tk tm : Int} {hm : Bool} {m : MsgV} {p : Option Addr} {k n : Nat} (hx : a.eval x = resV c co tk tm hm m p k n)
    (h : wpList Tryz.prog ops Q rest (a.put o.dst (.slice p k n)) w) : wpList Tryz.prog ops Q (o :: rest) a w := by
  refine wpList_plain hgd fun K hK => ?_
  have hrun := field43 c co tk tm hm m p k n w
  unfold Oper.wp
  simp [execOp, ho, hx, hrun, Result.andThen]
  exact hK _ _ h
end Go.Proofs.Qxb6500877aGreatDoor
