import Derived.Deep.CutBlock
import Derived.OwnWalk
import Derived.Maps.AppendAt
import Derived.Maps.OwnSet
import Derived.Maps.OwnOps
import Derived.Laws.ResultCell
import Derived.Test.Qxb6500880aGreatV
import Derived.Test.Qxb6500880aGreatQb
import Derived.Test.Qxb6500880aGreatX
import Derived.Test.Qxb6500880aGreatZq
set_option linter.unusedVariables false
set_option linter.unusedSimpArgs false
namespace Go.Proofs.Qxb6500880aGreat
open Go.RowKit

/-- The facts' predicates: 64 of n, then np of e, then those of c. -/
def fkN (np i : Nat) : Fin 4 := if i < 64 then 3 else if i < 64 + np then 1 else 0
def arN : Nat → Nat
  | 0 => 3
  | 1 => 2
  | 2 => 3
  | _ => 1
def nnN (np i : Nat) : Nat := arN (fkN np i).val
def keyN (j : Nat) : Fin 4 := if j = 0 then 1 else 0
def nnR (j : Nat) : Nat := if j = 0 then 2 else 3
def FR (fs sn j t : Nat) : Nat := if j = 0 then (if t = 0 then fs else sn) else t
/-- The rule k(0,1,2) :- e(fs,sn), c(0,1,2). -/
def uN (rb : Nat → Nat) (fs sn : Nat) : RuS := ⟨rb 2, fun j => rb (keyN j).val, nnR, 2, FR fs sn, 3, fun t => t, 3⟩
def OrdN (fs sn : Nat) : Prop := (fs = 0 ∧ sn = 1) ∨ (fs = 0 ∧ sn = 2) ∨ (fs = 1 ∧ sn = 2)
theorem OrdN.lt {fs sn : Nat} (h : OrdN fs sn) : fs < 3 ∧ sn < 3 := by rcases h with h | h | h <;> omega
theorem uN_ok {rb : Nat → Nat} {fs sn : Nat} (o : OrdN fs sn) : RuN (uN rb fs sn) := by
  have ol := o.lt
  refine ⟨by show 2 ≤ 64; omega, fun j hj => ?_, fun j hj => ?_, by show 0 < 3; omega, by show 3 ≤ 32; omega, by show 0 < 3; omega, by show 3 ≤ 256; omega, fun j t hj ht => ?_, fun t ht => ht⟩
  · show 0 < nnR j
    unfold nnR; split <;> omega
  · show nnR j ≤ 32
    unfold nnR; split <;> omega
  · have hj : j < 2 := hj
    have ht : t < nnR j := ht
    show FR fs sn j t < 3
    unfold FR
    unfold nnR at ht
    split
    · split <;> omega
    · rename_i q
      rw [if_neg q] at ht
      exact ht
theorem uN_safe {rb : Nat → Nat} {fs sn : Nat} (o : OrdN fs sn) : ∀ t, t < 3 → fbs (uN rb fs sn) 2 t = true := fun t ht => by
  rcases (by omega : t = 0 ∨ t = 1 ∨ t = 2) with h | h | h <;> (subst h; rcases o with ⟨h1, h2⟩ | ⟨h1, h2⟩ | ⟨h1, h2⟩ <;> (subst h1; subst h2; rfl))
theorem kA_id : kA 0 (fun t => t) 3 = 3 ∧ ∀ t, t < 3 → t ≤ kA 0 (fun t => t) t := ⟨by decide, fun t ht => by
  rcases (by omega : t = 0 ∨ t = 1 ∨ t = 2) with h | h | h <;> (subst h; decide)⟩
/-- What New is handed. -/
structure NewIn (w : World) (gp gu gd np nt fs sn : Nat) (ha bv : Value) (fv : Nat → Nat → Nat) (av : Nat → Value) : Prop where
  pr : PredsAt w gp arN
  u0 : w.cell? ⟨gu, 0, none⟩ = some (.string (nmS 2))
  u1 : w.cell? ⟨gu, 1, none⟩ = some ha
  u2 : w.cell? ⟨gu, 2, none⟩ = some bv
  th : TermsAt w ha 3 (fun t => t)
  hq : ∀ q, ha.ownBlock = some q → q < w.heap.size
  bo : BodyAt w bv 2 keyN nnR (FR fs sn)
  db : DbAt w gd (64 + np + nt) (fkN np) (nnN np) fv av
  n0 : ∀ i, i < 64 → fv i 0 = i
  v : ∀ i t, i < 64 + np + nt → t < nnN np i → fv i t < 64
  p : 0 < np ∧ np ≤ 4 ∧ 0 < nt ∧ nt ≤ 8
  o : OrdN fs sn
theorem NewIn.ok {w : World} {gp gu gd np nt fs sn : Nat} {ha bv : Value} {fv : Nat → Nat → Nat} {av : Nat → Value} (h : NewIn w gp gu gd np nt fs sn ha bv fv av) : DbOk (64 + np + nt) (fkN np) (nnN np) fv arN := by
  have hp := h.p
  refine ⟨by omega, by omega, fun i hi => ⟨?_, h.n0 i hi⟩, fun i _ => rfl, h.v, fun j hj => ?_, fun j hj => ?_, rfl⟩
  · unfold fkN; rw [if_pos hi]; rfl
  · rcases (by omega : j = 0 ∨ j = 1 ∨ j = 2 ∨ j = 3) with h | h | h | h <;> (subst h; decide)
  · rcases (by omega : j = 0 ∨ j = 1 ∨ j = 2 ∨ j = 3) with h | h | h | h <;> (subst h; decide)
/-- The engine while it is made: table in, no facts yet. -/
structure NS (w : World) (E nb CB FB SB mi base top : Nat) (rb : Nat → Nat) (c : Nat → Value) : Prop where
  T : Tab w E nb base rb arN 3 c
  S : SymsAt w SB mi (.slice none 0 0) 0
  k0 : w.cell? ⟨CB, 0, none⟩ = some (.pointer (some ⟨E, 0, none⟩))
  f0 : w.cell? ⟨FB, 0, none⟩ = some (.int .u8 0)
  f1 : w.cell? ⟨FB, 1, none⟩ = some (.int .i64 0)
  f2 : w.cell? ⟨FB, 2, none⟩ = some (.int .i64 0)
  ff : ∀ o, w.frozen? ⟨FB, o, none⟩ = false
  lt : E < base ∧ nb < base ∧ SB < base ∧ mi < base ∧ CB < base ∧ FB < base ∧ base ≤ top ∧ top ≤ w.heap.size
  ne : CB ≠ E ∧ CB ≠ nb ∧ CB ≠ SB ∧ CB ≠ mi ∧ E ≠ nb ∧ E ≠ SB ∧ E ≠ mi ∧ nb ≠ SB ∧ nb ≠ mi ∧ SB ≠ mi
  nf : FB ≠ E ∧ FB ≠ nb ∧ FB ≠ SB ∧ FB ≠ mi ∧ FB ≠ CB
  r : ∀ j, j < 3 → rb j < top
  o5 : ∀ q, (c 5).ownBlock = some q → q < top
theorem NS.step {w w' : World} {E nb CB FB SB mi base top : Nat} {rb : Nat → Nat} {c c' : Nat → Value} (h : NS w E nb CB FB SB mi base top rb c) (hs : w.heap.size ≤ w'.heap.size) (he : EngAt w' E c') (h5 : c' 5 = c 5) (h6 : c' 6 = c 6) (hk0 : w'.cell? ⟨CB, 0, none⟩ = some (.pointer (some ⟨E, 0, none⟩))) (hk : ∀ q, (q = nb ∨ q = SB ∨ q = mi ∨ q = FB ∨ (base ≤ q ∧ q < top)) → w'.heap[q]? = w.heap[q]?) : NS w' E nb CB FB SB mi base top rb c' := by
  have hl := h.lt
  have eF := hk FB (.inr (.inr (.inr (.inl rfl))))
  refine ⟨⟨he, h6.trans h.T.c6, ?_, h.T.m.blk (hk nb (.inl rfl)), fun j hj => ⟨(h.T.r j hj).1.blk (hk _ (.inr (.inr (.inr (.inr ⟨(h.T.r j hj).2.1, h.r j hj⟩))))), (h.T.r j hj).2.1, by rw [h5]; exact (h.T.r j hj).2.2⟩, h.T.inj⟩, h.S.keep (fun q hq _ => ?_), hk0, (World.cell?_of_block (a := ⟨FB, 0, none⟩) eF).trans h.f0, (World.cell?_of_block (a := ⟨FB, 1, none⟩) eF).trans h.f1, (World.cell?_of_block (a := ⟨FB, 2, none⟩) eF).trans h.f2, fun o => (World.frozen?_of_block (a := ⟨FB, o, none⟩) eF).trans (h.ff o), by omega, h.ne, h.nf, h.r, by rw [h5]; exact h.o5⟩
  · rw [h5]
    exact own_one h.T.own (fun q hq => hk q (.inr (.inr (.inr (.inr ⟨(h.T.own.lt q hq).1, h.o5 q hq⟩)))))
  · rcases hq with z | z | z
    · exact hk q (.inr (.inl z))
    · exact hk q (.inr (.inr (.inl z)))
    · cases z
theorem NS.keep {w w' : World} {E nb CB FB SB mi base top : Nat} {rb : Nat → Nat} {c : Nat → Value} (h : NS w E nb CB FB SB mi base top rb c) (hs : w.heap.size ≤ w'.heap.size) (hk : ∀ q, (q = E ∨ q = CB ∨ q = nb ∨ q = SB ∨ q = mi ∨ q = FB ∨ (base ≤ q ∧ q < top)) → w'.heap[q]? = w.heap[q]?) : NS w' E nb CB FB SB mi base top rb c :=
  h.step hs (h.T.e.blk (hk E (.inl rfl))) rfl rfl ((World.cell?_of_block (a := ⟨CB, 0, none⟩) (hk CB (.inr (.inl rfl)))).trans h.k0) (fun q hq => hk q (.inr (.inr hq)))
theorem NS.below {w w' : World} {E nb CB FB SB mi base top : Nat} {rb : Nat → Nat} {c : Nat → Value} (h : NS w E nb CB FB SB mi base top rb c) (hb : Below w.heap.size w w') : NS w' E nb CB FB SB mi base top rb c :=
  h.keep hb.size (fun q hq => hb.block q (by have := h.lt; omega))
theorem NS.put {w : World} {E nb CB FB SB mi base top : Nat} {rb : Nat → Nat} {c : Nat → Value} (h : NS w E nb CB FB SB mi base top rb c) {k : Nat} (hk : k < 24) (h5 : k ≠ 5) (h6 : k ≠ 6) (v : Value) : NS (w.setCell ⟨E, k, none⟩ v) E nb CB FB SB mi base top rb (updV c k v) := by
  have hl := h.lt
  have hn := h.ne
  have hf := h.nf
  exact h.step (by simp) (h.T.e.put hk v) (updV_other _ _ (Ne.symm h5)) (updV_other _ _ (Ne.symm h6)) ((World.cell?_of_block (a := ⟨CB, 0, none⟩) (far_set hn.1)).trans h.k0) (fun q hq => far_set (by omega))
theorem NS.wrc {w w' : World} {E nb CB FB SB mi base top : Nat} {rb : Nat → Nat} {c : Nat → Value} (h : NS w E nb CB FB SB mi base top rb c) (W : Wr CB w w') (hk0 : w'.cell? ⟨CB, 0, none⟩ = some (.pointer (some ⟨E, 0, none⟩))) : NS w' E nb CB FB SB mi base top rb c := by
  have hl := h.lt
  have hn := h.ne
  have hf := h.nf
  have hE := h.T.e.lt
  exact h.step W.size (h.T.e.blk (W.block E hE (by omega))) rfl rfl hk0 (fun q hq => W.block q (by omega) (by omega))
theorem NS.olds {w : World} {E nb CB FB SB mi base top : Nat} {rb : Nat → Nat} {c : Nat → Value} (h : NS w E nb CB FB SB mi base top rb c) : Olds w E nb CB SB mi base rb c := by
  have hl := h.lt
  exact ⟨by omega, h.ne, fun j hj => ⟨(h.T.r j hj).2.1, (h.T.r j hj).1.lt, (h.T.r j hj).2.2⟩, fun q hq => ⟨(h.T.own.lt q hq).1, (h.T.own.lt q hq).2⟩, h.T.inj⟩
/-- The engine when the rule is in. -/
structure NR (w9 wr : World) (E nb CB FB SB mi base LB : Nat) (rb : Nat → Nat) (c9 : Nat → Value) (gl cgl GR GC fs sn : Nat) (c10 : Nat → Value) (ρ : Rl) : Prop where
  N : NS wr E nb CB FB SB mi base LB rb c10
  ag : ∀ k, k ≠ 13 → k ≠ 21 → k ≠ 22 → c10 k = c9 k
  a21 : c10 21 = .slice (some ⟨GR, 0, none⟩) 3 3
  a22 : c10 22 = .slice (some ⟨GC, 0, none⟩) 2 2
  l : wr.cell? ⟨LB, 0, none⟩ = some (.slice (some ⟨gl, 0, none⟩) 1 cgl)
  g : wr.cell? ⟨gl, 0, none⟩ = some (.pointer (some ⟨ρ.RB, 0, none⟩))
  X : RuX wr ρ
  u : ρ.u = uN rb fs sn
  h : ∀ q, ρ.has q → w9.heap.size < q ∧ q < GR
  G : ∀ j, j < 3 → wr.cell? ⟨GR, j, none⟩ = some (.int .u32 0)
  Gf : ∀ o, wr.frozen? ⟨GR, o, none⟩ = false
  C : ∀ k x, k < 2 → x < 6 → wr.cell? ⟨GC, k * 6 + x, none⟩ = curZ[x]?
  Cf : ∀ o, wr.frozen? ⟨GC, o, none⟩ = false
  od : w9.heap.size ≤ gl ∧ w9.heap.size ≤ GR ∧ GR < GC ∧ LB < w9.heap.size
/-- The engine's cells when it is made. -/
def cI (SB nb : Nat) : Nat → Value
  | 0 => .int .i64 4096
  | 1 => .int .u8 1
  | 2 => .int .u64 0
  | 3 => .bool false
  | 4 => .pointer (some ⟨SB, 0, none⟩)
  | 6 => .map (some nb)
  | 8 => .int .i64 0
  | 9 => .int .u8 0
  | 10 => .int .i64 0
  | 11 => .int .i64 0
  | 15 => .int .i64 0
  | 16 => .int .i64 0
  | 17 => .int .i64 0
  | 18 => .int .i64 0
  | 19 => .int .i64 0
  | 20 => .int .i64 0
  | _ => .slice none 0 0
theorem made_six (a b c d e f : Value) (k x : Nat) (hx : x < 6) {m : Nat} (hk : k < m) : (madeCells #[a, b, c, d, e, f] (m * 6)).toList[k * 6 + x]? = ([a, b, c, d, e, f] : List Value)[x]? := by
  have h1 : (k * 6 + x) % 6 = x := by omega
  have h2 : k * 6 + x < m * 6 := by omega
  generalize k * 6 + x = i at *
  have e9 : (madeCells #[a, b, c, d, e, f] (m * 6)).toList[i]? = some (#[a, b, c, d, e, f][i % 6]!) := by
    simp [madeCells, h2]
  rw [e9, h1]
  rcases (by omega : x = 0 ∨ x = 1 ∨ x = 2 ∨ x = 3 ∨ x = 4 ∨ x = 5) with h | h | h | h | h | h <;> (subst h; rfl)
theorem below_apN {w w2 : World} {o : Obj} (h : (w.alloc o).grownBy w2 none) : Below w.heap.size w w2 := by
  have bN := one_alloc w o
  exact ⟨h.os.trans bN.os, h.tape.trans bN.tape, h.output.trans bN.output, Nat.le_trans bN.size h.size, fun q hq => (h.block q (by have := bN.size; omega) (by simp)).trans (bN.block q hq)⟩
/-- An engine that New hands out. -/
structure NewOk (w w' : World) (np nt fs sn : Nat) (fv : Nat → Nat → Nat) (D : RD) (c : Nat → Value) (X : Nat → RS) (LB cl gl cgl SB mi nb : Nat) (vals : Value) : Prop where
  R : Rdy w' D c X
  c7 : c 7 = .slice (some ⟨LB, 0, none⟩) 1 cl
  c8 : c 8 = .int .i64 0
  c9 : c 9 = .int .u8 0
  hL : w'.cell? ⟨LB, 0, none⟩ = some (.slice (some ⟨gl, 0, none⟩) 1 cgl)
  hg : w'.cell? ⟨gl, 0, none⟩ = some (.pointer (some ⟨D.ρ.RB, 0, none⟩))
  fs : D.fs = fs ∧ D.sn = sn
  c4 : c 4 = .pointer (some ⟨SB, 0, none⟩)
  c6 : c 6 = .map (some nb)
  N : MapN w' nb 4 (fnK D.rb 4)
  S : SymsAt w' SB mi vals 64
  ap : ∀ q, (q = nb ∨ fpS SB mi vals q) → ¬ (q = D.E ∨ q = D.GR ∨ q = D.GC ∨ q = D.rb 0 ∨ fpR (D.rb 2) (X 2).s q)
  ct : ∀ j, j < 4 → ∀ r, hasR (X j).d (arN j) (X j).s.rows r ↔ ∃ i', i' < 64 + np + nt ∧ fkN np i' = kf j ∧ ∀ t, t < arN j → fv i' t = r t
  fr : ∀ q, (q = D.E ∨ q = D.GR ∨ q = D.GC ∨ q = D.rb 0 ∨ fpR (D.rb 2) (X 2).s q) → w.heap.size ≤ q
  bl : Below w.heap.size w w'
end Go.Proofs.Qxb6500880aGreat
