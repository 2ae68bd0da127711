import Derived.Deep.CutBlock
import Derived.OwnWalk
import Derived.Maps.AppendAt
import Derived.Maps.OwnSet
import Derived.Maps.OwnOps
import Derived.Laws.ResultCell
import Derived.Laws.AppendOwnNone
import Derived.Test.Qxb6500880aGreatQa
set_option linter.unusedVariables false
set_option linter.unusedSimpArgs false
namespace Go.Proofs.Qxb6500880aGreat
open Go.RowKit

/-- The numbers of an engine that is ready to run. -/
structure RD where
  ρ : Rl
  E : Nat
  GR : Nat
  GC : Nat
  RL : Nat
  cr : Nat
  rb : Nat → Nat
  nm : Nat → ByteArray
  B : Nat
  T0 : Nat
  fs : Nat
  sn : Nat
  th : Nat
/-- A relation's state. -/
structure RS where
  s : RelS
  d : Nat → Nat
  N : Nat
  f : Nat → Nat
def fpE (D : RD) (X : Nat → RS) : Nat → Nat → Prop
  | 0 => fun q => q = D.E
  | 1 => fun q => q = D.GR
  | 2 => fun q => q = D.GC
  | 3 => fun q => q = D.RL
  | 4 => D.ρ.has
  | k + 5 => fpR (D.rb k) (X k).s
/-- The engine with its rule and its relations. -/
structure ES (w : World) (D : RD) (c : Nat → Value) (X : Nat → RS) : Prop where
  e : EngAt w D.E c
  ru : RuX w D.ρ
  rl : ∀ j, j < 4 → w.cell? ⟨D.RL, j, none⟩ = some (.pointer (some ⟨D.rb j, 0, none⟩))
  re : ∀ j, j < 4 → RelO w (D.rb j) (D.nm j) (X j).s (X j).d (X j).N (X j).f
  lg : D.GR < w.heap.size
  lc : D.GC < w.heap.size
  dj : Disj (fpE D X) 9
theorem ES.flt {w : World} {D : RD} {c : Nat → Value} {X : Nat → RS} (h : ES w D c X) : ∀ k q, k < 9 → fpE D X k q → q < w.heap.size
  | 0, q, _, hq => by have e : q = D.E := hq; rw [e]; exact h.e.lt
  | 1, q, _, hq => by have e : q = D.GR := hq; rw [e]; exact h.lg
  | 2, q, _, hq => by have e : q = D.GC := hq; rw [e]; exact h.lc
  | 3, q, _, hq => by have e : q = D.RL := hq; rw [e]; exact World.block_lt_of_cell? _ _ (h.rl 0 (by omega))
  | 4, q, _, hq => h.ru.lt hq
  | k + 5, q, hk, hq => (h.re k (by omega)).fp_lt hq
/-- What changes: the engine's cells and the relations. -/
theorem ES.step {w w' : World} {D : RD} {c c' : Nat → Value} {X X' : Nat → RS} (h : ES w D c X) (hs : w.heap.size ≤ w'.heap.size) (he : EngAt w' D.E c') (hr : ∀ j, j < 4 → RelO w' (D.rb j) (D.nm j) (X' j).s (X' j).d (X' j).N (X' j).f) (k3 : w'.heap[D.RL]? = w.heap[D.RL]?) (k4 : ∀ q, D.ρ.has q → w'.heap[q]? = w.heap[q]?) (dj : Disj (fpE D X') 9) : ES w' D c' X' :=
  ⟨he, h.ru.keep k4, fun j hj => (World.cell?_of_block (a := ⟨D.RL, j, none⟩) k3).trans (h.rl j hj), hr, Nat.lt_of_lt_of_le h.lg hs, Nat.lt_of_lt_of_le h.lc hs, dj⟩
theorem ES.keep {w w' : World} {D : RD} {c : Nat → Value} {X : Nat → RS} (h : ES w D c X) (hs : w.heap.size ≤ w'.heap.size) (kp : ∀ k q, k < 9 → k ≠ 1 → k ≠ 2 → fpE D X k q → w'.heap[q]? = w.heap[q]?) : ES w' D c X :=
  h.step hs (h.e.blk (kp 0 _ (by omega) (by omega) (by omega) rfl)) (fun j hj => (h.re j hj).keep (fun q hq _ => kp (j + 5) q (by omega) (by omega) (by omega) hq)) (kp 3 _ (by omega) (by omega) (by omega) rfl) (fun q hq => kp 4 q (by omega) (by omega) (by omega) hq) h.dj
theorem ES.below {w w' : World} {D : RD} {c : Nat → Value} {X : Nat → RS} (h : ES w D c X) (hb : Below w.heap.size w w') : ES w' D c X := h.keep hb.size (fun k q hk _ _ hq => hb.block q (h.flt k q hk hq))
theorem ES.put {w : World} {D : RD} {c : Nat → Value} {X : Nat → RS} (h : ES w D c X) {k : Nat} (hk : k < 24) (v : Value) : ES (w.setCell ⟨D.E, k, none⟩ v) D (updV c k v) X := by
  have far : ∀ j q, j < 9 → j ≠ 0 → fpE D X j q → (w.setCell ⟨D.E, k, none⟩ v).heap[q]? = w.heap[q]? := fun j q hj h0 hq => far_set (fun (e : q = D.E) => h0 (h.dj j 0 q hj (by omega) hq e))
  exact h.step (by simp) (h.e.put hk v) (fun j hj => (h.re j hj).keep (fun q hq _ => far (j + 5) q (by omega) (by omega) hq)) (far 3 _ (by omega) (by omega) rfl) (fun q hq => far 4 q (by omega) (by omega) hq) h.dj
def updX (X : Nat → RS) (k : Nat) (x : RS) : Nat → RS := fun j => if j = k then x else X j
theorem updX_same (X : Nat → RS) (k : Nat) (x : RS) : updX X k x k = x := if_pos rfl
theorem updX_other (X : Nat → RS) {k j : Nat} (x : RS) (h : j ≠ k) : updX X k x j = X j := if_neg h
/-- A relation's marks or index list are written. -/
theorem ES.marks {w w' : World} {D : RD} {c : Nat → Value} {X : Nat → RS} (h : ES w D c X) {k : Nat} (hk : k < 4) {v : Value} {o u : Nat} (W : Wr (D.rb k) w w') (R : RelAt w' (D.rb k) (D.nm k) { (X k).s with idx := v, old := o, cur := u }) : ES w' D c (updX X k ⟨{ (X k).s with idx := v, old := o, cur := u }, (X k).d, (X k).N, (X k).f⟩) := by
  have far : ∀ j q, j < 9 → j ≠ k + 5 → fpE D X j q → w'.heap[q]? = w.heap[q]? := fun j q hj h0 hq => W.block q (h.flt j q hj hq) (fun e => h0 (h.dj j (k + 5) q hj (by omega) hq (.inl e)))
  have fp : ∀ j q, fpE D (updX X k ⟨{ (X k).s with idx := v, old := o, cur := u }, (X k).d, (X k).N, (X k).f⟩) j q → fpE D X j q := fun j q hq => by
    match j, hq with
    | 0, hq => exact hq
    | 1, hq => exact hq
    | 2, hq => exact hq
    | 3, hq => exact hq
    | 4, hq => exact hq
    | j + 5, hq =>
      change fpR (D.rb j) (updX X k _ j).s q at hq
      change fpR (D.rb j) (X j).s q
      by_cases z : j = k
      · subst z; rw [updX_same] at hq; exact hq
      · rw [updX_other _ _ z] at hq; exact hq
  refine h.step W.size (h.e.blk (far 0 _ (by omega) (by omega) rfl)) (fun j hj => ?_) (far 3 _ (by omega) (by omega) rfl) (fun q hq => far 4 q (by omega) (by omega) hq) (fun a b q ha hb h1 h2 => h.dj a b q ha hb (fp a q h1) (fp b q h2))
  by_cases z : j = k
  · subst z; rw [updX_same]; exact (h.re j hj).set_marks W R
  · rw [updX_other _ _ z]; exact (h.re j hj).keep (fun q hq _ => far (j + 5) q (by omega) (by omega) hq)
/-- The engine as New leaves it. -/
structure Rdy (w : World) (D : RD) (c : Nat → Value) (X : Nat → RS) : Prop where
  s : ES w D c X
  c0 : c 0 = .int .i64 (D.B : Int)
  c1 : c 1 = .int .u8 1
  c3 : c 3 = .bool false
  c5 : c 5 = .slice (some ⟨D.RL, 0, none⟩) 4 D.cr
  c12 : c 12 = .slice none 0 0
  c14 : c 14 = .slice none 0 0
  c16 : c 16 = .int .i64 (D.T0 : Int)
  c17 : c 17 = .int .i64 0
  c18 : c 18 = .int .i64 0
  c19 : c 19 = .int .i64 0
  c20 : c 20 = .int .i64 0
  c21 : c 21 = .slice (some ⟨D.GR, 0, none⟩) 3 3
  c22 : c 22 = .slice (some ⟨D.GC, 0, none⟩) 2 2
  c23 : c 23 = .slice none 0 0
  um : D.ρ.u.m = 2
  un : D.ρ.u.nn 0 = 2 ∧ D.ρ.u.nn 1 = 3
  uR : D.ρ.u.R = 3
  uf : (D.ρ.u.F 0 0 = D.fs ∧ D.ρ.u.F 0 1 = D.sn) ∧ ∀ t, t < 3 → D.ρ.u.F 1 t = t
  ur : D.ρ.u.rb 0 = D.rb 1 ∧ D.ρ.u.rb 1 = D.rb 0 ∧ D.ρ.u.hb = D.rb 2
  uh : D.ρ.u.nh = 3 ∧ ∀ t, t < 3 → D.ρ.u.Fh t = t
  o : (D.fs = 0 ∧ D.sn = 1 ∧ D.th = 2) ∨ (D.fs = 0 ∧ D.sn = 2 ∧ D.th = 1) ∨ (D.fs = 1 ∧ D.sn = 2 ∧ D.th = 0)
  A : (X 0).s.A = 3 ∧ (X 1).s.A = 2 ∧ (X 2).s.A = 3
  ix : ∀ j, j < 4 → (X j).s.idx = .slice none 0 0
  r0 : 0 < (X 0).s.rows ∧ (X 0).s.rows ≤ 8 ∧ (X 0).s.cur = (X 0).s.rows
  r1 : 0 < (X 1).s.rows ∧ (X 1).s.rows ≤ 100 ∧ (X 1).s.cur = (X 1).s.rows
  r2 : (X 2).s.rows = 0 ∧ (X 2).s.cur = 0
  rg : ∀ j, j < 3 → w.cell? ⟨D.GR, j, none⟩ = some (.int .u32 0)
  rf : ∀ o, w.frozen? ⟨D.GR, o, none⟩ = false
  u0 : w.cell? ⟨D.GC, 0, none⟩ = some (.int .i64 0)
  u1 : w.cell? ⟨D.GC, 1, none⟩ = some (.int .i64 0)
  u2 : w.cell? ⟨D.GC, 2, none⟩ = some (.int .i64 0)
  u3 : w.cell? ⟨D.GC, 3, none⟩ = some (.int .i32 0)
  u4 : w.cell? ⟨D.GC, 4, none⟩ = some (.int .i64 0)
  u5 : w.cell? ⟨D.GC, 5, none⟩ = some (.slice none 0 0)
  u6 : w.cell? ⟨D.GC, 6, none⟩ = some (.int .i64 0)
  u7 : w.cell? ⟨D.GC, 7, none⟩ = some (.int .i64 0)
  u8 : w.cell? ⟨D.GC, 8, none⟩ = some (.int .i64 0)
  u9 : w.cell? ⟨D.GC, 9, none⟩ = some (.int .i32 0)
  u10 : w.cell? ⟨D.GC, 10, none⟩ = some (.int .i64 0)
  u11 : w.cell? ⟨D.GC, 11, none⟩ = some (.slice none 0 0)
  cf : ∀ o, w.frozen? ⟨D.GC, o, none⟩ = false
  hB : D.T0 + 10 ≤ D.B ∧ D.B ≤ 100000
def RD.J (D : RD) (c : Nat → Value) (X : Nat → RS) : JP := ⟨D.ρ, D.E, D.rb 0, D.nm 0, (X 0).s, c, D.fs, D.sn, D.th⟩
theorem Rdy.jok {w : World} {D : RD} {c : Nat → Value} {X : Nat → RS} (h : Rdy w D c X) : JOk (D.J c X) := ⟨h.um, h.un.1, h.un.2, h.uR, h.uf.1, h.uf.2, h.o, h.ur.2.1, h.c1, h.c3, h.c20, h.ix 0 (by omega)⟩
/-- The static numbers of the run. -/
def RD.Q (D : RD) (X : Nat → RS) (w : World) : RP := ⟨D.E, D.GR, D.GC, D.rb 2, D.nm 2, fun q => q < w.heap.size ∧ q ≠ D.E ∧ q ≠ D.GR ∧ q ≠ D.GC ∧ ¬ fpR (D.rb 2) (X 2).s q, w⟩
theorem RunS.move {Q Q' : RP} {p : RunP} (h : RunS Q p) (hb : Q'.hb = Q.hb) (hk : ∀ q, Q.S q → Q'.S q ∧ Q'.w0.heap[q]? = Q.w0.heap[q]?) : RunS Q' p := by
  obtain ⟨sP, sgs, sRB, sgj, seb, scb, sg0, sg1, sgk, sIX, sgc, sgh, sgo, sgq⟩ := h.S
  have m : ∀ {b o : Nat} {v : Value}, Q.S b → Q.w0.cell? ⟨b, o, none⟩ = some v → Q'.w0.cell? ⟨b, o, none⟩ = some v := fun {b o v} hb e => (World.cell?_of_block (a := ⟨b, o, none⟩) (hk b hb).2).trans e
  refine ⟨m sP h.P0, m sP h.P2, m sP h.P3, h.cs, m sgs h.s0, m sgs h.s1, m sgs h.s2, m sgs h.s3, m sgs h.s4, m sgs h.s5, m sgs h.s6, m sgs h.s7, m sgs h.s8, m sgs h.s9, m sgs h.s10, m sgs h.s11, m sgs h.s12, m sgs h.s13, m sgs h.s14, m sgs h.s15, m sgj h.j0, m sgj h.j3, fun t ht => ⟨m sg0 (h.a0 t ht).1, m sg0 (h.a0 t ht).2.1, m sg0 (h.a0 t ht).2.2.1, m sg0 (h.a0 t ht).2.2.2⟩, fun t ht => ⟨m sg1 (h.a1 t ht).1, m sg1 (h.a1 t ht).2.1, m sg1 (h.a1 t ht).2.2.1, m sg1 (h.a1 t ht).2.2.2⟩, h.k.keep (fun q hq _ => ?_), h.ix.keep (World.cell?_of_block (a := ⟨p.IX, 0, none⟩) (hk _ sIX).2) (hk _ sgc).2, h.iw.keep (hk _ sIX).2 (hk _ sgh).2 (hk _ sgo).2, h.ip, h.re.blk (hk _ seb).2, h.rc.blk (hk _ scb).2, h.dE.blk (fun q hq _ => (hk q (h.SE q hq)).2), h.dC.blk (fun q hq _ => (hk q (h.SC q hq)).2), h.eA, h.cA, h.eR, h.cR, h.vE, h.vC, m sRB h.r0, ?_, m sRB h.r2, h.q.keep (fun q hq _ => ?_), h.o, ⟨(hk _ sP).1, (hk _ sgs).1, (hk _ sRB).1, (hk _ sgj).1, (hk _ seb).1, (hk _ scb).1, (hk _ sg0).1, (hk _ sg1).1, (hk _ sgk).1, (hk _ sIX).1, (hk _ sgc).1, (hk _ sgh).1, (hk _ sgo).1, (hk _ sgq).1⟩, fun q hq => (hk q (h.SE q hq)).1, fun q hq => (hk q (h.SC q hq)).1⟩
  · have e : p.gk = q := Option.some.inj hq
    exact (hk q (e ▸ sgk)).2
  · rw [hb]; exact m sRB h.r1
  · have e : p.gq = q := Option.some.inj hq
    exact (hk q (e ▸ sgq)).2
end Go.Proofs.Qxb6500880aGreat
