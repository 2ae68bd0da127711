import Derived.Deep.CutBlock
import Derived.OwnWalk
import Derived.Maps.AppendAt
import Derived.Maps.OwnSet
import Derived.Maps.OwnOps
import Derived.Laws.ResultCell
import Derived.Laws.AppendOwnNone
import Derived.Test.Qxb6500880aGreatQc
set_option linter.unusedVariables false
set_option linter.unusedSimpArgs false
namespace Go.Proofs.Qxb6500880aGreat
open Go.RowKit

/-- The index, filled. -/
structure IXf where
  gh : Nat
  go : Nat
  co : Nat
  hd : Nat → Nat
  ol : Nat → Nat
def RD.rp (D : RD) (X : Nat → RS) (p : PT) (i : IXf) : RunP := ⟨p.P, p.gs, p.cs, D.ρ.RB, D.ρ.gj, D.rb 1, D.rb 0, p.ga0, p.ca0, p.ga1, p.ca1, p.gk, p.ck, p.IX, p.gc, p.cc, i.gh, i.go, i.co, D.ρ.gq, D.ρ.cq, D.fs, D.sn, D.th, D.nm 1, D.nm 0, (X 1).s, (X 0).s, (X 1).d, (X 0).d, i.hd, i.ol⟩
/-- What is told of the rule and the relations, whatever the world. -/
structure DK (D : RD) (X : Nat → RS) : Prop where
  um : D.ρ.u.m = 2
  ur : D.ρ.u.rb 0 = D.rb 1 ∧ D.ρ.u.rb 1 = D.rb 0 ∧ D.ρ.u.hb = D.rb 2
  uh : D.ρ.u.nh = 3 ∧ ∀ t, t < 3 → D.ρ.u.Fh t = t
  o : (D.fs = 0 ∧ D.sn = 1 ∧ D.th = 2) ∨ (D.fs = 0 ∧ D.sn = 2 ∧ D.th = 1) ∨ (D.fs = 1 ∧ D.sn = 2 ∧ D.th = 0)
  A : (X 0).s.A = 3 ∧ (X 1).s.A = 2 ∧ (X 2).s.A = 3
  r0 : 0 < (X 0).s.rows ∧ (X 0).s.rows ≤ 8 ∧ (X 0).s.cur = (X 0).s.rows
  r1 : 0 < (X 1).s.rows ∧ (X 1).s.rows ≤ 100 ∧ (X 1).s.cur = (X 1).s.rows
theorem OpsAt.congr {w : World} {v : Value} {n : Nat} {f f' : Nat → Nat} (h : OpsAt w v n f) (e : ∀ t, t < n → f t = f' t) : OpsAt w v n f' := by
  obtain ⟨p, c, rfl, hc, h⟩ := h
  refine ⟨p, c, rfl, hc, ?_⟩
  rcases h with h | ⟨g, rfl, h⟩
  · exact .inl h
  · exact .inr ⟨g, rfl, fun j hj => by rw [← e j hj]; exact h j hj⟩
theorem ES.runS {w : World} {D : RD} {c : Nat → Value} {X : Nat → RS} {p : PT} {i : IXf} {lo : Nat} (h : ES w D c X) (K : DK D X) (ps : PSt w D p) (iw : IxW w p.IX i.gh i.go i.co (X 0).s.rows (X 0).s.rows i.hd i.ol) (ip : Idx 16 (X 0).s.rows i.hd i.ol (bkF (X 0).d 3 D.cf 2)) (hl : ∀ k q, k < 9 → fpE D X k q → q < lo) (hp : ∀ q, p.has q → lo ≤ q) (hi : lo ≤ i.gh ∧ lo ≤ i.go) : RunS (D.Q X w) (D.rp X p i) := by
  have old : ∀ k q, k < 9 → k ≠ 0 → k ≠ 1 → k ≠ 2 → k ≠ 7 → fpE D X k q → (D.Q X w).S q := fun k q hk h0 h1 h2 h7 hq => ⟨h.flt k q hk hq, fun e => h0 (h.dj k 0 q hk (by omega) hq e), fun e => h1 (h.dj k 1 q hk (by omega) hq e), fun e => h2 (h.dj k 2 q hk (by omega) hq e), fun e => h7 (h.dj k 7 q hk (by omega) hq e)⟩
  have nw : ∀ q, lo ≤ q → q < w.heap.size → (D.Q X w).S q := fun q h1 h2 => ⟨h2, fun e => by have := hl 0 q (by omega) e; omega, fun e => by have := hl 1 q (by omega) e; omega, fun e => by have := hl 2 q (by omega) e; omega, fun e => by have := hl 7 q (by omega) e; omega⟩
  have np : ∀ q, p.has q → (D.Q X w).S q := fun q hq => nw q (hp q hq) (ps.lt hq)
  have hgh : i.gh < w.heap.size := World.block_lt_of_cell? _ _ (iw.h 0 (by omega))
  have hgo : i.go < w.heap.size := World.block_lt_of_cell? _ _ (iw.o 0 K.r0.1)
  have j0 := (h.ru.j 0 (by rw [K.um]; omega)).1
  have j1 := (h.ru.j 1 (by rw [K.um]; omega)).1
  rw [K.ur.1] at j0
  rw [K.ur.2.1] at j1
  have dE := SymR.of_own (h.re 1 (by omega)).own
  have dC := SymR.of_own (h.re 0 (by omega)).own
  have hq := h.ru.hops
  rw [K.uh.1] at hq
  have vE := (h.re 1 (by omega)).val
  have vC := (h.re 0 (by omega)).val
  rw [K.A.2.1] at dE vE
  rw [K.A.1] at dC vC
  have c1 := h.ru.c1
  have c2 := h.ru.c2
  rw [K.ur.2.2] at c1
  rw [K.uh.1] at c2
  exact ⟨ps.P0, ps.P2, ps.P3, ps.cs, ps.s0, ps.s1, ps.s2, ps.s3, ps.s4, ps.s5, ps.s6, ps.s7, ps.s8, ps.s9, ps.s10, ps.s11, ps.s12, ps.s13, ps.s14, ps.s15, j0, j1, ps.a0, ps.a1, ps.k, ps.ix, iw, ip, (h.re 1 (by omega)).at', (h.re 0 (by omega)).at', dE, dC, K.A.2.1, K.A.1, K.r1, K.r0, vE, vC, h.ru.c0, c1, c2, hq.congr K.uh.2, K.o, ⟨np _ (.inl rfl), np _ (.inr (.inl rfl)), old 4 _ (by omega) (by omega) (by omega) (by omega) (by omega) (.inl rfl), old 4 _ (by omega) (by omega) (by omega) (by omega) (by omega) (.inr (.inl rfl)), old 6 _ (by omega) (by omega) (by omega) (by omega) (by omega) (.inl rfl), old 5 _ (by omega) (by omega) (by omega) (by omega) (by omega) (.inl rfl), np _ (.inr (.inr (.inl rfl))), np _ (.inr (.inr (.inr (.inl rfl)))), np _ (.inr (.inr (.inr (.inr (.inl rfl))))), np _ (.inr (.inr (.inr (.inr (.inr (.inl rfl)))))), np _ (.inr (.inr (.inr (.inr (.inr (.inr (.inl rfl))))))), nw _ hi.1 hgh, nw _ hi.2 hgo, old 4 _ (by omega) (by omega) (by omega) (by omega) (by omega) (.inr (.inr (.inl rfl)))⟩, fun q hq => old 6 q (by omega) (by omega) (by omega) (by omega) (by omega) (.inr (.inl hq)), fun q hq => old 5 q (by omega) (by omega) (by omega) (by omega) (by omega) (.inr (.inl hq))⟩
def zcU : Nat → Value
  | 0 => .int .i64 0
  | 1 => .int .i64 0
  | 2 => .int .i64 0
  | 3 => .int .i32 0
  | 4 => .int .i64 0
  | 5 => .slice none 0 0
  | 6 => .int .i64 0
  | 7 => .int .i64 0
  | 8 => .int .i64 0
  | 9 => .int .i32 0
  | 10 => .int .i64 0
  | 11 => .slice none 0 0
  | _ => .int .i64 0
/-- The registers and the cursors, as New lays them. -/
structure CuZ (w : World) (D : RD) : Prop where
  rg : ∀ j, j < 3 → w.cell? ⟨D.GR, j, none⟩ = some (.int .u32 0)
  rf : ∀ o, w.frozen? ⟨D.GR, o, none⟩ = false
  u : ∀ j, j < 12 → w.cell? ⟨D.GC, j, none⟩ = some (zcU j)
  cf : ∀ o, w.frozen? ⟨D.GC, o, none⟩ = false
theorem CuZ.keep {w w' : World} {D : RD} (h : CuZ w D) (e1 : w'.heap[D.GR]? = w.heap[D.GR]?) (e2 : w'.heap[D.GC]? = w.heap[D.GC]?) : CuZ w' D :=
  ⟨fun j hj => (World.cell?_of_block (a := ⟨D.GR, j, none⟩) e1).trans (h.rg j hj), fun o => (World.frozen?_of_block (a := ⟨D.GR, o, none⟩) e1).trans (h.rf o), fun j hj => (World.cell?_of_block (a := ⟨D.GC, j, none⟩) e2).trans (h.u j hj), fun o => (World.frozen?_of_block (a := ⟨D.GC, o, none⟩) e2).trans (h.cf o)⟩
theorem Rdy.cuz {w : World} {D : RD} {c : Nat → Value} {X : Nat → RS} (h : Rdy w D c X) : CuZ w D := ⟨h.rg, h.rf, fun j hj => by
  rcases (by omega : j = 0 ∨ j = 1 ∨ j = 2 ∨ j = 3 ∨ j = 4 ∨ j = 5 ∨ j = 6 ∨ j = 7 ∨ j = 8 ∨ j = 9 ∨ j = 10 ∨ j = 11) with e | e | e | e | e | e | e | e | e | e | e | e <;> subst e
  · exact h.u0
  · exact h.u1
  · exact h.u2
  · exact h.u3
  · exact h.u4
  · exact h.u5
  · exact h.u6
  · exact h.u7
  · exact h.u8
  · exact h.u9
  · exact h.u10
  · exact h.u11
  , h.cf⟩
def RD.x0 (c : Nat → Value) (X : Nat → RS) : RX := ⟨c, fun _ => 0, zcU, .slice none 0 0, 0, [], .slice none 0 0, 0, [], .slice none 0 0, 0, [], (X 2).s, (X 2).d, (X 2).N, (X 2).f⟩
theorem ES.runAt {w : World} {D : RD} {c : Nat → Value} {X : Nat → RS} (h : ES w D c X) (Z : CuZ w D) (c21 : c 21 = .slice (some ⟨D.GR, 0, none⟩) 3 3) (c22 : c 22 = .slice (some ⟨D.GC, 0, none⟩) 2 2) (c23 : c 23 = .slice none 0 0) (c14 : c 14 = .slice none 0 0) : RAt w (D.Q X w) (RD.x0 c X) := by
  refine ⟨h.e, c21, c22, c23, c14, fun j hj => Z.rg j hj, Z.rf, Z.u, Z.cf, rfl, own_nil _ _ _ _, own_nil _ _ _ _, own_nil _ _ _ _, h.re 2 (by omega), fun q hq => ⟨hq.1, rfl⟩, ?_, ⟨rfl, rfl, rfl⟩⟩
  have no : ∀ q, ¬ ((Value.slice none 0 0).ownBlock = some q) := fun q hq => by simp [Value.ownBlock] at hq
  intro a b q ha hb h1 h2
  have tr : ∀ k, k < 8 → k ≠ 7 → fpX (D.Q X w) (RD.x0 c X) k q → ∃ k', fpE D X k' q ∧ k' < 9 ∧ (k = 0 ∧ k' = 0 ∨ k = 1 ∧ k' = 1 ∨ k = 2 ∧ k' = 2 ∨ k = 6 ∧ k' = 7) := fun k hk h7 hq => by
    match k, hq with
    | 0, hq => exact ⟨0, hq, by omega, by omega⟩
    | 1, hq => exact ⟨1, hq, by omega, by omega⟩
    | 2, hq => exact ⟨2, hq, by omega, by omega⟩
    | 3, hq => exact absurd hq (no q)
    | 4, hq => exact absurd hq (no q)
    | 5, hq => exact absurd hq (no q)
    | 6, hq => exact ⟨7, hq, by omega, by omega⟩
    | k + 7, hq => omega
  have s7 : ∀ k, k < 8 → k ≠ 7 → fpX (D.Q X w) (RD.x0 c X) k q → ¬ (D.Q X w).S q := fun k hk h7 hq hS => by
    match k, hq with
    | 0, hq => exact hS.2.1 hq
    | 1, hq => exact hS.2.2.1 hq
    | 2, hq => exact hS.2.2.2.1 hq
    | 3, hq => exact absurd hq (no q)
    | 4, hq => exact absurd hq (no q)
    | 5, hq => exact absurd hq (no q)
    | 6, hq => exact hS.2.2.2.2 hq
    | k + 7, hq => omega
  by_cases a7 : a = 7
  · subst a7
    by_cases b7 : b = 7
    · exact b7.symm
    · exact absurd h1 (s7 b hb b7 h2)
  · by_cases b7 : b = 7
    · subst b7
      exact absurd h2 (s7 a ha a7 h1)
    · obtain ⟨a', f1, l1, t1⟩ := tr a ha a7 h1
      obtain ⟨b', f2, l2, t2⟩ := tr b hb b7 h2
      have := h.dj a' b' q l1 l2 f1 f2
      omega
/-- What the run leaves. -/
theorem ES.runOut {w w' : World} {D : RD} {c : Nat → Value} {X : Nat → RS} {y : RX} {lo : Nat} (h : ES w D c X) (Y : RAt w' (D.Q X w) y) (hl : ∀ k q, k < 9 → fpE D X k q → q < lo) (hlo : lo < w.heap.size) : ES w' D y.c (updX X 2 ⟨y.s, y.d, y.N, y.f⟩) ∧ Ws (fun q => q = D.E ∨ q = D.GR ∨ q = D.GC ∨ fpR (D.rb 2) (X 2).s q) w w' := by
  have old : ∀ k q, k < 9 → k ≠ 0 → k ≠ 1 → k ≠ 2 → k ≠ 7 → fpE D X k q → (D.Q X w).S q := fun k q hk h0 h1 h2 h7 hq => ⟨h.flt k q hk hq, fun e => h0 (h.dj k 0 q hk (by omega) hq e), fun e => h1 (h.dj k 1 q hk (by omega) hq e), fun e => h2 (h.dj k 2 q hk (by omega) hq e), fun e => h7 (h.dj k 7 q hk (by omega) hq e)⟩
  have top : (D.Q X w).S (w.heap.size - 1) := ⟨by omega, fun e => by have := hl 0 _ (by omega) e; omega, fun e => by have := hl 1 _ (by omega) e; omega, fun e => by have := hl 2 _ (by omega) e; omega, fun e => by have := hl 7 _ (by omega) e; omega⟩
  have hs : w.heap.size ≤ w'.heap.size := by have := (Y.st _ top).1; omega
  refine ⟨h.step hs Y.e (fun j hj => ?_) (Y.st _ (old 3 _ (by omega) (by omega) (by omega) (by omega) (by omega) rfl)).2 (fun q hq => (Y.st q (old 4 q (by omega) (by omega) (by omega) (by omega) (by omega) hq)).2) ?_, ⟨Y.io.1, Y.io.2.1, Y.io.2.2, hs, fun q h1 h2 => (Y.st q ⟨h1, fun e => h2 (.inl e), fun e => h2 (.inr (.inl e)), fun e => h2 (.inr (.inr (.inl e))), fun e => h2 (.inr (.inr (.inr e)))⟩).2⟩⟩
  · by_cases z : j = 2
    · subst z; rw [updX_same]; exact Y.re
    · rw [updX_other _ _ z]
      exact (h.re j hj).keep (fun q hq _ => (Y.st q (old (j + 5) q (by omega) (by omega) (by omega) (by omega) (by omega) hq)).2)
  · intro a b q ha hb h1 h2
    have key : ∀ k, k < 9 → k ≠ 7 → fpE D (updX X 2 ⟨y.s, y.d, y.N, y.f⟩) k q → fpE D X k q := fun k hk h7 hq => by
      match k, hq with
      | 0, hq => exact hq
      | 1, hq => exact hq
      | 2, hq => exact hq
      | 3, hq => exact hq
      | 4, hq => exact hq
      | j + 5, hq =>
        change fpR (D.rb j) (updX X 2 _ j).s q at hq
        rw [updX_other _ _ (by omega)] at hq
        exact hq
    have k7 : fpE D (updX X 2 ⟨y.s, y.d, y.N, y.f⟩) 7 q → fpX (D.Q X w) y 6 q := fun hq => by
      change fpR (D.rb 2) (updX X 2 _ 2).s q at hq
      rw [updX_same] at hq
      exact hq
    have cross : ∀ k, k < 9 → k ≠ 7 → fpE D X k q → fpX (D.Q X w) y 6 q → False := fun k hk h7 hq h6 => by
      by_cases z0 : k = 0
      · subst z0; have := Y.dj 0 6 q (by omega) (by omega) hq h6; omega
      · by_cases z1 : k = 1
        · subst z1; have := Y.dj 1 6 q (by omega) (by omega) hq h6; omega
        · by_cases z2 : k = 2
          · subst z2; have := Y.dj 2 6 q (by omega) (by omega) hq h6; omega
          · have := Y.dj 7 6 q (by omega) (by omega) (old k q hk z0 z1 z2 h7 hq) h6; omega
    by_cases a7 : a = 7
    · subst a7
      by_cases b7 : b = 7
      · exact b7.symm
      · exact (cross b hb b7 (key b hb b7 h2) (k7 h1)).elim
    · by_cases b7 : b = 7
      · subst b7
        exact (cross a ha a7 (key a ha a7 h1) (k7 h2)).elim
      · exact h.dj a b q ha hb (key a ha a7 h1) (key b hb b7 h2)
end Go.Proofs.Qxb6500880aGreat
