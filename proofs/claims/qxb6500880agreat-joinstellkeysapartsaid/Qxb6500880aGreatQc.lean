import Derived.Deep.CutBlock
import Derived.OwnWalk
import Derived.Maps.AppendAt
import Derived.Maps.OwnSet
import Derived.Maps.OwnOps
import Derived.Laws.ResultCell
import Derived.Laws.AppendOwnNone
import Derived.Test.Qxb6500880aGreatQb
set_option linter.unusedVariables false
set_option linter.unusedSimpArgs false
namespace Go.Proofs.Qxb6500880aGreat
open Go.RowKit

/-- The blocks of a plan. -/
structure PT where
  P : Nat
  gs : Nat
  cs : Nat
  ga0 : Nat
  ca0 : Nat
  ga1 : Nat
  ca1 : Nat
  gk : Nat
  ck : Nat
  IX : Nat
  gc : Nat
  cc : Nat
  gi : Nat
  ci : Nat
def PT.has (p : PT) (q : Nat) : Prop := q = p.P ∨ q = p.gs ∨ q = p.ga0 ∨ q = p.ga1 ∨ q = p.gk ∨ q = p.IX ∨ q = p.gc ∨ q = p.gi
def RD.cf (D : RD) (k : Nat) : Nat := if k = 0 then D.fs else D.sn
/-- A plan in memory. -/
structure PSt (w : World) (D : RD) (p : PT) : Prop where
  P0 : w.cell? ⟨p.P, 0, none⟩ = some (.pointer (some ⟨D.ρ.RB, 0, none⟩))
  P2 : w.cell? ⟨p.P, 2, none⟩ = some (.slice none 0 0)
  P3 : w.cell? ⟨p.P, 3, none⟩ = some (.slice (some ⟨p.gs, 0, none⟩) 2 p.cs)
  cs : 2 ≤ p.cs
  s0 : w.cell? ⟨p.gs, 0, none⟩ = some (.pointer (some ⟨D.ρ.gj, 0, none⟩))
  s1 : w.cell? ⟨p.gs, 1, none⟩ = some (.int .i64 0)
  s2 : w.cell? ⟨p.gs, 2, none⟩ = some (.int .u8 0)
  s3 : w.cell? ⟨p.gs, 3, none⟩ = some (.int .u8 0)
  s4 : w.cell? ⟨p.gs, 4, none⟩ = some (.pointer none)
  s5 : w.cell? ⟨p.gs, 5, none⟩ = some (.slice none 0 0)
  s6 : w.cell? ⟨p.gs, 6, none⟩ = some (.slice (some ⟨p.ga0, 0, none⟩) 2 p.ca0)
  s7 : w.cell? ⟨p.gs, 7, none⟩ = some (.slice none 0 0)
  s8 : w.cell? ⟨p.gs, 8, none⟩ = some (.pointer (some ⟨D.ρ.gj, 3, none⟩))
  s9 : w.cell? ⟨p.gs, 9, none⟩ = some (.int .i64 1)
  s10 : w.cell? ⟨p.gs, 10, none⟩ = some (.int .u8 0)
  s11 : w.cell? ⟨p.gs, 11, none⟩ = some (.int .u8 1)
  s12 : w.cell? ⟨p.gs, 12, none⟩ = some (.pointer (some ⟨p.IX, 0, none⟩))
  s13 : w.cell? ⟨p.gs, 13, none⟩ = some (.slice (some ⟨p.gk, 0, none⟩) 2 p.ck)
  s14 : w.cell? ⟨p.gs, 14, none⟩ = some (.slice (some ⟨p.ga1, 0, none⟩) 1 p.ca1)
  s15 : w.cell? ⟨p.gs, 15, none⟩ = some (.slice none 0 0)
  a0 : ∀ t, t < 2 → w.cell? ⟨p.ga0, t * 4, none⟩ = some (.int .i64 (t : Int)) ∧ w.cell? ⟨p.ga0, t * 4 + 1, none⟩ = some (.bool true) ∧ w.cell? ⟨p.ga0, t * 4 + 2, none⟩ = some (.int .i64 (D.cf t : Int)) ∧ w.cell? ⟨p.ga0, t * 4 + 3, none⟩ = some (.int .u32 0)
  a1 : ∀ t, t < 1 → w.cell? ⟨p.ga1, t * 4, none⟩ = some (.int .i64 (D.th : Int)) ∧ w.cell? ⟨p.ga1, t * 4 + 1, none⟩ = some (.bool true) ∧ w.cell? ⟨p.ga1, t * 4 + 2, none⟩ = some (.int .i64 (D.th : Int)) ∧ w.cell? ⟨p.ga1, t * 4 + 3, none⟩ = some (.int .u32 0)
  k : OpsAt w (.slice (some ⟨p.gk, 0, none⟩) 2 p.ck) 2 D.cf
  ix : IxC w p.IX p.gc p.cc 2 D.cf
  xi : w.cell? ⟨p.gi, 0, none⟩ = some (.pointer (some ⟨p.IX, 0, none⟩))
theorem PSt.lt {w : World} {D : RD} {p : PT} (h : PSt w D p) {q : Nat} (hq : p.has q) : q < w.heap.size := by
  rcases hq with e | e | e | e | e | e | e | e <;> subst e
  · exact World.block_lt_of_cell? _ _ h.P0
  · exact World.block_lt_of_cell? _ _ h.s0
  · exact World.block_lt_of_cell? _ _ (h.a0 0 (by omega)).1
  · exact World.block_lt_of_cell? _ _ (h.a1 0 (by omega)).1
  · obtain ⟨pp, c, e, _, z⟩ := h.k
    rcases z with z | ⟨g, e2, z⟩
    · omega
    · simp only [Value.slice.injEq] at e
      rw [e2, Option.some.injEq, Addr.mk.injEq] at e
      rw [e.1.1]
      exact World.block_lt_of_cell? _ _ (z 0 (by omega)).1
  · exact World.block_lt_of_cell? _ _ h.ix.c0
  · exact World.block_lt_of_cell? _ _ (h.ix.c 0 (by omega))
  · exact World.block_lt_of_cell? _ _ h.xi
theorem PSt.opk {w : World} {D : RD} {p : PT} (h : PSt w D p) : ∀ t, t < 2 → w.cell? ⟨p.gk, t * 2, none⟩ = some (.int .i64 (D.cf t : Int)) := by
  obtain ⟨pp, c, e, _, z⟩ := h.k
  rcases z with z | ⟨g, e2, z⟩
  · omega
  · simp only [Value.slice.injEq] at e
    rw [e2, Option.some.injEq, Addr.mk.injEq] at e
    intro t ht
    rw [e.1.1]
    exact (z t ht).1
/-- All blocks of a plan but the index itself are not the index. -/
theorem PSt.ne {w : World} {D : RD} {p : PT} (h : PSt w D p) : p.P ≠ p.IX ∧ p.gs ≠ p.IX ∧ p.ga0 ≠ p.IX ∧ p.ga1 ≠ p.IX ∧ p.gk ≠ p.IX ∧ p.gc ≠ p.IX ∧ p.gi ≠ p.IX := by
  have c0 := h.ix.c0
  refine ⟨fun e => ?_, fun e => ?_, fun e => ?_, fun e => ?_, fun e => ?_, fun e => ?_, fun e => ?_⟩
  · have := h.P0; rw [e, c0] at this; simp at this
  · have := h.s0; rw [e, c0] at this; simp at this
  · have := (h.a0 0 (by omega)).1; rw [e, show (0 : Nat) * 4 = 0 from rfl, c0] at this; simp at this
  · have := (h.a1 0 (by omega)).1; rw [e, show (0 : Nat) * 4 = 0 from rfl, c0] at this; simp at this
  · have := h.opk 0 (by omega); rw [e, show (0 : Nat) * 2 = 0 from rfl, c0] at this; simp at this
  · have := h.ix.c 0 (by omega); rw [e, c0] at this; simp at this
  · have := h.xi; rw [e, c0] at this; simp at this
/-- A plan stays if its blocks do; of the index only the columns are asked. -/
theorem PSt.keep {w w' : World} {D : RD} {p : PT} (h : PSt w D p) (hk : ∀ q, p.has q → q ≠ p.IX → w'.heap[q]? = w.heap[q]?) (hx : w'.cell? ⟨p.IX, 0, none⟩ = w.cell? ⟨p.IX, 0, none⟩) : PSt w' D p := by
  obtain ⟨n1, n2, n3, n4, n5, n6, n7⟩ := h.ne
  have e1 := hk p.P (.inl rfl) n1
  have e2 := hk p.gs (.inr (.inl rfl)) n2
  have e3 := hk p.ga0 (.inr (.inr (.inl rfl))) n3
  have e4 := hk p.ga1 (.inr (.inr (.inr (.inl rfl)))) n4
  have e5 := hk p.gk (.inr (.inr (.inr (.inr (.inl rfl))))) n5
  have e6 := hk p.gc (.inr (.inr (.inr (.inr (.inr (.inr (.inl rfl))))))) n6
  have e7 := hk p.gi (.inr (.inr (.inr (.inr (.inr (.inr (.inr rfl))))))) n7
  have m : ∀ {b o : Nat} {v : Value}, w'.heap[b]? = w.heap[b]? → w.cell? ⟨b, o, none⟩ = some v → w'.cell? ⟨b, o, none⟩ = some v := fun {b o v} hb e => (World.cell?_of_block (a := ⟨b, o, none⟩) hb).trans e
  exact ⟨m e1 h.P0, m e1 h.P2, m e1 h.P3, h.cs, m e2 h.s0, m e2 h.s1, m e2 h.s2, m e2 h.s3, m e2 h.s4, m e2 h.s5, m e2 h.s6, m e2 h.s7, m e2 h.s8, m e2 h.s9, m e2 h.s10, m e2 h.s11, m e2 h.s12, m e2 h.s13, m e2 h.s14, m e2 h.s15, fun t ht => ⟨m e3 (h.a0 t ht).1, m e3 (h.a0 t ht).2.1, m e3 (h.a0 t ht).2.2.1, m e3 (h.a0 t ht).2.2.2⟩, fun t ht => ⟨m e4 (h.a1 t ht).1, m e4 (h.a1 t ht).2.1, m e4 (h.a1 t ht).2.2.1, m e4 (h.a1 t ht).2.2.2⟩, h.k.keep (fun q hq _ => by
    have e : p.gk = q := Option.some.inj hq
    rw [← e]; exact e5), h.ix.keep hx e6, m e7 h.xi⟩
theorem PSt.below {w w' : World} {D : RD} {p : PT} (h : PSt w D p) (hb : Below w.heap.size w w') : PSt w' D p := h.keep (fun q hq _ => hb.block q (h.lt hq)) (World.cell?_of_block (a := ⟨p.IX, 0, none⟩) (hb.block _ (h.lt (.inr (.inr (.inr (.inr (.inr (.inl rfl)))))))))
theorem actL_two (f : Nat → Nat) : actL f 2 = [.int .i64 0, .bool true, .int .i64 (f 0 : Int), .int .u32 0, .int .i64 1, .bool true, .int .i64 (f 1 : Int), .int .u32 0] := rfl
/-- What 'plan' lays is such a plan. -/
theorem PlI.ps {w : World} {P : Nat} {D : RD} {c : Nat → Value} {X : Nat → RS} {x : JX} {sv : Value} {Y : SY} (h : PlI w P (D.J c X) x 2 sv Y) (hf : (D.ρ.u.F 0 0 = D.fs ∧ D.ρ.u.F 0 1 = D.sn) ∧ ∀ t, t < 3 → D.ρ.u.F 1 t = t) (ho : D.fs < 3 ∧ D.sn < 3 ∧ D.th < 3) : ∃ p : PT, p.P = P ∧ p.IX = x.IX ∧ p.gi = x.gi ∧ p.ci = x.ci ∧ PSt w D p ∧ IxN w p.IX ∧ ∀ q, p.has q → P ≤ q := by
  obtain ⟨gs, cs, rfl, hcs, hgs, hgl, hc, _⟩ := own_full h.own (by omega)
  obtain ⟨z1, z2, z3, z4⟩ := (h.ka 0 (by omega)).z rfl
  obtain ⟨o1, o2, o3, o4, o5, o6, o7, o8, o9⟩ := (h.ka 1 (by omega)).o rfl
  obtain ⟨ga0, ca0, e0, hca0, hg0, _, hc0, _⟩ := own_full z4 (by omega)
  obtain ⟨gk, ck, ek, hck, hgk, _, hck', hfk⟩ := own_full o7 (by omega)
  obtain ⟨ga1, ca1, e1, hca1, hg1, _, hc1, _⟩ := own_full o8 (by omega)
  have p0 := (h.pl 0 (by omega)).1
  have p1 := (h.pl 1 (by omega)).1
  have b1 := fun q hq => ((h.ka 1 (by omega)).b q hq).1
  have F1 := hf.2
  refine ⟨⟨P, gs, cs, ga0, ca0, ga1, ca1, gk, ck, x.IX, x.gc, x.cc, x.gi, x.ci⟩, rfl, rfl, rfl, rfl, ⟨h.c0, h.c2, h.c3, hcs, hc 0 (by omega), hc 1 (by omega), hc 2 (by omega), ?_, ?_, ?_, ?_, hc 7 (by omega), hc 8 (by omega), hc 9 (by omega), hc 10 (by omega), ?_, ?_, ?_, ?_, hc 15 (by omega), ?_, ?_, ?_, o4, o3⟩, o5, ?_⟩
  · refine (hc 3 (by omega)).trans ?_
    show some (Value.int .u8 (Y.h 0)) = _
    rw [z1]
  · refine (hc 4 (by omega)).trans ?_
    show some (Y.ix 0) = _
    rw [z2]
  · refine (hc 5 (by omega)).trans ?_
    show some (Y.ky 0) = _
    rw [z3]
  · refine (hc 6 (by omega)).trans ?_
    show some (Y.ac 0) = _
    rw [e0]
  · refine (hc 11 (by omega)).trans ?_
    show some (Value.int .u8 (Y.h 1)) = _
    rw [o1]
  · refine (hc 12 (by omega)).trans ?_
    show some (Y.ix 1) = _
    rw [o2]
  · refine (hc 13 (by omega)).trans ?_
    show some (Y.ky 1) = _
    rw [ek]
  · refine (hc 14 (by omega)).trans ?_
    show some (Y.ac 1) = _
    rw [e1]
  · intro t ht
    rcases (by omega : t = 0 ∨ t = 1) with e | e
    · subst e
      refine ⟨hc0 0 (by omega), hc0 1 (by omega), (hc0 2 (by omega)).trans ?_, hc0 3 (by omega)⟩
      show some (Value.int .i64 (D.ρ.u.F 0 0 : Int)) = some (Value.int .i64 (D.fs : Int))
      rw [hf.1.1]
    · subst e
      refine ⟨hc0 4 (by omega), hc0 5 (by omega), (hc0 6 (by omega)).trans ?_, hc0 7 (by omega)⟩
      show some (Value.int .i64 (D.ρ.u.F 0 1 : Int)) = some (Value.int .i64 (D.sn : Int))
      rw [hf.1.2]
  · intro t ht
    have e : t = 0 := by omega
    subst e
    refine ⟨hc1 0 (by omega), hc1 1 (by omega), (hc1 2 (by omega)).trans ?_, hc1 3 (by omega)⟩
    show some (Value.int .i64 (D.ρ.u.F 1 D.th : Int)) = _
    rw [F1 D.th ho.2.2]
  · refine ⟨_, ck, rfl, hck, .inr ⟨gk, rfl, fun t ht => ?_⟩⟩
    rcases (by omega : t = 0 ∨ t = 1) with e | e
    · subst e
      refine ⟨(hck' 0 (by omega)).trans ?_, hck' 1 (by omega), hfk⟩
      show some (Value.int .i64 (D.ρ.u.F 1 D.fs : Int)) = some (Value.int .i64 (D.fs : Int))
      rw [F1 D.fs ho.1]
    · subst e
      refine ⟨(hck' 2 (by omega)).trans ?_, hck' 3 (by omega), hfk⟩
      show some (Value.int .i64 (D.ρ.u.F 1 D.sn : Int)) = some (Value.int .i64 (D.sn : Int))
      rw [F1 D.sn ho.2.1]
  · intro q hq
    have q1 := b1 x.IX (.inr (.inr ⟨rfl, .inl rfl⟩))
    have q2 := b1 x.gc (.inr (.inr ⟨rfl, .inr (.inl rfl)⟩))
    have q3 := b1 x.gi (.inr (.inr ⟨rfl, .inr (.inr rfl)⟩))
    rcases hq with e | e | e | e | e | e | e | e <;> simp only at e <;> omega
end Go.Proofs.Qxb6500880aGreat
